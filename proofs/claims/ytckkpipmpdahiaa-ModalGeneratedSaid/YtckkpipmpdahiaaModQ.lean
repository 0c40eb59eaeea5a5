/-
  Plain laws: the worlds that are reached from one, the model that they make, and that a formula is true there where it was.
-/
import Derived.Test.YtckkpipmpdahiaaModG
namespace Go.Proofs.Ytckkpipmpdahiaa
open Go Go.Pv
set_option linter.unusedVariables false
set_option linter.unusedSimpArgs false

def add1 (L : List Nat) (v : Nat) : List Nat := if v ∈ L then L else L ++ [v]
def addAll (L l : List Nat) : List Nat := l.foldl add1 L
def bfs (S : Nat → List Nat) : Nat → Nat → List Nat → List Nat
  | 0, _, L => L
  | k + 1, i, L => match L[i]? with
    | none => L
    | some x => bfs S k (i + 1) (addAll L (S x))
/-- worlds, each once -/
def Few (n : Nat) (L : List Nat) : Prop := L.Nodup ∧ ∀ x ∈ L, x < n
theorem few_add1 {n : Nat} {L : List Nat} {v : Nat} (h : Few n L) (hv : v < n) : Few n (add1 L v) := by
  unfold add1; split
  · exact h
  · rename_i hn
    refine ⟨List.nodup_append.2 ⟨h.1, by simp, fun a ha b hb => ?_⟩, fun x hx => ?_⟩
    · simp only [List.mem_cons, List.not_mem_nil, or_false] at hb; subst hb; intro e; subst e; exact hn ha
    · rcases List.mem_append.1 hx with hx | hx
      · exact h.2 x hx
      · simp only [List.mem_cons, List.not_mem_nil, or_false] at hx; subst hx; exact hv
theorem pre_add1 (L : List Nat) (v : Nat) : L <+: add1 L v := by
  unfold add1; split
  · exact List.prefix_refl _
  · exact List.prefix_append _ _
theorem mem_add1 (L : List Nat) (v : Nat) : v ∈ add1 L v := by
  unfold add1; split
  · assumption
  · simp
theorem pre_addAll (l : List Nat) : ∀ L : List Nat, L <+: addAll L l := by
  induction l with
  | nil => intro L; exact List.prefix_refl _
  | cons v r ih => intro L; exact (pre_add1 L v).trans (ih _)
theorem few_addAll {n : Nat} (l : List Nat) : ∀ L : List Nat, Few n L → (∀ v ∈ l, v < n) → Few n (addAll L l) := by
  induction l with
  | nil => intro L h _; exact h
  | cons v r ih => intro L h g; exact ih _ (few_add1 h (g v (by simp))) fun x hx => g x (by simp [hx])
theorem mem_addAll (l : List Nat) : ∀ L : List Nat, ∀ v ∈ l, v ∈ addAll L l := by
  induction l with
  | nil => intro L v h; cases h
  | cons v r ih =>
    intro L x hx
    rcases List.mem_cons.1 hx with rfl | hx
    · exact (pre_addAll r _).subset (mem_add1 L x)
    · exact ih _ x hx
theorem addAll_snoc (L l : List Nat) (v : Nat) : addAll L (l ++ [v]) = add1 (addAll L l) v := by simp [addAll]
theorem few_len {n : Nat} : ∀ {L : List Nat}, Few n L → L.length ≤ n := by
  induction n with
  | zero =>
    intro L h
    cases L with
    | nil => exact Nat.le_refl _
    | cons a r => exact absurd (h.2 a (by simp)) (by omega)
  | succ n ih =>
    intro L h
    have h1 : Few n (L.erase n) := by
      refine ⟨h.1.erase n, fun x hx => ?_⟩
      have h2 := (h.1.mem_erase_iff).1 hx
      have := h.2 x h2.2
      omega
    have h3 := ih h1
    have h4 : L.length ≤ (L.erase n).length + 1 := by rw [List.length_erase]; split <;> omega
    omega

section
variable {S : Nat → List Nat} {n : Nat}
theorem bfs_few (hS : ∀ x, ∀ y ∈ S x, y < n) : ∀ (k i : Nat) (L : List Nat), Few n L → Few n (bfs S k i L) := by
  intro k
  induction k with
  | zero => intro i L h; exact h
  | succ k ih =>
    intro i L h
    rw [bfs]; split
    · exact h
    · exact ih _ _ (few_addAll _ _ h (hS _))
theorem bfs_pre : ∀ (k i : Nat) (L : List Nat), L <+: bfs S k i L := by
  intro k
  induction k with
  | zero => intro i L; exact List.prefix_refl _
  | succ k ih =>
    intro i L
    rw [bfs]; split
    · exact List.prefix_refl _
    · exact (pre_addAll _ _).trans (ih _ _)
theorem pre_get {L M : List Nat} (h : L <+: M) {i x : Nat} (hi : L[i]? = some x) : M[i]? = some x := by
  obtain ⟨t, rfl⟩ := h
  rw [List.getElem?_append_left (lt_of_getElem? hi)]; exact hi
theorem bfs_closed (hS : ∀ x, ∀ y ∈ S x, y < n) : ∀ (k i : Nat) (L : List Nat), Few n L → n + 1 ≤ i + k → (∀ j x, j < i → L[j]? = some x → ∀ y ∈ S x, y ∈ L) → ∀ x ∈ bfs S k i L, ∀ y ∈ S x, y ∈ bfs S k i L := by
  intro k
  induction k with
  | zero =>
    intro i L h hk g x hx y hy
    rw [bfs] at hx ⊢
    obtain ⟨j, hj⟩ := List.mem_iff_getElem?.1 hx
    have hl := few_len h
    exact g j x (by have := lt_of_getElem? hj; omega) hj y hy
  | succ k ih =>
    intro i L h hk g
    rw [bfs]
    split
    · rename_i hn
      intro x hx y hy
      obtain ⟨j, hj⟩ := List.mem_iff_getElem?.1 hx
      have hlt := lt_of_getElem? hj
      have hi := List.getElem?_eq_none_iff.1 hn
      exact g j x (by omega) hj y hy
    · rename_i z hz
      refine ih (i + 1) _ (few_addAll _ _ h (hS _)) (by omega) fun j x hj hx y hy => ?_
      have hp := pre_addAll (S z) L
      rcases Nat.lt_or_ge j i with h1 | h1
      · have hjl : j < L.length := by have := lt_of_getElem? hz; omega
        have h2 : L[j]? = some L[j] := List.getElem?_eq_getElem hjl
        have h3 := pre_get hp h2
        rw [hx] at h3
        cases h3
        exact hp.subset (g j _ h1 h2 y hy)
      · have hji : j = i := by omega
        subst hji
        have h3 := pre_get hp hz
        rw [hx] at h3
        cases h3
        exact mem_addAll _ _ y hy
end

/-- the worlds that are reached from w -/
def reach (m : Mdl) (w : Nat) : List Nat := bfs (seenRow m) (m.n.toNat + 1) 0 [w]
def atOf (L : List Nat) (u : Nat) : Int := if u ∈ L then (L.idxOf u : Int) else -1
def genM (m : Mdl) (L : List Nat) : Mdl := ⟨(L.length : Int), L.zipIdx.flatMap fun p => (seenRow m p.1).map fun y => ((p.2 : Int), atOf L y), L.map fun x => (m.tr[x]?).getD []⟩

theorem seenRow_lt {m : Mdl} {x y : Nat} (h : y ∈ seenRow m x) : y < m.n.toNat := by
  simp only [seenRow, List.mem_filter, List.mem_range] at h; exact h.1
theorem reach_few (m : Mdl) (w : Nat) (hw : w < m.n.toNat) : Few m.n.toNat (reach m w) := bfs_few (fun x y h => seenRow_lt h) _ _ _ ⟨by simp, fun x hx => by simp at hx; omega⟩
theorem reach_closed (m : Mdl) (w : Nat) (hw : w < m.n.toNat) : ∀ x ∈ reach m w, ∀ y ∈ seenRow m x, y ∈ reach m w :=
  bfs_closed (fun x y h => seenRow_lt h) _ _ _ ⟨by simp, fun x hx => by simp at hx; omega⟩ (by omega) (fun j x hj => by omega)
theorem reach_pos (m : Mdl) (w : Nat) : 0 < (reach m w).length := by
  have := (bfs_pre (S := seenRow m) (m.n.toNat + 1) 0 [w]).length_le
  simp only [List.length_cons, List.length_nil] at this
  unfold reach; omega

theorem atOf_mem {L : List Nat} {u : Nat} (h : u ∈ L) : atOf L u = (L.idxOf u : Int) ∧ L.idxOf u < L.length ∧ L[L.idxOf u]? = some u := by
  refine ⟨by simp [atOf, h], List.idxOf_lt_length_iff.2 h, ?_⟩
  rw [List.getElem?_eq_getElem (List.idxOf_lt_length_iff.2 h), List.getElem_idxOf]

theorem trFault_none_iff : ∀ (l : List (List ByteArray)) (i : Int), trFault l i = none ↔ ∀ x ∈ l, x.length ≤ 30 ∧ x.all isNameB = true := by
  intro l
  induction l with
  | nil => intro i; simp [trFault]
  | cons p r ih =>
    intro i
    rw [trFault]
    by_cases h1 : 30 < p.length
    · rw [if_pos h1]; simp only [reduceCtorEq, false_iff]; intro h; have := (h p (by simp)).1; omega
    · rw [if_neg h1]
      by_cases h2 : p.all isNameB = true
      · rw [if_pos h2, ih]
        constructor
        · intro h x hx
          rcases List.mem_cons.1 hx with rfl | hx
          · exact ⟨by omega, h2⟩
          · exact h x hx
        · intro h x hx; exact h x (by simp [hx])
      · rw [if_neg h2]; simp only [reduceCtorEq, false_iff]; intro h; exact h2 (h p (by simp)).2
theorem relFault_none_iff {n : Int} : ∀ (l : List (Int × Int)) (i : Int), relFault n l i = none ↔ ∀ p ∈ l, 0 ≤ p.1 ∧ p.1 < n ∧ 0 ≤ p.2 ∧ p.2 < n := by
  intro l
  induction l with
  | nil => intro i; simp [relFault]
  | cons p r ih =>
    intro i
    rw [relFault]
    by_cases h1 : min p.1 p.2 < 0 ∨ max p.1 p.2 ≥ n
    · rw [if_pos h1]; simp only [reduceCtorEq, false_iff]; intro h; have := h p (by simp); omega
    · rw [if_neg h1, ih]
      constructor
      · intro h x hx
        rcases List.mem_cons.1 hx with rfl | hx
        · omega
        · exact h x hx
      · intro h x hx; exact h x (by simp [hx])
theorem kripkeCheck_iff (m : Mdl) : (kripkeCheck m).1 = 0 ↔ 1 ≤ m.n ∧ m.n ≤ 40 ∧ m.rel.length ≤ 2000 ∧ (m.tr.length : Int) = m.n ∧ (∀ p ∈ m.rel, 0 ≤ p.1 ∧ p.1 < m.n ∧ 0 ≤ p.2 ∧ p.2 < m.n) ∧ ∀ x ∈ m.tr, x.length ≤ 30 ∧ x.all isNameB = true := by
  rw [← relFault_none_iff m.rel 0, ← trFault_none_iff m.tr 0]
  unfold kripkeCheck
  by_cases h1 : m.n < 1 ∨ m.n > 40 ∨ m.rel.length > 2000
  · rw [if_pos h1]; simp; intros; omega
  · rw [if_neg h1]
    by_cases h2 : (m.tr.length : Int) ≠ m.n
    · rw [if_pos h2]; simp; intros; omega
    · rw [if_neg h2]
      cases hr : relFault m.n m.rel 0 with
      | some x => have := relFault_pos _ _ _ hr; simp [Option.orElse]; intros; omega
      | none =>
        cases ht : trFault m.tr 0 with
        | some x => have := trFault_pos _ _ _ ht; simp [Option.orElse]; intros; omega
        | none => simp [Option.orElse]; omega

theorem genM_ok {m : Mdl} {w : Nat} (hm : (kripkeCheck m).1 = 0) (hw : w < m.n.toNat) : (kripkeCheck (genM m (reach m w))).1 = 0 := by
  obtain ⟨h1, h2, h3, h4, h5, h6⟩ := (kripkeCheck_iff m).1 hm
  have hf := reach_few m w hw
  have hl := few_len hf
  have hc := reach_closed m w hw
  have hp := reach_pos m w
  rw [kripkeCheck_iff]
  refine ⟨by simp only [genM]; omega, by simp only [genM]; omega, ?_, by simp [genM], ?_, ?_⟩
  · simp only [genM]
    have key : ∀ (l : List (Nat × Nat)), (l.flatMap fun p => (seenRow m p.1).map fun y => ((p.2 : Int), atOf (reach m w) y)).length ≤ l.length * 40 := by
      intro l
      induction l with
      | nil => simp
      | cons p r ih =>
        have : (seenRow m p.1).length ≤ 40 := by
          unfold seenRow
          exact Nat.le_trans (List.length_filter_le _ _) (by simp; omega)
        simp only [List.flatMap_cons, List.length_append, List.length_map, List.length_cons, Nat.add_mul]
        omega
    have := key (reach m w).zipIdx
    rw [List.length_zipIdx] at this
    omega
  · intro p hp'
    simp only [genM, List.mem_flatMap, List.mem_map] at hp'
    obtain ⟨q, hq, y, hy, rfl⟩ := hp'
    have hq' := List.mem_zipIdx hq
    have hqx : q.1 ∈ reach m w := by
      have := List.mem_zipIdx_iff_getElem?.1 hq
      exact List.mem_of_getElem? this
    have hyr := hc _ hqx y hy
    obtain ⟨ha, hb, _⟩ := atOf_mem hyr
    simp only [genM]
    rw [ha]
    omega
  · intro x hx
    simp only [genM, List.mem_map] at hx
    obtain ⟨u, hu, rfl⟩ := hx
    have hun := hf.2 u hu
    have : u < m.tr.length := by omega
    rw [List.getElem?_eq_getElem this]
    exact h6 _ (List.getElem_mem this)

theorem frameOf_at (m : Mdl) (i j : Nat) (hi : i < m.n.toNat) (hj : j < m.n.toNat) : tabAt (frameOf m) i j = sees m.rel i j := by
  simp [tabAt, frameOf, hi, hj]
theorem frameOf_len (m : Mdl) : (frameOf m).length = m.n.toNat := by simp [frameOf]
theorem mem_seenRow (m : Mdl) (x y : Nat) : y ∈ seenRow m x ↔ y < m.n.toNat ∧ sees m.rel x y = true := by simp [seenRow]

theorem gen_sees (m : Mdl) {L : List Nat} (hf : Few m.n.toNat L) {i v x y : Nat} (hi : L[i]? = some x) (hv : L[v]? = some y) : sees (genM m L).rel i v = sees m.rel x y := by
  rw [Bool.eq_iff_iff]
  simp only [sees, genM, List.any_eq_true, Bool.and_eq_true, beq_iff_eq]
  have hyn := hf.2 y (List.mem_of_getElem? hv)
  constructor
  · rintro ⟨p, hp, h1, h2⟩
    simp only [List.mem_flatMap, List.mem_map] at hp
    obtain ⟨q, hq, z, hz, rfl⟩ := hp
    simp only at h1 h2
    have hq' := List.mem_zipIdx_iff_getElem?.1 hq
    have hqi : q.2 = i := by omega
    rw [hqi, hi] at hq'
    cases hq'
    have hzL : z ∈ L := by
      unfold atOf at h2
      split at h2
      · assumption
      · omega
    obtain ⟨ha, hb, hc⟩ := atOf_mem hzL
    rw [ha] at h2
    have : L.idxOf z = v := by omega
    rw [this, hv] at hc
    cases hc
    have := (mem_seenRow m q.1 y).1 hz
    have h3 := this.2
    simp only [sees, List.any_eq_true, Bool.and_eq_true, beq_iff_eq] at h3
    exact h3
  · intro h
    have hys : y ∈ seenRow m x := (mem_seenRow m x y).2 ⟨hyn, by simp only [sees, List.any_eq_true, Bool.and_eq_true, beq_iff_eq]; exact h⟩
    refine ⟨((i : Int), atOf L y), ?_, rfl, ?_⟩
    · simp only [List.mem_flatMap, List.mem_map]
      exact ⟨(x, i), List.mem_zipIdx_iff_getElem?.2 hi, y, hys, rfl⟩
    · obtain ⟨ha, hb, hc⟩ := atOf_mem (List.mem_of_getElem? hv)
      rw [ha]
      have : L.idxOf y = v := (List.getElem?_inj hb hf.1).1 (hc.trans hv.symm)
      simp [this]

theorem ev_eq (n : Nat) (t : Nat → Nat → Bool) (hold : Nat → ByteArray → Bool) (f : Fm) (w : Nat) : ev n t hold f w =
    (let a := ((f.kids.map (ev n t hold))[0]?).getD fun _ => false
     let b := ((f.kids.map (ev n t hold))[1]?).getD fun _ => false
     if f.kind = 1 then hold w f.name else if f.kind = 2 then true else if f.kind = 4 then !a w else if f.kind = 5 then a w && b w else if f.kind = 6 then a w || b w else if f.kind = 7 then !a w || b w
     else if f.kind = 8 then (List.range n).all fun v => !t w v || a v else if f.kind = 9 then (List.range n).any fun v => t w v && a v else false) := by
  have key : ∀ l : List Fm, evs n t hold l = l.map (ev n t hold) := by
    intro l
    induction l with
    | nil => rw [evs]; rfl
    | cons f r ih => rw [evs, ih]; rfl
  cases f with | mk k nm l => rw [ev]; simp only [key, Fm.kind, Fm.name, Fm.kids]; rfl

/-- what is true at a world that is reached -/
theorem gen_ev (m : Mdl) {L : List Nat} (hf : Few m.n.toNat L) (hc : ∀ x ∈ L, ∀ y ∈ seenRow m x, y ∈ L) (f : Fm) : ∀ (i x : Nat), L[i]? = some x →
    ev L.length (tabAt (frameOf (genM m L))) (holdOf (genM m L)) f i = ev m.n.toNat (tabAt (frameOf m)) (holdOf m) f x := by
  have hN : (genM m L).n.toNat = L.length := by simp [genM]
  induction f using Fm.ind with
  | h f ih =>
    intro i x hi
    have hxn := hf.2 x (List.mem_of_getElem? hi)
    have hil := lt_of_getElem? hi
    have kid : ∀ (k j y : Nat), L[j]? = some y → (((f.kids.map (ev L.length (tabAt (frameOf (genM m L))) (holdOf (genM m L))))[k]?).getD fun _ => false) j = (((f.kids.map (ev m.n.toNat (tabAt (frameOf m)) (holdOf m)))[k]?).getD fun _ => false) y := by
      intro k j y hj
      rw [List.getElem?_map, List.getElem?_map]
      cases hk : f.kids[k]? with
      | none => rfl
      | some g => exact ih g (List.mem_of_getElem? hk) j y hj
    have hsee : ∀ v y, L[v]? = some y → tabAt (frameOf (genM m L)) i v = tabAt (frameOf m) x y := by
      intro v y hv
      rw [frameOf_at _ _ _ (by rw [hN]; exact hil) (by rw [hN]; exact lt_of_getElem? hv), frameOf_at _ _ _ hxn (hf.2 y (List.mem_of_getElem? hv)), gen_sees m hf hi hv]
    have hhold : holdOf (genM m L) i f.name = holdOf m x f.name := by
      unfold holdOf genM
      simp only [List.getElem?_map, hi, Option.map_some, Option.getD_some]
    rw [ev_eq, ev_eq m.n.toNat]
    simp only [kid _ i x hi, hhold]
    congr 1; congr 1; congr 1; congr 1; congr 1; congr 1
    have hbox : ((List.range L.length).all fun v => !tabAt (frameOf (genM m L)) i v || (((f.kids.map (ev L.length (tabAt (frameOf (genM m L))) (holdOf (genM m L))))[0]?).getD fun _ => false) v) =
        ((List.range m.n.toNat).all fun v => !tabAt (frameOf m) x v || (((f.kids.map (ev m.n.toNat (tabAt (frameOf m)) (holdOf m)))[0]?).getD fun _ => false) v) := by
      rw [Bool.eq_iff_iff]
      simp only [List.all_eq_true, List.mem_range, Bool.or_eq_true, Bool.not_eq_true']
      constructor
      · intro h y hy
        cases hs : tabAt (frameOf m) x y with
        | false => exact .inl rfl
        | true =>
          rw [frameOf_at _ _ _ hxn hy] at hs
          obtain ⟨v, hv⟩ := List.mem_iff_getElem?.1 (hc x (List.mem_of_getElem? hi) y ((mem_seenRow m x y).2 ⟨hy, hs⟩))
          rcases h v (lt_of_getElem? hv) with h1 | h1
          · rw [hsee v y hv, frameOf_at _ _ _ hxn hy, hs] at h1; cases h1
          · right; rw [← kid 0 v y hv]; exact h1
      · intro h v hv
        have hv' : L[v]? = some L[v] := List.getElem?_eq_getElem hv
        rcases h L[v] (hf.2 _ (List.getElem_mem hv)) with h1 | h1
        · left; rw [hsee v _ hv']; exact h1
        · right; rw [kid 0 v _ hv']; exact h1
    have hdia : ((List.range L.length).any fun v => tabAt (frameOf (genM m L)) i v && (((f.kids.map (ev L.length (tabAt (frameOf (genM m L))) (holdOf (genM m L))))[0]?).getD fun _ => false) v) =
        ((List.range m.n.toNat).any fun v => tabAt (frameOf m) x v && (((f.kids.map (ev m.n.toNat (tabAt (frameOf m)) (holdOf m)))[0]?).getD fun _ => false) v) := by
      rw [Bool.eq_iff_iff]
      simp only [List.any_eq_true, List.mem_range, Bool.and_eq_true]
      constructor
      · rintro ⟨v, hv, h1, h2⟩
        have hv' : L[v]? = some L[v] := List.getElem?_eq_getElem hv
        exact ⟨L[v], hf.2 _ (List.getElem_mem hv), by rw [← hsee v _ hv']; exact h1, by rw [← kid 0 v _ hv']; exact h2⟩
      · rintro ⟨y, hy, h1, h2⟩
        have hs := h1
        rw [frameOf_at _ _ _ hxn hy] at hs
        obtain ⟨v, hv⟩ := List.mem_iff_getElem?.1 (hc x (List.mem_of_getElem? hi) y ((mem_seenRow m x y).2 ⟨hy, hs⟩))
        exact ⟨v, lt_of_getElem? hv, by rw [hsee v y hv]; exact h1, by rw [kid 0 v y hv]; exact h2⟩
    rw [hbox, hdia]

end Go.Proofs.Ytckkpipmpdahiaa
