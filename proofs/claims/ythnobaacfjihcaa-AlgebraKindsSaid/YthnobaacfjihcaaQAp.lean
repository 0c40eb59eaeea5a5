/-
  Plain laws on orders told by pairs: what is reached; Warshall's rounds.
-/
import Derived.Test.YthnobaacfjihcaaPvQt
namespace Go.Proofs.Ythnobaacfjihcaa
open Go Go.Pv
set_option linter.unusedVariables false
set_option linter.unusedSimpArgs false

/-- by steps from pair to pair -/
inductive Rch (E : List (Int × Int)) : Nat → Nat → Prop where
  | refl (i : Nat) : Rch E i i
  | step {i j k : Nat} (h : Rch E i j) (g : ((j : Int), (k : Int)) ∈ E) : Rch E i k
theorem Rch.trans {E : List (Int × Int)} {i j k : Nat} (h : Rch E i j) (g : Rch E j k) : Rch E i k := by
  induction g with
  | refl => exact h
  | step _ e ih => exact .step ih e
noncomputable def leB (E : List (Int × Int)) (i j : Nat) : Bool := @decide (Rch E i j) (Classical.propDecidable _)
theorem leB_iff {E : List (Int × Int)} {i j : Nat} : leB E i j = true ↔ Rch E i j := by simp [leB]
/-- the rounds of Warshall -/
def wsh (E : List (Int × Int)) : Nat → Nat → Nat → Bool
  | 0, i, j => decide (i = j) || decide (((i : Int), (j : Int)) ∈ E)
  | k + 1, i, j => wsh E k i j || (wsh E k i k && wsh E k k j)
theorem wsh_col {E : List (Int × Int)} {k i : Nat} : wsh E (k + 1) i k = wsh E k i k := by
  rw [wsh]; cases wsh E k i k <;> simp
theorem wsh_row {E : List (Int × Int)} {k j : Nat} : wsh E (k + 1) k j = wsh E k k j := by
  rw [wsh]; cases wsh E k k j <;> simp
theorem wsh_mono {E : List (Int × Int)} {i j : Nat} : ∀ {k m : Nat}, k ≤ m → wsh E k i j = true → wsh E m i j = true
  | k, 0, h, g => by have : k = 0 := by omega
                     subst this; exact g
  | k, m + 1, h, g => by
    by_cases e : k = m + 1
    · subst e; exact g
    · rw [wsh, wsh_mono (show k ≤ m by omega) g]; rfl
theorem wsh_sound {E : List (Int × Int)} : ∀ (k : Nat) {i j : Nat}, wsh E k i j = true → Rch E i j
  | 0, i, j, h => by
    rw [wsh, Bool.or_eq_true, decide_eq_true_iff, decide_eq_true_iff] at h
    rcases h with rfl | h
    · exact .refl _
    · exact .step (.refl _) h
  | k + 1, i, j, h => by
    rw [wsh, Bool.or_eq_true, Bool.and_eq_true] at h
    rcases h with h | ⟨h1, h2⟩
    · exact wsh_sound k h
    · exact (wsh_sound k h1).trans (wsh_sound k h2)
theorem wsh_trans {E : List (Int × Int)} : ∀ (k m : Nat) {i j : Nat}, m < k → wsh E k i m = true → wsh E k m j = true → wsh E k i j = true
  | k + 1, m, i, j, hm, h1, h2 => by
    have P := fun {m i j : Nat} (h : m < k) => wsh_trans (E := E) k m (i := i) (j := j) h
    by_cases e : m = k
    · subst e
      rw [wsh_col] at h1
      rw [wsh_row] at h2
      rw [wsh, h1, h2]; simp
    · have hm : m < k := by omega
      rw [wsh, Bool.or_eq_true, Bool.and_eq_true] at h1 h2 ⊢
      rcases h1 with h1 | ⟨a1, a2⟩
      · rcases h2 with h2 | ⟨b1, b2⟩
        · exact .inl (P hm h1 h2)
        · exact .inr ⟨P hm h1 b1, b2⟩
      · rcases h2 with h2 | ⟨b1, b2⟩
        · exact .inr ⟨a1, P hm a2 h2⟩
        · exact .inr ⟨a1, b2⟩
theorem wsh_all {E : List (Int × Int)} {n : Nat} (hE : ∀ p ∈ E, 0 ≤ p.1 ∧ p.1 < n ∧ 0 ≤ p.2 ∧ p.2 < n) {i j : Nat} : wsh E n i j = leB E i j := by
  rw [Bool.eq_iff_iff, leB_iff]
  refine ⟨wsh_sound n, fun h => ?_⟩
  induction h with
  | refl => exact wsh_mono (Nat.zero_le _) (by simp [wsh])
  | step _ e ih =>
    have := hE _ e
    simp only at this
    exact wsh_trans n _ (by omega) ih (wsh_mono (Nat.zero_le _) (by simp [wsh, e]))
/-- one pair, looked at from x: what it leads to is marked, if it is not yet, and will be looked at -/
def bPut (x : Nat) (s : List Bool × List Nat) (p : Int × Int) : List Bool × List Nat := if p.1 = (x : Int) ∧ s.1[p.2.toNat]? = some false then (s.1.set p.2.toNat true, s.2 ++ [p.2.toNat]) else s
def cntF (l : List Bool) : Nat := l.countP fun b => !b
theorem cntF_set : ∀ {l : List Bool} {i : Nat}, l[i]? = some false → cntF (l.set i true) + 1 = cntF l
  | [], i, h => by simp at h
  | b :: r, 0, h => by simp at h; subst h; simp [cntF]
  | b :: r, i + 1, h => by
    have := cntF_set (l := r) (i := i) (by simpa using h)
    simp only [cntF, List.set_cons_succ, List.countP_cons] at this ⊢
    omega
structure BPut (x : Nat) (L : List (Int × Int)) (vis : List Bool) (todo : List Nat) (r : List Bool × List Nat) : Prop where
  len : r.1.length = vis.length
  keep : ∀ v : Nat, vis[v]? = some true → r.1[v]? = some true
  new : ∀ v : Nat, r.1[v]? = some true → vis[v]? = some true ∨ (((x : Int), (v : Int)) ∈ L ∧ v ∈ r.2)
  all : ∀ v : Nat, ((x : Int), (v : Int)) ∈ L → v < vis.length → r.1[v]? = some true
  more : ∃ t, r.2 = todo ++ t ∧ (∀ v ∈ t, r.1[v]? = some true) ∧ cntF r.1 + t.length = cntF vis
theorem bPut_all (x : Nat) : ∀ (L : List (Int × Int)) (vis : List Bool) (todo : List Nat), (∀ p ∈ L, 0 ≤ p.2) → BPut x L vis todo (L.foldl (bPut x) (vis, todo))
  | [], vis, todo, _ => ⟨rfl, fun v h => h, fun v h => .inl h, (fun v h => by cases h), ⟨[], by simp, (fun v h => by cases h), by simp⟩⟩
  | p :: L, vis, todo, hp => by
    have hp0 := hp p (by simp)
    have hpL : ∀ q ∈ L, 0 ≤ q.2 := fun q hq => hp q (by simp [hq])
    rw [List.foldl_cons]
    by_cases h : p.1 = (x : Int) ∧ vis[p.2.toNat]? = some false
    · have hb : bPut x (vis, todo) p = (vis.set p.2.toNat true, todo ++ [p.2.toNat]) := by unfold bPut; rw [if_pos h]
      rw [hb]
      have ih := bPut_all x L (vis.set p.2.toNat true) (todo ++ [p.2.toNat]) hpL
      have hlt : p.2.toNat < vis.length := (List.getElem?_eq_some_iff.1 h.2).1
      have hpp : p = ((x : Int), ((p.2.toNat : Nat) : Int)) := by
        obtain ⟨a, b⟩ := p
        simp only at *
        rw [h.1, Int.toNat_of_nonneg hp0]
      obtain ⟨t, ht, htt, hcc⟩ := ih.more
      have hme : (L.foldl (bPut x) (vis.set p.2.toNat true, todo ++ [p.2.toNat])).1[p.2.toNat]? = some true := ih.keep _ (by rw [List.getElem?_set, if_pos rfl, if_pos hlt])
      refine ⟨by rw [ih.len]; simp, fun v hv => ih.keep v ?_, fun v hv => ?_, fun v hv hvl => ?_, ⟨p.2.toNat :: t, by rw [ht]; simp, fun v hv => ?_, ?_⟩⟩
      · rw [List.getElem?_set]; split
        · rename_i e; subst e; first | rfl | rw [if_pos hlt]
        · exact hv
      · rcases ih.new v hv with h1 | ⟨h1, h2⟩
        · rw [List.getElem?_set] at h1
          split at h1
          · rename_i e
            subst e
            refine .inr ⟨?_, by rw [ht]; simp⟩
            rw [← hpp]; simp
          · exact .inl h1
        · exact .inr ⟨by simp [h1], h2⟩
      · rcases List.mem_cons.1 hv with e | hv
        · have : v = p.2.toNat := by rw [← e]; simp
          rw [this]; exact hme
        · exact ih.all v hv (by simpa using hvl)
      · rcases List.mem_cons.1 hv with rfl | hv
        · exact hme
        · exact htt v hv
      · have := cntF_set h.2
        simp only [List.length_cons]; omega
    · have hb : bPut x (vis, todo) p = (vis, todo) := by unfold bPut; rw [if_neg h]
      rw [hb]
      have ih := bPut_all x L vis todo hpL
      refine ⟨ih.len, ih.keep, fun v hv => ?_, fun v hv hvl => ?_, ih.more⟩
      · rcases ih.new v hv with h1 | ⟨h1, h2⟩
        · exact .inl h1
        · exact .inr ⟨by simp [h1], h2⟩
      · rcases List.mem_cons.1 hv with e | hv
        · have h1 : p.1 = (x : Int) := by rw [← e]
          have h2 : p.2.toNat = v := by rw [← e]; simp
          have h3 : ¬ vis[v]? = some false := fun g => h ⟨h1, by rw [h2]; exact g⟩
          refine ih.keep v ?_
          rw [List.getElem?_eq_getElem hvl] at h3 ⊢
          cases hb : vis[v] with
          | true => rfl
          | false => rw [hb] at h3; exact absurd rfl h3
        · exact ih.all v hv hvl
/-- what has been looked at, and what will be -/
structure BInv (E : List (Int × Int)) (n i : Nat) (vis : List Bool) (todo : List Nat) : Prop where
  len : vis.length = n
  self : vis[i]? = some true
  sound : ∀ v : Nat, vis[v]? = some true → Rch E i v
  mark : ∀ v ∈ todo, vis[v]? = some true
  done : ∀ v : Nat, vis[v]? = some true → v ∉ todo → ∀ w : Nat, ((v : Int), (w : Int)) ∈ E → vis[w]? = some true
theorem BInv.next {E : List (Int × Int)} {n i x : Nat} {vis : List Bool} {todo : List Nat} (hE : ∀ p ∈ E, 0 ≤ p.1 ∧ p.1 < n ∧ 0 ≤ p.2 ∧ p.2 < n) (I : BInv E n i vis (x :: todo)) :
    BInv E n i (E.foldl (bPut x) (vis, todo)).1 (E.foldl (bPut x) (vis, todo)).2 ∧ 2 * cntF (E.foldl (bPut x) (vis, todo)).1 + (E.foldl (bPut x) (vis, todo)).2.length < 2 * cntF vis + (x :: todo).length := by
  have B := bPut_all x E vis todo (fun p hp => (hE p hp).2.2.1)
  obtain ⟨t, ht, htt, hcc⟩ := B.more
  have hx := I.mark x (by simp)
  refine ⟨⟨by rw [B.len, I.len], B.keep _ I.self, fun v hv => ?_, fun v hv => ?_, fun v hv hn w hw => ?_⟩, ?_⟩
  · rcases B.new v hv with h | ⟨h, _⟩
    · exact I.sound v h
    · exact .step (I.sound x hx) h
  · rw [ht] at hv
    rcases List.mem_append.1 hv with h | h
    · exact B.keep v (I.mark v (by simp [h]))
    · exact htt v h
  · by_cases e : v = x
    · subst e
      refine B.all w hw ?_
      have := (hE _ hw).2.2.2
      simp only at this
      rw [I.len]; omega
    · rcases B.new v hv with h | ⟨_, h⟩
      · refine B.keep w (I.done v h ?_ w hw)
        rw [List.mem_cons, not_or]
        refine ⟨e, fun g => hn ?_⟩
        rw [ht]; simp [g]
      · exact absurd h hn
  · rw [ht]; simp only [List.length_append, List.length_cons]; omega
theorem BInv.end {E : List (Int × Int)} {n i : Nat} {vis : List Bool} (I : BInv E n i vis []) : vis = (List.range n).map (leB E i) := by
  have hr : ∀ v, Rch E i v → vis[v]? = some true := by
    intro v h
    induction h with
    | refl => exact I.self
    | step _ e ih => exact I.done _ ih (by simp) _ e
  apply List.ext_getElem (by simp [I.len])
  intro v h1 h2
  simp only [List.getElem_map, List.getElem_range]
  rw [Bool.eq_iff_iff, leB_iff]
  constructor
  · intro h; exact I.sound v (by rw [List.getElem?_eq_getElem h1, h])
  · intro h
    have := hr v h
    rw [List.getElem?_eq_getElem h1] at this
    exact Option.some.inj this
end Go.Proofs.Ythnobaacfjihcaa
