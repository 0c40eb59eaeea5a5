/-
  Lists of names, rising and each once: by sorting and compaction, and by insertion.
-/
import Derived.Test.YtnoklmapofogeaaPvSort
import Derived.Sort.Walk0
namespace Go.Pv
open Go Go.Lib
set_option linter.unusedVariables false

/-- rising, each once -/
def Ris (l : List ByteArray) : Prop := l.Pairwise fun a b => toL a < toL b
theorem toL_inj {a b : ByteArray} (h : toL a = toL b) : a = b := by rw [← ofL_toL a, ← ofL_toL b, h]
theorem lt_tri (a b : List UInt8) : a < b ∨ a = b ∨ b < a := by
  rcases List.le_total a b with h | h
  · by_cases e : a = b
    · exact .inr (.inl e)
    · exact .inl (Decidable.byContradiction fun hn => e (List.le_antisymm h (List.not_lt.1 hn)))
  · by_cases e : a = b
    · exact .inr (.inl e)
    · exact .inr (.inr (Decidable.byContradiction fun hn => e (List.le_antisymm (List.not_lt.1 hn) h)))
theorem lt_irr (a : List UInt8) : ¬ a < a := List.lt_irrefl a
theorem lt_tr {a b c : List UInt8} (h : a < b) (g : b < c) : a < c := List.lt_trans h g
/-- a rising list is told by what is on it -/
theorem ris_unique : ∀ {l l2 : List ByteArray}, Ris l → Ris l2 → (∀ x, x ∈ l ↔ x ∈ l2) → l = l2
  | [], [], _, _, _ => rfl
  | [], b :: r, _, _, h => by have := (h b).2 List.mem_cons_self; cases this
  | a :: r, [], _, _, h => by have := (h a).1 List.mem_cons_self; cases this
  | a :: r, b :: r2, h1, h2, h => by
    unfold Ris at h1 h2
    rw [List.pairwise_cons] at h1 h2
    have hab : a = b := by
      rcases List.mem_cons.1 ((h a).1 List.mem_cons_self) with e | e
      · exact e
      · rcases List.mem_cons.1 ((h b).2 List.mem_cons_self) with e2 | e2
        · exact e2.symm
        · exact absurd (lt_tr (h1.1 b e2) (h2.1 a e)) (lt_irr _)
    subst hab
    rw [ris_unique h1.2 h2.2 fun x => ?_]
    constructor
    · intro hx
      rcases List.mem_cons.1 ((h x).1 (List.mem_cons_of_mem _ hx)) with e | e
      · subst e; exact absurd (h1.1 x hx) (lt_irr _)
      · exact e
    · intro hx
      rcases List.mem_cons.1 ((h x).2 (List.mem_cons_of_mem _ hx)) with e | e
      · subst e; exact absurd (h2.1 x hx) (lt_irr _)
      · exact e
/-! compaction of a sorted list -/
theorem comp_upTo (zs : List (List UInt8)) (hs : zs.Pairwise fun a b => a ≤ b) : ∀ m, m ≤ zs.length → (∀ x, x ∈ compactUpTo zs.toArray m ↔ x ∈ zs.take m) ∧ (compactUpTo zs.toArray m).Pairwise fun a b => a < b := by
  intro m
  induction m with
  | zero => intro _; simp [compactUpTo]
  | succ m ih =>
    intro hm
    obtain ⟨h1, h2⟩ := ih (by omega)
    have hml : m < zs.length := by omega
    have hget : zs.toArray[m]! = zs[m] := by rw [getElem!_pos _ _ (by simpa using hml)]; simp
    rw [compactUpTo_succ, List.take_add_one, List.getElem?_eq_getElem hml]
    simp only [Option.toList]
    have hord : ∀ i j (hi : i < zs.length) (hj : j < zs.length), i < j → zs[i] ≤ zs[j] := fun i j hi hj hij => List.pairwise_iff_getElem.1 hs i j hi hj hij
    by_cases hk : keeps zs.toArray m = true
    · rw [if_pos hk, hget]
      refine ⟨fun x => by rw [List.mem_append, List.mem_append, h1], ?_⟩
      rw [List.pairwise_append]
      refine ⟨h2, List.pairwise_singleton _ _, fun a ha b hb => ?_⟩
      rw [List.mem_singleton] at hb
      subst hb
      rw [h1] at ha
      obtain ⟨i, hi, rfl⟩ := List.getElem_of_mem ha
      rw [List.length_take] at hi
      rw [List.getElem_take]
      have hle := hord i m (by omega) hml (by omega)
      rcases lt_tri zs[i] zs[m] with h | h | h
      · exact h
      · exfalso
        simp only [keeps, decide_eq_true_eq] at hk
        rcases hk with hk | hk
        · omega
        · rw [hget, getElem!_pos _ _ (by simp; omega)] at hk
          simp only [List.getElem_toArray] at hk
          apply hk
          have g1 := hord (m - 1) m (by omega) hml (by omega)
          by_cases e : i = m - 1
          · subst e; exact h.symm
          · have g2 := hord i (m - 1) (by omega) (by omega) (by omega)
            rw [h] at g2
            exact List.le_antisymm g2 g1
      · exact absurd h (List.not_lt.2 hle)
    · rw [if_neg hk, List.append_nil]
      refine ⟨fun x => ?_, h2⟩
      rw [h1, List.mem_append, List.mem_singleton]
      constructor
      · exact .inl
      · rintro (h | rfl)
        · exact h
        · simp only [keeps, decide_eq_true_eq, not_or, Decidable.not_not] at hk
          obtain ⟨h0, hk⟩ := hk
          rw [hget, getElem!_pos _ _ (by simp; omega)] at hk
          simp only [List.getElem_toArray] at hk
          rw [hk]
          rw [List.mem_take_iff_getElem]
          exact ⟨m - 1, by omega, rfl⟩
theorem comp_ok (l : List ByteArray) : Ris (compL (sortL l)) ∧ ∀ x, x ∈ compL (sortL l) ↔ x ∈ l := by
  have hs : ((sortL l).map toL).Pairwise fun a b => a ≤ b := by
    rw [sortL_toL]
    have := List.pairwise_mergeSort (le := fun x y : List UInt8 => decide (x ≤ y)) (fun a b c h1 h2 => by simpa using List.le_trans (by simpa using h1) (by simpa using h2)) (fun a b => by simpa using List.le_total a b) (l.map toL)
    simpa using this
  obtain ⟨h1, h2⟩ := comp_upTo _ hs ((sortL l).map toL).length (Nat.le_refl _)
  constructor
  · unfold Ris compL
    rw [List.pairwise_map]
    refine h2.imp fun h => ?_
    rw [toL_ofL, toL_ofL]; exact h
  · intro x
    unfold compL
    rw [List.mem_map]
    constructor
    · rintro ⟨y, hy, rfl⟩
      have := (h1 y).1 hy
      rw [List.take_length, sortL_toL, List.mem_mergeSort, List.mem_map] at this
      obtain ⟨b, hb, rfl⟩ := this
      rw [ofL_toL]; exact hb
    · intro hx
      refine ⟨toL x, (h1 _).2 ?_, ofL_toL x⟩
      rw [List.take_length, sortL_toL, List.mem_mergeSort]
      exact List.mem_map.2 ⟨x, hx, rfl⟩
/-! by insertion -/
def insAt (l : List ByteArray) (x : ByteArray) : Nat := (l.takeWhile fun y => decide (toL y < toL x)).length
def inB (x : ByteArray) (l : List ByteArray) : Bool := l.any fun y => decide (x = y)
theorem inB_iff {x : ByteArray} {l : List ByteArray} : inB x l = true ↔ x ∈ l := by simp [inB]
def insR (l : List ByteArray) (x : ByteArray) : List ByteArray := if inB x l = true then l else l.take (insAt l x) ++ x :: l.drop (insAt l x)
theorem insR_mem {l : List ByteArray} {x y : ByteArray} : y ∈ insR l x ↔ y ∈ l ∨ y = x := by
  unfold insR
  split
  · rename_i h
    rw [inB_iff] at h
    exact ⟨.inl, fun g => g.elim id fun e => e ▸ h⟩
  · have : y ∈ l.take (insAt l x) ++ l.drop (insAt l x) ↔ y ∈ l := by rw [List.take_append_drop]
    rw [List.mem_append] at this ⊢
    rw [List.mem_cons, ← this]
    constructor
    · rintro (h | h | h)
      · exact .inl (.inl h)
      · exact .inr h
      · exact .inl (.inr h)
    · rintro ((h | h) | h)
      · exact .inl h
      · exact .inr (.inr h)
      · exact .inr (.inl h)
theorem ins_split : ∀ (l : List ByteArray) (x : ByteArray), Ris l → x ∉ l → Ris (l.take (insAt l x) ++ x :: l.drop (insAt l x))
  | [], x, _, _ => by simp [insAt, Ris]
  | a :: r, x, h, hx => by
    unfold Ris at h
    rw [List.pairwise_cons] at h
    rw [List.mem_cons, not_or] at hx
    unfold insAt
    rw [List.takeWhile_cons]
    by_cases ha : toL a < toL x
    · rw [if_pos (by simpa using ha), List.length_cons, List.take_succ_cons, List.drop_succ_cons, List.cons_append]
      have ih := ins_split r x h.2 hx.2
      unfold Ris at ih ⊢
      unfold insAt at ih
      rw [List.pairwise_cons]
      refine ⟨fun y hy => ?_, ih⟩
      have hy2 : y ∈ insR r x := by unfold insR insAt; rw [if_neg (fun h => hx.2 (inB_iff.1 h))]; exact hy
      rcases insR_mem.1 hy2 with g | g
      · exact h.1 y g
      · subst g; exact ha
    · rw [if_neg (by simpa using ha), List.length_nil, List.take_zero, List.drop_zero, List.nil_append]
      unfold Ris
      have hxa : toL x < toL a := by
        rcases lt_tri (toL a) (toL x) with g | g | g
        · exact absurd g ha
        · exact absurd (toL_inj g).symm hx.1
        · exact g
      rw [List.pairwise_cons, List.pairwise_cons]
      refine ⟨fun y hy => ?_, h.1, h.2⟩
      rcases List.mem_cons.1 hy with g | g
      · subst g; exact hxa
      · exact lt_tr hxa (h.1 y g)
theorem insR_ris {l : List ByteArray} {x : ByteArray} (h : Ris l) : Ris (insR l x) := by
  unfold insR
  split
  · exact h
  · rename_i hx; exact ins_split l x h fun g => hx (inB_iff.2 g)
theorem ins_all : ∀ (ns l : List ByteArray), Ris l → Ris (ns.foldl insR l) ∧ ∀ x, x ∈ ns.foldl insR l ↔ x ∈ l ∨ x ∈ ns
  | [], l, h => ⟨h, fun x => by simp⟩
  | n :: ns, l, h => by
    obtain ⟨h1, h2⟩ := ins_all ns (insR l n) (insR_ris h)
    refine ⟨h1, fun x => ?_⟩
    rw [List.foldl_cons, h2, insR_mem, List.mem_cons]
    constructor
    · rintro ((g | g) | g)
      · exact .inl g
      · exact .inr (.inl g)
      · exact .inr (.inr g)
    · rintro (g | g | g)
      · exact .inl (.inl g)
      · exact .inl (.inr g)
      · exact .inr g
theorem insAt_le (l : List ByteArray) (x : ByteArray) : insAt l x ≤ l.length := (List.takeWhile_sublist _).length_le
theorem insAt_lt : ∀ (l : List ByteArray) (x : ByteArray) (i : Nat), i < insAt l x → ∃ h : i < l.length, toL l[i] < toL x
  | [], x, i, h => by simp [insAt] at h
  | a :: r, x, i, h => by
    unfold insAt at h
    rw [List.takeWhile_cons] at h
    split at h
    · rename_i ha
      cases i with
      | zero => exact ⟨by simp, by simpa using ha⟩
      | succ i =>
        rw [List.length_cons] at h
        obtain ⟨h1, h2⟩ := insAt_lt r x i (by unfold insAt; omega)
        exact ⟨by simpa using h1, by simpa using h2⟩
    · simp at h
theorem insAt_at : ∀ (l : List ByteArray) (x : ByteArray) (h : insAt l x < l.length), ¬ toL l[insAt l x] < toL x
  | [], x, h => by simp at h
  | a :: r, x, h => by
    by_cases ha : toL a < toL x
    · have e : insAt (a :: r) x = insAt r x + 1 := by unfold insAt; rw [List.takeWhile_cons, if_pos (by simpa using ha)]; rfl
      simp only [e, List.getElem_cons_succ]
      exact insAt_at r x (by rw [e] at h; simpa using h)
    · have e : insAt (a :: r) x = 0 := by unfold insAt; rw [List.takeWhile_cons, if_neg (by simpa using ha)]; rfl
      simp only [e, List.getElem_cons_zero]
      exact ha
theorem insR_len (l : List ByteArray) (x : ByteArray) : (insR l x).length ≤ l.length + 1 := by
  unfold insR; split
  · omega
  · simp; omega
theorem ins_len : ∀ (ns l : List ByteArray), (ns.foldl insR l).length ≤ l.length + ns.length
  | [], l => by simp
  | n :: ns, l => by
    have h1 := ins_len ns (insR l n)
    have h2 := insR_len l n
    rw [List.foldl_cons, List.length_cons]; omega
/-- both roads lead to the same -/
theorem comp_ins (ns : List ByteArray) : compL (sortL ns) = ns.foldl insR [] := by
  obtain ⟨h1, h2⟩ := comp_ok ns
  obtain ⟨h3, h4⟩ := ins_all ns [] (by simp [Ris])
  exact ris_unique h1 h3 fun x => by rw [h2, h4]; simp
end Go.Pv
