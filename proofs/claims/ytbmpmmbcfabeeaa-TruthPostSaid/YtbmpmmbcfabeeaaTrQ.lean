/-
  Plain laws: Post's theorem.
-/
import Derived.Test.YtbmpmmbcfabeeaaTrJ
namespace Go.Proofs.Ytbmpmmbcfabeeaa
open Go Go.Pv
set_option linter.unusedVariables false
set_option linter.unusedSimpArgs false
set_option maxRecDepth 100000

/-- the place in a table that a row of arguments tells -/
def ixOf (a : Nat → Nat) (row : Nat) : Nat → Nat
  | 0 => 0
  | i + 1 => ixOf a row i + if (a i).testBit row = true then 2 ^ i else 0
theorem ix_lt (a : Nat → Nat) (row : Nat) : ∀ n, ixOf a row n < 2 ^ n
  | 0 => by simp [ixOf]
  | n + 1 => by
    have := ix_lt a row n
    rw [ixOf, Nat.pow_succ]
    split <;> omega
theorem add_bit {m i : Nat} (h : m < 2 ^ i) (j : Nat) : (m + 2 ^ i).testBit j = if j = i then true else m.testBit j := by
  rw [Nat.add_comm]
  by_cases e : j = i
  · subst e; rw [if_pos rfl, Nat.testBit_two_pow_add_eq, Nat.testBit_lt_two_pow h]; rfl
  · rw [if_neg e]
    rcases Nat.lt_or_gt_of_ne e with h1 | h1
    · exact Nat.testBit_two_pow_add_gt h1 m
    · rw [Nat.testBit_lt_two_pow (show 2 ^ i + m < 2 ^ j from ?_), Nat.testBit_lt_two_pow (show m < 2 ^ j from ?_)]
      · exact Nat.lt_trans h (Nat.pow_lt_pow_right (by decide) h1)
      · have : 2 ^ (i + 1) ≤ 2 ^ j := Nat.pow_le_pow_right (by decide) h1
        rw [Nat.pow_succ] at this; omega
theorem ix_bit (a : Nat → Nat) (row : Nat) : ∀ n j, (ixOf a row n).testBit j = (decide (j < n) && (a j).testBit row)
  | 0, j => by simp [ixOf]
  | n + 1, j => by
    have hb := ix_bit a row n j
    have hl := ix_lt a row n
    rw [ixOf]
    by_cases hr : (a n).testBit row = true
    · rw [if_pos hr, add_bit hl]
      by_cases e : j = n
      · subst e; rw [if_pos rfl, hr]; simp
      · rw [if_neg e, hb]
        by_cases h1 : j < n
        · simp [h1, show j < n + 1 by omega]
        · simp [h1, show ¬ j < n + 1 by omega]
    · rw [if_neg hr, Nat.add_zero, hb]
      by_cases e : j = n
      · subst e; simp [hr]
      · by_cases h1 : j < n
        · simp [h1, show j < n + 1 by omega]
        · simp [h1, show ¬ j < n + 1 by omega]
theorem bit_ext {n k m : Nat} (hk : k < 2 ^ n) (hm : m < 2 ^ n) (h : ∀ i, i < n → k.testBit i = m.testBit i) : k = m := by
  refine Nat.eq_of_testBit_eq fun i => ?_
  by_cases hi : i < n
  · exact h i hi
  · have hp : 2 ^ n ≤ 2 ^ i := Nat.pow_le_pow_right (by decide) (by omega)
    rw [Nat.testBit_lt_two_pow (Nat.lt_of_lt_of_le hk hp), Nat.testBit_lt_two_pow (Nat.lt_of_lt_of_le hm hp)]
def putB (B : List Bool) (n : Nat) (a : Nat → Nat) : Nat :=
  (if gB B (ixOf a 0 n) = true then 1 else 0) + (if gB B (ixOf a 1 n) = true then 2 else 0) + (if gB B (ixOf a 2 n) = true then 4 else 0) + (if gB B (ixOf a 3 n) = true then 8 else 0)
theorem four_bits (b0 b1 b2 b3 : Bool) : ∀ r, r < 4 → ((if b0 = true then 1 else 0) + (if b1 = true then 2 else 0) + (if b2 = true then 4 else 0) + (if b3 = true then 8 else 0) : Nat).testBit r = (if r = 0 then b0 else if r = 1 then b1 else if r = 2 then b2 else b3) := by
  cases b0 <;> cases b1 <;> cases b2 <;> cases b3 <;> decide
theorem put_bit (B : List Bool) (n : Nat) (a : Nat → Nat) {r : Nat} (hr : r < 4) : (putB B n a).testBit r = gB B (ixOf a r n) := by
  unfold putB
  rw [four_bits _ _ _ _ r hr]
  have : r = 0 ∨ r = 1 ∨ r = 2 ∨ r = 3 := by omega
  rcases this with rfl | rfl | rfl | rfl <;> rfl
theorem put_lt (B : List Bool) (n : Nat) (a : Nat → Nat) : putB B n a < 16 := by
  unfold putB
  (repeat' split) <;> omega
theorem eq16 {f g : Nat} (hf : f < 16) (hg : g < 16) (h : ∀ r, r < 4 → f.testBit r = g.testBit r) : f = g := bit_ext (n := 4) hf hg h
/-- closed under functions, and with the two values -/
structure Cl (l : List Tab) (S : Nat → Prop) : Prop where
  x : S 10
  y : S 12
  put : ∀ t ∈ l, ∀ a : Nat → Nat, (∀ i, i < t.n.toNat → S (a i) ∧ a i < 16) → S (putB t.bits t.n.toNat a)
def Reach (l : List Tab) (f : Nat) : Prop := ∀ S, Cl l S → S f
section
variable {B : List Bool} {n : Nat}
theorem clD_iff : cD B n (2 ^ n) = true ↔ ∀ k, k < 2 ^ n → gB B (2 ^ n - 1 - k) ≠ gB B k := by
  unfold cD; rw [List.all_eq_true]; simp
theorem clM_iff : cM B n (2 ^ n) = true ↔ ∀ k i, k < 2 ^ n → i < n → k.testBit i = false → gB B k = true → gB B (k ||| 2 ^ i) = true := by
  unfold cM cMi cM1
  simp only [List.all_eq_true, List.mem_range]
  constructor
  · intro h k i hk hi h1 h2
    have := h k hk i hi
    rw [h1, h2] at this; simpa using this
  · intro h k hk i hi
    have := h k i hk hi
    cases h1 : k.testBit i <;> cases h2 : gB B k <;> simp_all
theorem clL_iff : cL B n (2 ^ n) = true ↔ ∀ k, k < 2 ^ n → linS B k n = gB B k := by
  unfold cL; rw [List.all_eq_true]; simp
theorem or_bit (k i j : Nat) : (k ||| 2 ^ i).testBit j = (k.testBit j || decide (i = j)) := by rw [Nat.testBit_or, Nat.testBit_two_pow]
/-- what does not fall step by step does not fall -/
theorem mono_full (h : ∀ k i, k < 2 ^ n → i < n → k.testBit i = false → gB B k = true → gB B (k ||| 2 ^ i) = true) : ∀ (d : Nat) (k m : Nat), k < 2 ^ n → m < 2 ^ n → (∀ i, k.testBit i = true → m.testBit i = true) → (List.range n).countP (fun i => m.testBit i && !k.testBit i) = d → gB B k = true → gB B m = true := by
  intro d
  induction d with
  | zero =>
    intro k m hk hm hs hc hg
    have : k = m := bit_ext hk hm fun i hi => by
      rw [List.countP_eq_zero] at hc
      have := hc i (List.mem_range.2 hi)
      cases h1 : k.testBit i <;> cases h2 : m.testBit i <;> simp_all
    rw [← this]; exact hg
  | succ d ih =>
    intro k m hk hm hs hc hg
    obtain ⟨i, hi, hx⟩ : ∃ i ∈ List.range n, (m.testBit i && !k.testBit i) = true := by
      rw [← List.countP_pos_iff]; omega
    rw [List.mem_range] at hi
    simp only [Bool.and_eq_true, Bool.not_eq_true'] at hx
    refine ih (k ||| 2 ^ i) m (Nat.or_lt_two_pow hk (Nat.pow_lt_pow_right (by decide) hi)) hm (fun j hj => ?_) ?_ (h k i hk hi hx.2 hg)
    · rw [or_bit] at hj
      rcases Bool.or_eq_true _ _ ▸ hj with h1 | h1
      · exact hs j h1
      · simp at h1; subst h1; exact hx.1
    · have e : ∀ L : List Nat, L.Nodup → L.countP (fun j => m.testBit j && !(k ||| 2 ^ i).testBit j) + (if i ∈ L then 1 else 0) = L.countP (fun j => m.testBit j && !k.testBit j) := by
        intro L
        induction L with
        | nil => intro _; rfl
        | cons a r ihr =>
          intro hnd
          rw [List.nodup_cons] at hnd
          have ihr := ihr hnd.2
          rw [List.countP_cons, List.countP_cons, or_bit]
          by_cases ea : i = a
          · subst ea
            have : i ∉ r := hnd.1
            simp only [this, if_false, Nat.add_zero] at ihr
            rw [ihr]; simp [hx.1, hx.2]
          · simp only [ea, decide_false, Bool.or_false, List.mem_cons, false_or]
            rw [← ihr]; omega
      have := e (List.range n) List.nodup_range
      rw [if_pos (List.mem_range.2 hi)] at this
      omega
end
end Go.Proofs.Ytbmpmmbcfabeeaa
