/-
  Orders and lattices in plain Lean: the pairs from which the program makes the orders of sets and of joins.
-/
import Derived.Test.YthnobaacfjihcaaAlgQ
import Derived.Test.YthnobaacfjihcaaQAs
import Derived.Test.YthnobaacfjihcaaQAj
namespace Go.Proofs.Ythnobaacfjihcaa
open Go Go.Pv
set_option linter.unusedVariables false
set_option linter.unusedSimpArgs false

theorem isDown_cg {n : Nat} {g g' : Nat → Nat → Bool} (h : ∀ i j, i < n → j < n → g i j = g' i j) (k : Nat) : isDown n g k = isDown n g' k := by
  unfold isDown
  refine all_cg fun i hi => ?_
  rw [all_cg fun j hj => by rw [h j i hj hi]]
theorem outs_cg {n K : Nat} {g g' : Nat → Nat → Bool} (h : ∀ i j, i < n → j < n → g i j = g' i j) : outs n g K = outs n g' K := by
  unfold outs
  rw [show isDown n g = isDown n g' from funext fun k => isDown_cg h k]
theorem below_cg {n x : Nat} {t t' : Nat → Nat → Bool} (H : ∀ i j, i < n → j < n → t i j = t' i j) (hx : x < n) : belowL n t x = belowL n t' x := by
  have h0 : 0 < n := by omega
  have hb : ∀ b y, b < n → y < n → belowS n t x b y = belowS n t' x b y := fun b y hb hy => by unfold belowS; rw [H y x hy hx, jn_cg H hb hy]
  have hl : ∀ b y, b < n → y < n → belowS n t x b y < n := fun b y hb hy => by
    unfold belowS; split
    · exact jn_in h0
    · exact hb
  have hbot : ∀ t, botL n t < n := fun t => by
    unfold botL
    suffices h : ∀ (l : List Nat) a, a < n → l.foldl (mt n t) a < n from h _ 0 h0
    intro l
    induction l with
    | nil => intro a ha; exact ha
    | cons b r ih => intro a ha; exact ih _ (mt_in h0)
  unfold belowL
  rw [← bot_cg H h0]
  exact fold_cg hb hl _ (fun y hy => List.mem_range.1 hy) _ (hbot t)
theorem joins_cg {n : Nat} {t t' : Nat → Nat → Bool} (H : ∀ i j, i < n → j < n → t i j = t' i j) : joinsL n t n = joinsL n t' n := by
  unfold joinsL
  exact List.filter_congr fun x hx => by rw [below_cg H (List.mem_range.1 hx)]
/-- pairs of all of a list of numbers that are told by an order -/
theorem leB_pairs {E : List (Int × Int)} {m : Nat} {r : Nat → Nat → Bool} (hr : ∀ i, i < m → r i i = true) (ht : ∀ i j k, i < m → j < m → k < m → r i j = true → r j k = true → r i k = true)
    (hE : ∀ x y, (x, y) ∈ E ↔ ∃ a b : Nat, a < m ∧ b < m ∧ a ≠ b ∧ r a b = true ∧ x = (a : Int) ∧ y = (b : Int)) {i j : Nat} (hi : i < m) (hj : j < m) : leB E i j = r i j := by
  rw [Bool.eq_iff_iff, leB_iff]
  constructor
  · intro h
    have key : ∀ j, Rch E i j → j < m ∧ r i j = true := by
      intro j h
      induction h with
      | refl => exact ⟨hi, hr i hi⟩
      | @step j k h g ih =>
        obtain ⟨a, b, ha, hb, _, g1, h1, h2⟩ := (hE _ _).1 g
        have h1 : j = a := by omega
        have h2 : k = b := by omega
        subst h1 h2
        exact ⟨hb, ht i _ _ hi ha hb ih.2 g1⟩
    exact (key j h).2
  · intro h
    by_cases e : i = j
    · subst e; exact .refl _
    · exact .step (.refl _) ((hE _ _).2 ⟨i, j, hi, hj, e, h, rfl, rfl⟩)
/-! the order of sets -/
theorem subL_iff {a b : List Nat} : subL a b = true ↔ ∀ x ∈ a, x ∈ b := by simp [subL]
theorem outs_getD {n i : Nat} {g : Nat → Nat → Bool} (hi : i < (FL n g).length) : (outs n g (2 ^ n)).getD i [] = bitsL n ((FL n g).getD i 0) := by
  have hi2 : i < ((List.range (2 ^ n)).filter (isDown n g)).length := hi
  simp only [outs, FL, List.getD_eq_getElem?_getD, List.getElem?_map, List.getElem?_eq_getElem hi2, Option.map_some, Option.getD_some]
theorem outs_len {n : Nat} {g : Nat → Nat → Bool} : (outs n g (2 ^ n)).length = (FL n g).length := by simp [outs, FL]
theorem bitsL_mem {n k b : Nat} : b ∈ bitsL n k ↔ b < n ∧ k.testBit b = true := by simp [bitsL]
theorem sub_inc {n i j : Nat} {g : Nat → Nat → Bool} (hi : i < (FL n g).length) (hj : j < (FL n g).length) : subL ((outs n g (2 ^ n)).getD i []) ((outs n g (2 ^ n)).getD j []) = incT (FL n g) n i j := by
  rw [outs_getD hi, outs_getD hj, Bool.eq_iff_iff, subL_iff, inc_iff]
  simp only [bitsL_mem]
  exact ⟨fun h b hb h1 => (h b ⟨hb, h1⟩).2, fun h x hx => ⟨hx.1, h x hx.1 hx.2⟩⟩
theorem leB_sets {n i j : Nat} {g : Nat → Nat → Bool} (hi : i < (FL n g).length) (hj : j < (FL n g).length) : leB (osP (outs n g (2 ^ n))) i j = incT (FL n g) n i j := by
  have P := inc_po (n := n) (g := g)
  refine leB_pairs P.refl P.trans (fun x y => ?_) hi hj
  rw [osP_mem, outs_len]
  constructor
  · rintro ⟨a, b, ha, hb, h1, h2, h3⟩; exact ⟨a, b, ha, hb, h1, by rw [← sub_inc ha hb]; exact h2, h3⟩
  · rintro ⟨a, b, ha, hb, h1, h2, h3⟩; exact ⟨a, b, ha, hb, h1, by rw [sub_inc ha hb]; exact h2, h3⟩
/-- the sets of all that is at most a thing -/
theorem bits_pr {n a : Nat} {g : Nat → Nat → Bool} (G : PO n g) : bitsL n (prC n g a) = (List.range n).filter fun b => g b a := by
  unfold bitsL
  exact List.filter_congr fun b hb => prC_bit G (List.mem_range.1 hb)
/-! the order of joins -/
section
variable (l : List Nat) (t : Nat → Nat → Bool)
def jqB (a b : Nat) : List (Int × Int) := if a ≠ b ∧ jOrd l t a b = true then [((a : Int), (b : Int))] else []
def jqA (a : Nat) : List (Int × Int) := (List.range l.length).flatMap (jqB l t a)
def jqP : List (Int × Int) := (List.range l.length).flatMap (jqA l t)
end
section
variable {l : List Nat} {t : Nat → Nat → Bool}
theorem jqB_len {a b : Nat} : (jqB l t a b).length ≤ 1 := by unfold jqB; split <;> simp
theorem jqA_len {a : Nat} : (jqA l t a).length ≤ l.length := by have := fm_len' (f := jqB l t a) (fun i => jqB_len) l.length; rwa [Nat.mul_one] at this
theorem jqP_len : (jqP l t).length ≤ l.length * l.length := fm_len' (fun i => jqA_len) l.length
theorem jqP_mem {x y : Int} : (x, y) ∈ jqP l t ↔ ∃ a b, a < l.length ∧ b < l.length ∧ a ≠ b ∧ jOrd l t a b = true ∧ x = (a : Int) ∧ y = (b : Int) := by
  simp only [jqP, jqA, List.mem_flatMap, List.mem_range]
  constructor
  · rintro ⟨a, ha, b, hb, h⟩
    unfold jqB at h
    split at h
    · rename_i g
      simp only [List.mem_singleton, Prod.mk.injEq] at h
      exact ⟨a, b, ha, hb, g.1, g.2, h.1, h.2⟩
    · cases h
  · rintro ⟨a, b, ha, hb, g1, g2, rfl, rfl⟩
    refine ⟨a, ha, b, hb, ?_⟩
    unfold jqB
    rw [if_pos ⟨g1, g2⟩]
    exact List.mem_singleton_self _
theorem leB_joins (P : PO l.length (jOrd l t)) {i j : Nat} (hi : i < l.length) (hj : j < l.length) : leB (jqP l t) i j = jOrd l t i j :=
  leB_pairs P.refl P.trans (fun x y => jqP_mem) hi hj
/-- the joins that are at most a thing -/
def setL (l : List Nat) (t : Nat → Nat → Bool) (k x : Nat) : List Nat := (List.range k).filter fun i => t (l.getD i 0) x
theorem setL_code {x : Nat} : setL l t l.length x = bitsL l.length (jCode l t x) := by
  unfold setL bitsL jCode
  refine List.filter_congr fun i hi => ?_
  rw [(code_bit _ _).2]
  simp [List.mem_range.1 hi]
end
section
variable {n : Nat} {t : Nat → Nat → Bool} (h : La n t) (hn : 0 < n)
include h hn
theorem La.set_in {x : Nat} (hx : x < n) : setL (joinsL n t n) t (joinsL n t n).length x ∈ outs (joinsL n t n).length (jOrd (joinsL n t n) t) (2 ^ (joinsL n t n).length) := by
  rw [setL_code]
  exact List.mem_map.2 ⟨_, List.mem_filter.2 ⟨List.mem_range.2 (code_bit _ _).1, h.code_down hn hx⟩, rfl⟩
theorem La.set_sub {x y : Nat} (hx : x < n) (hy : y < n) : t x y = subL (setL (joinsL n t n) t (joinsL n t n).length x) (setL (joinsL n t n) t (joinsL n t n).length y) := by
  rw [Bool.eq_iff_iff, subL_iff, h.le_iff hn hx hy]
  simp only [setL, List.mem_filter, List.mem_range]
  constructor
  · intro hall i hi
    have hm := joins_mem.1 (getD_mem hi.1)
    exact ⟨hi.1, hall _ hm.1 hm.2 hi.2⟩
  · intro hall j hj hjj hjx
    obtain ⟨i, hi, e⟩ := mem_getD (joins_mem.2 ⟨hj, hjj⟩)
    have := hall i ⟨hi, by rw [e]; exact hjx⟩
    rw [e] at this
    exact this.2
end
end Go.Proofs.Ythnobaacfjihcaa
