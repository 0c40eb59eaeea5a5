/-
  Plain laws of calculus: the document's premises are those of the rules.
-/
import Derived.Test.YtnoklmapofogeaaVCcT
namespace Go.Proofs.Ytnoklmapofogeaa
open Go Go.Pv
set_option linter.unusedVariables false
set_option linter.unusedSimpArgs false
set_option maxRecDepth 100000

theorem withinF_count : ∀ {a b : List Fm}, withinF a b = true ↔ ∀ x, a.count x ≤ b.count x := by
  intro a
  induction a with
  | nil => intro b; simp [withinF]
  | cons f a ih =>
    intro b
    rw [withinF, Bool.and_eq_true, hasF_iff, ih]
    constructor
    · rintro ⟨hf, h⟩ x
      have := h x
      have h1 := List.count_pos_iff.2 hf
      rw [List.count_erase] at this
      rw [List.count_cons]
      by_cases e : f = x
      · subst e; simp at this ⊢; omega
      · have e1 : (f == x) = false := by simpa using e
        simp [e1] at this ⊢; omega
    · intro h
      have hf := h f
      rw [List.count_cons_self] at hf
      refine ⟨List.count_pos_iff.1 (by omega), fun x => ?_⟩
      have := h x
      rw [List.count_cons] at this
      rw [List.count_erase]
      by_cases e : f = x
      · subst e; simp at this ⊢; omega
      · have e1 : (f == x) = false := by simpa using e
        simp [e1] at this ⊢; omega
noncomputable def noMoreB (a b : List Fm) : Bool := a.all fun x => decide (a.count x ≤ b.count x)
theorem noMoreB_eq (a b : List Fm) : noMoreB a b = withinF a b := by
  rw [Bool.eq_iff_iff, withinF_count]
  unfold noMoreB
  rw [List.all_eq_true]
  constructor
  · intro h x
    by_cases hx : x ∈ a
    · simpa using h x hx
    · rw [List.count_eq_zero.2 hx]; exact Nat.zero_le _
  · intro h x _
    simpa using h x
end Go.Proofs.Ytnoklmapofogeaa
