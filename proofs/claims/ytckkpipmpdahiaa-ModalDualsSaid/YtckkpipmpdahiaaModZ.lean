/-
  THE STATEMENT ModalDuals: for every model and any two formulas the law answers true. Conditions: none but those of the row.
-/
import Derived.Test.YtckkpipmpdahiaaModF
import Derived.Test.YtckkpipmpdahiaaOpenF
import Derived.Test.YtckkpipmpdahiaaRows
namespace Go.Proofs.Ytckkpipmpdahiaa
open Go Go.Pv Go.ChangeShapes Go.WideShapes Go.ChangeAt Go.RowKit
set_option linter.unusedVariables false

theorem duals_own : ownKnob Try.prog.godebug = none := by kernel_rfl

theorem duals_call (rows : List (List PV)) (h : AllTy Try.prog [25, 28, 28] rows) :
    CallOK Try.prog 3 (argsOf Try.prog [25, 28, 28] rows) [] (.bool true) [] := by
  obtain ⟨r0, rs, rfl, h0, h⟩ := allTy_cons h
  obtain ⟨r1, rs, rfl, h1, h⟩ := allTy_cons h
  obtain ⟨r2, rs, rfl, h2, h⟩ := allTy_cons h
  obtain rfl := allTy_nil h
  obtain ⟨m, rfl⟩ := mdl_of h0
  obtain ⟨f, rfl⟩ := fm_of h1
  obtain ⟨g, rfl⟩ := fm_of h2
  simp only [argsOf]
  rw [argOf_agg ty25 rfl, argOf_agg ty28 rfl, argOf_agg ty28 rfl]
  exact modalDuals_law m f g []

set_option maxRecDepth 100000 in
theorem duals_lifted (os : Os) (started : os.Started) (H : Type) (enc : TypeId × Value → H) :
    ReturnsInHanded {} Try.checked os 3 .any (Rows.modalDualsSpec.pre6 enc Try.prog Try.f3 Rows.modalDualsRow.domain false) (Rows.modalDualsSpec.post enc Try.prog Try.f3 false true false false) := by
  refine returnsInHanded_of_change (C := Try.checked) (s := Rows.modalDualsSpec) duals_own started (by kernel_rfl) Try.func3
    (ChangeSpec.witness6 (enc := enc) (C := Try.checked) (s := Rows.modalDualsSpec) false ⟨#[], #[.agg #[.int .i64 0, .slice none 0 0, .slice none 0 0], .agg #[.int .i64 0, .string ⟨#[]⟩, .slice none 0 0], .agg #[.int .i64 0, .string ⟨#[]⟩, .slice none 0 0]], []⟩ 8 (by kernel_rfl) (by kernel_rfl) (by kernel_rfl) (by kernel_rfl)) ?_
  intro W base args ds gs before hval hW _ _
  exact law_contract (s := Rows.modalDualsSpec) (tb := 4) [25, 28, 3, 9, 26, 22, 71, 23, 56] (by kernel_rfl) (by kernel_rfl) (by kernel_rfl) (by kernel_rfl) rfl (by kernel_rfl) (und_bool ty4 rfl)
    (fun ds h => by match ds, h with | [d1, d2, d3], _ => rfl)
    (fun rows h => by rw [Try.params3] at h ⊢; exact duals_call rows h) W base args ds gs before hval hW

theorem modalDuals_holds : Rows.ModalDualsSaid :=
  OpenClaim.holds_of_wide 3 Try.f3 rfl rfl rfl rfl rfl rfl rfl ⟨rfl, rfl, rfl, rfl, rfl⟩ rfl rfl rfl rfl rfl (by kernel_rfl) Try.func3 (by kernel_rfl)
    (of_decide_eq_true (by kernel_rfl)) (by unfold Func.isWrapper; first | (rw [if_pos (by decide +kernel)]; kernel_rfl) | (rw [if_neg (by decide +kernel)]; exact ⟨rfl, rfl⟩))
    (fun os started H enc _ => duals_lifted os started H enc)

end Go.Proofs.Ytckkpipmpdahiaa
