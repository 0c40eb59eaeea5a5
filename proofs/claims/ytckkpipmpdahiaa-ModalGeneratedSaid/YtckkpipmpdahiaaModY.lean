/-
  THE STATEMENT ModalGenerated: for every model, formula and world the law answers true. Conditions: none but those of the row.
-/
import Derived.Test.YtckkpipmpdahiaaModI
import Derived.Test.YtckkpipmpdahiaaOpenF
import Derived.Test.YtckkpipmpdahiaaRows
namespace Go.Proofs.Ytckkpipmpdahiaa
open Go Go.Pv Go.ChangeShapes Go.WideShapes Go.ChangeAt Go.RowKit
set_option linter.unusedVariables false

theorem generated_own : ownKnob Try.prog.godebug = none := by kernel_rfl

theorem generated_call (rows : List (List PV)) (h : AllTy Try.prog [25, 28, 3] rows) :
    CallOK Try.prog 4 (argsOf Try.prog [25, 28, 3] rows) [] (.bool true) [] := by
  obtain ⟨r0, rs, rfl, h0, h⟩ := allTy_cons h
  obtain ⟨r1, rs, rfl, h1, h⟩ := allTy_cons h
  obtain ⟨r2, rs, rfl, h2, h⟩ := allTy_cons h
  obtain rfl := allTy_nil h
  obtain ⟨m, rfl⟩ := mdl_of h0
  obtain ⟨f, rfl⟩ := fm_of h1
  obtain ⟨w, rfl, hw1, hw2⟩ := int_of h2
  simp only [argsOf]
  rw [argOf_agg ty25 rfl, argOf_agg ty28 rfl, argOf_one ty3 rfl]
  exact modalGenerated_law m f w hw1 hw2 []

set_option maxRecDepth 100000 in
theorem generated_lifted (os : Os) (started : os.Started) (H : Type) (enc : TypeId × Value → H) :
    ReturnsInHanded {} Try.checked os 4 .any (Rows.modalGeneratedSpec.pre6 enc Try.prog Try.f4 Rows.modalGeneratedRow.domain false) (Rows.modalGeneratedSpec.post enc Try.prog Try.f4 false true false false) := by
  refine returnsInHanded_of_change (C := Try.checked) (s := Rows.modalGeneratedSpec) generated_own started (by kernel_rfl) Try.func4
    (ChangeSpec.witness6 (enc := enc) (C := Try.checked) (s := Rows.modalGeneratedSpec) false ⟨#[], #[.agg #[.int .i64 0, .slice none 0 0, .slice none 0 0], .agg #[.int .i64 0, .string ⟨#[]⟩, .slice none 0 0], .int .i64 0], []⟩ 8 (by kernel_rfl) (by kernel_rfl) (by kernel_rfl) (by kernel_rfl)) ?_
  intro W base args ds gs before hval hW _ _
  exact law_contract (s := Rows.modalGeneratedSpec) (tb := 4) [25, 28, 3, 9, 26, 22, 71, 23, 56] (by kernel_rfl) (by kernel_rfl) (by kernel_rfl) (by kernel_rfl) rfl (by kernel_rfl) (und_bool ty4 rfl)
    (fun ds h => by match ds, h with | [d1, d2, d3], _ => rfl)
    (fun rows h => by rw [Try.params4] at h ⊢; exact generated_call rows h) W base args ds gs before hval hW

theorem modalGenerated_holds : Rows.ModalGeneratedSaid :=
  OpenClaim.holds_of_wide 4 Try.f4 rfl rfl rfl rfl rfl rfl rfl ⟨rfl, rfl, rfl, rfl, rfl⟩ rfl rfl rfl rfl rfl (by kernel_rfl) Try.func4 (by kernel_rfl)
    (of_decide_eq_true (by kernel_rfl)) (by unfold Func.isWrapper; first | (rw [if_pos (by decide +kernel)]; kernel_rfl) | (rw [if_neg (by decide +kernel)]; exact ⟨rfl, rfl⟩))
    (fun os started H enc _ => generated_lifted os started H enc)

end Go.Proofs.Ytckkpipmpdahiaa
