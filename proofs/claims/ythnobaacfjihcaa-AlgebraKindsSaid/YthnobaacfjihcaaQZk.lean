/-
  THE STATEMENT AlgebraKinds: for every input the law answers true. Conditions: none but those of the row.
-/
import Derived.Test.YthnobaacfjihcaaQAz
import Derived.Test.YthnobaacfjihcaaOpenO
import Derived.Test.YthnobaacfjihcaaRows
namespace Go.Proofs.Ythnobaacfjihcaa
open Go Go.Pv Go.ChangeShapes Go.WideShapes Go.ChangeAt Go.RowKit
set_option linter.unusedVariables false

theorem z_own : ownKnob Try.prog.godebug = none := by kernel_rfl

theorem z_call (rows : List (List PV)) (h : AllTy Try.prog [24] rows) :
    CallOK Try.prog 5 (argsOf Try.prog [24] rows) [] (.bool true) [] := by
  obtain ⟨r0, rs, rfl, h0, h⟩ := allTy_cons h
  obtain rfl := allTy_nil h
  obtain ⟨o0, rfl, b0⟩ := ord_of h0
  simp only [argsOf]
  rw [argOf_agg ty24 rfl]
  exact AlgebraKinds_law o0 b0

set_option maxRecDepth 100000 in
theorem z_lifted (os : Os) (started : os.Started) (H : Type) (enc : TypeId × Value → H) :
    ReturnsInHanded {} Try.checked os 5 .any (Rows.algebraKindsSpec.pre6 enc Try.prog Try.f5 Rows.algebraKindsRow.domain false) (Rows.algebraKindsSpec.post enc Try.prog Try.f5 false true false false) := by
  refine returnsInHanded_of_change_sized (C := Try.checked) (s := Rows.algebraKindsSpec) z_own started (by kernel_rfl) Try.func5
    (ChangeSpec.witness6 (enc := enc) (C := Try.checked) (s := Rows.algebraKindsSpec) false ⟨#[], #[.agg #[.int .i64 0, .slice none 0 0]], []⟩ 8 (by kernel_rfl) (by kernel_rfl) (by kernel_rfl) (by kernel_rfl)) ?_
  intro W base args ds gs before hval hW _ hz _
  exact law_contract (s := Rows.algebraKindsSpec) (tb := 4) [24, 3, 22, 29] (by kernel_rfl) (by kernel_rfl) (by kernel_rfl) (by kernel_rfl) rfl (by kernel_rfl) (und_bool ty4 rfl)
    (fun ds h => by match ds, h with | [d1], _ => rfl)
    (fun rows h => by rw [Try.params5] at h ⊢; exact z_call rows h) W base args ds gs before hval hW hz

theorem algebraKinds_holds : Rows.AlgebraKindsSaid :=
  OpenClaim.holds_of_wide 5 Try.f5 rfl rfl rfl rfl rfl rfl rfl ⟨rfl, rfl, rfl, rfl, rfl⟩ rfl rfl rfl rfl rfl (by kernel_rfl) Try.func5 (by kernel_rfl)
    (of_decide_eq_true (by kernel_rfl)) (by unfold Func.isWrapper; first | (rw [if_pos (by decide +kernel)]; kernel_rfl) | (rw [if_neg (by decide +kernel)]; exact ⟨rfl, rfl⟩))
    (fun os started H enc _ => z_lifted os started H enc)

end Go.Proofs.Ythnobaacfjihcaa
