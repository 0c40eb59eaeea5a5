/-
  THE STATEMENT AlgebraProducts: for every input the law answers true. Conditions: none but those of the row.
-/
import Derived.Test.YthnobaacfjihcaaQAv
import Derived.Test.YthnobaacfjihcaaOpenO
import Derived.Test.YthnobaacfjihcaaRows
namespace Go.Proofs.Ythnobaacfjihcaa
open Go Go.Pv Go.ChangeShapes Go.WideShapes Go.ChangeAt Go.RowKit
set_option linter.unusedVariables false

theorem z_own : ownKnob Try.prog.godebug = none := by kernel_rfl

theorem z_call (rows : List (List PV)) (h : AllTy Try.prog [24, 24] rows) :
    CallOK Try.prog 4 (argsOf Try.prog [24, 24] rows) [] (.bool true) [] := by
  obtain ⟨r0, rs, rfl, h0, h⟩ := allTy_cons h
  obtain ⟨r1, rs, rfl, h1, h⟩ := allTy_cons h
  obtain rfl := allTy_nil h
  obtain ⟨o0, rfl⟩ := ord_of h0
  obtain ⟨o1, rfl⟩ := ord_of h1
  simp only [argsOf]
  rw [argOf_agg ty24 rfl, argOf_agg ty24 rfl]
  exact AlgebraProducts_law o0 o1

set_option maxRecDepth 100000 in
theorem z_lifted (os : Os) (started : os.Started) (H : Type) (enc : TypeId × Value → H) :
    ReturnsInHanded {} Try.checked os 4 .any (Rows.algebraProductsSpec.pre6 enc Try.prog Try.f4 Rows.algebraProductsRow.domain false) (Rows.algebraProductsSpec.post enc Try.prog Try.f4 false true false false) := by
  refine returnsInHanded_of_change (C := Try.checked) (s := Rows.algebraProductsSpec) z_own started (by kernel_rfl) Try.func4
    (ChangeSpec.witness6 (enc := enc) (C := Try.checked) (s := Rows.algebraProductsSpec) false ⟨#[], #[.agg #[.int .i64 0, .slice none 0 0], .agg #[.int .i64 0, .slice none 0 0]], []⟩ 8 (by kernel_rfl) (by kernel_rfl) (by kernel_rfl) (by kernel_rfl)) ?_
  intro W base args ds gs before hval hW _ _
  exact law_contract (s := Rows.algebraProductsSpec) (tb := 4) [24, 3, 22, 29] (by kernel_rfl) (by kernel_rfl) (by kernel_rfl) (by kernel_rfl) rfl (by kernel_rfl) (und_bool ty4 rfl)
    (fun ds h => by match ds, h with | [d1, d2], _ => rfl)
    (fun rows h => by rw [Try.params4] at h ⊢; exact z_call rows h) W base args ds gs before hval hW

theorem algebraProducts_holds : Rows.AlgebraProductsSaid :=
  OpenClaim.holds_of_wide 4 Try.f4 rfl rfl rfl rfl rfl rfl rfl ⟨rfl, rfl, rfl, rfl, rfl⟩ rfl rfl rfl rfl rfl (by kernel_rfl) Try.func4 (by kernel_rfl)
    (of_decide_eq_true (by kernel_rfl)) (by unfold Func.isWrapper; first | (rw [if_pos (by decide +kernel)]; kernel_rfl) | (rw [if_neg (by decide +kernel)]; exact ⟨rfl, rfl⟩))
    (fun os started H enc _ => z_lifted os started H enc)

end Go.Proofs.Ythnobaacfjihcaa
