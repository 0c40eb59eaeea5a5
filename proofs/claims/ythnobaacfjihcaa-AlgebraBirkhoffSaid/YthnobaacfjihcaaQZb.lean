/-
  THE STATEMENT AlgebraBirkhoff: for every input the law answers true. Conditions: none but those of the row.
-/
import Derived.Test.YthnobaacfjihcaaQAi
import Derived.Test.YthnobaacfjihcaaOpenO
import Derived.Test.YthnobaacfjihcaaRows
namespace Go.Proofs.Ythnobaacfjihcaa
open Go Go.Pv Go.ChangeShapes Go.WideShapes Go.ChangeAt Go.RowKit
set_option linter.unusedVariables false

theorem z_own : ownKnob Try.prog.godebug = none := by kernel_rfl

theorem z_call (rows : List (List PV)) (h : AllTy Try.prog [24] rows) :
    CallOK Try.prog 6 (argsOf Try.prog [24] rows) [] (.bool true) [] := by
  obtain ⟨r0, rs, rfl, h0, h⟩ := allTy_cons h
  obtain rfl := allTy_nil h
  obtain ⟨o0, rfl⟩ := ord_of h0
  simp only [argsOf]
  rw [argOf_agg ty24 rfl]
  exact AlgebraBirkhoff_law o0

set_option maxRecDepth 100000 in
theorem z_lifted (os : Os) (started : os.Started) (H : Type) (enc : TypeId × Value → H) :
    ReturnsInHanded {} Try.checked os 6 .any (Rows.algebraBirkhoffSpec.pre6 enc Try.prog Try.f6 Rows.algebraBirkhoffRow.domain false) (Rows.algebraBirkhoffSpec.post enc Try.prog Try.f6 false true false false) := by
  refine returnsInHanded_of_change (C := Try.checked) (s := Rows.algebraBirkhoffSpec) z_own started (by kernel_rfl) Try.func6
    (ChangeSpec.witness6 (enc := enc) (C := Try.checked) (s := Rows.algebraBirkhoffSpec) false ⟨#[], #[.agg #[.int .i64 0, .slice none 0 0]], []⟩ 8 (by kernel_rfl) (by kernel_rfl) (by kernel_rfl) (by kernel_rfl)) ?_
  intro W base args ds gs before hval hW _ _
  exact law_contract (s := Rows.algebraBirkhoffSpec) (tb := 4) [24, 3, 22, 29] (by kernel_rfl) (by kernel_rfl) (by kernel_rfl) (by kernel_rfl) rfl (by kernel_rfl) (und_bool ty4 rfl)
    (fun ds h => by match ds, h with | [d1], _ => rfl)
    (fun rows h => by rw [Try.params6] at h ⊢; exact z_call rows h) W base args ds gs before hval hW

theorem algebraBirkhoff_holds : Rows.AlgebraBirkhoffSaid :=
  OpenClaim.holds_of_wide 6 Try.f6 rfl rfl rfl rfl rfl rfl rfl ⟨rfl, rfl, rfl, rfl, rfl⟩ rfl rfl rfl rfl rfl (by kernel_rfl) Try.func6 (by kernel_rfl)
    (of_decide_eq_true (by kernel_rfl)) (by unfold Func.isWrapper; first | (rw [if_pos (by decide +kernel)]; kernel_rfl) | (rw [if_neg (by decide +kernel)]; exact ⟨rfl, rfl⟩))
    (fun os started H enc _ => z_lifted os started H enc)

end Go.Proofs.Ythnobaacfjihcaa
