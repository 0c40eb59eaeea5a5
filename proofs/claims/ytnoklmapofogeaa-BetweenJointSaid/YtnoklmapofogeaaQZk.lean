/-
  THE STATEMENT BetweenJoint: for every input the law answers true. Conditions: none but those of the row.
-/
import Derived.Test.YtnoklmapofogeaaBwU
import Derived.Test.YtnoklmapofogeaaOpenF
import Derived.Test.YtnoklmapofogeaaRows
namespace Go.Proofs.Ytnoklmapofogeaa
open Go Go.Pv Go.ChangeShapes Go.WideShapes Go.ChangeAt Go.RowKit
set_option linter.unusedVariables false

theorem z_own : ownKnob Try.prog.godebug = none := by kernel_rfl

theorem z_call (rows : List (List PV)) (h : AllTy Try.prog [24, 24] rows) :
    CallOK Try.prog 9 (argsOf Try.prog [24, 24] rows) [] (.bool true) [] := by
  obtain ⟨r0, rs, rfl, h0, h⟩ := allTy_cons h
  obtain ⟨r1, rs, rfl, h1, h⟩ := allTy_cons h
  obtain rfl := allTy_nil h
  obtain ⟨f0, rfl⟩ := fm_of h0
  obtain ⟨f1, rfl⟩ := fm_of h1
  simp only [argsOf]
  rw [argOf_agg ty24 rfl, argOf_agg ty24 rfl]
  exact betweenJoint_law f0 f1

set_option maxRecDepth 100000 in
theorem z_lifted (os : Os) (started : os.Started) (H : Type) (enc : TypeId × Value → H) :
    ReturnsInHanded {} Try.checked os 9 .any (Rows.betweenJointSpec.pre6 enc Try.prog Try.f9 Rows.betweenJointRow.domain false) (Rows.betweenJointSpec.post enc Try.prog Try.f9 false true false false) := by
  refine returnsInHanded_of_change_sized (C := Try.checked) (s := Rows.betweenJointSpec) z_own started (by kernel_rfl) Try.func9
    (ChangeSpec.witness6 (enc := enc) (C := Try.checked) (s := Rows.betweenJointSpec) false ⟨#[], #[.agg #[.int .i64 0, .string ⟨#[]⟩, .slice none 0 0], .agg #[.int .i64 0, .string ⟨#[]⟩, .slice none 0 0]], []⟩ 8 (by kernel_rfl) (by kernel_rfl) (by kernel_rfl) (by kernel_rfl)) ?_
  intro W base args ds gs before hval hW _ hz _
  exact law_contract (s := Rows.betweenJointSpec) (tb := 4) [24, 3, 9, 22] (by kernel_rfl) (by kernel_rfl) (by kernel_rfl) (by kernel_rfl) rfl (by kernel_rfl) (und_bool ty4 rfl)
    (fun ds h => by match ds, h with | [d1, d2], _ => rfl)
    (fun rows h => by rw [Try.params9] at h ⊢; exact z_call rows h) W base args ds gs before hval hW hz

theorem betweenJoint_holds : Rows.BetweenJointSaid :=
  OpenClaim.holds_of_wide 9 Try.f9 rfl rfl rfl rfl rfl rfl rfl ⟨rfl, rfl, rfl, rfl, rfl⟩ rfl rfl rfl rfl rfl (by kernel_rfl) Try.func9 (by kernel_rfl)
    (of_decide_eq_true (by kernel_rfl)) (by unfold Func.isWrapper; first | (rw [if_pos (by decide +kernel)]; kernel_rfl) | (rw [if_neg (by decide +kernel)]; exact ⟨rfl, rfl⟩))
    (fun os started H enc _ => z_lifted os started H enc)

end Go.Proofs.Ytnoklmapofogeaa
