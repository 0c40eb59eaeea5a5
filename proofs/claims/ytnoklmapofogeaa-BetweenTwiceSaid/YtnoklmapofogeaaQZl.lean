/-
  THE STATEMENT BetweenTwice: for every input the law answers true. Conditions: none but those of the row.
-/
import Derived.Test.YtnoklmapofogeaaBwV
import Derived.Test.YtnoklmapofogeaaOpenF
import Derived.Test.YtnoklmapofogeaaRows
namespace Go.Proofs.Ytnoklmapofogeaa
open Go Go.Pv Go.ChangeShapes Go.WideShapes Go.ChangeAt Go.RowKit
set_option linter.unusedVariables false

theorem z_own : ownKnob Try.prog.godebug = none := by kernel_rfl

theorem z_call (rows : List (List PV)) (h : AllTy Try.prog [24, 35, 35] rows) :
    CallOK Try.prog 10 (argsOf Try.prog [24, 35, 35] rows) [] (.bool true) [] := by
  obtain ⟨r0, rs, rfl, h0, h⟩ := allTy_cons h
  obtain ⟨r1, rs, rfl, h1, h⟩ := allTy_cons h
  obtain ⟨r2, rs, rfl, h2, h⟩ := allTy_cons h
  obtain rfl := allTy_nil h
  obtain ⟨f0, rfl⟩ := fm_of h0
  obtain ⟨l1, rfl, b1⟩ := strsB_of h1
  obtain ⟨l2, rfl, b2⟩ := strsB_of h2
  simp only [argsOf]
  rw [argOf_agg ty24 rfl, argOf_one ty35 rfl, argOf_one ty35 rfl]
  exact betweenTwice_law f0 l1 l2 b1

set_option maxRecDepth 100000 in
theorem z_lifted (os : Os) (started : os.Started) (H : Type) (enc : TypeId × Value → H) :
    ReturnsInHanded {} Try.checked os 10 .any (Rows.betweenTwiceSpec.pre6 enc Try.prog Try.f10 Rows.betweenTwiceRow.domain false) (Rows.betweenTwiceSpec.post enc Try.prog Try.f10 false true false false) := by
  refine returnsInHanded_of_change_sized (C := Try.checked) (s := Rows.betweenTwiceSpec) z_own started (by kernel_rfl) Try.func10
    (ChangeSpec.witness6 (enc := enc) (C := Try.checked) (s := Rows.betweenTwiceSpec) false ⟨#[], #[.agg #[.int .i64 0, .string ⟨#[]⟩, .slice none 0 0], .slice none 0 0, .slice none 0 0], []⟩ 8 (by kernel_rfl) (by kernel_rfl) (by kernel_rfl) (by kernel_rfl)) ?_
  intro W base args ds gs before hval hW _ hz _
  exact law_contract (s := Rows.betweenTwiceSpec) (tb := 4) [24, 3, 9, 22, 35] (by kernel_rfl) (by kernel_rfl) (by kernel_rfl) (by kernel_rfl) rfl (by kernel_rfl) (und_bool ty4 rfl)
    (fun ds h => by match ds, h with | [d1, d2, d3], _ => rfl)
    (fun rows h => by rw [Try.params10] at h ⊢; exact z_call rows h) W base args ds gs before hval hW hz

theorem betweenTwice_holds : Rows.BetweenTwiceSaid :=
  OpenClaim.holds_of_wide 10 Try.f10 rfl rfl rfl rfl rfl rfl rfl ⟨rfl, rfl, rfl, rfl, rfl⟩ rfl rfl rfl rfl rfl (by kernel_rfl) Try.func10 (by kernel_rfl)
    (of_decide_eq_true (by kernel_rfl)) (by unfold Func.isWrapper; first | (rw [if_pos (by decide +kernel)]; kernel_rfl) | (rw [if_neg (by decide +kernel)]; exact ⟨rfl, rfl⟩))
    (fun os started H enc _ => z_lifted os started H enc)

end Go.Proofs.Ytnoklmapofogeaa
