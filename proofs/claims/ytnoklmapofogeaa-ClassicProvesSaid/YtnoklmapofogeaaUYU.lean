import Derived.Test.YtnoklmapofogeaaUCeL
import Derived.Test.YtnoklmapofogeaaUOpenP
import Derived.Test.YtnoklmapofogeaaRows
set_option linter.unusedVariables false
namespace Go.Proofs.Ytnoklmapofogeaa
open Go Go.Pv Go.ChangeShapes Go.WideShapes Go.ChangeAt Go.RowKit
theorem z_own : ownKnob Try.prog.godebug = none := by kernel_rfl
theorem z_call (rows : List (List PV)) (h : AllTy Try.prog [26] rows) :
  CallOK Try.prog 11 (argsOf Try.prog [26] rows) [] (.bool true) [] := by
 obtain ⟨r0, rs, rfl, h0, h⟩ := allTy_cons h
 obtain rfl := allTy_nil h
 obtain ⟨l0, r0, rfl⟩ := seq_of h0
 simp only [argsOf]
 rw [argOf_agg ty26 rfl]
 exact classicProves_law l0 r0
set_option maxRecDepth 100000 in
theorem z_lifted (os : Os) (started : os.Started) (H : Type) (enc : TypeId × Value → H) :
  ReturnsInHanded {} Try.checked os 11 .any (Rows.classicProvesSpec.pre6 enc Try.prog Try.f11 Rows.classicProvesRow.domain false) (Rows.classicProvesSpec.post enc Try.prog Try.f11 false true false false) := by
 refine returnsInHanded_of_change_sized (C := Try.checked) (s := Rows.classicProvesSpec) z_own started (by kernel_rfl) Try.func11
  (ChangeSpec.witness6 (enc := enc) (C := Try.checked) (s := Rows.classicProvesSpec) false ⟨#[], #[.agg #[.slice none 0 0, .slice none 0 0]], []⟩ 8 (by kernel_rfl) (by kernel_rfl) (by kernel_rfl) (by kernel_rfl)) ?_
 intro W base args ds gs before hval hW _ hz _
 exact law_contract (s := Rows.classicProvesSpec) (tb := 4) [26, 22, 24, 3, 9] (by kernel_rfl) (by kernel_rfl) (by kernel_rfl) (by kernel_rfl) rfl (by kernel_rfl) (und_bool ty4 rfl)
  (fun ds h => by match ds, h with | [d1], _ => rfl)
  (fun rows h => by rw [Try.params11] at h ⊢; exact z_call rows h) W base args ds gs before hval hW hz
theorem classicProves_holds : Rows.ClassicProvesSaid :=
 OpenClaim.holds_of_wide 11 Try.f11 rfl rfl rfl rfl rfl rfl rfl ⟨rfl, rfl, rfl, rfl, rfl⟩ rfl rfl rfl rfl rfl (by kernel_rfl) Try.func11 (by kernel_rfl)
  (of_decide_eq_true (by kernel_rfl)) (by unfold Func.isWrapper; first | (rw [if_pos (by decide +kernel)]; kernel_rfl) | (rw [if_neg (by decide +kernel)]; exact ⟨rfl, rfl⟩))
  (fun os started H enc _ => z_lifted os started H enc)
end Go.Proofs.Ytnoklmapofogeaa
