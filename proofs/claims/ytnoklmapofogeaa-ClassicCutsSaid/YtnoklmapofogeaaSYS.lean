import Derived.Test.YtnoklmapofogeaaSCeM
import Derived.Test.YtnoklmapofogeaaSOpenP
import Derived.Test.YtnoklmapofogeaaRows
set_option linter.unusedVariables false
namespace Go.Proofs.Ytnoklmapofogeaa
open Go Go.Pv Go.ChangeShapes Go.WideShapes Go.ChangeAt Go.RowKit
theorem z_own : ownKnob Try.prog.godebug = none := by kernel_rfl
theorem z_call (rows : List (List PV)) (h : AllTy Try.prog [26, 24] rows) :
  CallOK Try.prog 12 (argsOf Try.prog [26, 24] rows) [] (.bool true) [] := by
 obtain ⟨r0, rs, rfl, h0, h⟩ := allTy_cons h
 obtain ⟨r1, rs, rfl, h1, h⟩ := allTy_cons h
 obtain rfl := allTy_nil h
 obtain ⟨l0, r0, rfl⟩ := seq_of h0
 obtain ⟨f1, rfl⟩ := fm_of h1
 simp only [argsOf]
 rw [argOf_agg ty26 rfl, argOf_agg ty24 rfl]
 exact classicCuts_law l0 r0 f1
set_option maxRecDepth 100000 in
theorem z_lifted (os : Os) (started : os.Started) (H : Type) (enc : TypeId × Value → H) :
  ReturnsInHanded {} Try.checked os 12 .any (Rows.classicCutsSpec.pre6 enc Try.prog Try.f12 Rows.classicCutsRow.domain false) (Rows.classicCutsSpec.post enc Try.prog Try.f12 false true false false) := by
 refine returnsInHanded_of_change_sized (C := Try.checked) (s := Rows.classicCutsSpec) z_own started (by kernel_rfl) Try.func12
  (ChangeSpec.witness6 (enc := enc) (C := Try.checked) (s := Rows.classicCutsSpec) false ⟨#[], #[.agg #[.slice none 0 0, .slice none 0 0], .agg #[.int .i64 0, .string ⟨#[]⟩, .slice none 0 0]], []⟩ 8 (by kernel_rfl) (by kernel_rfl) (by kernel_rfl) (by kernel_rfl)) ?_
 intro W base args ds gs before hval hW _ hz _
 exact law_contract (s := Rows.classicCutsSpec) (tb := 4) [26, 22, 24, 3, 9] (by kernel_rfl) (by kernel_rfl) (by kernel_rfl) (by kernel_rfl) rfl (by kernel_rfl) (und_bool ty4 rfl)
  (fun ds h => by match ds, h with | [d1, d2], _ => rfl)
  (fun rows h => by rw [Try.params12] at h ⊢; exact z_call rows h) W base args ds gs before hval hW hz
theorem classicCuts_holds : Rows.ClassicCutsSaid :=
 OpenClaim.holds_of_wide 12 Try.f12 rfl rfl rfl rfl rfl rfl rfl ⟨rfl, rfl, rfl, rfl, rfl⟩ rfl rfl rfl rfl rfl (by kernel_rfl) Try.func12 (by kernel_rfl)
  (of_decide_eq_true (by kernel_rfl)) (by unfold Func.isWrapper; first | (rw [if_pos (by decide +kernel)]; kernel_rfl) | (rw [if_neg (by decide +kernel)]; exact ⟨rfl, rfl⟩))
  (fun os started H enc _ => z_lifted os started H enc)
end Go.Proofs.Ytnoklmapofogeaa
