import Derived.Test.YticchggapegnlaaAPvOpen
import Derived.Test.YticchggapegnlaaAOpenM
import Derived.Test.YticchggapegnlaaRows
set_option linter.unusedVariables false
namespace Go.Proofs.Yticchggapegnlaa
open Go Go.Pv Go.ChangeShapes Go.WideShapes Go.ChangeAt Go.RowKit
theorem z_own : ownKnob Try.prog.godebug = none := by kernel_rfl
theorem z_call (rows : List (List PV)) (h : AllTy Try.prog [25] rows) :
  CallOK Try.prog 3 (argsOf Try.prog [25] rows) [] (.bool true) [] := by
 obtain ⟨r0,rs,rfl,h0,h⟩ := allTy_cons h
 obtain rfl := allTy_nil h
 obtain ⟨m0,rfl,b0⟩ := mdlB_of h0
 simp only [argsOf]
 rw [argOf_agg ty25 rfl]
 exact bisimTwice_law m0
set_option maxRecDepth 100000 in
theorem z_lifted (os : Os) (started : os.Started) (H : Type) (enc : TypeId × Value → H) :
  ReturnsInHanded {} Try.checked os 3 .any (Rows.bisimTwiceSpec.pre6 enc Try.prog Try.f3 Rows.bisimTwiceRow.domain false) (Rows.bisimTwiceSpec.post enc Try.prog Try.f3 false true false false) := by
 refine returnsInHanded_of_change_sized (C := Try.checked) (s := Rows.bisimTwiceSpec) z_own started (by kernel_rfl) Try.func3
  (ChangeSpec.witness6 (enc := enc) (C := Try.checked) (s := Rows.bisimTwiceSpec) false ⟨#[],#[.agg #[.int .i64 0,.slice none 0 0,.slice none 0 0]],[]⟩ 8 (by kernel_rfl) (by kernel_rfl) (by kernel_rfl) (by kernel_rfl)) ?_
 intro W base args ds gs before hval hW _ hz _
 exact law_contract (s := Rows.bisimTwiceSpec) (tb := 4) [25,3,22,32,23,62,9] (by kernel_rfl) (by kernel_rfl) (by kernel_rfl) (by kernel_rfl) rfl (by kernel_rfl) (und_bool ty4 rfl)
  (fun ds h => by match ds,h with | [d1],_ => rfl)
  (fun rows h => by rw [Try.params3] at h ⊢; exact z_call rows h) W base args ds gs before hval hW hz
theorem bisimTwice_holds : Rows.BisimTwiceSaid :=
 OpenClaim.holds_of_wide 3 Try.f3 rfl rfl rfl rfl rfl rfl rfl ⟨rfl,rfl,rfl,rfl,rfl⟩ rfl rfl rfl rfl rfl (by kernel_rfl) Try.func3 (by kernel_rfl)
  (of_decide_eq_true (by kernel_rfl)) (by unfold Func.isWrapper; first | (rw [if_pos (by decide +kernel)]; kernel_rfl) | (rw [if_neg (by decide +kernel)]; exact ⟨rfl,rfl⟩))
  (fun os started H enc _ => z_lifted os started H enc)
end Go.Proofs.Yticchggapegnlaa
