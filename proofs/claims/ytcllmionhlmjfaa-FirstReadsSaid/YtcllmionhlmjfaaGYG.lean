import Derived.Test.YtcllmionhlmjfaaGFaU
import Derived.Test.YtcllmionhlmjfaaGOpenF
import Derived.Test.YtcllmionhlmjfaaRows
set_option linter.unusedVariables false
namespace Go.Proofs.Ytcllmionhlmjfaa
open Go Go.Pv Go.ChangeShapes Go.WideShapes Go.ChangeAt Go.RowKit
theorem z_own : ownKnob Try.prog.godebug = none := by kernel_rfl
theorem z_call (rows : List (List PV)) (h : AllTy Try.prog [9] rows) :
  CallOK Try.prog 8 (argsOf Try.prog [9] rows) [] (.bool true) [] := by
 obtain ⟨r0,rs,rfl,h0,h⟩ := allTy_cons h
 obtain rfl := allTy_nil h
 obtain ⟨s0,rfl⟩ := str_of h0
 simp only [argsOf]
 rw [argOf_one ty9 rfl]
 exact firstReads_law s0
set_option maxRecDepth 100000 in
theorem z_lifted (os : Os) (started : os.Started) (H : Type) (enc : TypeId × Value → H) :
  ReturnsInHanded {} Try.checked os 8 .any (Rows.firstReadsSpec.pre6 enc Try.prog Try.f8 Rows.firstReadsRow.domain false) (Rows.firstReadsSpec.post enc Try.prog Try.f8 false true false false) := by
 refine returnsInHanded_of_change_sized (C := Try.checked) (s := Rows.firstReadsSpec) z_own started (by kernel_rfl) Try.func8
  (ChangeSpec.witness6 (enc := enc) (C := Try.checked) (s := Rows.firstReadsSpec) false ⟨#[],#[.string ⟨#[]⟩],[]⟩ 8 (by kernel_rfl) (by kernel_rfl) (by kernel_rfl) (by kernel_rfl)) ?_
 intro W base args ds gs before hval hW _ hz _
 exact law_contract (s := Rows.firstReadsSpec) (tb := 4) [9] (by kernel_rfl) (by kernel_rfl) (by kernel_rfl) (by kernel_rfl) rfl (by kernel_rfl) (und_bool ty4 rfl)
  (fun ds h => by match ds,h with | [d1],_ => rfl)
  (fun rows h => by rw [Try.params8] at h ⊢; exact z_call rows h) W base args ds gs before hval hW hz
theorem firstReads_holds : Rows.FirstReadsSaid :=
 OpenClaim.holds_of_wide 8 Try.f8 rfl rfl rfl rfl rfl rfl rfl ⟨rfl,rfl,rfl,rfl,rfl⟩ rfl rfl rfl rfl rfl (by kernel_rfl) Try.func8 (by kernel_rfl)
  (of_decide_eq_true (by kernel_rfl)) (by unfold Func.isWrapper; first | (rw [if_pos (by decide +kernel)]; kernel_rfl) | (rw [if_neg (by decide +kernel)]; exact ⟨rfl,rfl⟩))
  (fun os started H enc _ => z_lifted os started H enc)
end Go.Proofs.Ytcllmionhlmjfaa
