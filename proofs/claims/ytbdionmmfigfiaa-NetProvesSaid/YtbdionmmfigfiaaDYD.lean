import Derived.Test.YtbdionmmfigfiaaDNuE
import Derived.Test.YtbdionmmfigfiaaDOpenL
import Derived.Test.YtbdionmmfigfiaaRows
set_option linter.unusedVariables false
namespace Go.Proofs.Ytbdionmmfigfiaa
open Go Go.Pv Go.ChangeShapes Go.WideShapes Go.ChangeAt Go.RowKit
theorem z_own : ownKnob Try.prog.godebug = none := by kernel_rfl
theorem z_call (rows : List (List PV)) (h : AllTy Try.prog [22] rows) :
  CallOK Try.prog 5 (argsOf Try.prog [22] rows) [] (.bool true) [] := by
 obtain ⟨r0,rs,rfl,h0,h⟩ := allTy_cons h
 obtain rfl := allTy_nil h
 obtain ⟨l0,rfl⟩ := lns_of h0
 simp only [argsOf]
 rw [argOf_one ty22 rfl]
 exact netProves_law l0
set_option maxRecDepth 100000 in
theorem z_lifted (os : Os) (started : os.Started) (H : Type) (enc : TypeId × Value → H) :
  ReturnsInHanded {} Try.checked os 5 .any (Rows.netProvesSpec.pre6 enc Try.prog Try.f5 Rows.netProvesRow.domain false) (Rows.netProvesSpec.post enc Try.prog Try.f5 false true false false) := by
 refine returnsInHanded_of_change_sized (C := Try.checked) (s := Rows.netProvesSpec) z_own started (by kernel_rfl) Try.func5
  (ChangeSpec.witness6 (enc := enc) (C := Try.checked) (s := Rows.netProvesSpec) false ⟨#[],#[.slice none 0 0],[]⟩ 8 (by kernel_rfl) (by kernel_rfl) (by kernel_rfl) (by kernel_rfl)) ?_
 intro W base args ds gs before hval hW _ hz _
 exact law_contract (s := Rows.netProvesSpec) (tb := 4) [22,24,3,9,4] (by kernel_rfl) (by kernel_rfl) (by kernel_rfl) (by kernel_rfl) rfl (by kernel_rfl) (und_bool ty4 rfl)
  (fun ds h => by match ds,h with | [d1],_ => rfl)
  (fun rows h => by rw [Try.params5] at h ⊢; exact z_call rows h) W base args ds gs before hval hW hz
theorem netProves_holds : Rows.NetProvesSaid :=
 OpenClaim.holds_of_wide 5 Try.f5 rfl rfl rfl rfl rfl rfl rfl ⟨rfl,rfl,rfl,rfl,rfl⟩ rfl rfl rfl rfl rfl (by kernel_rfl) Try.func5 (by kernel_rfl)
  (of_decide_eq_true (by kernel_rfl)) (by unfold Func.isWrapper; first | (rw [if_pos (by decide +kernel)]; kernel_rfl) | (rw [if_neg (by decide +kernel)]; exact ⟨rfl,rfl⟩))
  (fun os started H enc _ => z_lifted os started H enc)
end Go.Proofs.Ytbdionmmfigfiaa
