import Derived.Test.YtbdionmmfigfiaaBNtS
import Derived.Test.YtbdionmmfigfiaaBOpenL
import Derived.Test.YtbdionmmfigfiaaRows
set_option linter.unusedVariables false
namespace Go.Proofs.Ytbdionmmfigfiaa
open Go Go.Pv Go.ChangeShapes Go.WideShapes Go.ChangeAt Go.RowKit
theorem z_own : ownKnob Try.prog.godebug = none := by kernel_rfl
theorem z_call (rows : List (List PV)) (h : AllTy Try.prog [24,22,25] rows) :
  CallOK Try.prog 3 (argsOf Try.prog [24,22,25] rows) [] (.bool true) [] := by
 obtain ⟨r0,rs,rfl,h0,h⟩ := allTy_cons h
 obtain ⟨r1,rs,rfl,h1,h⟩ := allTy_cons h
 obtain ⟨r2,rs,rfl,h2,h⟩ := allTy_cons h
 obtain rfl := allTy_nil h
 obtain ⟨x0,rfl⟩ := ln_of h0
 obtain ⟨l1,rfl⟩ := lns_of h1
 obtain ⟨a2,rfl⟩ := rels_of h2
 simp only [argsOf]
 rw [argOf_agg ty24 rfl,argOf_one ty22 rfl,argOf_one ty25 rfl]
 exact netIdentity_law x0 l1 a2
set_option maxRecDepth 100000 in
theorem z_lifted (os : Os) (started : os.Started) (H : Type) (enc : TypeId × Value → H) :
  ReturnsInHanded {} Try.checked os 3 .any (Rows.netIdentitySpec.pre6 enc Try.prog Try.f3 Rows.netIdentityRow.domain false) (Rows.netIdentitySpec.post enc Try.prog Try.f3 false true false false) := by
 refine returnsInHanded_of_change_sized (C := Try.checked) (s := Rows.netIdentitySpec) z_own started (by kernel_rfl) Try.func3
  (ChangeSpec.witness6 (enc := enc) (C := Try.checked) (s := Rows.netIdentitySpec) false ⟨#[],#[.agg #[.int .i64 0,.string ⟨#[]⟩,.bool false,.slice none 0 0],.slice none 0 0,.slice none 0 0],[]⟩ 8 (by kernel_rfl) (by kernel_rfl) (by kernel_rfl) (by kernel_rfl)) ?_
 intro W base args ds gs before hval hW _ hz _
 exact law_contract (s := Rows.netIdentitySpec) (tb := 4) [24,3,9,4,22,25,33] (by kernel_rfl) (by kernel_rfl) (by kernel_rfl) (by kernel_rfl) rfl (by kernel_rfl) (und_bool ty4 rfl)
  (fun ds h => by match ds,h with | [d1,d2,d3],_ => rfl)
  (fun rows h => by rw [Try.params3] at h ⊢; exact z_call rows h) W base args ds gs before hval hW hz
theorem netIdentity_holds : Rows.NetIdentitySaid :=
 OpenClaim.holds_of_wide 3 Try.f3 rfl rfl rfl rfl rfl rfl rfl ⟨rfl,rfl,rfl,rfl,rfl⟩ rfl rfl rfl rfl rfl (by kernel_rfl) Try.func3 (by kernel_rfl)
  (of_decide_eq_true (by kernel_rfl)) (by unfold Func.isWrapper; first | (rw [if_pos (by decide +kernel)]; kernel_rfl) | (rw [if_neg (by decide +kernel)]; exact ⟨rfl,rfl⟩))
  (fun os started H enc _ => z_lifted os started H enc)
end Go.Proofs.Ytbdionmmfigfiaa
