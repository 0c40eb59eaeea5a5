import Derived.Test.YtbimioonhfhflaaAFbX
import Derived.Test.YtbimioonhfhflaaAOpenS
import Derived.Test.YtbimioonhfhflaaRows
set_option linter.unusedVariables false
namespace Go.Proofs.Ytbimioonhfhflaa
open Go Go.Pv Go.ChangeShapes Go.WideShapes Go.ChangeAt Go.RowKit
theorem z_own : ownKnob Try.prog.godebug = none:=by kernel_rfl
theorem z_call (rows : List (List PV)) (h : AllTy Try.prog [29,9,31] rows) :
  CallOK Try.prog 4 (argsOf Try.prog [29,9,31] rows) [] (.bool true) []:=by
 obtain ⟨r0,rs,rfl,h0,h⟩:=allTy_cons h
 obtain ⟨r1,rs,rfl,h1,h⟩:=allTy_cons h
 obtain ⟨r2,rs,rfl,h2,h⟩:=allTy_cons h
 obtain rfl:=allTy_nil h
 obtain ⟨e0,rfl⟩:=ex_of h0
 obtain ⟨s1,rfl⟩:=str_of h1
 obtain ⟨w2,rfl⟩:=wd_of h2
 simp only [argsOf]
 rw [argOf_agg ty29 rfl,argOf_one ty9 rfl,argOf_agg ty31 rfl]
 exact firstSwaps_law e0 s1 w2
set_option maxRecDepth 100000 in
theorem z_lifted (os : Os) (started : os.Started) (H : Type) (enc : TypeId × Value → H) :
  ReturnsInHanded {} Try.checked os 4 .any (Rows.firstSwapsSpec.pre6 enc Try.prog Try.f4 Rows.firstSwapsRow.domain false) (Rows.firstSwapsSpec.post enc Try.prog Try.f4 false true false false):=by
 refine returnsInHanded_of_change_sized (C:=Try.checked) (s:=Rows.firstSwapsSpec) z_own started (by kernel_rfl) Try.func4
  (ChangeSpec.witness6 (enc:=enc) (C:=Try.checked) (s:=Rows.firstSwapsSpec) false ⟨#[],#[.agg #[.int .i64 0,.string ⟨#[]⟩,.slice none 0 0,.slice none 0 0],.string ⟨#[]⟩,.agg #[.string ⟨#[]⟩,.slice none 0 0]],[]⟩ 8 (by kernel_rfl) (by kernel_rfl) (by kernel_rfl) (by kernel_rfl)) ?_
 intro W base args ds gs before hval hW _ hz _
 exact law_contract (s:=Rows.firstSwapsSpec) (tb:=4) [29,27,26,31,3,9] (by kernel_rfl) (by kernel_rfl) (by kernel_rfl) (by kernel_rfl) rfl (by kernel_rfl) (und_bool ty4 rfl)
  (fun ds h=>by match ds,h with | [d1,d2,d3],_=>rfl)
  (fun rows h=>by rw [Try.params4] at h ⊢;exact z_call rows h) W base args ds gs before hval hW hz
theorem firstSwaps_holds : Rows.FirstSwapsSaid:=
 OpenClaim.holds_of_wide 4 Try.f4 rfl rfl rfl rfl rfl rfl rfl ⟨rfl,rfl,rfl,rfl,rfl⟩ rfl rfl rfl rfl rfl (by kernel_rfl) Try.func4 (by kernel_rfl)
  (of_decide_eq_true (by kernel_rfl)) (by unfold Func.isWrapper;first | (rw [if_pos (by decide +kernel)];kernel_rfl) | (rw [if_neg (by decide +kernel)];exact ⟨rfl,rfl⟩))
  (fun os started H enc _=>z_lifted os started H enc)
end Go.Proofs.Ytbimioonhfhflaa
