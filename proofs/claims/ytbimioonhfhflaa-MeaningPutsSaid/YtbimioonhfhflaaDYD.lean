import Derived.Test.YtbimioonhfhflaaDPvOpen
import Derived.Test.YtbimioonhfhflaaDOpenS
import Derived.Test.YtbimioonhfhflaaRows
set_option linter.unusedVariables false
namespace Go.Proofs.Ytbimioonhfhflaa
open Go Go.Pv Go.ChangeShapes Go.WideShapes Go.ChangeAt Go.RowKit
theorem z_own : ownKnob Try.prog.godebug = none:=by kernel_rfl
theorem z_call (rows : List (List PV)) (h : AllTy Try.prog [25,29,9,31,32,33] rows) :
  CallOK Try.prog 3 (argsOf Try.prog [25,29,9,31,32,33] rows) [] (.bool true) []:=by
 obtain ⟨r0,rs,rfl,h0,h⟩:=allTy_cons h
 obtain ⟨r1,rs,rfl,h1,h⟩:=allTy_cons h
 obtain ⟨r2,rs,rfl,h2,h⟩:=allTy_cons h
 obtain ⟨r3,rs,rfl,h3,h⟩:=allTy_cons h
 obtain ⟨r4,rs,rfl,h4,h⟩:=allTy_cons h
 obtain ⟨r5,rs,rfl,h5,h⟩:=allTy_cons h
 obtain rfl:=allTy_nil h
 obtain ⟨s0,rfl⟩:=stc_of h0
 obtain ⟨e1,rfl⟩:=ex_of h1
 obtain ⟨s2,rfl⟩:=str_of h2
 obtain ⟨w3,rfl⟩:=wd_of h3
 obtain ⟨l4,rfl⟩:=strs_of h4
 obtain ⟨v5,rfl⟩:=ints_of h5
 simp only [argsOf]
 rw [argOf_agg ty25 rfl,argOf_agg ty29 rfl,argOf_one ty9 rfl,argOf_agg ty31 rfl,argOf_one ty32 rfl,argOf_one ty33 rfl]
 exact meaningPuts_law s0 e1 s2 w3 l4 v5
set_option maxRecDepth 100000 in
theorem z_lifted (os : Os) (started : os.Started) (H : Type) (enc : TypeId × Value → H) :
  ReturnsInHanded {} Try.checked os 3 .any (Rows.meaningPutsSpec.pre6 enc Try.prog Try.f3 Rows.meaningPutsRow.domain false) (Rows.meaningPutsSpec.post enc Try.prog Try.f3 false true false false):=by
 refine returnsInHanded_of_change_sized (C:=Try.checked) (s:=Rows.meaningPutsSpec) z_own started (by kernel_rfl) Try.func3
  (ChangeSpec.witness6 (enc:=enc) (C:=Try.checked) (s:=Rows.meaningPutsSpec) false ⟨#[],#[.agg #[.int .i64 0,.slice none 0 0,.slice none 0 0],.agg #[.int .i64 0,.string ⟨#[]⟩,.slice none 0 0,.slice none 0 0],.string ⟨#[]⟩,.agg #[.string ⟨#[]⟩,.slice none 0 0],.slice none 0 0,.slice none 0 0],[]⟩ 8 (by kernel_rfl) (by kernel_rfl) (by kernel_rfl) (by kernel_rfl)) ?_
 intro W base args ds gs before hval hW _ hz _
 exact law_contract (s:=Rows.meaningPutsSpec) (tb:=4) [25,22,57,23,61,33,59,3,9,4,29,27,26,31,32] (by kernel_rfl) (by kernel_rfl) (by kernel_rfl) (by kernel_rfl) rfl (by kernel_rfl) (und_bool ty4 rfl)
  (fun ds h=>by match ds,h with | [d1,d2,d3,d4,d5,d6],_=>rfl)
  (fun rows h=>by rw [Try.params3] at h ⊢;exact z_call rows h) W base args ds gs before hval hW hz
theorem meaningPuts_holds : Rows.MeaningPutsSaid:=
 OpenClaim.holds_of_wide 3 Try.f3 rfl rfl rfl rfl rfl rfl rfl ⟨rfl,rfl,rfl,rfl,rfl⟩ rfl rfl rfl rfl rfl (by kernel_rfl) Try.func3 (by kernel_rfl)
  (of_decide_eq_true (by kernel_rfl)) (by unfold Func.isWrapper;first | (rw [if_pos (by decide +kernel)];kernel_rfl) | (rw [if_neg (by decide +kernel)];exact ⟨rfl,rfl⟩))
  (fun os started H enc _=>z_lifted os started H enc)
end Go.Proofs.Ytbimioonhfhflaa
