import Derived.Test.YtfhakdonenhnbaaCGaJ
import Derived.Test.YtfhakdonenhnbaaCOpenS
import Derived.Test.YtfhakdonenhnbaaRows
set_option linter.unusedVariables false
namespace Go.Proofs.Ytfhakdonenhnbaa
open Go Go.Pv Go.ChangeShapes Go.WideShapes Go.ChangeAt Go.RowKit
theorem z_own : ownKnob Try.prog.godebug = none:=by kernel_rfl
theorem z_call (rows : List (List PV)) (h : AllTy Try.prog [25,25,3,29] rows) :
  CallOK Try.prog 3 (argsOf Try.prog [25,25,3,29] rows) [] (.bool true) []:=by
 obtain ⟨r0,rs,rfl,h0,h⟩:=allTy_cons h
 obtain ⟨r1,rs,rfl,h1,h⟩:=allTy_cons h
 obtain ⟨r2,rs,rfl,h2,h⟩:=allTy_cons h
 obtain ⟨r3,rs,rfl,h3,h⟩:=allTy_cons h
 obtain rfl:=allTy_nil h
 obtain ⟨s0,rfl⟩:=stc_of h0
 obtain ⟨s1,rfl⟩:=stc_of h1
 obtain ⟨n2,rfl⟩:=int_of h2
 obtain ⟨e3,rfl⟩:=ex_of h3
 simp only [argsOf]
 rw [argOf_agg ty25 rfl,argOf_agg ty25 rfl,argOf_one ty3 rfl,argOf_agg ty29 rfl]
 exact gamesFraisse_law s0 s1 n2 e3
set_option maxRecDepth 100000 in
theorem z_lifted (os : Os) (started : os.Started) (H : Type) (enc : TypeId × Value → H) :
  ReturnsInHanded {} Try.checked os 3 .any (Rows.gamesFraisseSpec.pre6 enc Try.prog Try.f3 Rows.gamesFraisseRow.domain false) (Rows.gamesFraisseSpec.post enc Try.prog Try.f3 false true false false):=by
 refine returnsInHanded_of_change_sized (C:=Try.checked) (s:=Rows.gamesFraisseSpec) z_own started (by kernel_rfl) Try.func3
  (ChangeSpec.witness6 (enc:=enc) (C:=Try.checked) (s:=Rows.gamesFraisseSpec) false ⟨#[],#[.agg #[.int .i64 0,.slice none 0 0,.slice none 0 0],.agg #[.int .i64 0,.slice none 0 0,.slice none 0 0],.int .i64 0,.agg #[.int .i64 0,.string ⟨#[]⟩,.slice none 0 0,.slice none 0 0]],[]⟩ 8 (by kernel_rfl) (by kernel_rfl) (by kernel_rfl) (by kernel_rfl)) ?_
 intro W base args ds gs before hval hW _ hz _
 exact law_contract (s:=Rows.gamesFraisseSpec) (tb:=4) [25,22,80,23,64,58,62,3,9,4,29,27,26,61] (by kernel_rfl) (by kernel_rfl) (by kernel_rfl) (by kernel_rfl) rfl (by kernel_rfl) (und_bool ty4 rfl)
  (fun ds h=>by match ds,h with | [d1,d2,d3,d4],_=>rfl)
  (fun rows h=>by rw [Try.params3] at h ⊢;exact z_call rows h) W base args ds gs before hval hW hz
theorem gamesFraisse_holds : Rows.GamesFraisseSaid:=
 OpenClaim.holds_of_wide 3 Try.f3 rfl rfl rfl rfl rfl rfl rfl ⟨rfl,rfl,rfl,rfl,rfl⟩ rfl rfl rfl rfl rfl (by kernel_rfl) Try.func3 (by kernel_rfl)
  (of_decide_eq_true (by kernel_rfl)) (by unfold Func.isWrapper;first | (rw [if_pos (by decide +kernel)];kernel_rfl) | (rw [if_neg (by decide +kernel)];exact ⟨rfl,rfl⟩))
  (fun os started H enc _=>z_lifted os started H enc)
end Go.Proofs.Ytfhakdonenhnbaa
