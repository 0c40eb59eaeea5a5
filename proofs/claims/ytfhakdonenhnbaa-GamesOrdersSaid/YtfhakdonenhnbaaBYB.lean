import Derived.Test.YtfhakdonenhnbaaBGaI
import Derived.Test.YtfhakdonenhnbaaBOpenS
import Derived.Test.YtfhakdonenhnbaaRows
set_option linter.unusedVariables false
namespace Go.Proofs.Ytfhakdonenhnbaa
open Go Go.Pv Go.ChangeShapes Go.WideShapes Go.ChangeAt Go.RowKit
theorem z_own : ownKnob Try.prog.godebug = none:=by kernel_rfl
theorem z_call (rows : List (List PV)) (h : AllTy Try.prog [3,3,3] rows) :
  CallOK Try.prog 4 (argsOf Try.prog [3,3,3] rows) [] (.bool true) []:=by
 obtain ⟨r0,rs,rfl,h0,h⟩:=allTy_cons h
 obtain ⟨r1,rs,rfl,h1,h⟩:=allTy_cons h
 obtain ⟨r2,rs,rfl,h2,h⟩:=allTy_cons h
 obtain rfl:=allTy_nil h
 obtain ⟨n0,rfl⟩:=int_of h0
 obtain ⟨n1,rfl⟩:=int_of h1
 obtain ⟨n2,rfl⟩:=int_of h2
 simp only [argsOf]
 rw [argOf_one ty3 rfl,argOf_one ty3 rfl,argOf_one ty3 rfl]
 exact gamesOrders_law n0 n1 n2
set_option maxRecDepth 100000 in
theorem z_lifted (os : Os) (started : os.Started) (H : Type) (enc : TypeId × Value → H) :
  ReturnsInHanded {} Try.checked os 4 .any (Rows.gamesOrdersSpec.pre6 enc Try.prog Try.f4 Rows.gamesOrdersRow.domain false) (Rows.gamesOrdersSpec.post enc Try.prog Try.f4 false true false false):=by
 refine returnsInHanded_of_change_sized (C:=Try.checked) (s:=Rows.gamesOrdersSpec) z_own started (by kernel_rfl) Try.func4
  (ChangeSpec.witness6 (enc:=enc) (C:=Try.checked) (s:=Rows.gamesOrdersSpec) false ⟨#[],#[.int .i64 0,.int .i64 0,.int .i64 0],[]⟩ 8 (by kernel_rfl) (by kernel_rfl) (by kernel_rfl) (by kernel_rfl)) ?_
 intro W base args ds gs before hval hW _ hz _
 exact law_contract (s:=Rows.gamesOrdersSpec) (tb:=4) [3] (by kernel_rfl) (by kernel_rfl) (by kernel_rfl) (by kernel_rfl) rfl (by kernel_rfl) (und_bool ty4 rfl)
  (fun ds h=>by match ds,h with | [d1,d2,d3],_=>rfl)
  (fun rows h=>by rw [Try.params4] at h ⊢;exact z_call rows h) W base args ds gs before hval hW hz
theorem gamesOrders_holds : Rows.GamesOrdersSaid:=
 OpenClaim.holds_of_wide 4 Try.f4 rfl rfl rfl rfl rfl rfl rfl ⟨rfl,rfl,rfl,rfl,rfl⟩ rfl rfl rfl rfl rfl (by kernel_rfl) Try.func4 (by kernel_rfl)
  (of_decide_eq_true (by kernel_rfl)) (by unfold Func.isWrapper;first | (rw [if_pos (by decide +kernel)];kernel_rfl) | (rw [if_neg (by decide +kernel)];exact ⟨rfl,rfl⟩))
  (fun os started H enc _=>z_lifted os started H enc)
end Go.Proofs.Ytfhakdonenhnbaa
