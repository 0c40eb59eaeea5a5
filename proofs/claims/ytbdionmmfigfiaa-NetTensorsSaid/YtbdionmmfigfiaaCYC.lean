import Derived.Test.YtbdionmmfigfiaaCNtT
import Derived.Test.YtbdionmmfigfiaaCOpenL
import Derived.Test.YtbdionmmfigfiaaRows
set_option linter.unusedVariables false
namespace Go.Proofs.Ytbdionmmfigfiaa
open Go Go.Pv Go.ChangeShapes Go.WideShapes Go.ChangeAt Go.RowKit
theorem z_own : ownKnob Try.prog.godebug = none := by kernel_rfl
theorem z_call (rows : List (List PV)) (h : AllTy Try.prog [22,25,22,25] rows) :
  CallOK Try.prog 4 (argsOf Try.prog [22,25,22,25] rows) [] (.bool true) [] := by
 obtain ⟨r0,rs,rfl,h0,h⟩ := allTy_cons h
 obtain ⟨r1,rs,rfl,h1,h⟩ := allTy_cons h
 obtain ⟨r2,rs,rfl,h2,h⟩ := allTy_cons h
 obtain ⟨r3,rs,rfl,h3,h⟩ := allTy_cons h
 obtain rfl := allTy_nil h
 obtain ⟨l0,rfl⟩ := lns_of h0
 obtain ⟨a1,rfl⟩ := rels_of h1
 obtain ⟨l2,rfl⟩ := lns_of h2
 obtain ⟨a3,rfl⟩ := rels_of h3
 simp only [argsOf]
 rw [argOf_one ty22 rfl,argOf_one ty25 rfl,argOf_one ty22 rfl,argOf_one ty25 rfl]
 exact netTensors_law l0 a1 l2 a3
set_option maxRecDepth 100000 in
theorem z_lifted (os : Os) (started : os.Started) (H : Type) (enc : TypeId × Value → H) :
  ReturnsInHanded {} Try.checked os 4 .any (Rows.netTensorsSpec.pre6 enc Try.prog Try.f4 Rows.netTensorsRow.domain false) (Rows.netTensorsSpec.post enc Try.prog Try.f4 false true false false) := by
 refine returnsInHanded_of_change_sized (C := Try.checked) (s := Rows.netTensorsSpec) z_own started (by kernel_rfl) Try.func4
  (ChangeSpec.witness6 (enc := enc) (C := Try.checked) (s := Rows.netTensorsSpec) false ⟨#[],#[.slice none 0 0,.slice none 0 0,.slice none 0 0,.slice none 0 0],[]⟩ 8 (by kernel_rfl) (by kernel_rfl) (by kernel_rfl) (by kernel_rfl)) ?_
 intro W base args ds gs before hval hW _ hz _
 exact law_contract (s := Rows.netTensorsSpec) (tb := 4) [22,24,3,9,4,25,33] (by kernel_rfl) (by kernel_rfl) (by kernel_rfl) (by kernel_rfl) rfl (by kernel_rfl) (und_bool ty4 rfl)
  (fun ds h => by match ds,h with | [d1,d2,d3,d4],_ => rfl)
  (fun rows h => by rw [Try.params4] at h ⊢; exact z_call rows h) W base args ds gs before hval hW hz
theorem netTensors_holds : Rows.NetTensorsSaid :=
 OpenClaim.holds_of_wide 4 Try.f4 rfl rfl rfl rfl rfl rfl rfl ⟨rfl,rfl,rfl,rfl,rfl⟩ rfl rfl rfl rfl rfl (by kernel_rfl) Try.func4 (by kernel_rfl)
  (of_decide_eq_true (by kernel_rfl)) (by unfold Func.isWrapper; first | (rw [if_pos (by decide +kernel)]; kernel_rfl) | (rw [if_neg (by decide +kernel)]; exact ⟨rfl,rfl⟩))
  (fun os started H enc _ => z_lifted os started H enc)
end Go.Proofs.Ytbdionmmfigfiaa
