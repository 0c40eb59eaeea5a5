import Derived.Test.YtkadceiolddmhaaCCgN
import Derived.Test.YtkadceiolddmhaaCOpenP
import Derived.Test.YtkadceiolddmhaaRows
set_option linter.unusedVariables false
namespace Go.Proofs.Ytkadceiolddmhaa
open Go Go.Pv Go.ChangeShapes Go.WideShapes Go.ChangeAt Go.RowKit
theorem z_own : ownKnob Try.prog.godebug = none := by kernel_rfl
theorem z_call (rows : List (List PV)) (h : AllTy Try.prog [64, 4] rows) :
  CallOK Try.prog 10 (argsOf Try.prog [64, 4] rows) [] (.bool true) [] := by
 obtain ⟨r0, rs, rfl, h0, h⟩ := allTy_cons h
 obtain ⟨r1, rs, rfl, h1, h⟩ := allTy_cons h
 obtain rfl := allTy_nil h
 obtain ⟨p0, rfl⟩ := pf_of h0
 obtain ⟨b1, rfl⟩ := bool_of h1
 simp only [argsOf]
 rw [argOf_agg ty64 rfl, argOf_one ty4 rfl]
 exact cutParts_law p0 b1
set_option maxRecDepth 100000 in
theorem z_lifted (os : Os) (started : os.Started) (H : Type) (enc : TypeId × Value → H) :
  ReturnsInHanded {} Try.checked os 10 .any (Rows.cutPartsSpec.pre6 enc Try.prog Try.f10 Rows.cutPartsRow.domain false) (Rows.cutPartsSpec.post enc Try.prog Try.f10 false true false false) := by
 refine returnsInHanded_of_change_sized (C := Try.checked) (s := Rows.cutPartsSpec) z_own started (by kernel_rfl) Try.func10
  (ChangeSpec.witness6 (enc := enc) (C := Try.checked) (s := Rows.cutPartsSpec) false ⟨#[], #[.agg #[.string ⟨#[]⟩, .int .i64 0, .string ⟨#[]⟩, .slice none 0 0, .slice none 0 0, .slice none 0 0, .slice none 0 0], .bool false], []⟩ 8 (by kernel_rfl) (by kernel_rfl) (by kernel_rfl) (by kernel_rfl)) ?_
 intro W base args ds gs before hval hW _ hz _
 exact law_contract (s := Rows.cutPartsSpec) (tb := 4) [64, 9, 59, 3, 57, 61, 62, 4] (by kernel_rfl) (by kernel_rfl) (by kernel_rfl) (by kernel_rfl) rfl (by kernel_rfl) (und_bool ty4 rfl)
  (fun ds h => by match ds, h with | [d1, d2], _ => rfl)
  (fun rows h => by rw [Try.params10] at h ⊢; exact z_call rows h) W base args ds gs before hval hW hz
theorem cutParts_holds : Rows.CutPartsSaid :=
 OpenClaim.holds_of_wide 10 Try.f10 rfl rfl rfl rfl rfl rfl rfl ⟨rfl, rfl, rfl, rfl, rfl⟩ rfl rfl rfl rfl rfl (by kernel_rfl) Try.func10 (by kernel_rfl)
  (of_decide_eq_true (by kernel_rfl)) (by unfold Func.isWrapper; first | (rw [if_pos (by decide +kernel)]; kernel_rfl) | (rw [if_neg (by decide +kernel)]; exact ⟨rfl, rfl⟩))
  (fun os started H enc _ => z_lifted os started H enc)
end Go.Proofs.Ytkadceiolddmhaa
