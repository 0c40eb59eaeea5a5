import Derived.Test.YtcllmionhlmjfaaEPvOpen
import Derived.Test.YtcllmionhlmjfaaEOpenF
import Derived.Test.YtcllmionhlmjfaaRows
set_option linter.unusedVariables false
namespace Go.Proofs.Ytcllmionhlmjfaa
open Go Go.Pv Go.ChangeShapes Go.WideShapes Go.ChangeAt Go.RowKit
theorem z_own : ownKnob Try.prog.godebug = none := by kernel_rfl
theorem z_call (rows : List (List PV)) (h : AllTy Try.prog [24, 24, 9] rows) :
  CallOK Try.prog 10 (argsOf Try.prog [24, 24, 9] rows) [] (.bool true) [] := by
 obtain ⟨r0, rs, rfl, h0, h⟩ := allTy_cons h
 obtain ⟨r1, rs, rfl, h1, h⟩ := allTy_cons h
 obtain ⟨r2, rs, rfl, h2, h⟩ := allTy_cons h
 obtain rfl := allTy_nil h
 obtain ⟨f0, rfl⟩ := fm_of h0
 obtain ⟨f1, rfl⟩ := fm_of h1
 obtain ⟨s2, rfl⟩ := str_of h2
 simp only [argsOf]
 rw [argOf_agg ty24 rfl, argOf_agg ty24 rfl, argOf_one ty9 rfl]
 exact formulaParts_law f0 f1 s2
set_option maxRecDepth 100000 in
theorem z_lifted (os : Os) (started : os.Started) (H : Type) (enc : TypeId × Value → H) :
  ReturnsInHanded {} Try.checked os 10 .any (Rows.formulaPartsSpec.pre6 enc Try.prog Try.f10 Rows.formulaPartsRow.domain false) (Rows.formulaPartsSpec.post enc Try.prog Try.f10 false true false false) := by
 refine returnsInHanded_of_change_sized (C := Try.checked) (s := Rows.formulaPartsSpec) z_own started (by kernel_rfl) Try.func10
  (ChangeSpec.witness6 (enc := enc) (C := Try.checked) (s := Rows.formulaPartsSpec) false ⟨#[], #[.agg #[.int .i64 0, .string ⟨#[]⟩, .slice none 0 0], .agg #[.int .i64 0, .string ⟨#[]⟩, .slice none 0 0], .string ⟨#[]⟩], []⟩ 8 (by kernel_rfl) (by kernel_rfl) (by kernel_rfl) (by kernel_rfl)) ?_
 intro W base args ds gs before hval hW _ hz _
 exact law_contract (s := Rows.formulaPartsSpec) (tb := 4) [24, 3, 9, 22] (by kernel_rfl) (by kernel_rfl) (by kernel_rfl) (by kernel_rfl) rfl (by kernel_rfl) (und_bool ty4 rfl)
  (fun ds h => by match ds, h with | [d1, d2, d3], _ => rfl)
  (fun rows h => by rw [Try.params10] at h ⊢; exact z_call rows h) W base args ds gs before hval hW hz
theorem formulaParts_holds : Rows.FormulaPartsSaid :=
 OpenClaim.holds_of_wide 10 Try.f10 rfl rfl rfl rfl rfl rfl rfl ⟨rfl, rfl, rfl, rfl, rfl⟩ rfl rfl rfl rfl rfl (by kernel_rfl) Try.func10 (by kernel_rfl)
  (of_decide_eq_true (by kernel_rfl)) (by unfold Func.isWrapper; first | (rw [if_pos (by decide +kernel)]; kernel_rfl) | (rw [if_neg (by decide +kernel)]; exact ⟨rfl, rfl⟩))
  (fun os started H enc _ => z_lifted os started H enc)
end Go.Proofs.Ytcllmionhlmjfaa
