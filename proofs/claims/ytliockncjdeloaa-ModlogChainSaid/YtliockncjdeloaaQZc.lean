/-
  THE STATEMENT ModlogChain: for every formula the law answers true. Conditions: none but those of the row.
-/
import Derived.Test.YtliockncjdeloaaQLA
import Derived.Test.YtliockncjdeloaaOpenF
import Derived.Test.YtliockncjdeloaaRows
namespace Go.Proofs.Ytliockncjdeloaa
open Go Go.Pv Go.ChangeShapes Go.WideShapes Go.ChangeAt Go.RowKit
set_option linter.unusedVariables false

theorem chain_own : ownKnob Try.prog.godebug = none := by kernel_rfl

theorem chain_call (rows : List (List PV)) (h : AllTy Try.prog [24] rows) :
    CallOK Try.prog 6 (argsOf Try.prog [24] rows) [] (.bool true) [] := by
  obtain ⟨r0, rs, rfl, h0, h⟩ := allTy_cons h
  obtain rfl := allTy_nil h
  obtain ⟨f, rfl⟩ := fm_of h0
  simp only [argsOf]
  rw [argOf_agg ty24 rfl]
  exact modlogChain_law f

set_option maxRecDepth 100000 in
theorem chain_lifted (os : Os) (started : os.Started) (H : Type) (enc : TypeId × Value → H) :
    ReturnsInHanded {} Try.checked os 6 .any (Rows.modlogChainSpec.pre6 enc Try.prog Try.f6 Rows.modlogChainRow.domain false) (Rows.modlogChainSpec.post enc Try.prog Try.f6 false true false false) := by
  refine returnsInHanded_of_change (C := Try.checked) (s := Rows.modlogChainSpec) chain_own started (by kernel_rfl) Try.func6
    (ChangeSpec.witness6 (enc := enc) (C := Try.checked) (s := Rows.modlogChainSpec) false ⟨#[], #[.agg #[.int .i64 0, .string ⟨#[]⟩, .slice none 0 0]], []⟩ 8 (by kernel_rfl) (by kernel_rfl) (by kernel_rfl) (by kernel_rfl)) ?_
  intro W base args ds gs before hval hW _ _
  exact law_contract (s := Rows.modlogChainSpec) (tb := 4) [24, 3, 9, 22] (by kernel_rfl) (by kernel_rfl) (by kernel_rfl) (by kernel_rfl) rfl (by kernel_rfl) (und_bool ty4 rfl)
    (fun ds h => by match ds, h with | [d1], _ => rfl)
    (fun rows h => by rw [Try.params6] at h ⊢; exact chain_call rows h) W base args ds gs before hval hW

theorem modlogChain_holds : Rows.ModlogChainSaid :=
  OpenClaim.holds_of_wide 6 Try.f6 rfl rfl rfl rfl rfl rfl rfl ⟨rfl, rfl, rfl, rfl, rfl⟩ rfl rfl rfl rfl rfl (by kernel_rfl) Try.func6 (by kernel_rfl)
    (of_decide_eq_true (by kernel_rfl)) (by unfold Func.isWrapper; first | (rw [if_pos (by decide +kernel)]; kernel_rfl) | (rw [if_neg (by decide +kernel)]; exact ⟨rfl, rfl⟩))
    (fun os started H enc _ => chain_lifted os started H enc)

end Go.Proofs.Ytliockncjdeloaa
