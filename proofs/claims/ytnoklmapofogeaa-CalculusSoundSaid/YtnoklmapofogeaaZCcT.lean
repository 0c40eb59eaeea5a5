/-
  Plain laws of calculus: the steps of a proof as a list; what is not vast.
-/
import Derived.Test.YtnoklmapofogeaaZCcW
import Derived.Test.YtnoklmapofogeaaZCcI
namespace Go.Proofs.Ytnoklmapofogeaa
open Go Go.Pv
set_option linter.unusedVariables false
set_option linter.unusedSimpArgs false
set_option maxRecDepth 100000

/-! not vast -/
theorem vastPs_mem : ∀ {l : List Pf} {d : Int}, vastPs l d = false → ∀ k ∈ l, vastP k d = false
  | [], _, _, k, hk => nomatch hk
  | a :: r, d, h, k, hk => by
    rw [vastPs, Bool.or_eq_false_iff] at h
    rcases List.mem_cons.1 hk with rfl | hk
    · exact h.1
    · exact vastPs_mem h.2 k hk
theorem vast_szs (p : Pf) : ∀ d, vastP p d = false → Szs p := by
  induction p using Pf.ind with
  | h p ih =>
    intro d h
    rw [vastP_eq] at h
    simp only [Bool.or_eq_false_iff, decide_eq_false_iff_not] at h
    obtain ⟨h1, h2, h3, h4, h5, h6, h7, h8⟩ := h
    exact .mk ⟨by omega, by omega⟩ (fun k hk => ih k hk _ (vastPs_mem h8 k hk)) (by omega)
end Go.Proofs.Ytnoklmapofogeaa
