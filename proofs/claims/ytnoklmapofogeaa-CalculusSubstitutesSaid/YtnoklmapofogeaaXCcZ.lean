/-
  Plain laws of turned proofs.
-/
import Derived.Test.YtnoklmapofogeaaXCcN
namespace Go.Proofs.Ytnoklmapofogeaa
open Go Go.Pv
set_option linter.unusedVariables false
set_option linter.unusedSimpArgs false
set_option maxRecDepth 100000

theorem turn_szs (σ : Fm → Fm) (e : List Fm) (he : e.length ≤ 100) (p : Pf) : ∀ d, vastP p d = false → Szs (turnP σ e p) := by
  induction p using Pf.ind with
  | h p ih =>
    intro d hd
    obtain ⟨v1, v2, v3, v4, v5, v6, v7⟩ := vastP_all hd
    rw [turnP_eq]
    refine .mk ⟨?_, ?_⟩ (fun k hk => ?_) ?_
    · simp only [pf_mk, List.length_append, List.length_map]; omega
    · simp only [pf_mk, List.length_map]; omega
    · obtain ⟨x, hx, rfl⟩ := List.mem_map.1 hk
      exact ih x hx _ (v7 x hx)
    · simp only [pf_mk, List.length_map]; omega
theorem szs_steps {p : Pf} (h : Szs p) : ∀ s ∈ stepsP p, s.l.length ≤ 40000 ∧ s.r.length ≤ 40000 := by
  induction h with
  | mk h hk hl ih =>
    intro s hm
    rw [stepsP_eq] at hm
    rcases List.mem_cons.1 hm with rfl | hm
    · exact ⟨h.l, h.r⟩
    · obtain ⟨k, hk, hm⟩ := List.mem_flatMap.1 hm
      exact ih k hk s hm
theorem take_steps {q : Pf} (h : ((preD q 1).take 20002).map (·.1) = stepsP q) : ((preD q 1).take 20002).map stpRow = (stepsP q).map prf := by
  rw [← h, List.map_map]; rfl
end Go.Proofs.Ytnoklmapofogeaa
