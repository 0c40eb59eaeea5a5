/-
  Plain formulas, and where they are true; truth: value; sequentref: True.
-/
import Derived.Test.YtnoklmapofogeaaVTrA
namespace Go.Proofs.Ytnoklmapofogeaa
open Go Go.Pv
set_option linter.unusedVariables false
set_option linter.unusedSimpArgs false
set_option maxRecDepth 100000
set_option maxHeartbeats 4000000

/-- fine, without boxes and diamonds -/
def Pl (f : Fm) : Prop := Td f ∧ ∀ x ∈ pre f, x.kind ≤ 7
theorem Pl.kid {f g : Fm} (h : Pl f) (hg : g ∈ f.kids) : Pl g := ⟨h.1.kid hg, fun x hx => h.2 x (by rw [pre_eq]; exact List.mem_cons_of_mem _ (pres_mem hx _ hg))⟩
theorem Pl.seven {f : Fm} (h : Pl f) : (∃ nm, isNameB nm = true ∧ f = .mk 1 nm []) ∨ (f = .mk 2 ⟨#[]⟩ []) ∨ (f = .mk 3 ⟨#[]⟩ []) ∨ (∃ a, Pl a ∧ f = .mk 4 ⟨#[]⟩ [a]) ∨ (∃ a b, Pl a ∧ Pl b ∧ f = .mk 5 ⟨#[]⟩ [a, b]) ∨
    (∃ a b, Pl a ∧ Pl b ∧ f = .mk 6 ⟨#[]⟩ [a, b]) ∨ (∃ a b, Pl a ∧ Pl b ∧ f = .mk 7 ⟨#[]⟩ [a, b]) := by
  have hk := h.2 f (by rw [pre_eq]; exact List.mem_cons_self)
  have hp := fun g hg => h.kid (g := g) hg
  rcases h.1.nine with ⟨nm, hN, rfl⟩ | rfl | rfl | ⟨a, ha, rfl⟩ | ⟨a, b, ha, hb, rfl⟩ | ⟨a, b, ha, hb, rfl⟩ | ⟨a, b, ha, hb, rfl⟩ | ⟨a, ha, rfl⟩ | ⟨a, ha, rfl⟩
  · exact .inl ⟨nm, hN, rfl⟩
  · exact .inr (.inl rfl)
  · exact .inr (.inr (.inl rfl))
  · exact .inr (.inr (.inr (.inl ⟨a, hp a (by simp), rfl⟩)))
  · exact .inr (.inr (.inr (.inr (.inl ⟨a, b, hp a (by simp), hp b (by simp), rfl⟩))))
  · exact .inr (.inr (.inr (.inr (.inr (.inl ⟨a, b, hp a (by simp), hp b (by simp), rfl⟩)))))
  · exact .inr (.inr (.inr (.inr (.inr (.inr ⟨a, b, hp a (by simp), hp b (by simp), rfl⟩)))))
  · simp at hk
  · simp at hk
theorem kindBad_none : ∀ (l : List Fm) (i : Nat), kindBad l i = none ↔ ∀ x ∈ l, x.kind ≤ 7
  | [], i => by simp [kindBad]
  | x :: r, i => by
    rw [kindBad]
    by_cases h : 7 < x.kind
    · rw [if_pos h]; simp; intro h2; omega
    · rw [if_neg h, kindBad_none r (i + 1)]; simp; intro _; omega
theorem kindBad_code : ∀ (l : List Fm) (i : Nat) x, kindBad l i = some x → x.1 = 4
  | [], _, x, h => by cases h
  | a :: r, i, x, h => by
    unfold kindBad at h
    split at h
    · cases h; rfl
    · exact kindBad_code r _ x h
theorem namesF_preA {f : Fm} (h : (pre f).length ≤ 200) : nodesGo 200 200 [f] = pre f := by
  rw [nodesGo_take 200 200 [f] (by omega), pres_cons, pres_nil, List.append_nil, List.take_of_length_le h]
theorem plainF_iff (f : Fm) : (plainF f).1 = 0 ↔ Pl f ∧ (pre f).length ≤ 200 := by
  unfold plainF
  by_cases h : (formulaCheck f).1 = 0
  · rw [if_neg (by simpa using h)]
    have h0 := (formulaCheck_iff f).1 h
    rw [namesF_preA h0.2]
    cases hk : kindBad (pre f) 0 with
    | none => simp only [Option.getD_none, true_iff]; exact ⟨⟨h0.1, (kindBad_none _ _).1 hk⟩, h0.2⟩
    | some x =>
      have := kindBad_code _ _ _ hk
      simp only [Option.getD_some]
      refine ⟨fun g => by omega, fun g => ?_⟩
      rw [(kindBad_none _ _).2 g.1.2] at hk; cases hk
  · rw [if_pos (by simpa using h)]
    exact ⟨fun g => absurd g h, fun g => (formulaCheck_iff f).2 ⟨g.1.1, g.2⟩⟩
theorem plainF_zero {f : Fm} (h : (plainF f).1 = 0) : plainF f = (0, 0) := by
  have h1 := (plainF_iff f).1 h
  have h2 := (formulaCheck_iff f).2 ⟨h1.1.1, h1.2⟩
  unfold plainF
  rw [if_neg (by simpa using h2), namesF_preA h1.2, (kindBad_none _ _).2 h1.1.2]; rfl
theorem plainL_one (f : Fm) : plainL [f] = plainF f := by
  rw [plainL, plainL]
  split
  · rfl
  · rename_i h; rw [plainF_zero (by simpa using h)]
section
variable {h : ByteArray → Bool} {nm : ByteArray} {l : List Fm} {a b : Fm}
end
/-! maps of truth values -/
end Go.Proofs.Ytnoklmapofogeaa
