/-
  Plain laws of calculus: the steps of a proof as a list; what is not vast.
-/
import Derived.Test.YtnoklmapofogeaaXCcW
import Derived.Test.YtnoklmapofogeaaXCcI
namespace Go.Proofs.Ytnoklmapofogeaa
open Go Go.Pv
set_option linter.unusedVariables false
set_option linter.unusedSimpArgs false
set_option maxRecDepth 100000

mutual
/-- steps and how deep each is -/
def preD : Pf → Int → List (Pf × Int)
  | .mk a f l r ks, d => (.mk a f l r ks, d) :: if d < 402 then preDs ks (d + 1) else []
def preDs : List Pf → Int → List (Pf × Int)
  | [], _ => []
  | p :: r, d => preD p d ++ preDs r d
end
theorem preDs_eq (l : List Pf) (d : Int) : preDs l d = l.flatMap fun p => preD p d := by
  induction l with
  | nil => rfl
  | cons p r ih => rw [preDs, ih]; rfl
theorem preD_eq (p : Pf) (d : Int) : preD p d = (p, d) :: if d < 402 then preDs p.kids (d + 1) else [] := by
  cases p with | mk a f l r ks => rw [preD]; rfl
/-- what a fine proof's list of steps is -/
theorem look_steps (u : Bool) (p : Pf) : ∀ (n : Nat) (d : Int), (lookF u p n d).2.1 = 0 → (preD p d).map (·.1) = stepsP p ∧ (lookF u p n d).1 = n + (stepsP p).length ∧ ∀ x ∈ preD p d, x.2 ≤ 400 := by
  induction p using Pf.ind with
  | h p ih =>
    intro n d h
    rw [lookF_eq] at h ⊢
    split at h
    · cases h
    · rename_i h1
      rw [if_neg h1]
      split at h
      · cases h
      · rename_i h2
        rw [if_neg h2]
        split at h
        · rename_i h3; exact absurd h h3
        · rename_i h3
          rw [if_neg h3, preD_eq, if_pos (show d < 402 by omega), stepsP_eq]
          have key : ∀ ks : List Pf, (∀ k ∈ ks, k ∈ p.kids) → ∀ n, (looksF u ks n (d + 1)).2.1 = 0 → (preDs ks (d + 1)).map (·.1) = ks.flatMap stepsP ∧ (looksF u ks n (d + 1)).1 = n + (ks.flatMap stepsP).length ∧ ∀ x ∈ preDs ks (d + 1), x.2 ≤ 400 := by
            intro ks
            induction ks with
            | nil => intro _ n h; rw [looksF, preDs]; simp
            | cons k r ihr =>
              intro hm n h
              rw [looksF] at h ⊢
              by_cases h0 : (lookF u k n (d + 1)).2.1 = 0
              · rw [if_neg (by simpa using h0)] at h ⊢
                obtain ⟨a1, a2, a3⟩ := ih k (hm k (.head _)) n (d + 1) h0
                obtain ⟨b1, b2, b3⟩ := ihr (fun k hk => hm k (.tail _ hk)) _ h
                rw [preDs, List.map_append, a1, b1, List.flatMap_cons, b2, a2]
                refine ⟨rfl, by rw [List.length_append]; omega, fun x hx => ?_⟩
                rcases List.mem_append.1 hx with hx | hx
                · exact a3 x hx
                · exact b3 x hx
              · rw [if_pos h0] at h; exact absurd h h0
          obtain ⟨a1, a2, a3⟩ := key _ (fun k hk => hk) _ h
          rw [List.map_cons, a1, a2]
          refine ⟨rfl, by rw [List.length_cons]; omega, fun x hx => ?_⟩
          rcases List.mem_cons.1 hx with rfl | hx
          · dsimp only; omega
          · exact a3 x hx
theorem stepsP_turn (σ : Fm → Fm) (e : List Fm) (p : Pf) : stepsP (turnP σ e p) = (stepsP p).map (turnP σ e) := by
  induction p using Pf.ind with
  | h p ih =>
    rw [stepsP_eq, stepsP_eq p, List.map_cons, List.map_flatMap]
    have hks : (turnP σ e p).kids = p.kids.map (turnP σ e) := by rw [turnP_eq]; rfl
    rw [hks, List.flatMap_map]
    congr 1
    have key : ∀ ks : List Pf, (∀ k ∈ ks, k ∈ p.kids) → ks.flatMap (fun k => stepsP (turnP σ e k)) = ks.flatMap fun k => (stepsP k).map (turnP σ e) := by
      intro ks
      induction ks with
      | nil => intro _; rfl
      | cons k r ihr => intro hm; rw [List.flatMap_cons, List.flatMap_cons, ih k (hm k (.head _)), ihr fun k hk => hm k (.tail _ hk)]
    exact key _ fun k hk => hk
theorem preD_turn (σ : Fm → Fm) (e : List Fm) (p : Pf) : ∀ d, preD (turnP σ e p) d = (preD p d).map fun x => (turnP σ e x.1, x.2) := by
  induction p using Pf.ind with
  | h p ih =>
    intro d
    rw [preD_eq, preD_eq p, List.map_cons]
    have hks : (turnP σ e p).kids = p.kids.map (turnP σ e) := by rw [turnP_eq]; rfl
    rw [hks]
    congr 1
    split
    · rw [preDs_eq, preDs_eq, List.map_flatMap, List.flatMap_map]
      have key : ∀ ks : List Pf, (∀ k ∈ ks, k ∈ p.kids) → ks.flatMap (fun k => preD (turnP σ e k) (d + 1)) = ks.flatMap fun k => (preD k (d + 1)).map fun x => (turnP σ e x.1, x.2) := by
        intro ks
        induction ks with
        | nil => intro _; rfl
        | cons k r ihr => intro hm; rw [List.flatMap_cons, List.flatMap_cons, ih k (hm k (.head _)), ihr fun k hk => hm k (.tail _ hk)]
      exact key _ fun k hk => hk
    · rfl
theorem check_steps {u : Bool} {p : Pf} (h : (checkF u p).1 = 0) : (preD p 1).map (·.1) = stepsP p ∧ (stepsP p).length ≤ 20000 ∧ ∀ x ∈ preD p 1, x.2 ≤ 400 := by
  obtain ⟨a1, a2, a3⟩ := look_steps u p 0 1 h
  have := lookF_le u p 0 1 (by decide) h
  exact ⟨a1, by omega, a3⟩
theorem turn_steps {u : Bool} {p : Pf} (σ : Fm → Fm) (e : List Fm) (h : (checkF u p).1 = 0) : ((preD (turnP σ e p) 1).take 20002).map (·.1) = stepsP (turnP σ e p) := by
  obtain ⟨a1, a2, a3⟩ := check_steps h
  have hl : (preD p 1).length = (stepsP p).length := by rw [← a1, List.length_map]
  rw [preD_turn, stepsP_turn, ← a1, List.take_of_length_le (by rw [List.length_map]; omega)]
  simp only [List.map_map]
  rfl
/-! not vast -/
theorem vastPs_mem : ∀ {l : List Pf} {d : Int}, vastPs l d = false → ∀ k ∈ l, vastP k d = false
  | [], _, _, k, hk => nomatch hk
  | a :: r, d, h, k, hk => by
    rw [vastPs, Bool.or_eq_false_iff] at h
    rcases List.mem_cons.1 hk with rfl | hk
    · exact h.1
    · exact vastPs_mem h.2 k hk
theorem vast_szs (p : Pf) : ∀ d, vastP p d = false → Szs p := by
  induction p using Pf.ind with
  | h p ih =>
    intro d h
    rw [vastP_eq] at h
    simp only [Bool.or_eq_false_iff, decide_eq_false_iff_not] at h
    obtain ⟨h1, h2, h3, h4, h5, h6, h7, h8⟩ := h
    exact .mk ⟨by omega, by omega⟩ (fun k hk => ih k hk _ (vastPs_mem h8 k hk)) (by omega)
end Go.Proofs.Ytnoklmapofogeaa
