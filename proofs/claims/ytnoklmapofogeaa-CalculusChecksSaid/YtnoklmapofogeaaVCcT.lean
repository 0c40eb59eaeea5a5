/-
  Plain laws of calculus: the steps of a proof as a list; what is not vast.
-/
import Derived.Test.YtnoklmapofogeaaVCcW
import Derived.Test.YtnoklmapofogeaaVCcI
namespace Go.Proofs.Ytnoklmapofogeaa
open Go Go.Pv
set_option linter.unusedVariables false
set_option linter.unusedSimpArgs false
set_option maxRecDepth 100000

mutual
/-- steps and how deep each is -/
def preD : Pf → Int → List (Pf × Int)
  | .mk a f l r ks, d => (.mk a f l r ks, d) :: if d < 402 then preDs ks (d + 1) else []
def preDs : List Pf → Int → List (Pf × Int)
  | [], _ => []
  | p :: r, d => preD p d ++ preDs r d
end
theorem preDs_eq (l : List Pf) (d : Int) : preDs l d = l.flatMap fun p => preD p d := by
  induction l with
  | nil => rfl
  | cons p r ih => rw [preDs, ih]; rfl
theorem preD_eq (p : Pf) (d : Int) : preD p d = (p, d) :: if d < 402 then preDs p.kids (d + 1) else [] := by
  cases p with | mk a f l r ks => rw [preD]; rfl
noncomputable def scanF (u : Bool) : List (Pf × Int) → Nat → Nat × (Int × Int)
  | [], n => (n, (0, 0))
  | x :: r, n => if 20000 ≤ n ∨ 400 < x.2 then (n + 1, (2, 0)) else
    if (sequentF x.1.l x.1.r).1 ≠ 0 ∨ (u = true ∧ 1 < x.1.r.length) then (n + 1, (5, (n : Int))) else
    if stepF u x.1 ≠ 0 then (n + 1, (stepF u x.1, (n : Int))) else scanF u r (n + 1)
theorem scanF_append (u : Bool) (b : List (Pf × Int)) : ∀ (a : List (Pf × Int)) (n : Nat), scanF u (a ++ b) n = if (scanF u a n).2.1 ≠ 0 then scanF u a n else scanF u b (scanF u a n).1
  | [], n => by rw [List.nil_append]; simp [scanF]
  | x :: r, n => by
    rw [List.cons_append, scanF, scanF]
    split
    · rw [if_pos (by simp)]
    · split
      · rw [if_pos (by simp)]
      · split
        · rfl
        · exact scanF_append u b r (n + 1)
theorem look_scan (u : Bool) (p : Pf) : ∀ (n : Nat) (d : Int), d ≤ 401 → lookF u p n d = scanF u (preD p d) n := by
  induction p using Pf.ind with
  | h p ih =>
    intro n d hd
    rw [lookF_eq, preD_eq, scanF, if_pos (show d < 402 by omega)]
    dsimp only
    by_cases h1 : 20000 ≤ n ∨ 400 < d
    · rw [if_pos h1, if_pos h1]
    · rw [if_neg h1, if_neg h1]
      split
      · rfl
      · split
        · rfl
        · have key : ∀ ks : List Pf, (∀ k ∈ ks, k ∈ p.kids) → ∀ n, looksF u ks n (d + 1) = scanF u (preDs ks (d + 1)) n := by
            intro ks
            induction ks with
            | nil => intro _ n; rw [looksF, preDs, scanF]
            | cons k r ihr =>
              intro hm n
              rw [looksF, preDs, scanF_append, ← ih k (hm k (.head _)) n (d + 1) (by omega), ← ihr fun k hk => hm k (.tail _ hk)]
          exact key _ (fun k hk => hk) _
theorem check_scan (u : Bool) (p : Pf) : checkF u p = (scanF u (preD p 1) 0).2 := by unfold checkF; rw [look_scan u p 0 1 (by decide)]
theorem scanF_take (u : Bool) : ∀ (L : List (Pf × Int)) (n k : Nat), 20001 ≤ n + k → n ≤ 20000 → scanF u (L.take k) n = scanF u L n
  | [], n, k, _, _ => by rw [List.take_nil]
  | x :: r, n, 0, h, h2 => by omega
  | x :: r, n, k + 1, h, h2 => by
    rw [List.take_succ_cons, scanF, scanF]
    split
    · rfl
    · split
      · rfl
      · split
        · rfl
        · exact scanF_take u r (n + 1) k (by omega) (by omega)
/-- what a fine proof's list of steps is -/
theorem look_steps (u : Bool) (p : Pf) : ∀ (n : Nat) (d : Int), (lookF u p n d).2.1 = 0 → (preD p d).map (·.1) = stepsP p ∧ (lookF u p n d).1 = n + (stepsP p).length ∧ ∀ x ∈ preD p d, x.2 ≤ 400 := by
  induction p using Pf.ind with
  | h p ih =>
    intro n d h
    rw [lookF_eq] at h ⊢
    split at h
    · cases h
    · rename_i h1
      rw [if_neg h1]
      split at h
      · cases h
      · rename_i h2
        rw [if_neg h2]
        split at h
        · rename_i h3; exact absurd h h3
        · rename_i h3
          rw [if_neg h3, preD_eq, if_pos (show d < 402 by omega), stepsP_eq]
          have key : ∀ ks : List Pf, (∀ k ∈ ks, k ∈ p.kids) → ∀ n, (looksF u ks n (d + 1)).2.1 = 0 → (preDs ks (d + 1)).map (·.1) = ks.flatMap stepsP ∧ (looksF u ks n (d + 1)).1 = n + (ks.flatMap stepsP).length ∧ ∀ x ∈ preDs ks (d + 1), x.2 ≤ 400 := by
            intro ks
            induction ks with
            | nil => intro _ n h; rw [looksF, preDs]; simp
            | cons k r ihr =>
              intro hm n h
              rw [looksF] at h ⊢
              by_cases h0 : (lookF u k n (d + 1)).2.1 = 0
              · rw [if_neg (by simpa using h0)] at h ⊢
                obtain ⟨a1, a2, a3⟩ := ih k (hm k (.head _)) n (d + 1) h0
                obtain ⟨b1, b2, b3⟩ := ihr (fun k hk => hm k (.tail _ hk)) _ h
                rw [preDs, List.map_append, a1, b1, List.flatMap_cons, b2, a2]
                refine ⟨rfl, by rw [List.length_append]; omega, fun x hx => ?_⟩
                rcases List.mem_append.1 hx with hx | hx
                · exact a3 x hx
                · exact b3 x hx
              · rw [if_pos h0] at h; exact absurd h h0
          obtain ⟨a1, a2, a3⟩ := key _ (fun k hk => hk) _ h
          rw [List.map_cons, a1, a2]
          refine ⟨rfl, by rw [List.length_cons]; omega, fun x hx => ?_⟩
          rcases List.mem_cons.1 hx with rfl | hx
          · dsimp only; omega
          · exact a3 x hx
theorem check_steps {u : Bool} {p : Pf} (h : (checkF u p).1 = 0) : (preD p 1).map (·.1) = stepsP p ∧ (stepsP p).length ≤ 20000 ∧ ∀ x ∈ preD p 1, x.2 ≤ 400 := by
  obtain ⟨a1, a2, a3⟩ := look_steps u p 0 1 h
  have := lookF_le u p 0 1 (by decide) h
  exact ⟨a1, by omega, a3⟩
theorem cuts_le (p : Pf) : cutsP p ≤ (stepsP p).length := by
  induction p using Pf.ind with
  | h p ih =>
    rw [cutsP_eq, stepsP_eq, List.length_cons]
    have key : ∀ ks : List Pf, (∀ k ∈ ks, k ∈ p.kids) → cutsL ks ≤ (ks.flatMap stepsP).length := by
      intro ks
      induction ks with
      | nil => intro _; simp [cutsL]
      | cons k r ihr =>
        intro hm
        have h1 := ih k (hm k (.head _))
        have h2 := ihr fun k hk => hm k (.tail _ hk)
        rw [cutsL, List.flatMap_cons, List.length_append]; omega
    have := key _ fun k hk => hk
    split <;> omega
/-! not vast -/
theorem vastPs_mem : ∀ {l : List Pf} {d : Int}, vastPs l d = false → ∀ k ∈ l, vastP k d = false
  | [], _, _, k, hk => nomatch hk
  | a :: r, d, h, k, hk => by
    rw [vastPs, Bool.or_eq_false_iff] at h
    rcases List.mem_cons.1 hk with rfl | hk
    · exact h.1
    · exact vastPs_mem h.2 k hk
theorem vast_szs (p : Pf) : ∀ d, vastP p d = false → Szs p := by
  induction p using Pf.ind with
  | h p ih =>
    intro d h
    rw [vastP_eq] at h
    simp only [Bool.or_eq_false_iff, decide_eq_false_iff_not] at h
    obtain ⟨h1, h2, h3, h4, h5, h6, h7, h8⟩ := h
    exact .mk ⟨by omega, by omega⟩ (fun k hk => ih k hk _ (vastPs_mem h8 k hk)) (by omega)
end Go.Proofs.Ytnoklmapofogeaa
