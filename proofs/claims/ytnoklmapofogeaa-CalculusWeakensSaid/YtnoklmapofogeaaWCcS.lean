/-
  Plain laws of calculus: bags by counts; each step keeps the truth.
-/
import Derived.Test.YtnoklmapofogeaaWCcH
namespace Go.Proofs.Ytnoklmapofogeaa
open Go Go.Pv
set_option linter.unusedVariables false
set_option linter.unusedSimpArgs false
set_option maxRecDepth 100000

theorem withinF_perm : ∀ (b c : List Fm), withinF b c = true → ∃ d, c.Perm (b ++ d)
  | [], c, _ => ⟨c, List.Perm.refl _⟩
  | f :: b, c, h => by
    rw [withinF, Bool.and_eq_true, hasF_iff] at h
    obtain ⟨d, hd⟩ := withinF_perm b _ h.2
    exact ⟨d, (List.perm_cons_erase h.1).trans (hd.cons f)⟩
theorem withinF_of {b : List Fm} : ∀ {c d : List Fm}, c.Perm (b ++ d) → withinF b c = true := by
  induction b with
  | nil => intros; rfl
  | cons f b ih =>
    intro c d h
    rw [withinF, Bool.and_eq_true, hasF_iff]
    refine ⟨h.mem_iff.2 (by simp), ih (d := d) ?_⟩
    have := h.erase f
    rwa [List.cons_append, List.erase_cons_head] at this
theorem withinF_iff {b c : List Fm} : withinF b c = true ↔ ∃ d, c.Perm (b ++ d) := ⟨withinF_perm b c, fun ⟨_, h⟩ => withinF_of h⟩
theorem sameF_iff {b c : List Fm} : sameF b c = true ↔ c.Perm b := by
  unfold sameF
  rw [Bool.and_eq_true, decide_eq_true_eq, withinF_iff]
  constructor
  · rintro ⟨hl, d, hd⟩
    have := hd.length_eq
    rw [List.length_append] at this
    have : d = [] := List.length_eq_zero_iff.1 (by omega)
    subst this; simpa using hd
  · intro h
    exact ⟨h.length_eq.symm, [], by simpa using h⟩
section
variable {v : ByteArray → Bool} {l r : List Fm} {f : Fm}
end
theorem pl_k4 {f : Fm} (hf : Pl f) (h : f.kind = 4) : ∃ a, Pl a ∧ f.kids = [a] ∧ ∀ v, tv v f = !tv v a := by
  rcases hf.seven with ⟨nm, _, rfl⟩ | rfl | rfl | ⟨a, ha, rfl⟩ | ⟨a, b, _, _, rfl⟩ | ⟨a, b, _, _, rfl⟩ | ⟨a, b, _, _, rfl⟩ <;> simp at h
  exact ⟨a, ha, rfl, fun v => tv_4⟩
theorem pl_k5 {f : Fm} (hf : Pl f) (h : f.kind = 5) : ∃ a b, Pl a ∧ Pl b ∧ f.kids = [a, b] ∧ ∀ v, tv v f = (tv v a && tv v b) := by
  rcases hf.seven with ⟨nm, _, rfl⟩ | rfl | rfl | ⟨a, ha, rfl⟩ | ⟨a, b, ha, hb, rfl⟩ | ⟨a, b, _, _, rfl⟩ | ⟨a, b, _, _, rfl⟩ <;> simp at h
  exact ⟨a, b, ha, hb, rfl, fun v => tv_5⟩
theorem pl_k6 {f : Fm} (hf : Pl f) (h : f.kind = 6) : ∃ a b, Pl a ∧ Pl b ∧ f.kids = [a, b] ∧ ∀ v, tv v f = (tv v a || tv v b) := by
  rcases hf.seven with ⟨nm, _, rfl⟩ | rfl | rfl | ⟨a, ha, rfl⟩ | ⟨a, b, _, _, rfl⟩ | ⟨a, b, ha, hb, rfl⟩ | ⟨a, b, _, _, rfl⟩ <;> simp at h
  exact ⟨a, b, ha, hb, rfl, fun v => tv_6⟩
theorem pl_k7 {f : Fm} (hf : Pl f) (h : f.kind = 7) : ∃ a b, Pl a ∧ Pl b ∧ f.kids = [a, b] ∧ ∀ v, tv v f = (!tv v a || tv v b) := by
  rcases hf.seven with ⟨nm, _, rfl⟩ | rfl | rfl | ⟨a, ha, rfl⟩ | ⟨a, b, _, _, rfl⟩ | ⟨a, b, _, _, rfl⟩ | ⟨a, b, ha, hb, rfl⟩ <;> simp at h
  exact ⟨a, b, ha, hb, rfl, fun v => tv_7⟩
theorem kindF_iff {f : Fm} {k : Int} {l : List Fm} : kindF f k l = true ↔ f.kind = k ∧ f ∈ l := by simp [kindF, hasF_iff]
/-- what a fine proof's steps are like -/
inductive Fine (u : Bool) : Pf → Prop where
  | mk {p : Pf} (hs : (sequentF p.l p.r).1 = 0) (hi : u = true → p.r.length ≤ 1) (h : stepF u p = 0) (hk : ∀ k ∈ p.kids, Fine u k) : Fine u p
theorem Fine.of_look {u : Bool} : ∀ (p : Pf) (n : Nat) (d : Int), (lookF u p n d).2.1 = 0 → Fine u p := by
  intro p
  induction p using Pf.ind with
  | h p ih =>
    intro n d h
    rw [lookF_eq] at h
    split at h
    · cases h
    · split at h
      · cases h
      · rename_i h2
        split at h
        · rename_i h3; exact absurd h h3
        · rename_i h3
          have key : ∀ ks : List Pf, (∀ k ∈ ks, k ∈ p.kids) → ∀ (n : Nat) (d : Int), (looksF u ks n d).2.1 = 0 → ∀ k ∈ ks, Fine u k := by
            intro ks
            induction ks with
            | nil => intro _ _ _ _ k hk; cases hk
            | cons a r ihr =>
              intro hm n d h k hk
              rw [looksF] at h
              by_cases h0 : (lookF u a n d).2.1 = 0
              · rw [if_neg (by simpa using h0)] at h
                rcases List.mem_cons.1 hk with rfl | hk
                · exact ih _ (hm _ (.head _)) _ _ h0
                · exact ihr (fun k hk => hm k (.tail _ hk)) _ _ h k hk
              · rw [if_pos h0] at h; exact absurd h h0
          refine .mk (Classical.byContradiction fun g => h2 (.inl g)) (fun hu => ?_) (Classical.byContradiction fun g => h3 g) (key _ (fun k hk => hk) _ _ h)
          have : ¬ 1 < p.r.length := fun g => h2 (.inr ⟨hu, g⟩)
          omega
theorem seqGo_all : ∀ {l : List Fm} {i : Nat}, (seqGo l i).1 = 0 → ∀ f ∈ l, (plainF f).1 = 0
  | [], _, _, f, hf => nomatch hf
  | a :: r, i, h, f, hf => by
    rw [seqGo] at h
    by_cases h0 : (plainF a).1 = 0
    · rw [if_neg (by simpa using h0)] at h
      rcases List.mem_cons.1 hf with rfl | hf
      · exact h0
      · exact seqGo_all h f hf
    · rw [if_pos h0] at h; exact absurd h h0
theorem sequent_all {l r : List Fm} (h : (sequentF l r).1 = 0) : l.length + r.length ≤ 60 ∧ (∀ f ∈ l, (plainF f).1 = 0) ∧ ∀ f ∈ r, (plainF f).1 = 0 := by
  unfold sequentF at h
  split at h
  · cases h
  · have := seqGo_all h
    exact ⟨by omega, fun f hf => this f (by simp [hf]), fun f hf => this f (by simp [hf])⟩
end Go.Proofs.Ytnoklmapofogeaa
