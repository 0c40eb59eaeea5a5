/-
  Plain laws of calculus: bags by counts; each step keeps the truth.
-/
import Derived.Test.YtnoklmapofogeaaXCcH
namespace Go.Proofs.Ytnoklmapofogeaa
open Go Go.Pv
set_option linter.unusedVariables false
set_option linter.unusedSimpArgs false
set_option maxRecDepth 100000

theorem withinF_perm : ∀ (b c : List Fm), withinF b c = true → ∃ d, c.Perm (b ++ d)
  | [], c, _ => ⟨c, List.Perm.refl _⟩
  | f :: b, c, h => by
    rw [withinF, Bool.and_eq_true, hasF_iff] at h
    obtain ⟨d, hd⟩ := withinF_perm b _ h.2
    exact ⟨d, (List.perm_cons_erase h.1).trans (hd.cons f)⟩
theorem withinF_of {b : List Fm} : ∀ {c d : List Fm}, c.Perm (b ++ d) → withinF b c = true := by
  induction b with
  | nil => intros; rfl
  | cons f b ih =>
    intro c d h
    rw [withinF, Bool.and_eq_true, hasF_iff]
    refine ⟨h.mem_iff.2 (by simp), ih (d := d) ?_⟩
    have := h.erase f
    rwa [List.cons_append, List.erase_cons_head] at this
theorem withinF_iff {b c : List Fm} : withinF b c = true ↔ ∃ d, c.Perm (b ++ d) := ⟨withinF_perm b c, fun ⟨_, h⟩ => withinF_of h⟩
theorem sameF_iff {b c : List Fm} : sameF b c = true ↔ c.Perm b := by
  unfold sameF
  rw [Bool.and_eq_true, decide_eq_true_eq, withinF_iff]
  constructor
  · rintro ⟨hl, d, hd⟩
    have := hd.length_eq
    rw [List.length_append] at this
    have : d = [] := List.length_eq_zero_iff.1 (by omega)
    subst this; simpa using hd
  · intro h
    exact ⟨h.length_eq.symm, [], by simpa using h⟩
section
variable {v : ByteArray → Bool} {l r : List Fm} {f : Fm}
end
theorem pl_k4 {f : Fm} (hf : Pl f) (h : f.kind = 4) : ∃ a, Pl a ∧ f.kids = [a] ∧ ∀ v, tv v f = !tv v a := by
  rcases hf.seven with ⟨nm, _, rfl⟩ | rfl | rfl | ⟨a, ha, rfl⟩ | ⟨a, b, _, _, rfl⟩ | ⟨a, b, _, _, rfl⟩ | ⟨a, b, _, _, rfl⟩ <;> simp at h
  exact ⟨a, ha, rfl, fun v => tv_4⟩
theorem pl_k5 {f : Fm} (hf : Pl f) (h : f.kind = 5) : ∃ a b, Pl a ∧ Pl b ∧ f.kids = [a, b] ∧ ∀ v, tv v f = (tv v a && tv v b) := by
  rcases hf.seven with ⟨nm, _, rfl⟩ | rfl | rfl | ⟨a, ha, rfl⟩ | ⟨a, b, ha, hb, rfl⟩ | ⟨a, b, _, _, rfl⟩ | ⟨a, b, _, _, rfl⟩ <;> simp at h
  exact ⟨a, b, ha, hb, rfl, fun v => tv_5⟩
theorem pl_k6 {f : Fm} (hf : Pl f) (h : f.kind = 6) : ∃ a b, Pl a ∧ Pl b ∧ f.kids = [a, b] ∧ ∀ v, tv v f = (tv v a || tv v b) := by
  rcases hf.seven with ⟨nm, _, rfl⟩ | rfl | rfl | ⟨a, ha, rfl⟩ | ⟨a, b, _, _, rfl⟩ | ⟨a, b, ha, hb, rfl⟩ | ⟨a, b, _, _, rfl⟩ <;> simp at h
  exact ⟨a, b, ha, hb, rfl, fun v => tv_6⟩
theorem pl_k7 {f : Fm} (hf : Pl f) (h : f.kind = 7) : ∃ a b, Pl a ∧ Pl b ∧ f.kids = [a, b] ∧ ∀ v, tv v f = (!tv v a || tv v b) := by
  rcases hf.seven with ⟨nm, _, rfl⟩ | rfl | rfl | ⟨a, ha, rfl⟩ | ⟨a, b, _, _, rfl⟩ | ⟨a, b, _, _, rfl⟩ | ⟨a, b, ha, hb, rfl⟩ <;> simp at h
  exact ⟨a, b, ha, hb, rfl, fun v => tv_7⟩
theorem kindF_iff {f : Fm} {k : Int} {l : List Fm} : kindF f k l = true ↔ f.kind = k ∧ f ∈ l := by simp [kindF, hasF_iff]
end Go.Proofs.Ytnoklmapofogeaa
