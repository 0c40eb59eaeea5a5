/-
  Plain laws of calculus: proofs turned (formulas put for names, a formula more at the left) stay proofs.
-/
import Derived.Test.YtnoklmapofogeaaXCcS
namespace Go.Proofs.Ytnoklmapofogeaa
open Go Go.Pv
set_option linter.unusedVariables false
set_option linter.unusedSimpArgs false
set_option maxRecDepth 100000

/-- premises alike, in whatever order each bag is -/
def PermP : List Prem → List Prem → Prop
  | [], [] => True
  | p :: ps, q :: qs => p.1.Perm q.1 ∧ p.2.Perm q.2 ∧ PermP ps qs
  | _, _ => False
/-- a turn of formulas -/
structure Turn (σ : Fm → Fm) : Prop where
  k2 : ∀ f, Pl f → f.kind ≠ 1 → (σ f).kind = f.kind ∧ (σ f).kids = f.kids.map σ
  none : ∀ f, noneF f = true → noneF (σ f) = true
theorem Turn.id : Turn id := ⟨fun f _ _ => ⟨rfl, by simp⟩, fun f h => h⟩
section
variable {σ : Fm → Fm} {e : List Fm} {f : Fm} {l r : List Fm}
theorem turn_erase (h : f ∈ l) : ((l.map σ ++ e).erase (σ f)).Perm ((l.erase f).map σ ++ e) := by
  have h1 : (l.map σ ++ e).Perm (σ f :: ((l.erase f).map σ ++ e)) := by
    have := ((List.perm_cons_erase h).map σ).append_right e
    simpa using this
  have h2 := h1.erase (σ f)
  rwa [List.erase_cons_head] at h2
theorem turn_eraseR (h : f ∈ r) : ((r.map σ).erase (σ f)).Perm ((r.erase f).map σ) := by
  simpa using turn_erase (e := []) (σ := σ) h
theorem turn_more {X A : List Fm} (h : X.Perm (A.map σ ++ e)) (b : List Fm) : (X ++ b.map σ).Perm ((A ++ b).map σ ++ e) := by
  rw [List.map_append]
  refine (h.append_right _).trans ?_
  rw [List.append_assoc, List.append_assoc]
  exact List.Perm.append_left _ List.perm_append_comm
theorem turn_moreR {X A : List Fm} (h : X.Perm (A.map σ)) (b : List Fm) : (X ++ b.map σ).Perm ((A ++ b).map σ) := by
  rw [List.map_append]; exact h.append_right _
theorem turn_kind (hσ : Turn σ) (hf : Pl f) {k : Int} (hk : k ≠ 1) (h : kindF f k l = true) : kindF (σ f) k (l.map σ ++ e) = true ∧ f ∈ l ∧ (σ f).kids = f.kids.map σ := by
  rw [kindF_iff] at h ⊢
  obtain ⟨h1, h2⟩ := hσ.k2 f hf (by omega)
  exact ⟨⟨by omega, List.mem_append_left _ (List.mem_map_of_mem h.2)⟩, h.2, h2⟩
theorem turn_kindR (hσ : Turn σ) (hf : Pl f) {k : Int} (hk : k ≠ 1) (h : kindF f k r = true) : kindF (σ f) k (r.map σ) = true ∧ f ∈ r ∧ (σ f).kids = f.kids.map σ := by
  simpa using turn_kind (e := []) hσ hf hk h
theorem turn_has (h : hasF l f = true) : hasF (l.map σ ++ e) (σ f) = true := by
  rw [hasF_iff] at h ⊢; exact List.mem_append_left _ (List.mem_map_of_mem h)
theorem turn_hasR (h : hasF r f = true) : hasF (r.map σ) (σ f) = true := by
  rw [hasF_iff] at h ⊢; exact List.mem_map_of_mem h
theorem turn_self : (l.map σ ++ e).Perm (l.map σ ++ e) := List.Perm.refl _
end
/-- a rule keeps turns -/
def Turns (R : Fm → List Fm → List Fm → List Prem × Bool) : Prop := ∀ (σ : Fm → Fm) (e : List Fm), Turn σ → ∀ (f : Fm) (l r : List Fm), Pl f → (R f l r).2 = true →
  (R (σ f) (l.map σ ++ e) (r.map σ)).2 = true ∧ PermP (R (σ f) (l.map σ ++ e) (r.map σ)).1 ((R f l r).1.map fun q => (q.1.map σ ++ e, q.2.map σ))
theorem turns_ax : Turns axR := by
  intro σ e hσ f l r hf h
  unfold axR at h ⊢
  rw [Bool.and_eq_true] at h
  exact ⟨by rw [turn_has h.1, turn_hasR h.2]; rfl, trivial⟩
theorem turns_true : Turns trueR := by
  intro σ e hσ f l r hf h
  exact ⟨(turn_kindR hσ hf (by decide) h).1, trivial⟩
theorem turns_false : Turns falseR := by
  intro σ e hσ f l r hf h
  exact ⟨(turn_kind hσ hf (by decide) h).1, trivial⟩
theorem turns_andL : Turns andLR := by
  intro σ e hσ f l r hf h
  unfold andLR at h ⊢
  by_cases hk : kindF f 5 l = true
  · obtain ⟨h1, h2, h3⟩ := turn_kind (e := e) hσ hf (by decide) hk
    rw [if_pos h1, if_pos hk]
    refine ⟨rfl, ?_, List.Perm.refl _, trivial⟩
    dsimp only
    rw [h3]
    exact turn_more (turn_erase h2) _
  · rw [if_neg hk] at h; cases h
theorem turns_andR : Turns andRR := by
  intro σ e hσ f l r hf h
  unfold andRR at h ⊢
  by_cases hk : kindF f 5 r = true
  · obtain ⟨h1, h2, h3⟩ := turn_kindR hσ hf (by decide) hk
    obtain ⟨a, b, _, _, hks, _⟩ := pl_k5 hf (kindF_iff.1 hk).1
    rw [if_pos h1, if_pos hk]
    simp only [kid, h3, hks, List.map_cons, List.map_nil, List.getD_cons_zero, List.getD_cons_succ]
    exact ⟨trivial, List.Perm.refl _, turn_moreR (turn_eraseR h2) [a], List.Perm.refl _, turn_moreR (turn_eraseR h2) [b], trivial⟩
  · rw [if_neg hk] at h; cases h
theorem turns_orL : Turns orLR := by
  intro σ e hσ f l r hf h
  unfold orLR at h ⊢
  by_cases hk : kindF f 6 l = true
  · obtain ⟨h1, h2, h3⟩ := turn_kind (e := e) hσ hf (by decide) hk
    obtain ⟨a, b, _, _, hks, _⟩ := pl_k6 hf (kindF_iff.1 hk).1
    rw [if_pos h1, if_pos hk]
    simp only [kid, h3, hks, List.map_cons, List.map_nil, List.getD_cons_zero, List.getD_cons_succ]
    exact ⟨trivial, turn_more (turn_erase h2) [a], List.Perm.refl _, turn_more (turn_erase h2) [b], List.Perm.refl _, trivial⟩
  · rw [if_neg hk] at h; cases h
theorem turns_thenR : Turns thenRR := by
  intro σ e hσ f l r hf h
  unfold thenRR at h ⊢
  by_cases hk : kindF f 7 r = true
  · obtain ⟨h1, h2, h3⟩ := turn_kindR hσ hf (by decide) hk
    obtain ⟨a, b, _, _, hks, _⟩ := pl_k7 hf (kindF_iff.1 hk).1
    rw [if_pos h1, if_pos hk]
    simp only [kid, h3, hks, List.map_cons, List.map_nil, List.getD_cons_zero, List.getD_cons_succ]
    exact ⟨trivial, turn_more turn_self [a], turn_moreR (turn_eraseR h2) [b], trivial⟩
  · rw [if_neg hk] at h; cases h
theorem turns_notR : Turns notRR := by
  intro σ e hσ f l r hf h
  unfold notRR at h ⊢
  by_cases hk : kindF f 4 r = true
  · obtain ⟨h1, h2, h3⟩ := turn_kindR hσ hf (by decide) hk
    obtain ⟨a, _, hks, _⟩ := pl_k4 hf (kindF_iff.1 hk).1
    rw [if_pos h1, if_pos hk]
    simp only [kid, h3, hks, List.map_cons, List.map_nil, List.getD_cons_zero, List.getD_cons_succ]
    exact ⟨trivial, turn_more turn_self [a], turn_eraseR h2, trivial⟩
  · rw [if_neg hk] at h; cases h
theorem turns_contrL : Turns contrLR := by
  intro σ e hσ f l r hf h
  unfold contrLR at h ⊢
  by_cases hk : hasF l f = true
  · rw [if_pos (turn_has hk), if_pos hk]
    exact ⟨rfl, turn_more turn_self [f], List.Perm.refl _, trivial⟩
  · rw [if_neg hk] at h; cases h
theorem turns_orR : Turns orRR := by
  intro σ e hσ f l r hf h
  unfold orRR at h ⊢
  by_cases hk : kindF f 6 r = true
  · obtain ⟨h1, h2, h3⟩ := turn_kindR hσ hf (by decide) hk
    rw [if_pos h1, if_pos hk]
    refine ⟨rfl, List.Perm.refl _, ?_, trivial⟩
    dsimp only
    rw [h3]
    exact turn_moreR (turn_eraseR h2) _
  · rw [if_neg hk] at h; cases h
theorem turns_thenL : Turns thenLR := by
  intro σ e hσ f l r hf h
  unfold thenLR at h ⊢
  by_cases hk : kindF f 7 l = true
  · obtain ⟨h1, h2, h3⟩ := turn_kind (e := e) hσ hf (by decide) hk
    obtain ⟨a, b, _, _, hks, _⟩ := pl_k7 hf (kindF_iff.1 hk).1
    rw [if_pos h1, if_pos hk]
    simp only [kid, h3, hks, List.map_cons, List.map_nil, List.getD_cons_zero, List.getD_cons_succ]
    exact ⟨trivial, turn_erase h2, turn_moreR (List.Perm.refl _) [a], turn_more (turn_erase h2) [b], List.Perm.refl _, trivial⟩
  · rw [if_neg hk] at h; cases h
theorem turns_notL : Turns notLR := by
  intro σ e hσ f l r hf h
  unfold notLR at h ⊢
  by_cases hk : kindF f 4 l = true
  · obtain ⟨h1, h2, h3⟩ := turn_kind (e := e) hσ hf (by decide) hk
    obtain ⟨a, _, hks, _⟩ := pl_k4 hf (kindF_iff.1 hk).1
    rw [if_pos h1, if_pos hk]
    simp only [kid, h3, hks, List.map_cons, List.map_nil, List.getD_cons_zero, List.getD_cons_succ]
    exact ⟨trivial, turn_erase h2, turn_moreR (List.Perm.refl _) [a], trivial⟩
  · rw [if_neg hk] at h; cases h
theorem turns_contrR : Turns contrRR := by
  intro σ e hσ f l r hf h
  unfold contrRR at h ⊢
  by_cases hk : hasF r f = true
  · rw [if_pos (turn_hasR hk), if_pos hk]
    exact ⟨rfl, List.Perm.refl _, turn_moreR (List.Perm.refl _) [f], trivial⟩
  · rw [if_neg hk] at h; cases h
theorem turns_cutC : Turns cutCR := by
  intro σ e hσ f l r hf h
  exact ⟨rfl, List.Perm.refl _, turn_moreR (List.Perm.refl _) [f], turn_more turn_self [f], List.Perm.refl _, trivial⟩
theorem turns_thenI : Turns thenIR := by
  intro σ e hσ f l r hf h
  unfold thenIR at h ⊢
  by_cases hk : kindF f 7 l = true
  · obtain ⟨h1, h2, h3⟩ := turn_kind (e := e) hσ hf (by decide) hk
    obtain ⟨a, b, _, _, hks, _⟩ := pl_k7 hf (kindF_iff.1 hk).1
    rw [if_pos h1, if_pos hk]
    simp only [kid, h3, hks, List.map_cons, List.map_nil, List.getD_cons_zero, List.getD_cons_succ]
    exact ⟨trivial, turn_erase h2, List.Perm.refl _, turn_more (turn_erase h2) [b], List.Perm.refl _, trivial⟩
  · rw [if_neg hk] at h; cases h
theorem turns_notI : Turns notIR := by
  intro σ e hσ f l r hf h
  unfold notIR at h ⊢
  by_cases hk : kindF f 4 l = true
  · obtain ⟨h1, h2, h3⟩ := turn_kind (e := e) hσ hf (by decide) hk
    obtain ⟨a, _, hks, _⟩ := pl_k4 hf (kindF_iff.1 hk).1
    rw [if_pos h1, if_pos hk]
    simp only [kid, h3, hks, List.map_cons, List.map_nil, List.getD_cons_zero, List.getD_cons_succ]
    exact ⟨trivial, turn_erase h2, List.Perm.refl _, trivial⟩
  · rw [if_neg hk] at h; cases h
theorem turns_cutI : Turns cutIR := by
  intro σ e hσ f l r hf h
  exact ⟨rfl, List.Perm.refl _, List.Perm.refl _, turn_more turn_self [f], List.Perm.refl _, trivial⟩
theorem turns_side {k : Nat} (h2 : k < 2) : Turns (sideR k) := by
  intro σ e hσ f l r hf h
  unfold sideR at h ⊢
  by_cases hk : kindF f 6 r = true
  · obtain ⟨h1, h3, h4⟩ := turn_kindR hσ hf (by decide) hk
    obtain ⟨a, b, _, _, hks, _⟩ := pl_k6 hf (kindF_iff.1 hk).1
    rw [if_pos h1, if_pos hk]
    have hk2 : k = 0 ∨ k = 1 := by omega
    rcases hk2 with rfl | rfl <;> simp only [kid, h4, hks, List.map_cons, List.map_nil, List.getD_cons_zero, List.getD_cons_succ] <;> exact ⟨trivial, List.Perm.refl _, List.Perm.refl _, trivial⟩
  · rw [if_neg hk] at h; cases h
theorem ruleT_turns {u : Bool} {a : ByteArray} {e : Ent} (h : ruleT u a = some e) : Turns e.R := by
  have key : ∀ T : Tab, (∀ p ∈ T, Turns p.2.R) → ∀ e, lookT T a = some e → Turns e.R := by
    intro T hT e he
    obtain ⟨p, hp, rfl⟩ := lookT_mem he
    exact hT p hp
  have hs : ∀ p ∈ sharedT, Turns p.2.R := by
    unfold sharedT
    refine List.forall_mem_cons.2 ⟨turns_ax, List.forall_mem_cons.2 ⟨turns_true, List.forall_mem_cons.2 ⟨turns_false, List.forall_mem_cons.2 ⟨turns_andL, List.forall_mem_cons.2 ⟨turns_andR, List.forall_mem_cons.2 ⟨turns_orL, List.forall_mem_cons.2 ⟨turns_thenR, List.forall_mem_cons.2 ⟨turns_notR, List.forall_mem_cons.2 ⟨turns_contrL, fun p hp => nomatch hp⟩⟩⟩⟩⟩⟩⟩⟩⟩
  have hc : ∀ p ∈ classT, Turns p.2.R := by
    unfold classT
    refine List.forall_mem_cons.2 ⟨turns_orR, List.forall_mem_cons.2 ⟨turns_thenL, List.forall_mem_cons.2 ⟨turns_notL, List.forall_mem_cons.2 ⟨turns_contrR, List.forall_mem_cons.2 ⟨turns_cutC, fun p hp => nomatch hp⟩⟩⟩⟩⟩
  have hi : ∀ p ∈ intuT, Turns p.2.R := by
    unfold intuT
    refine List.forall_mem_cons.2 ⟨turns_side (by decide), List.forall_mem_cons.2 ⟨turns_side (by decide), List.forall_mem_cons.2 ⟨turns_thenI, List.forall_mem_cons.2 ⟨turns_notI, List.forall_mem_cons.2 ⟨turns_cutI, fun p hp => nomatch hp⟩⟩⟩⟩⟩
  unfold ruleT at h
  split at h
  · rename_i e' he
    cases h
    exact key _ hs _ he
  · split at h
    · exact key _ hi _ h
    · exact key _ hc _ h
theorem pf_mk {a : ByteArray} {f : Fm} {l r : List Fm} {ks : List Pf} : (Pf.mk a f l r ks).rule = a ∧ (Pf.mk a f l r ks).f = f ∧ (Pf.mk a f l r ks).l = l ∧ (Pf.mk a f l r ks).r = r ∧ (Pf.mk a f l r ks).kids = ks := ⟨rfl, rfl, rfl, rfl, rfl⟩
mutual
/-- a proof turned -/
def turnP (σ : Fm → Fm) (e : List Fm) : Pf → Pf
  | .mk a f l r ks => .mk a (σ f) (l.map σ ++ e) (r.map σ) (turnPs σ e ks)
def turnPs (σ : Fm → Fm) (e : List Fm) : List Pf → List Pf
  | [] => []
  | p :: r => turnP σ e p :: turnPs σ e r
end
theorem turnPs_eq (σ : Fm → Fm) (e : List Fm) (l : List Pf) : turnPs σ e l = l.map (turnP σ e) := by
  induction l with
  | nil => rfl
  | cons p r ih => rw [turnPs, ih]; rfl
theorem turnP_eq (σ : Fm → Fm) (e : List Fm) (p : Pf) : turnP σ e p = .mk p.rule (σ p.f) (p.l.map σ ++ e) (p.r.map σ) (p.kids.map (turnP σ e)) := by
  cases p with | mk a f l r ks => rw [turnP, turnPs_eq]; rfl
theorem sameF_of {b c : List Fm} (h : c.Perm b) : sameF b c = true := sameF_iff.2 h
theorem PermP.len : ∀ {a b : List Prem}, PermP a b → a.length = b.length
  | [], [], _ => rfl
  | _ :: _, _ :: _, h => by simp [PermP.len h.2.2]
  | [], _ :: _, h => h.elim
  | _ :: _, [], h => h.elim
theorem meet_turn {σ : Fm → Fm} {e : List Fm} : ∀ {qs qs' : List Prem} {ks : List Pf}, PermP qs' (qs.map fun q => (q.1.map σ ++ e, q.2.map σ)) → meetB qs ks = true → meetB qs' (ks.map (turnP σ e)) = true
  | [], [], ks, _, _ => by cases ks <;> rfl
  | [], _ :: _, _, h, _ => h.elim
  | _ :: _, [], _, h, _ => h.elim
  | q :: qs, q' :: qs', [], _, _ => rfl
  | q :: qs, q' :: qs', k :: ks, h, hm => by
    rw [meetB, Bool.and_eq_true, Bool.and_eq_true, sameF_iff, sameF_iff] at hm
    rw [List.map_cons, turnP_eq, meetB, Bool.and_eq_true, Bool.and_eq_true]
    refine ⟨⟨sameF_of ?_, sameF_of ?_⟩, meet_turn h.2.2 hm.2⟩
    · exact ((hm.1.1.map σ).append_right e).trans h.1.symm
    · exact (hm.1.2.map σ).trans h.2.1.symm
theorem step_turn {σ : Fm → Fm} (hσ : Turn σ) (e : List Fm) {u : Bool} {p : Pf} (h : stepF u p = 0) (hw : p.rule ≠ ⟨#[119, 101, 97, 107]⟩ → (plainF (σ p.f)).1 = 0) : stepF u (turnP σ e p) = 0 := by
  rw [turnP_eq]
  unfold stepF at h ⊢
  simp only [pf_mk]
  by_cases hr : p.rule = ⟨#[119, 101, 97, 107]⟩
  · rw [if_pos hr] at h ⊢
    by_cases h0 : noneF p.f = false
    · rw [if_pos h0] at h; cases h
    · rw [if_neg h0] at h
      rw [if_neg (by rw [hσ.none _ (by simpa using h0)]; simp)]
      split at h
      · rename_i k hk
        rw [hk, List.map_cons, List.map_nil]
        dsimp only
        split at h
        · rename_i hb
          rw [Bool.and_eq_true, withinF_iff, withinF_iff] at hb
          obtain ⟨⟨d1, h1⟩, d2, h2⟩ := hb
          rw [if_pos]
          rw [Bool.and_eq_true, withinF_iff, withinF_iff, turnP_eq]
          simp only [pf_mk]
          refine ⟨⟨d1.map σ, ?_⟩, d2.map σ, ?_⟩
          · have := (h1.map σ).append_right e
            refine this.trans ?_
            rw [List.map_append, List.append_assoc, List.append_assoc]
            exact List.Perm.append_left _ List.perm_append_comm
          · have := h2.map σ
            rwa [List.map_append] at this
        · cases h
      · cases h
  · rw [if_neg hr] at h ⊢
    cases ht : ruleT u p.rule with
    | none => rw [ht] at h; cases h
    | some E =>
      rw [ht] at h
      dsimp only at h ⊢
      split at h
      · cases h
      · rename_i hp
        have hp0 : (plainF p.f).1 = 0 := Classical.byContradiction hp
        split at h
        · cases h
        · rename_i hb
          split at h
          · cases h
          · rename_i hl
            split at h
            · rename_i hm
              obtain ⟨t1, t2⟩ := ruleT_turns ht σ e hσ p.f p.l p.r ((plainF_iff _).1 hp0).1 (by simpa using hb)
              rw [if_neg (by simpa using hw hr), if_neg (by simp [t1]), if_neg, if_pos (meet_turn t2 hm)]
              have := t2.len
              rw [List.length_map] at this ⊢
              omega
            · cases h
mutual
/-- all steps of a proof, each ahead of those in it -/
def stepsP : Pf → List Pf
  | .mk a f l r ks => .mk a f l r ks :: stepsPs ks
def stepsPs : List Pf → List Pf
  | [] => []
  | p :: r => stepsP p ++ stepsPs r
end
theorem stepsPs_eq (l : List Pf) : stepsPs l = l.flatMap stepsP := by
  induction l with
  | nil => rfl
  | cons p r ih => rw [stepsPs, ih]; rfl
theorem stepsP_eq (p : Pf) : stepsP p = p :: p.kids.flatMap stepsP := by
  cases p with | mk a f l r ks => rw [stepsP, stepsPs_eq]; rfl
/-- a step that a turn leaves fine -/
def okT (q : Pf) : Prop := (sequentF q.l q.r).1 = 0 ∧ (q.rule ≠ ⟨#[119, 101, 97, 107]⟩ → (plainF q.f).1 = 0)
theorem look_turn {σ : Fm → Fm} (hσ : Turn σ) (e : List Fm) (u : Bool) (p : Pf) : ∀ (n : Nat) (d : Int), (lookF u p n d).2.1 = 0 → (∀ q ∈ stepsP (turnP σ e p), okT q) → lookF u (turnP σ e p) n d = ((lookF u p n d).1, (0, 0)) := by
  induction p using Pf.ind with
  | h p ih =>
    intro n d h ho
    rw [stepsP_eq] at ho
    have hok := ho _ List.mem_cons_self
    have hst : stepF u p = 0 → stepF u (turnP σ e p) = 0 := fun h => step_turn hσ e h (by rw [turnP_eq] at hok; exact hok.2)
    rw [lookF_eq] at h ⊢
    rw [lookF_eq]
    by_cases h1 : 20000 ≤ n ∨ 400 < d
    · rw [if_pos h1] at h; cases h
    · rw [if_neg h1] at h ⊢
      rw [if_neg h1]
      by_cases h2 : (sequentF p.l p.r).1 ≠ 0 ∨ (u = true ∧ 1 < p.r.length)
      · rw [if_pos h2] at h; cases h
      · rw [if_neg h2] at h ⊢
        rw [if_neg]
        · by_cases h3 : stepF u p = 0
          · rw [if_neg (show ¬ stepF u p ≠ 0 by simpa using h3)] at h ⊢
            rw [if_neg (show ¬ stepF u (turnP σ e p) ≠ 0 by simpa using hst h3)]
            have hks : (turnP σ e p).kids = p.kids.map (turnP σ e) := by rw [turnP_eq]; rfl
            rw [hks] at ho ⊢
            have key : ∀ ks : List Pf, (∀ k ∈ ks, k ∈ p.kids) → (∀ q ∈ (ks.map (turnP σ e)).flatMap stepsP, okT q) → ∀ (n : Nat) (d : Int), (looksF u ks n d).2.1 = 0 → looksF u (ks.map (turnP σ e)) n d = ((looksF u ks n d).1, (0, 0)) := by
              intro ks
              induction ks with
              | nil => intro _ _ n d h; simp [looksF]
              | cons k r ihr =>
                intro hm ho n d h
                rw [List.map_cons, List.flatMap_cons] at ho
                rw [looksF] at h
                by_cases h0 : (lookF u k n d).2.1 = 0
                · rw [if_neg (by simpa using h0)] at h
                  have hk := ih k (hm k (.head _)) n d h0 fun q hq => ho q (List.mem_append_left _ hq)
                  rw [List.map_cons, looksF, hk, if_neg (by simp), looksF, if_neg (by simpa using h0)]
                  exact ihr (fun k hk => hm k (.tail _ hk)) (fun q hq => ho q (List.mem_append_right _ hq)) _ _ h
                · rw [if_pos h0] at h; exact absurd h h0
            exact key _ (fun k hk => hk) (fun q hq => ho q (List.mem_cons_of_mem _ hq)) _ _ h
          · rw [if_pos h3] at h; exact absurd h h3
        · rintro (g | ⟨g1, g2⟩)
          · exact g hok.1
          · refine h2 (.inr ⟨g1, ?_⟩)
            rw [turnP_eq] at g2
            simpa [Pf.r] using g2
end Go.Proofs.Ytnoklmapofogeaa
