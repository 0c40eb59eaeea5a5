/-
  Plain laws of calculus: bags by counts; each step keeps the truth.
-/
import Derived.Test.YtnoklmapofogeaaZCcH
namespace Go.Proofs.Ytnoklmapofogeaa
open Go Go.Pv
set_option linter.unusedVariables false
set_option linter.unusedSimpArgs false
set_option maxRecDepth 100000

theorem withinF_perm : ∀ (b c : List Fm), withinF b c = true → ∃ d, c.Perm (b ++ d)
  | [], c, _ => ⟨c, List.Perm.refl _⟩
  | f :: b, c, h => by
    rw [withinF, Bool.and_eq_true, hasF_iff] at h
    obtain ⟨d, hd⟩ := withinF_perm b _ h.2
    exact ⟨d, (List.perm_cons_erase h.1).trans (hd.cons f)⟩
theorem withinF_of {b : List Fm} : ∀ {c d : List Fm}, c.Perm (b ++ d) → withinF b c = true := by
  induction b with
  | nil => intros; rfl
  | cons f b ih =>
    intro c d h
    rw [withinF, Bool.and_eq_true, hasF_iff]
    refine ⟨h.mem_iff.2 (by simp), ih (d := d) ?_⟩
    have := h.erase f
    rwa [List.cons_append, List.erase_cons_head] at this
theorem withinF_iff {b c : List Fm} : withinF b c = true ↔ ∃ d, c.Perm (b ++ d) := ⟨withinF_perm b c, fun ⟨_, h⟩ => withinF_of h⟩
theorem sameF_iff {b c : List Fm} : sameF b c = true ↔ c.Perm b := by
  unfold sameF
  rw [Bool.and_eq_true, decide_eq_true_eq, withinF_iff]
  constructor
  · rintro ⟨hl, d, hd⟩
    have := hd.length_eq
    rw [List.length_append] at this
    have : d = [] := List.length_eq_zero_iff.1 (by omega)
    subst this; simpa using hd
  · intro h
    exact ⟨h.length_eq.symm, [], by simpa using h⟩
theorem within_mem {b c : List Fm} (h : withinF b c = true) {x : Fm} (hx : x ∈ b) : x ∈ c := by
  obtain ⟨d, hd⟩ := withinF_iff.1 h
  exact hd.mem_iff.2 (List.mem_append_left _ hx)
/-- is a sequent true? -/
def AllT (v : ByteArray → Bool) (l : List Fm) : Prop := ∀ f ∈ l, tv v f = true
def AnyT (v : ByteArray → Bool) (r : List Fm) : Prop := ∃ f ∈ r, tv v f = true
def SqT (v : ByteArray → Bool) (l r : List Fm) : Prop := AllT v l → AnyT v r
section
variable {v : ByteArray → Bool} {l r : List Fm} {f : Fm}
theorem allT_app {a b : List Fm} : AllT v (a ++ b) ↔ AllT v a ∧ AllT v b := by
  unfold AllT; simp only [List.mem_append, or_imp, forall_and]
theorem anyT_app {a b : List Fm} : AnyT v (a ++ b) ↔ AnyT v a ∨ AnyT v b := by
  unfold AnyT; simp only [List.mem_append, or_and_right, exists_or]
theorem allT_one : AllT v [f] ↔ tv v f = true := by unfold AllT; simp
theorem anyT_one : AnyT v [f] ↔ tv v f = true := by unfold AnyT; simp
theorem allT_two {g : Fm} : AllT v [f, g] ↔ tv v f = true ∧ tv v g = true := by unfold AllT; simp
theorem anyT_two {g : Fm} : AnyT v [f, g] ↔ tv v f = true ∨ tv v g = true := by unfold AnyT; simp
theorem allT_erase (h : f ∈ l) : AllT v l ↔ tv v f = true ∧ AllT v (l.erase f) := by
  have hp := List.perm_cons_erase h
  unfold AllT
  simp only [hp.mem_iff, List.mem_cons, forall_eq_or_imp]
theorem anyT_erase (h : f ∈ r) : AnyT v r ↔ tv v f = true ∨ AnyT v (r.erase f) := by
  have hp := List.perm_cons_erase h
  unfold AnyT
  simp only [hp.mem_iff, List.mem_cons, exists_eq_or_imp]
theorem SqT.perm {a b : List Fm} (h : SqT v l r) (h1 : a.Perm l) (h2 : b.Perm r) : SqT v a b := by
  intro g
  obtain ⟨x, hx, ht⟩ := h fun x hx => g x (h1.mem_iff.2 hx)
  exact ⟨x, h2.mem_iff.2 hx, ht⟩
end
theorem pl_k4 {f : Fm} (hf : Pl f) (h : f.kind = 4) : ∃ a, Pl a ∧ f.kids = [a] ∧ ∀ v, tv v f = !tv v a := by
  rcases hf.seven with ⟨nm, _, rfl⟩ | rfl | rfl | ⟨a, ha, rfl⟩ | ⟨a, b, _, _, rfl⟩ | ⟨a, b, _, _, rfl⟩ | ⟨a, b, _, _, rfl⟩ <;> simp at h
  exact ⟨a, ha, rfl, fun v => tv_4⟩
theorem pl_k5 {f : Fm} (hf : Pl f) (h : f.kind = 5) : ∃ a b, Pl a ∧ Pl b ∧ f.kids = [a, b] ∧ ∀ v, tv v f = (tv v a && tv v b) := by
  rcases hf.seven with ⟨nm, _, rfl⟩ | rfl | rfl | ⟨a, ha, rfl⟩ | ⟨a, b, ha, hb, rfl⟩ | ⟨a, b, _, _, rfl⟩ | ⟨a, b, _, _, rfl⟩ <;> simp at h
  exact ⟨a, b, ha, hb, rfl, fun v => tv_5⟩
theorem pl_k6 {f : Fm} (hf : Pl f) (h : f.kind = 6) : ∃ a b, Pl a ∧ Pl b ∧ f.kids = [a, b] ∧ ∀ v, tv v f = (tv v a || tv v b) := by
  rcases hf.seven with ⟨nm, _, rfl⟩ | rfl | rfl | ⟨a, ha, rfl⟩ | ⟨a, b, _, _, rfl⟩ | ⟨a, b, ha, hb, rfl⟩ | ⟨a, b, _, _, rfl⟩ <;> simp at h
  exact ⟨a, b, ha, hb, rfl, fun v => tv_6⟩
theorem pl_k7 {f : Fm} (hf : Pl f) (h : f.kind = 7) : ∃ a b, Pl a ∧ Pl b ∧ f.kids = [a, b] ∧ ∀ v, tv v f = (!tv v a || tv v b) := by
  rcases hf.seven with ⟨nm, _, rfl⟩ | rfl | rfl | ⟨a, ha, rfl⟩ | ⟨a, b, _, _, rfl⟩ | ⟨a, b, _, _, rfl⟩ | ⟨a, b, ha, hb, rfl⟩ <;> simp at h
  exact ⟨a, b, ha, hb, rfl, fun v => tv_7⟩
theorem pl_k2 {f : Fm} (hf : Pl f) (h : f.kind = 2) : ∀ v, tv v f = true := by
  rcases hf.seven with ⟨nm, _, rfl⟩ | rfl | rfl | ⟨a, ha, rfl⟩ | ⟨a, b, _, _, rfl⟩ | ⟨a, b, _, _, rfl⟩ | ⟨a, b, _, _, rfl⟩ <;> simp at h
  exact fun v => tv_2
theorem pl_k3 {f : Fm} (hf : Pl f) (h : f.kind = 3) : ∀ v, tv v f = false := by
  rcases hf.seven with ⟨nm, _, rfl⟩ | rfl | rfl | ⟨a, ha, rfl⟩ | ⟨a, b, _, _, rfl⟩ | ⟨a, b, _, _, rfl⟩ | ⟨a, b, _, _, rfl⟩ <;> simp at h
  exact fun v => tv_3
/-- a rule keeps the truth -/
def Keeps (R : Fm → List Fm → List Fm → List Prem × Bool) : Prop := ∀ (v : ByteArray → Bool) (f : Fm) (l r : List Fm), Pl f → (R f l r).2 = true → (∀ q ∈ (R f l r).1, SqT v q.1 q.2) → SqT v l r
theorem kindF_iff {f : Fm} {k : Int} {l : List Fm} : kindF f k l = true ↔ f.kind = k ∧ f ∈ l := by simp [kindF, hasF_iff]
theorem keeps_ax : Keeps axR := by
  intro v f l r hf h hq
  simp only [axR, Bool.and_eq_true, hasF_iff] at h
  exact fun g => ⟨f, h.2, g f h.1⟩
theorem keeps_true : Keeps trueR := by
  intro v f l r hf h hq
  simp only [trueR, kindF_iff] at h
  exact fun g => ⟨f, h.2, pl_k2 hf h.1 v⟩
theorem keeps_false : Keeps falseR := by
  intro v f l r hf h hq
  simp only [falseR, kindF_iff] at h
  intro g
  have := g f h.2
  rw [pl_k3 hf h.1 v] at this; cases this
theorem keeps_andL : Keeps andLR := by
  intro v f l r hf h hq
  unfold andLR at h hq
  by_cases hk : kindF f 5 l = true
  · rw [if_pos hk] at hq
    rw [kindF_iff] at hk
    obtain ⟨a, b, _, _, hks, ht⟩ := pl_k5 hf hk.1
    have := hq _ List.mem_cons_self
    simp only [SqT, hks, allT_app, allT_two, allT_erase hk.2, ht v, Bool.and_eq_true] at this ⊢
    grind
  · rw [if_neg hk] at h; cases h
theorem keeps_andR : Keeps andRR := by
  intro v f l r hf h hq
  unfold andRR at h hq
  by_cases hk : kindF f 5 r = true
  · rw [if_pos hk] at hq
    rw [kindF_iff] at hk
    obtain ⟨a, b, _, _, hks, ht⟩ := pl_k5 hf hk.1
    have h1 := hq _ List.mem_cons_self
    have h2 := hq _ (List.mem_cons_of_mem _ List.mem_cons_self)
    simp only [SqT, kid, hks, anyT_app, anyT_one, anyT_erase hk.2, ht v, Bool.and_eq_true, List.getD_cons_zero, List.getD_cons_succ] at h1 h2 ⊢
    grind
  · rw [if_neg hk] at h; cases h
theorem keeps_orL : Keeps orLR := by
  intro v f l r hf h hq
  unfold orLR at h hq
  by_cases hk : kindF f 6 l = true
  · rw [if_pos hk] at hq
    rw [kindF_iff] at hk
    obtain ⟨a, b, _, _, hks, ht⟩ := pl_k6 hf hk.1
    have h1 := hq _ List.mem_cons_self
    have h2 := hq _ (List.mem_cons_of_mem _ List.mem_cons_self)
    simp only [SqT, kid, hks, allT_app, allT_one, allT_erase hk.2, ht v, Bool.or_eq_true, List.getD_cons_zero, List.getD_cons_succ] at h1 h2 ⊢
    grind
  · rw [if_neg hk] at h; cases h
theorem keeps_thenR : Keeps thenRR := by
  intro v f l r hf h hq
  unfold thenRR at h hq
  by_cases hk : kindF f 7 r = true
  · rw [if_pos hk] at hq
    rw [kindF_iff] at hk
    obtain ⟨a, b, _, _, hks, ht⟩ := pl_k7 hf hk.1
    have h1 := hq _ List.mem_cons_self
    simp only [SqT, kid, hks, allT_app, allT_one, anyT_app, anyT_one, anyT_erase hk.2, ht v, Bool.or_eq_true, Bool.not_eq_true', List.getD_cons_zero, List.getD_cons_succ] at h1 ⊢
    grind
  · rw [if_neg hk] at h; cases h
theorem keeps_notR : Keeps notRR := by
  intro v f l r hf h hq
  unfold notRR at h hq
  by_cases hk : kindF f 4 r = true
  · rw [if_pos hk] at hq
    rw [kindF_iff] at hk
    obtain ⟨a, _, hks, ht⟩ := pl_k4 hf hk.1
    have h1 := hq _ List.mem_cons_self
    simp only [SqT, kid, hks, allT_app, allT_one, anyT_app, anyT_one, anyT_erase hk.2, ht v, Bool.not_eq_true', List.getD_cons_zero, List.getD_cons_succ] at h1 ⊢
    grind
  · rw [if_neg hk] at h; cases h
theorem keeps_contrL : Keeps contrLR := by
  intro v f l r hf h hq
  unfold contrLR at h hq
  by_cases hk : hasF l f = true
  · rw [if_pos hk] at hq
    rw [hasF_iff] at hk
    have h1 := hq _ List.mem_cons_self
    simp only [SqT, allT_app, allT_one] at h1 ⊢
    exact fun g => h1 ⟨g, g f hk⟩
  · rw [if_neg hk] at h; cases h
theorem keeps_contrR : Keeps contrRR := by
  intro v f l r hf h hq
  unfold contrRR at h hq
  by_cases hk : hasF r f = true
  · rw [if_pos hk] at hq
    rw [hasF_iff] at hk
    have h1 := hq _ List.mem_cons_self
    simp only [SqT, anyT_app, anyT_one] at h1 ⊢
    exact fun g => (h1 g).elim id fun h => ⟨f, hk, h⟩
  · rw [if_neg hk] at h; cases h
theorem keeps_orR : Keeps orRR := by
  intro v f l r hf h hq
  unfold orRR at h hq
  by_cases hk : kindF f 6 r = true
  · rw [if_pos hk] at hq
    rw [kindF_iff] at hk
    obtain ⟨a, b, _, _, hks, ht⟩ := pl_k6 hf hk.1
    have h1 := hq _ List.mem_cons_self
    simp only [SqT, hks, anyT_app, anyT_two, anyT_erase hk.2, ht v, Bool.or_eq_true] at h1 ⊢
    grind
  · rw [if_neg hk] at h; cases h
theorem keeps_thenL : Keeps thenLR := by
  intro v f l r hf h hq
  unfold thenLR at h hq
  by_cases hk : kindF f 7 l = true
  · rw [if_pos hk] at hq
    rw [kindF_iff] at hk
    obtain ⟨a, b, _, _, hks, ht⟩ := pl_k7 hf hk.1
    have h1 := hq _ List.mem_cons_self
    have h2 := hq _ (List.mem_cons_of_mem _ List.mem_cons_self)
    simp only [SqT, kid, hks, allT_app, allT_one, anyT_app, anyT_one, allT_erase hk.2, ht v, Bool.or_eq_true, Bool.not_eq_true', List.getD_cons_zero, List.getD_cons_succ] at h1 h2 ⊢
    grind
  · rw [if_neg hk] at h; cases h
theorem keeps_notL : Keeps notLR := by
  intro v f l r hf h hq
  unfold notLR at h hq
  by_cases hk : kindF f 4 l = true
  · rw [if_pos hk] at hq
    rw [kindF_iff] at hk
    obtain ⟨a, _, hks, ht⟩ := pl_k4 hf hk.1
    have h1 := hq _ List.mem_cons_self
    simp only [SqT, kid, hks, allT_app, allT_one, anyT_app, anyT_one, allT_erase hk.2, ht v, Bool.not_eq_true', List.getD_cons_zero, List.getD_cons_succ] at h1 ⊢
    grind
  · rw [if_neg hk] at h; cases h
theorem keeps_cutC : Keeps cutCR := by
  intro v f l r hf h hq
  unfold cutCR at hq
  have h1 := hq _ List.mem_cons_self
  have h2 := hq _ (List.mem_cons_of_mem _ List.mem_cons_self)
  simp only [SqT, allT_app, allT_one, anyT_app, anyT_one] at h1 h2 ⊢
  grind
theorem keeps_thenI : Keeps thenIR := by
  intro v f l r hf h hq
  unfold thenIR at h hq
  by_cases hk : kindF f 7 l = true
  · rw [if_pos hk] at hq
    rw [kindF_iff] at hk
    obtain ⟨a, b, _, _, hks, ht⟩ := pl_k7 hf hk.1
    have h1 := hq _ List.mem_cons_self
    have h2 := hq _ (List.mem_cons_of_mem _ List.mem_cons_self)
    simp only [SqT, kid, hks, allT_app, allT_one, anyT_app, anyT_one, allT_erase hk.2, ht v, Bool.or_eq_true, Bool.not_eq_true', List.getD_cons_zero, List.getD_cons_succ] at h1 h2 ⊢
    grind
  · rw [if_neg hk] at h; cases h
theorem keeps_notI : Keeps notIR := by
  intro v f l r hf h hq
  unfold notIR at h hq
  by_cases hk : kindF f 4 l = true
  · rw [if_pos hk] at hq
    rw [kindF_iff] at hk
    obtain ⟨a, _, hks, ht⟩ := pl_k4 hf hk.1
    have h1 := hq _ List.mem_cons_self
    simp only [SqT, kid, hks, allT_app, allT_one, anyT_app, anyT_one, allT_erase hk.2, ht v, Bool.not_eq_true', List.getD_cons_zero, List.getD_cons_succ] at h1 ⊢
    grind
  · rw [if_neg hk] at h; cases h
theorem keeps_cutI : Keeps cutIR := by
  intro v f l r hf h hq
  unfold cutIR at hq
  have h1 := hq _ List.mem_cons_self
  have h2 := hq _ (List.mem_cons_of_mem _ List.mem_cons_self)
  simp only [SqT, allT_app, allT_one, anyT_app, anyT_one] at h1 h2 ⊢
  grind
theorem keeps_side {k : Nat} (h2 : k < 2) : Keeps (sideR k) := by
  intro v f l r hf h hq
  unfold sideR at h hq
  by_cases hk : kindF f 6 r = true
  · rw [if_pos hk] at hq
    rw [kindF_iff] at hk
    obtain ⟨a, b, _, _, hks, ht⟩ := pl_k6 hf hk.1
    have h1 := hq _ List.mem_cons_self
    have hk2 : k = 0 ∨ k = 1 := by omega
    rcases hk2 with rfl | rfl <;> simp only [SqT, kid, hks, anyT_one, anyT_erase hk.2, ht v, Bool.or_eq_true, List.getD_cons_zero, List.getD_cons_succ] at h1 ⊢ <;> grind
  · rw [if_neg hk] at h; cases h
theorem ruleT_keeps {u : Bool} {a : ByteArray} {e : Ent} (h : ruleT u a = some e) : Keeps e.R := by
  have key : ∀ T : Tab, (∀ p ∈ T, Keeps p.2.R) → ∀ e, lookT T a = some e → Keeps e.R := by
    intro T hT e he
    obtain ⟨p, hp, rfl⟩ := lookT_mem he
    exact hT p hp
  have hs : ∀ p ∈ sharedT, Keeps p.2.R := by
    unfold sharedT
    refine List.forall_mem_cons.2 ⟨keeps_ax, List.forall_mem_cons.2 ⟨keeps_true, List.forall_mem_cons.2 ⟨keeps_false, List.forall_mem_cons.2 ⟨keeps_andL, List.forall_mem_cons.2 ⟨keeps_andR, List.forall_mem_cons.2 ⟨keeps_orL, List.forall_mem_cons.2 ⟨keeps_thenR, List.forall_mem_cons.2 ⟨keeps_notR, List.forall_mem_cons.2 ⟨keeps_contrL, fun p hp => nomatch hp⟩⟩⟩⟩⟩⟩⟩⟩⟩
  have hc : ∀ p ∈ classT, Keeps p.2.R := by
    unfold classT
    refine List.forall_mem_cons.2 ⟨keeps_orR, List.forall_mem_cons.2 ⟨keeps_thenL, List.forall_mem_cons.2 ⟨keeps_notL, List.forall_mem_cons.2 ⟨keeps_contrR, List.forall_mem_cons.2 ⟨keeps_cutC, fun p hp => nomatch hp⟩⟩⟩⟩⟩
  have hi : ∀ p ∈ intuT, Keeps p.2.R := by
    unfold intuT
    refine List.forall_mem_cons.2 ⟨keeps_side (by decide), List.forall_mem_cons.2 ⟨keeps_side (by decide), List.forall_mem_cons.2 ⟨keeps_thenI, List.forall_mem_cons.2 ⟨keeps_notI, List.forall_mem_cons.2 ⟨keeps_cutI, fun p hp => nomatch hp⟩⟩⟩⟩⟩
  unfold ruleT at h
  split at h
  · rename_i e' he
    cases h
    exact key _ hs _ he
  · split at h
    · exact key _ hi _ h
    · exact key _ hc _ h
theorem meetB_iff : ∀ {qs : List Prem} {ks : List Pf}, qs.length = ks.length → meetB qs ks = true → ∀ q ∈ qs, ∃ k ∈ ks, k.l.Perm q.1 ∧ k.r.Perm q.2
  | [], _, _, _, q, hq => nomatch hq
  | q :: qs, [], hl, _, _, _ => by simp at hl
  | q :: qs, k :: ks, hl, h, x, hx => by
    rw [meetB, Bool.and_eq_true, Bool.and_eq_true, sameF_iff, sameF_iff] at h
    rcases List.mem_cons.1 hx with rfl | hx
    · exact ⟨k, List.mem_cons_self, h.1.1, h.1.2⟩
    · obtain ⟨k', hk, h'⟩ := meetB_iff (by simpa using hl) h.2 x hx
      exact ⟨k', List.mem_cons_of_mem _ hk, h'⟩
/-- what a fine proof's steps are like -/
inductive Fine (u : Bool) : Pf → Prop where
  | mk {p : Pf} (hs : (sequentF p.l p.r).1 = 0) (hi : u = true → p.r.length ≤ 1) (h : stepF u p = 0) (hk : ∀ k ∈ p.kids, Fine u k) : Fine u p
theorem Fine.of_look {u : Bool} : ∀ (p : Pf) (n : Nat) (d : Int), (lookF u p n d).2.1 = 0 → Fine u p := by
  intro p
  induction p using Pf.ind with
  | h p ih =>
    intro n d h
    rw [lookF_eq] at h
    split at h
    · cases h
    · split at h
      · cases h
      · rename_i h2
        split at h
        · rename_i h3; exact absurd h h3
        · rename_i h3
          have key : ∀ ks : List Pf, (∀ k ∈ ks, k ∈ p.kids) → ∀ (n : Nat) (d : Int), (looksF u ks n d).2.1 = 0 → ∀ k ∈ ks, Fine u k := by
            intro ks
            induction ks with
            | nil => intro _ _ _ _ k hk; cases hk
            | cons a r ihr =>
              intro hm n d h k hk
              rw [looksF] at h
              by_cases h0 : (lookF u a n d).2.1 = 0
              · rw [if_neg (by simpa using h0)] at h
                rcases List.mem_cons.1 hk with rfl | hk
                · exact ih _ (hm _ (.head _)) _ _ h0
                · exact ihr (fun k hk => hm k (.tail _ hk)) _ _ h k hk
              · rw [if_pos h0] at h; exact absurd h h0
          refine .mk (Classical.byContradiction fun g => h2 (.inl g)) (fun hu => ?_) (Classical.byContradiction fun g => h3 g) (key _ (fun k hk => hk) _ _ h)
          have : ¬ 1 < p.r.length := fun g => h2 (.inr ⟨hu, g⟩)
          omega
theorem fine_true {u : Bool} {p : Pf} (h : Fine u p) (v : ByteArray → Bool) : SqT v p.l p.r := by
  induction h with
  | mk hs hi h hk ih =>
    rename_i p
    unfold stepF at h
    split at h
    · split at h
      · cases h
      · split at h
        · rename_i k hks
          split at h
          · rename_i hw
            rw [Bool.and_eq_true] at hw
            have := ih k (by rw [hks]; exact List.mem_cons_self)
            intro g
            obtain ⟨x, hx, ht⟩ := this fun x hx => g x (within_mem hw.1 hx)
            exact ⟨x, within_mem hw.2 hx, ht⟩
          · cases h
        · cases h
    · split at h
      · cases h
      · rename_i e he
        split at h
        · cases h
        · rename_i hp
          split at h
          · cases h
          · rename_i hb
            split at h
            · cases h
            · rename_i hl
              split at h
              · rename_i hm
                have hpl := ((plainF_iff _).1 (Classical.byContradiction hp)).1
                refine ruleT_keeps he v p.f p.l p.r hpl (by simpa using hb) fun q hq => ?_
                obtain ⟨k, hk, h1, h2⟩ := meetB_iff (by omega) hm q hq
                exact (ih k hk).perm h1.symm h2.symm
              · cases h
theorem seqGo_all : ∀ {l : List Fm} {i : Nat}, (seqGo l i).1 = 0 → ∀ f ∈ l, (plainF f).1 = 0
  | [], _, _, f, hf => nomatch hf
  | a :: r, i, h, f, hf => by
    rw [seqGo] at h
    by_cases h0 : (plainF a).1 = 0
    · rw [if_neg (by simpa using h0)] at h
      rcases List.mem_cons.1 hf with rfl | hf
      · exact h0
      · exact seqGo_all h f hf
    · rw [if_pos h0] at h; exact absurd h h0
theorem sequent_all {l r : List Fm} (h : (sequentF l r).1 = 0) : l.length + r.length ≤ 60 ∧ (∀ f ∈ l, (plainF f).1 = 0) ∧ ∀ f ∈ r, (plainF f).1 = 0 := by
  unfold sequentF at h
  split at h
  · cases h
  · have := seqGo_all h
    exact ⟨by omega, fun f hf => this f (by simp [hf]), fun f hf => this f (by simp [hf])⟩
end Go.Proofs.Ytnoklmapofogeaa
