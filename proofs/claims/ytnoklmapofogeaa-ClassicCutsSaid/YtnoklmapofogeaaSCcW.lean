import Derived.Test.YtnoklmapofogeaaSCcH
set_option linter.unusedVariables false
set_option linter.unusedSimpArgs false
set_option maxRecDepth 100000
namespace Go.Proofs.Ytnoklmapofogeaa
open Go Go.Pv
theorem withinF_perm : ∀ (b c : List Fm), withinF b c = true → ∃ d, c.Perm (b ++ d)
 | [], c, _ => ⟨c, List.Perm.refl _⟩
 | f :: b, c, h => by
  rw [withinF, Bool.and_eq_true, hasF_iff] at h
  obtain ⟨d, hd⟩ := withinF_perm b _ h.2
  exact ⟨d, (List.perm_cons_erase h.1).trans (hd.cons f)⟩
theorem withinF_of {b : List Fm} : ∀ {c d : List Fm}, c.Perm (b ++ d) → withinF b c = true := by
 induction b with
 | nil => intros; rfl
 | cons f b ih =>
  intro c d h
  rw [withinF, Bool.and_eq_true, hasF_iff]
  refine ⟨h.mem_iff.2 (by simp), ih (d := d) ?_⟩
  have := h.erase f
  rwa [List.cons_append, List.erase_cons_head] at this
theorem withinF_iff {b c : List Fm} : withinF b c = true ↔ ∃ d, c.Perm (b ++ d) := ⟨withinF_perm b c, fun ⟨_, h⟩ => withinF_of h⟩
theorem sameF_iff {b c : List Fm} : sameF b c = true ↔ c.Perm b := by
 unfold sameF
 rw [Bool.and_eq_true, decide_eq_true_eq, withinF_iff]
 constructor
 ·rintro ⟨hl, d, hd⟩
  have := hd.length_eq
  rw [List.length_append] at this
  have : d = [] := List.length_eq_zero_iff.1 (by omega)
  subst this; simpa using hd
 ·intro h
  exact ⟨h.length_eq.symm, [], by simpa using h⟩
theorem within_mem {b c : List Fm} (h : withinF b c = true) {x : Fm} (hx : x ∈ b) : x ∈ c := by
 obtain ⟨d, hd⟩ := withinF_iff.1 h
 exact hd.mem_iff.2 (List.mem_append_left _ hx)
def AllT (v : ByteArray → Bool) (l : List Fm) : Prop := ∀ f ∈ l, tv v f = true
def AnyT (v : ByteArray → Bool) (r : List Fm) : Prop := ∃ f ∈ r, tv v f = true
def SqT (v : ByteArray → Bool) (l r : List Fm) : Prop := AllT v l → AnyT v r
section
variable {v : ByteArray → Bool} {l r : List Fm} {f : Fm}
theorem allT_app {a b : List Fm} : AllT v (a ++ b) ↔ AllT v a ∧ AllT v b := by
 unfold AllT; simp only [List.mem_append, or_imp, forall_and]
theorem anyT_app {a b : List Fm} : AnyT v (a ++ b) ↔ AnyT v a ∨ AnyT v b := by
 unfold AnyT; simp only [List.mem_append, or_and_right, exists_or]
theorem allT_one : AllT v [f] ↔ tv v f = true := by unfold AllT; simp
theorem anyT_one : AnyT v [f] ↔ tv v f = true := by unfold AnyT; simp
theorem allT_two {g : Fm} : AllT v [f, g] ↔ tv v f = true ∧ tv v g = true := by unfold AllT; simp
theorem anyT_two {g : Fm} : AnyT v [f, g] ↔ tv v f = true ∨ tv v g = true := by unfold AnyT; simp
theorem allT_erase (h : f ∈ l) : AllT v l ↔ tv v f = true ∧ AllT v (l.erase f) := by
 have hp := List.perm_cons_erase h
 unfold AllT
 simp only [hp.mem_iff, List.mem_cons, forall_eq_or_imp]
theorem anyT_erase (h : f ∈ r) : AnyT v r ↔ tv v f = true ∨ AnyT v (r.erase f) := by
 have hp := List.perm_cons_erase h
 unfold AnyT
 simp only [hp.mem_iff, List.mem_cons, exists_eq_or_imp]
theorem SqT.perm {a b : List Fm} (h : SqT v l r) (h1 : a.Perm l) (h2 : b.Perm r) : SqT v a b := by
 intro g
 obtain ⟨x, hx, ht⟩ := h fun x hx => g x (h1.mem_iff.2 hx)
 exact ⟨x, h2.mem_iff.2 hx, ht⟩
end
theorem pl_k4 {f : Fm} (hf : Pl f) (h : f.kind = 4) : ∃ a, Pl a ∧ f.kids = [a] ∧ ∀ v, tv v f = !tv v a := by
 rcases hf.seven with ⟨nm, _, rfl⟩ | rfl | rfl | ⟨a, ha, rfl⟩ | ⟨a, b, _, _, rfl⟩ | ⟨a, b, _, _, rfl⟩ | ⟨a, b, _, _, rfl⟩ <;> simp at h
 exact ⟨a, ha, rfl, fun v => tv_4⟩
theorem pl_k5 {f : Fm} (hf : Pl f) (h : f.kind = 5) : ∃ a b, Pl a ∧ Pl b ∧ f.kids = [a, b] ∧ ∀ v, tv v f = (tv v a && tv v b) := by
 rcases hf.seven with ⟨nm, _, rfl⟩ | rfl | rfl | ⟨a, ha, rfl⟩ | ⟨a, b, ha, hb, rfl⟩ | ⟨a, b, _, _, rfl⟩ | ⟨a, b, _, _, rfl⟩ <;> simp at h
 exact ⟨a, b, ha, hb, rfl, fun v => tv_5⟩
theorem pl_k6 {f : Fm} (hf : Pl f) (h : f.kind = 6) : ∃ a b, Pl a ∧ Pl b ∧ f.kids = [a, b] ∧ ∀ v, tv v f = (tv v a || tv v b) := by
 rcases hf.seven with ⟨nm, _, rfl⟩ | rfl | rfl | ⟨a, ha, rfl⟩ | ⟨a, b, _, _, rfl⟩ | ⟨a, b, ha, hb, rfl⟩ | ⟨a, b, _, _, rfl⟩ <;> simp at h
 exact ⟨a, b, ha, hb, rfl, fun v => tv_6⟩
theorem pl_k7 {f : Fm} (hf : Pl f) (h : f.kind = 7) : ∃ a b, Pl a ∧ Pl b ∧ f.kids = [a, b] ∧ ∀ v, tv v f = (!tv v a || tv v b) := by
 rcases hf.seven with ⟨nm, _, rfl⟩ | rfl | rfl | ⟨a, ha, rfl⟩ | ⟨a, b, _, _, rfl⟩ | ⟨a, b, _, _, rfl⟩ | ⟨a, b, ha, hb, rfl⟩ <;> simp at h
 exact ⟨a, b, ha, hb, rfl, fun v => tv_7⟩
theorem pl_k2 {f : Fm} (hf : Pl f) (h : f.kind = 2) : ∀ v, tv v f = true := by
 rcases hf.seven with ⟨nm, _, rfl⟩ | rfl | rfl | ⟨a, ha, rfl⟩ | ⟨a, b, _, _, rfl⟩ | ⟨a, b, _, _, rfl⟩ | ⟨a, b, _, _, rfl⟩ <;> simp at h
 exact fun v => tv_2
theorem pl_k3 {f : Fm} (hf : Pl f) (h : f.kind = 3) : ∀ v, tv v f = false := by
 rcases hf.seven with ⟨nm, _, rfl⟩ | rfl | rfl | ⟨a, ha, rfl⟩ | ⟨a, b, _, _, rfl⟩ | ⟨a, b, _, _, rfl⟩ | ⟨a, b, _, _, rfl⟩ <;> simp at h
 exact fun v => tv_3
def Keeps (R : Fm → List Fm → List Fm → List Prem × Bool) : Prop := ∀ (v : ByteArray → Bool) (f : Fm) (l r : List Fm), Pl f → (R f l r).2 = true → (∀ q ∈ (R f l r).1, SqT v q.1 q.2) → SqT v l r
theorem kindF_iff {f : Fm} {k : Int} {l : List Fm} : kindF f k l = true ↔ f.kind = k ∧ f ∈ l := by simp [kindF, hasF_iff]
theorem keeps_ax : Keeps axR := by
 intro v f l r hf h hq
 simp only [axR, Bool.and_eq_true, hasF_iff] at h
 exact fun g => ⟨f, h.2, g f h.1⟩
theorem keeps_true : Keeps trueR := by
 intro v f l r hf h hq
 simp only [trueR, kindF_iff] at h
 exact fun g => ⟨f, h.2, pl_k2 hf h.1 v⟩
theorem keeps_false : Keeps falseR := by
 intro v f l r hf h hq
 simp only [falseR, kindF_iff] at h
 intro g
 have := g f h.2
 rw [pl_k3 hf h.1 v] at this; cases this
theorem keeps_andL : Keeps andLR := by
 intro v f l r hf h hq
 unfold andLR at h hq
 by_cases hk : kindF f 5 l = true
 ·rw [if_pos hk] at hq
  rw [kindF_iff] at hk
  obtain ⟨a, b, _, _, hks, ht⟩ := pl_k5 hf hk.1
  have := hq _ List.mem_cons_self
  simp only [SqT, hks, allT_app, allT_two, allT_erase hk.2, ht v, Bool.and_eq_true] at this ⊢
  grind
 ·rw [if_neg hk] at h; cases h
theorem keeps_andR : Keeps andRR := by
 intro v f l r hf h hq
 unfold andRR at h hq
 by_cases hk : kindF f 5 r = true
 ·rw [if_pos hk] at hq
  rw [kindF_iff] at hk
  obtain ⟨a, b, _, _, hks, ht⟩ := pl_k5 hf hk.1
  have h1 := hq _ List.mem_cons_self
  have h2 := hq _ (List.mem_cons_of_mem _ List.mem_cons_self)
  simp only [SqT, kid, hks, anyT_app, anyT_one, anyT_erase hk.2, ht v, Bool.and_eq_true, List.getD_cons_zero, List.getD_cons_succ] at h1 h2 ⊢
  grind
 ·rw [if_neg hk] at h; cases h
theorem keeps_orL : Keeps orLR := by
 intro v f l r hf h hq
 unfold orLR at h hq
 by_cases hk : kindF f 6 l = true
 ·rw [if_pos hk] at hq
  rw [kindF_iff] at hk
  obtain ⟨a, b, _, _, hks, ht⟩ := pl_k6 hf hk.1
  have h1 := hq _ List.mem_cons_self
  have h2 := hq _ (List.mem_cons_of_mem _ List.mem_cons_self)
  simp only [SqT, kid, hks, allT_app, allT_one, allT_erase hk.2, ht v, Bool.or_eq_true, List.getD_cons_zero, List.getD_cons_succ] at h1 h2 ⊢
  grind
 ·rw [if_neg hk] at h; cases h
theorem keeps_thenR : Keeps thenRR := by
 intro v f l r hf h hq
 unfold thenRR at h hq
 by_cases hk : kindF f 7 r = true
 ·rw [if_pos hk] at hq
  rw [kindF_iff] at hk
  obtain ⟨a, b, _, _, hks, ht⟩ := pl_k7 hf hk.1
  have h1 := hq _ List.mem_cons_self
  simp only [SqT, kid, hks, allT_app, allT_one, anyT_app, anyT_one, anyT_erase hk.2, ht v, Bool.or_eq_true, Bool.not_eq_true', List.getD_cons_zero, List.getD_cons_succ] at h1 ⊢
  grind
 ·rw [if_neg hk] at h; cases h
theorem keeps_notR : Keeps notRR := by
 intro v f l r hf h hq
 unfold notRR at h hq
 by_cases hk : kindF f 4 r = true
 ·rw [if_pos hk] at hq
  rw [kindF_iff] at hk
  obtain ⟨a, _, hks, ht⟩ := pl_k4 hf hk.1
  have h1 := hq _ List.mem_cons_self
  simp only [SqT, kid, hks, allT_app, allT_one, anyT_app, anyT_one, anyT_erase hk.2, ht v, Bool.not_eq_true', List.getD_cons_zero, List.getD_cons_succ] at h1 ⊢
  grind
 ·rw [if_neg hk] at h; cases h
theorem keeps_contrL : Keeps contrLR := by
 intro v f l r hf h hq
 unfold contrLR at h hq
 by_cases hk : hasF l f = true
 ·rw [if_pos hk] at hq
  rw [hasF_iff] at hk
  have h1 := hq _ List.mem_cons_self
  simp only [SqT, allT_app, allT_one] at h1 ⊢
  exact fun g => h1 ⟨g, g f hk⟩
 ·rw [if_neg hk] at h; cases h
theorem keeps_contrR : Keeps contrRR := by
 intro v f l r hf h hq
 unfold contrRR at h hq
 by_cases hk : hasF r f = true
 ·rw [if_pos hk] at hq
  rw [hasF_iff] at hk
  have h1 := hq _ List.mem_cons_self
  simp only [SqT, anyT_app, anyT_one] at h1 ⊢
  exact fun g => (h1 g).elim id fun h => ⟨f, hk, h⟩
 ·rw [if_neg hk] at h; cases h
theorem keeps_orR : Keeps orRR := by
 intro v f l r hf h hq
 unfold orRR at h hq
 by_cases hk : kindF f 6 r = true
 ·rw [if_pos hk] at hq
  rw [kindF_iff] at hk
  obtain ⟨a, b, _, _, hks, ht⟩ := pl_k6 hf hk.1
  have h1 := hq _ List.mem_cons_self
  simp only [SqT, hks, anyT_app, anyT_two, anyT_erase hk.2, ht v, Bool.or_eq_true] at h1 ⊢
  grind
 ·rw [if_neg hk] at h; cases h
theorem keeps_thenL : Keeps thenLR := by
 intro v f l r hf h hq
 unfold thenLR at h hq
 by_cases hk : kindF f 7 l = true
 ·rw [if_pos hk] at hq
  rw [kindF_iff] at hk
  obtain ⟨a, b, _, _, hks, ht⟩ := pl_k7 hf hk.1
  have h1 := hq _ List.mem_cons_self
  have h2 := hq _ (List.mem_cons_of_mem _ List.mem_cons_self)
  simp only [SqT, kid, hks, allT_app, allT_one, anyT_app, anyT_one, allT_erase hk.2, ht v, Bool.or_eq_true, Bool.not_eq_true', List.getD_cons_zero, List.getD_cons_succ] at h1 h2 ⊢
  grind
 ·rw [if_neg hk] at h; cases h
theorem keeps_notL : Keeps notLR := by
 intro v f l r hf h hq
 unfold notLR at h hq
 by_cases hk : kindF f 4 l = true
 ·rw [if_pos hk] at hq
  rw [kindF_iff] at hk
  obtain ⟨a, _, hks, ht⟩ := pl_k4 hf hk.1
  have h1 := hq _ List.mem_cons_self
  simp only [SqT, kid, hks, allT_app, allT_one, anyT_app, anyT_one, allT_erase hk.2, ht v, Bool.not_eq_true', List.getD_cons_zero, List.getD_cons_succ] at h1 ⊢
  grind
 ·rw [if_neg hk] at h; cases h
theorem keeps_cutC : Keeps cutCR := by
 intro v f l r hf h hq
 unfold cutCR at hq
 have h1 := hq _ List.mem_cons_self
 have h2 := hq _ (List.mem_cons_of_mem _ List.mem_cons_self)
 simp only [SqT, allT_app, allT_one, anyT_app, anyT_one] at h1 h2 ⊢
 grind
theorem keeps_thenI : Keeps thenIR := by
 intro v f l r hf h hq
 unfold thenIR at h hq
 by_cases hk : kindF f 7 l = true
 ·rw [if_pos hk] at hq
  rw [kindF_iff] at hk
  obtain ⟨a, b, _, _, hks, ht⟩ := pl_k7 hf hk.1
  have h1 := hq _ List.mem_cons_self
  have h2 := hq _ (List.mem_cons_of_mem _ List.mem_cons_self)
  simp only [SqT, kid, hks, allT_app, allT_one, anyT_app, anyT_one, allT_erase hk.2, ht v, Bool.or_eq_true, Bool.not_eq_true', List.getD_cons_zero, List.getD_cons_succ] at h1 h2 ⊢
  grind
 ·rw [if_neg hk] at h; cases h
theorem keeps_notI : Keeps notIR := by
 intro v f l r hf h hq
 unfold notIR at h hq
 by_cases hk : kindF f 4 l = true
 ·rw [if_pos hk] at hq
  rw [kindF_iff] at hk
  obtain ⟨a, _, hks, ht⟩ := pl_k4 hf hk.1
  have h1 := hq _ List.mem_cons_self
  simp only [SqT, kid, hks, allT_app, allT_one, anyT_app, anyT_one, allT_erase hk.2, ht v, Bool.not_eq_true', List.getD_cons_zero, List.getD_cons_succ] at h1 ⊢
  grind
 ·rw [if_neg hk] at h; cases h
theorem keeps_cutI : Keeps cutIR := by
 intro v f l r hf h hq
 unfold cutIR at hq
 have h1 := hq _ List.mem_cons_self
 have h2 := hq _ (List.mem_cons_of_mem _ List.mem_cons_self)
 simp only [SqT, allT_app, allT_one, anyT_app, anyT_one] at h1 h2 ⊢
 grind
theorem keeps_side {k : Nat} (h2 : k < 2) : Keeps (sideR k) := by
 intro v f l r hf h hq
 unfold sideR at h hq
 by_cases hk : kindF f 6 r = true
 ·rw [if_pos hk] at hq
  rw [kindF_iff] at hk
  obtain ⟨a, b, _, _, hks, ht⟩ := pl_k6 hf hk.1
  have h1 := hq _ List.mem_cons_self
  have hk2 : k = 0 ∨ k = 1 := by omega
  rcases hk2 with rfl | rfl <;> simp only [SqT, kid, hks, anyT_one, anyT_erase hk.2, ht v, Bool.or_eq_true, List.getD_cons_zero, List.getD_cons_succ] at h1 ⊢ <;> grind
 ·rw [if_neg hk] at h; cases h
theorem ruleT_keeps {u : Bool} {a : ByteArray} {e : Ent} (h : ruleT u a = some e) : Keeps e.R := by
 have key : ∀ T : Tab, (∀ p ∈ T, Keeps p.2.R) → ∀ e, lookT T a = some e → Keeps e.R := by
  intro T hT e he
  obtain ⟨p, hp, rfl⟩ := lookT_mem he
  exact hT p hp
 have hs : ∀ p ∈ sharedT, Keeps p.2.R := by
  unfold sharedT
  refine List.forall_mem_cons.2 ⟨keeps_ax, List.forall_mem_cons.2 ⟨keeps_true, List.forall_mem_cons.2 ⟨keeps_false, List.forall_mem_cons.2 ⟨keeps_andL, List.forall_mem_cons.2 ⟨keeps_andR, List.forall_mem_cons.2 ⟨keeps_orL, List.forall_mem_cons.2 ⟨keeps_thenR, List.forall_mem_cons.2 ⟨keeps_notR, List.forall_mem_cons.2 ⟨keeps_contrL, fun p hp => nomatch hp⟩⟩⟩⟩⟩⟩⟩⟩⟩
 have hc : ∀ p ∈ classT, Keeps p.2.R := by
  unfold classT
  refine List.forall_mem_cons.2 ⟨keeps_orR, List.forall_mem_cons.2 ⟨keeps_thenL, List.forall_mem_cons.2 ⟨keeps_notL, List.forall_mem_cons.2 ⟨keeps_contrR, List.forall_mem_cons.2 ⟨keeps_cutC, fun p hp => nomatch hp⟩⟩⟩⟩⟩
 have hi : ∀ p ∈ intuT, Keeps p.2.R := by
  unfold intuT
  refine List.forall_mem_cons.2 ⟨keeps_side (by decide), List.forall_mem_cons.2 ⟨keeps_side (by decide), List.forall_mem_cons.2 ⟨keeps_thenI, List.forall_mem_cons.2 ⟨keeps_notI, List.forall_mem_cons.2 ⟨keeps_cutI, fun p hp => nomatch hp⟩⟩⟩⟩⟩
 unfold ruleT at h
 split at h
 ·rename_i e' he
  cases h
  exact key _ hs _ he
 ·split at h
  ·exact key _ hi _ h
  ·exact key _ hc _ h
theorem meetB_iff : ∀ {qs : List Prem} {ks : List Pf}, qs.length = ks.length → meetB qs ks = true → ∀ q ∈ qs, ∃ k ∈ ks, k.l.Perm q.1 ∧ k.r.Perm q.2
 | [], _, _, _, q, hq => nomatch hq
 | q :: qs, [], hl, _, _, _ => by simp at hl
 | q :: qs, k :: ks, hl, h, x, hx => by
  rw [meetB, Bool.and_eq_true, Bool.and_eq_true, sameF_iff, sameF_iff] at h
  rcases List.mem_cons.1 hx with rfl | hx
  ·exact ⟨k, List.mem_cons_self, h.1.1, h.1.2⟩
  ·obtain ⟨k', hk, h'⟩ := meetB_iff (by simpa using hl) h.2 x hx
   exact ⟨k', List.mem_cons_of_mem _ hk, h'⟩
inductive Fine (u : Bool) : Pf → Prop where
 | mk {p : Pf} (hs : (sequentF p.l p.r).1 = 0) (hi : u = true → p.r.length ≤ 1) (h : stepF u p = 0) (hk : ∀ k ∈ p.kids, Fine u k) : Fine u p
theorem Fine.of_look {u : Bool} : ∀ (p : Pf) (n : Nat) (d : Int), (lookF u p n d).2.1 = 0 → Fine u p := by
 intro p
 induction p using Pf.ind with
 | h p ih =>
  intro n d h
  rw [lookF_eq] at h
  split at h
  ·cases h
  ·split at h
   ·cases h
   ·rename_i h2
    split at h
    ·rename_i h3; exact absurd h h3
    ·rename_i h3
     have key : ∀ ks : List Pf, (∀ k ∈ ks, k ∈ p.kids) → ∀ (n : Nat) (d : Int), (looksF u ks n d).2.1 = 0 → ∀ k ∈ ks, Fine u k := by
      intro ks
      induction ks with
      | nil => intro _ _ _ _ k hk; cases hk
      | cons a r ihr =>
       intro hm n d h k hk
       rw [looksF] at h
       by_cases h0 : (lookF u a n d).2.1 = 0
       ·rw [if_neg (by simpa using h0)] at h
        rcases List.mem_cons.1 hk with rfl | hk
        ·exact ih _ (hm _ (.head _)) _ _ h0
        ·exact ihr (fun k hk => hm k (.tail _ hk)) _ _ h k hk
       ·rw [if_pos h0] at h; exact absurd h h0
     refine .mk (Classical.byContradiction fun g => h2 (.inl g)) (fun hu => ?_) (Classical.byContradiction fun g => h3 g) (key _ (fun k hk => hk) _ _ h)
     have : ¬ 1 < p.r.length := fun g => h2 (.inr ⟨hu, g⟩)
     omega
theorem fine_true {u : Bool} {p : Pf} (h : Fine u p) (v : ByteArray → Bool) : SqT v p.l p.r := by
 induction h with
 | mk hs hi h hk ih =>
  rename_i p
  unfold stepF at h
  split at h
  ·split at h
   ·cases h
   ·split at h
    ·rename_i k hks
     split at h
     ·rename_i hw
      rw [Bool.and_eq_true] at hw
      have := ih k (by rw [hks]; exact List.mem_cons_self)
      intro g
      obtain ⟨x, hx, ht⟩ := this fun x hx => g x (within_mem hw.1 hx)
      exact ⟨x, within_mem hw.2 hx, ht⟩
     ·cases h
    ·cases h
  ·split at h
   ·cases h
   ·rename_i e he
    split at h
    ·cases h
    ·rename_i hp
     split at h
     ·cases h
     ·rename_i hb
      split at h
      ·cases h
      ·rename_i hl
       split at h
       ·rename_i hm
        have hpl := ((plainF_iff _).1 (Classical.byContradiction hp)).1
        refine ruleT_keeps he v p.f p.l p.r hpl (by simpa using hb) fun q hq => ?_
        obtain ⟨k, hk, h1, h2⟩ := meetB_iff (by omega) hm q hq
        exact (ih k hk).perm h1.symm h2.symm
       ·cases h
theorem seqGo_all : ∀ {l : List Fm} {i : Nat}, (seqGo l i).1 = 0 → ∀ f ∈ l, (plainF f).1 = 0
 | [], _, _, f, hf => nomatch hf
 | a :: r, i, h, f, hf => by
  rw [seqGo] at h
  by_cases h0 : (plainF a).1 = 0
  ·rw [if_neg (by simpa using h0)] at h
   rcases List.mem_cons.1 hf with rfl | hf
   ·exact h0
   ·exact seqGo_all h f hf
  ·rw [if_pos h0] at h; exact absurd h h0
theorem sequent_all {l r : List Fm} (h : (sequentF l r).1 = 0) : l.length + r.length ≤ 60 ∧ (∀ f ∈ l, (plainF f).1 = 0) ∧ ∀ f ∈ r, (plainF f).1 = 0 := by
 unfold sequentF at h
 split at h
 ·cases h
 ·have := seqGo_all h
  exact ⟨by omega, fun f hf => this f (by simp [hf]), fun f hf => this f (by simp [hf])⟩
end Go.Proofs.Ytnoklmapofogeaa
namespace Go.Proofs.Ytnoklmapofogeaa
open Go Go.Pv
theorem pf_mk1 {a : ByteArray} {f : Fm} {l r : List Fm} {ks : List Pf} : (Pf.mk a f l r ks).rule = a ∧ (Pf.mk a f l r ks).f = f ∧ (Pf.mk a f l r ks).l = l ∧ (Pf.mk a f l r ks).r = r ∧ (Pf.mk a f l r ks).kids = ks := ⟨rfl, rfl, rfl, rfl, rfl⟩
structure GR where
 ok : Option Pf
 n : Nat
 cnt : Option (List ByteArray)
structure GL where
 ok : Option (List Pf)
 n : Nat
 cnt : Option (List ByteArray)
def fstK (k : Int) (l : List Fm) : Option Nat := l.findIdx? fun f => decide (f.kind = k)
theorem placeK_eq (k : Int) (l : List Fm) : placeK k l = match fstK k l with
 | some i => (i : Int)
 | none => -1 := rfl
theorem fstK_some {k : Int} {l : List Fm} {i : Nat} (h : fstK k l = some i) : ∃ hi : i < l.length, l[i].kind = k := by
 unfold fstK at h
 obtain ⟨h1, h2, _⟩ := List.findIdx?_eq_some_iff_getElem.1 h
 exact ⟨h1, by simpa using h2⟩
theorem fstK_none {k : Int} {l : List Fm} (h : fstK k l = none) : ∀ f ∈ l, f.kind ≠ k := by
 unfold fstK at h
 intro f hf
 have := List.findIdx?_eq_none_iff.1 h f hf
 simpa using this
def gt (l : List Fm) (i : Nat) : Fm := l.getD i (.mk 0 ⟨#[]⟩ [])
theorem gt_eq {l : List Fm} {i : Nat} (h : i < l.length) : gt l i = l[i] := by unfold gt; simp [h]
noncomputable def endL (r : List Fm) : List Fm → Option (ByteArray × Fm)
 | [] => none
 | f :: t => if f.kind = 3 then some (⟨#[102, 97, 108, 115, 101]⟩, f) else if hasF r f = true then some (⟨#[97, 120]⟩, f) else endL r t
def endR : List Fm → Option (ByteArray × Fm)
 | [] => none
 | f :: t => if f.kind = 2 then some (⟨#[116, 114, 117, 101]⟩, f) else endR t
noncomputable def endF (l r : List Fm) : Option (ByteArray × Fm) := match endL r l with
 | some e => some e
 | none => endR r
def moveF (l r : List Fm) : Option (ByteArray × Fm × List Prem) :=
 match fstK 5 l with
 | some i => some (⟨#[97, 110, 100, 45, 108]⟩, gt l i, [(withL l i (gt l i).kids, r)])
 | none => match fstK 4 l with
 | some i => some (⟨#[110, 111, 116, 45, 108]⟩, gt l i, [(withL l i [], r ++ (gt l i).kids)])
 | none => match fstK 6 r with
 | some i => some (⟨#[111, 114, 45, 114]⟩, gt r i, [(l, withL r i (gt r i).kids)])
 | none => match fstK 4 r with
 | some i => some (⟨#[110, 111, 116, 45, 114]⟩, gt r i, [(l ++ (gt r i).kids, withL r i [])])
 | none => match fstK 7 r with
 | some i => some (⟨#[116, 104, 101, 110, 45, 114]⟩, gt r i, [(l ++ [kid (gt r i) 0], withL r i [kid (gt r i) 1])])
 | none => match fstK 5 r with
 | some i => some (⟨#[97, 110, 100, 45, 114]⟩, gt r i, [(l, withL r i [kid (gt r i) 0]), (l, withL r i [kid (gt r i) 1])])
 | none => match fstK 6 l with
 | some i => some (⟨#[111, 114, 45, 108]⟩, gt l i, [(withL l i [kid (gt l i) 0], r), (withL l i [kid (gt l i) 1], r)])
 | none => match fstK 7 l with
 | some i => some (⟨#[116, 104, 101, 110, 45, 108]⟩, gt l i, [(withL l i [], r ++ [kid (gt l i) 0]), (withL l i [kid (gt l i) 1], r)])
 | none => none
noncomputable def growL (g : List Fm → List Fm → Nat → GR) : List Prem → Nat → List Pf → GL
 | [], n, acc => ⟨some acc, n, none⟩
 | q :: qs, n, acc => match (g q.1 q.2 n).ok with
  | some p => growL g qs (g q.1 q.2 n).n (acc ++ [p])
  | none => ⟨none, (g q.1 q.2 n).n, (g q.1 q.2 n).cnt⟩
noncomputable def growF : Nat → List Fm → List Fm → Int → Nat → GR
 | 0, _, _, _, n => ⟨none, n, none⟩
 | k + 1, l, r, d, n => if 20000 < n + 1 ∨ 400 < d ∨ 60 < l.length + r.length then ⟨none, n + 1, none⟩ else
  match endF l r with
  | some e => ⟨some (.mk e.1 e.2 l r []), n + 1, none⟩
  | none => match moveF l r with
   | some m => match (growL (fun l r n => growF k l r (d + 1) n) m.2.2 (n + 1) []).ok with
    | some ks => ⟨some (.mk m.1 m.2.1 l r ks), (growL (fun l r n => growF k l r (d + 1) n) m.2.2 (n + 1) []).n, none⟩
    | none => ⟨none, (growL (fun l r n => growF k l r (d + 1) n) m.2.2 (n + 1) []).n, (growL (fun l r n => growF k l r (d + 1) n) m.2.2 (n + 1) []).cnt⟩
   | none => ⟨none, n + 1, some (varsL l)⟩
def noPf : List PV := [.str ⟨#[]⟩, .int .i64 0, .str ⟨#[]⟩, .nilsl, .nilsl, .nilsl, .nilsl]
def rowO : Option Pf → List PV
 | some p => prf p
 | none => noPf
theorem rowO_s (p : Pf) : rowO (some p) = prf p := rfl
theorem rowO_n : rowO none = noPf := rfl
theorem rowO_flat (x : Option Pf) : (rowO x).all flatV = true := by
 cases x with
 | none => rfl
 | some p => exact prf_flat p
section
variable {x : Option Pf}
@[simp] theorem rowO_length : (rowO x).length = 7 := by cases x <;> simp [rowO, noPf]
@[simp] theorem rowO_cell : (rowO x).all isCell = true := by cases x <;> simp [rowO, noPf]
@[simp] theorem rowO_isCell : (∀ y ∈ rowO x, isCell y = true) = True := by cases x <;> simp [rowO, noPf]
@[simp] theorem rowO_take7 : (rowO x).take 7 = rowO x := List.take_of_length_le (by simp)
@[simp] theorem rowO_drop7 : (rowO x).drop 7 = [] := List.drop_of_length_le (by simp)
@[simp] theorem rowO_renm {ρ : List Nat} {n : Nat} : (rowO x).map (renN ρ n) = rowO x := map_id_of (fun v => flat_ren) (rowO_flat x)
@[simp] theorem rowO_derefm {s : Store} {n : Nat} : (rowO x).map (deref s n) = rowO x := map_id_of (fun v => flat_deref) (rowO_flat x)
@[simp] theorem rowO_refs {n : Nat} : (rowO x).flatMap (refsN n) = [] := by
 cases x with
 | none => cases n <;> simp [rowO, noPf]
 | some p => exact prf_refs
@[simp] theorem rowO_frz {F : List Nat} {s : Store} : (rowO x).map (frzV F s) = rowO x := map_id_of (fun v => frzV_flat) (rowO_flat x)
@[simp] theorem rowO_up {ρ : List Nat} {n : Nat} : (rowO x).map (upN ρ n) = rowO x := map_id_of (fun v => flat_up) (rowO_flat x)
end
instance : FlatRow rowO := ⟨rowO_flat⟩
@[simp] theorem cl_rowO {x : Option Pf} : Closed (.agg (rowO x)) := closed_agg (by cases x with
 | none => simp [rowO, noPf, flat_int, flat_str, Flat.closed]
 | some p => rw [rowO, prf_eq]; simp)
def cntC (V : List ByteArray) : List ByteArray := compL (sortL V)
def cntR (V : List ByteArray) : List ByteArray := List.replicate (V.length - (cntC V).length) ⟨#[]⟩
def fndO (k n : Nat) : Option (List ByteArray) → PObj
 | none => .rows 3 [[.int .i64 (n : Int), .nilsl, .bool false]]
 | some V => .rows 3 [[.int .i64 (n : Int), .sl k 0 (cntC V).length, .bool true]]
def fndT : Option (List ByteArray) → Store
 | none => []
 | some V => [.rows 1 ((cntC V ++ cntR V).map strRow)]
end Go.Proofs.Ytnoklmapofogeaa
namespace Go.Proofs.Ytnoklmapofogeaa
open Go Go.Pv
inductive Mv (l r : List Fm) : ByteArray × Fm × List Prem → Prop where
 | andL (i : Nat) (hi : i < l.length) (a b : Fm) (hk : l[i].kind = 5) (hs : l[i].kids = [a, b]) : Mv l r (⟨#[97, 110, 100, 45, 108]⟩, l[i], [(withL l i [a, b], r)])
 | notL (i : Nat) (hi : i < l.length) (a : Fm) (hk : l[i].kind = 4) (hs : l[i].kids = [a]) : Mv l r (⟨#[110, 111, 116, 45, 108]⟩, l[i], [(withL l i [], r ++ [a])])
 | orR (i : Nat) (hi : i < r.length) (a b : Fm) (hk : r[i].kind = 6) (hs : r[i].kids = [a, b]) : Mv l r (⟨#[111, 114, 45, 114]⟩, r[i], [(l, withL r i [a, b])])
 | notR (i : Nat) (hi : i < r.length) (a : Fm) (hk : r[i].kind = 4) (hs : r[i].kids = [a]) : Mv l r (⟨#[110, 111, 116, 45, 114]⟩, r[i], [(l ++ [a], withL r i [])])
 | thenR (i : Nat) (hi : i < r.length) (a b : Fm) (hk : r[i].kind = 7) (hs : r[i].kids = [a, b]) : Mv l r (⟨#[116, 104, 101, 110, 45, 114]⟩, r[i], [(l ++ [a], withL r i [b])])
 | andR (i : Nat) (hi : i < r.length) (a b : Fm) (hk : r[i].kind = 5) (hs : r[i].kids = [a, b]) : Mv l r (⟨#[97, 110, 100, 45, 114]⟩, r[i], [(l, withL r i [a]), (l, withL r i [b])])
 | orL (i : Nat) (hi : i < l.length) (a b : Fm) (hk : l[i].kind = 6) (hs : l[i].kids = [a, b]) : Mv l r (⟨#[111, 114, 45, 108]⟩, l[i], [(withL l i [a], r), (withL l i [b], r)])
 | thenL (i : Nat) (hi : i < l.length) (a b : Fm) (hk : l[i].kind = 7) (hs : l[i].kids = [a, b]) : Mv l r (⟨#[116, 104, 101, 110, 45, 108]⟩, l[i], [(withL l i [], r ++ [a]), (withL l i [b], r)])
theorem move_some {l r : List Fm} (hl : ∀ f ∈ l, Ar f) (hr : ∀ f ∈ r, Ar f) {m : ByteArray × Fm × List Prem} (h : moveF l r = some m) : Mv l r m := by
 unfold moveF at h
 cases a5 : fstK 5 l with
 | some i =>
  obtain ⟨hi, hk⟩ := fstK_some a5
  obtain ⟨a, b, hs⟩ := (hl _ (List.getElem_mem hi)).two (by omega)
  rw [a5] at h; simp only [gt_eq hi, hs, Option.some.injEq] at h; subst h; exact .andL i hi a b hk hs
 | none =>
 cases a4 : fstK 4 l with
 | some i =>
  obtain ⟨hi, hk⟩ := fstK_some a4
  obtain ⟨a, hs⟩ := (hl _ (List.getElem_mem hi)).one hk
  rw [a5, a4] at h; simp only [gt_eq hi, hs, Option.some.injEq] at h; subst h; exact .notL i hi a hk hs
 | none =>
 cases b6 : fstK 6 r with
 | some i =>
  obtain ⟨hi, hk⟩ := fstK_some b6
  obtain ⟨a, b, hs⟩ := (hr _ (List.getElem_mem hi)).two (by omega)
  rw [a5, a4, b6] at h; simp only [gt_eq hi, hs, Option.some.injEq] at h; subst h; exact .orR i hi a b hk hs
 | none =>
 cases b4 : fstK 4 r with
 | some i =>
  obtain ⟨hi, hk⟩ := fstK_some b4
  obtain ⟨a, hs⟩ := (hr _ (List.getElem_mem hi)).one hk
  rw [a5, a4, b6, b4] at h; simp only [gt_eq hi, hs, Option.some.injEq] at h; subst h; exact .notR i hi a hk hs
 | none =>
 cases b7 : fstK 7 r with
 | some i =>
  obtain ⟨hi, hk⟩ := fstK_some b7
  obtain ⟨a, b, hs⟩ := (hr _ (List.getElem_mem hi)).two (by omega)
  rw [a5, a4, b6, b4, b7] at h; simp only [gt_eq hi, hs, kid, List.getD_cons_zero, List.getD_cons_succ, Option.some.injEq] at h; subst h; exact .thenR i hi a b hk hs
 | none =>
 cases b5 : fstK 5 r with
 | some i =>
  obtain ⟨hi, hk⟩ := fstK_some b5
  obtain ⟨a, b, hs⟩ := (hr _ (List.getElem_mem hi)).two (by omega)
  rw [a5, a4, b6, b4, b7, b5] at h; simp only [gt_eq hi, hs, kid, List.getD_cons_zero, List.getD_cons_succ, Option.some.injEq] at h; subst h; exact .andR i hi a b hk hs
 | none =>
 cases a6 : fstK 6 l with
 | some i =>
  obtain ⟨hi, hk⟩ := fstK_some a6
  obtain ⟨a, b, hs⟩ := (hl _ (List.getElem_mem hi)).two (by omega)
  rw [a5, a4, b6, b4, b7, b5, a6] at h; simp only [gt_eq hi, hs, kid, List.getD_cons_zero, List.getD_cons_succ, Option.some.injEq] at h; subst h; exact .orL i hi a b hk hs
 | none =>
 cases a7 : fstK 7 l with
 | some i =>
  obtain ⟨hi, hk⟩ := fstK_some a7
  obtain ⟨a, b, hs⟩ := (hl _ (List.getElem_mem hi)).two (by omega)
  rw [a5, a4, b6, b4, b7, b5, a6, a7] at h; simp only [gt_eq hi, hs, kid, List.getD_cons_zero, List.getD_cons_succ, Option.some.injEq] at h; subst h; exact .thenL i hi a b hk hs
 | none => rw [a5, a4, b6, b4, b7, b5, a6, a7] at h; cases h
theorem move_none {l r : List Fm} (h : moveF l r = none) : (∀ f ∈ l, f.kind ≠ 4 ∧ f.kind ≠ 5 ∧ f.kind ≠ 6 ∧ f.kind ≠ 7) ∧ ∀ f ∈ r, f.kind ≠ 4 ∧ f.kind ≠ 5 ∧ f.kind ≠ 6 ∧ f.kind ≠ 7 := by
 unfold moveF at h
 have a5 : fstK 5 l = none := by
  cases a : fstK 5 l with
  | none => rfl
  | some i => rw [a] at h; cases h
 rw [a5] at h
 dsimp only at h
 have a4 : fstK 4 l = none := by
  cases a : fstK 4 l with
  | none => rfl
  | some i => rw [a] at h; cases h
 rw [a4] at h
 dsimp only at h
 have b6 : fstK 6 r = none := by
  cases a : fstK 6 r with
  | none => rfl
  | some i => rw [a] at h; cases h
 rw [b6] at h
 dsimp only at h
 have b4 : fstK 4 r = none := by
  cases a : fstK 4 r with
  | none => rfl
  | some i => rw [a] at h; cases h
 rw [b4] at h
 dsimp only at h
 have b7 : fstK 7 r = none := by
  cases a : fstK 7 r with
  | none => rfl
  | some i => rw [a] at h; cases h
 rw [b7] at h
 dsimp only at h
 have b5 : fstK 5 r = none := by
  cases a : fstK 5 r with
  | none => rfl
  | some i => rw [a] at h; cases h
 rw [b5] at h
 dsimp only at h
 have a6 : fstK 6 l = none := by
  cases a : fstK 6 l with
  | none => rfl
  | some i => rw [a] at h; cases h
 rw [a6] at h
 dsimp only at h
 have a7 : fstK 7 l = none := by
  cases a : fstK 7 l with
  | none => rfl
  | some i => rw [a] at h; cases h
 exact ⟨fun f hf => ⟨fstK_none a4 f hf, fstK_none a5 f hf, fstK_none a6 f hf, fstK_none a7 f hf⟩, fun f hf => ⟨fstK_none b4 f hf, fstK_none b5 f hf, fstK_none b6 f hf, fstK_none b7 f hf⟩⟩
def szL (l : List Fm) : Nat := (pres l).length
theorem szL_app (a b : List Fm) : szL (a ++ b) = szL a + szL b := by unfold szL; rw [pres_append, List.length_append]
theorem szL_one (f : Fm) : szL [f] = 1 + szL f.kids := by unfold szL; rw [pres_cons, pres_nil, List.append_nil, pre_eq, List.length_cons]; omega
theorem split_at {l : List Fm} {i : Nat} (h : i < l.length) : l = l.take i ++ ([l[i]] ++ l.drop (i + 1)) := by
 rw [List.singleton_append, ← List.drop_eq_getElem_cons h, List.take_append_drop]
theorem szL_with {l : List Fm} {i : Nat} (h : i < l.length) (more : List Fm) : szL (withL l i more) + (1 + szL l[i].kids) = szL l + szL more := by
 have e : szL l = szL (l.take i) + ((1 + szL l[i].kids) + szL (l.drop (i + 1))) := by
  rw [← szL_one, ← szL_app, ← szL_app, ← split_at h]
 unfold withL
 rw [szL_app, szL_app, e]; omega
theorem mem_with {l : List Fm} {i : Nat} (h : i < l.length) {more : List Fm} {x : Fm} : x ∈ withL l i more → x ∈ l ∨ x ∈ more := by
 unfold withL
 simp only [List.mem_append]
 rintro (h1 | h1 | h1)
 ·exact .inl (List.mem_of_mem_take h1)
 ·exact .inl (List.mem_of_mem_drop h1)
 ·exact .inr h1
theorem perm_with {l : List Fm} {i : Nat} (h : i < l.length) (more : List Fm) : (withL l i more).Perm (l.erase l[i] ++ more) := by
 have h1 : l.Perm (l[i] :: (l.take i ++ l.drop (i + 1))) := by
  have := split_at h
  refine (List.Perm.of_eq this).trans ?_
  rw [List.singleton_append]
  exact List.perm_middle
 have h2 := h1.erase l[i]
 rw [List.erase_cons_head] at h2
 unfold withL
 rw [← List.append_assoc]
 exact h2.symm.append_right more
theorem len_with {l : List Fm} {i : Nat} (h : i < l.length) (more : List Fm) : (withL l i more).length + 1 = l.length + more.length := by
 unfold withL; simp only [List.length_append, List.length_take, List.length_drop]; omega
theorem szL_two (a b : Fm) : szL [a, b] = szL [a] + szL [b] := szL_app [a] [b]
theorem szL_pos (a : Fm) : 1 ≤ szL [a] := by rw [szL_one]; omega
theorem mv_size {l r : List Fm} {m : ByteArray × Fm × List Prem} (h : Mv l r m) : ∀ q ∈ m.2.2, szL q.1 + szL q.2 < szL l + szL r ∧ q.1.length + q.2.length ≤ l.length + r.length + 1 := by
 cases h with
 | andL i hi a b hk hs => intro q hq; have h1 := szL_with hi [a, b]; have h2 := len_with hi [a, b]; rw [hs] at h1; simp at hq; subst hq; simp at h2; constructor <;> dsimp only <;> omega
 | notL i hi a hk hs =>
  intro q hq; have h1 := szL_with hi []; have h2 := len_with hi []; rw [hs] at h1; simp at hq h2; subst hq
  have := szL_app r [a]
  have e : szL [] = 0 := by simp [szL, pres_nil]
  simp; constructor <;> omega
 | orR i hi a b hk hs => intro q hq; have h1 := szL_with hi [a, b]; have h2 := len_with hi [a, b]; rw [hs] at h1; simp at hq; subst hq; simp at h2; constructor <;> dsimp only <;> omega
 | notR i hi a hk hs =>
  intro q hq; have h1 := szL_with hi []; have h2 := len_with hi []; rw [hs] at h1; simp at hq h2; subst hq
  have := szL_app l [a]
  have e : szL [] = 0 := by simp [szL, pres_nil]
  simp; constructor <;> omega
 | thenR i hi a b hk hs =>
  intro q hq; have h1 := szL_with hi [b]; have h2 := len_with hi [b]; rw [hs, szL_two] at h1; simp at hq; subst hq; simp at h2
  have := szL_app l [a]; simp; constructor <;> omega
 | andR i hi a b hk hs =>
  intro q hq; have h1 := szL_with hi [a]; have h2 := len_with hi [a]; have h3 := szL_with hi [b]; have h4 := len_with hi [b]; rw [hs, szL_two] at h1 h3; simp at hq h2 h4
  have := szL_pos a; have := szL_pos b
  rcases hq with rfl | rfl <;> dsimp only <;> constructor <;> omega
 | orL i hi a b hk hs =>
  intro q hq; have h1 := szL_with hi [a]; have h2 := len_with hi [a]; have h3 := szL_with hi [b]; have h4 := len_with hi [b]; rw [hs, szL_two] at h1 h3; simp at hq h2 h4
  have := szL_pos a; have := szL_pos b
  rcases hq with rfl | rfl <;> dsimp only <;> constructor <;> omega
 | thenL i hi a b hk hs =>
  intro q hq; have h1 := szL_with hi []; have h2 := len_with hi []; have h3 := szL_with hi [b]; have h4 := len_with hi [b]; rw [hs, szL_two] at h1 h3; simp at hq h2 h4
  have := szL_pos a; have := szL_pos b; have := szL_app r [a]
  have e : szL [] = 0 := by simp [szL, pres_nil]
  rcases hq with rfl | rfl <;> simp <;> constructor <;> omega
theorem mv_all {P : Fm → Prop} (hK : ∀ f, P f → ∀ g ∈ f.kids, P g) {l r : List Fm} {m : ByteArray × Fm × List Prem} (h : Mv l r m) (hl : ∀ f ∈ l, P f) (hr : ∀ f ∈ r, P f) : ∀ q ∈ m.2.2, (∀ f ∈ q.1, P f) ∧ ∀ f ∈ q.2, P f := by
 have kl : ∀ (i : Nat) (hi : i < l.length) (x : Fm), x ∈ l[i].kids → P x := fun i hi x hx => hK _ (hl _ (List.getElem_mem hi)) x hx
 have kr : ∀ (i : Nat) (hi : i < r.length) (x : Fm), x ∈ r[i].kids → P x := fun i hi x hx => hK _ (hr _ (List.getElem_mem hi)) x hx
 have wl : ∀ (i : Nat) (hi : i < l.length) (more : List Fm), (∀ x ∈ more, P x) → ∀ x ∈ withL l i more, P x := fun i hi more hm x hx => (mem_with hi hx).elim (hl x) (hm x)
 have wr : ∀ (i : Nat) (hi : i < r.length) (more : List Fm), (∀ x ∈ more, P x) → ∀ x ∈ withL r i more, P x := fun i hi more hm x hx => (mem_with hi hx).elim (hr x) (hm x)
 have al : ∀ a : Fm, P a → ∀ x ∈ l ++ [a], P x := fun a ha x hx => (List.mem_append.1 hx).elim (hl x) fun h => by rw [List.mem_singleton.1 h]; exact ha
 have ar : ∀ a : Fm, P a → ∀ x ∈ r ++ [a], P x := fun a ha x hx => (List.mem_append.1 hx).elim (hr x) fun h => by rw [List.mem_singleton.1 h]; exact ha
 have one : ∀ a : Fm, P a → ∀ x ∈ [a], P x := fun a ha x hx => by rw [List.mem_singleton.1 hx]; exact ha
 have nil : ∀ x ∈ ([] : List Fm), P x := fun x hx => nomatch hx
 cases h with
 | andL i hi a b hk hs => intro q hq; simp at hq; subst hq; exact ⟨wl i hi _ fun x hx => kl i hi x (by rw [hs]; exact hx), hr⟩
 | notL i hi a hk hs => intro q hq; simp at hq; subst hq; exact ⟨wl i hi _ nil, ar a (kl i hi a (by rw [hs]; simp))⟩
 | orR i hi a b hk hs => intro q hq; simp at hq; subst hq; exact ⟨hl, wr i hi _ fun x hx => kr i hi x (by rw [hs]; exact hx)⟩
 | notR i hi a hk hs => intro q hq; simp at hq; subst hq; exact ⟨al a (kr i hi a (by rw [hs]; simp)), wr i hi _ nil⟩
 | thenR i hi a b hk hs => intro q hq; simp at hq; subst hq; exact ⟨al a (kr i hi a (by rw [hs]; simp)), wr i hi _ (one b (kr i hi b (by rw [hs]; simp)))⟩
 | andR i hi a b hk hs =>
  intro q hq; simp at hq
  rcases hq with rfl | rfl
  ·exact ⟨hl, wr i hi _ (one a (kr i hi a (by rw [hs]; simp)))⟩
  ·exact ⟨hl, wr i hi _ (one b (kr i hi b (by rw [hs]; simp)))⟩
 | orL i hi a b hk hs =>
  intro q hq; simp at hq
  rcases hq with rfl | rfl
  ·exact ⟨wl i hi _ (one a (kl i hi a (by rw [hs]; simp))), hr⟩
  ·exact ⟨wl i hi _ (one b (kl i hi b (by rw [hs]; simp))), hr⟩
 | thenL i hi a b hk hs =>
  intro q hq; simp at hq
  rcases hq with rfl | rfl
  ·exact ⟨wl i hi _ nil, ar a (kl i hi a (by rw [hs]; simp))⟩
  ·exact ⟨wl i hi _ (one b (kl i hi b (by rw [hs]; simp))), hr⟩
theorem mv_pl {l r : List Fm} {m : ByteArray × Fm × List Prem} (h : Mv l r m) (hl : ∀ f ∈ l, Pl f) (hr : ∀ f ∈ r, Pl f) : ∀ q ∈ m.2.2, (∀ f ∈ q.1, Pl f) ∧ ∀ f ∈ q.2, Pl f := mv_all (fun f hf g hg => hf.kid hg) h hl hr
theorem pl_ar {f : Fm} (h : Pl f) : Ar f := by
 rcases h.seven with ⟨nm, _, rfl⟩ | rfl | rfl | ⟨a, _, rfl⟩ | ⟨a, b, _, _, rfl⟩ | ⟨a, b, _, _, rfl⟩ | ⟨a, b, _, _, rfl⟩ <;> constructor <;> simp
theorem growL_n {g : List Fm → List Fm → Nat → GR} {N : Nat} : ∀ {qs : List Prem} {n : Nat} {acc ks : List Pf}, (∀ q ∈ qs, ∀ n p, (g q.1 q.2 n).ok = some p → (g q.1 q.2 n).n ≤ N) → n ≤ N → (growL g qs n acc).ok = some ks → (growL g qs n acc).n ≤ N
 | [], n, _, _, _, hn, _ => hn
 | q :: qs, n, acc, ks, hg, hn, h => by
  rw [growL] at h ⊢
  cases hok : (g q.1 q.2 n).ok with
  | none => rw [hok] at h; cases h
  | some x =>
   rw [hok] at h
   exact growL_n (fun q hq => hg q (.tail _ hq)) (hg q (.head _) n x hok) h
theorem growF_n : ∀ (k : Nat) (l r : List Fm) (d : Int) (n : Nat) (p : Pf), (growF k l r d n).ok = some p → (growF k l r d n).n ≤ 20000 ∧ (growF k l r d n).cnt = none := by
 intro k
 induction k with
 | zero => intro l r d n p h; rw [growF] at h; cases h
 | succ k ih =>
  intro l r d n p h
  rw [growF] at h ⊢
  split at h
  ·cases h
  ·rename_i h1
   rw [if_neg h1]
   split at h
   ·exact ⟨by dsimp only; omega, rfl⟩
   ·split at h
    ·split at h
     ·rename_i ks hks
      exact ⟨growL_n (fun q _ n p hp => (ih q.1 q.2 (d + 1) n p hp).1) (by omega) hks, rfl⟩
     ·cases h
    ·cases h
end Go.Proofs.Ytnoklmapofogeaa
namespace Go.Proofs.Ytnoklmapofogeaa
open Go Go.Pv
def PermP : List Prem → List Prem → Prop
 | [], [] => True
 | p :: ps, q :: qs => p.1.Perm q.1 ∧ p.2.Perm q.2 ∧ PermP ps qs
 | _, _ => False
structure Turn (σ : Fm → Fm) : Prop where
 k2 : ∀ f, Pl f → f.kind ≠ 1 → (σ f).kind = f.kind ∧ (σ f).kids = f.kids.map σ
 none : ∀ f, noneF f = true → noneF (σ f) = true
theorem Turn.id : Turn id := ⟨fun f _ _ => ⟨rfl, by simp⟩, fun f h => h⟩
section
variable {σ : Fm → Fm} {e : List Fm} {f : Fm} {l r : List Fm}
end
theorem PermP.len : ∀ {a b : List Prem}, PermP a b → a.length = b.length
 | [], [], _ => rfl
 | _ :: _, _ :: _, h => by simp [PermP.len h.2.2]
 | [], _ :: _, h => h.elim
 | _ :: _, [], h => h.elim
end Go.Proofs.Ytnoklmapofogeaa
