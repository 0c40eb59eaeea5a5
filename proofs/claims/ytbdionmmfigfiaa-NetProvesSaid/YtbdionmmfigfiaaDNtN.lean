import Derived.Test.YtbdionmmfigfiaaDNtK
set_option linter.unusedVariables false
set_option linter.unusedSimpArgs false
set_option maxRecDepth 100000
namespace Go.Proofs.Ytbdionmmfigfiaa
open Go Go.Pv
structure Stp where
 a : Nat
 b : Nat
 c : Nat
 d : Nat
inductive Con (L : List (Nat × Nat)) : Nat → Nat → Prop where
 | refl (x : Nat) : Con L x x
 | edge {a b : Nat} (h : (a,b) ∈ L) : Con L a b
 | symm {x y : Nat} (h : Con L x y) : Con L y x
 | trans {x y z : Nat} (h : Con L x y) (h2 : Con L y z) : Con L x z
theorem Con.hom {L L' : List (Nat × Nat)} {x y : Nat} (h : Con L x y) (φ : Nat → Nat) (hL : ∀ e ∈ L,Con L' (φ e.1) (φ e.2)) : Con L' (φ x) (φ y) := by
 induction h with
 | refl x => exact .refl _
 | edge h => exact hL _ h
 | symm _ ih => exact ih.symm
 | trans _ _ ih ih2 => exact ih.trans ih2
theorem Con.mono {L L' : List (Nat × Nat)} {x y : Nat} (h : Con L x y) (hL : ∀ e ∈ L,e ∈ L') : Con L' x y := h.hom id fun e he => .edge (hL e he)
theorem Con.more {L : List (Nat × Nat)} {x y : Nat} (h : Con L x y) (e : Nat × Nat) : Con (e :: L) x y := h.mono fun e he => by simp [he]
theorem con_cons {L : List (Nat × Nat)} {a b x y : Nat} : Con ((a,b) :: L) x y ↔ Con L x y ∨ (Con L x a ∧ Con L b y) ∨ (Con L x b ∧ Con L a y) := by
 constructor
 ·intro h
  induction h with
  | refl x => exact .inl (.refl _)
  | edge h =>
   rcases List.mem_cons.1 h with h | h
   ·cases h; exact .inr (.inl ⟨.refl _,.refl _⟩)
   ·exact .inl (.edge h)
  | symm _ ih =>
   rcases ih with h | ⟨h,h2⟩ | ⟨h,h2⟩
   ·exact .inl h.symm
   ·exact .inr (.inr ⟨h2.symm,h.symm⟩)
   ·exact .inr (.inl ⟨h2.symm,h.symm⟩)
  | trans _ _ ih ih2 =>
   rcases ih with h | ⟨h,h2⟩ | ⟨h,h2⟩ <;> rcases ih2 with g | ⟨g,g2⟩ | ⟨g,g2⟩
   ·exact .inl (h.trans g)
   ·exact .inr (.inl ⟨h.trans g,g2⟩)
   ·exact .inr (.inr ⟨h.trans g,g2⟩)
   ·exact .inr (.inl ⟨h,h2.trans g⟩)
   ·exact .inr (.inl ⟨h,g2⟩)
   ·exact .inl (h.trans g2)
   ·exact .inr (.inr ⟨h,h2.trans g⟩)
   ·exact .inl (h.trans g2)
   ·exact .inr (.inr ⟨h,g2⟩)
 ·intro h
  have e : Con ((a,b) :: L) a b := .edge (by simp)
  rcases h with h | ⟨h,h2⟩ | ⟨h,h2⟩
  ·exact h.more _
  ·exact ((h.more _).trans e).trans (h2.more _)
  ·exact ((h.more _).trans e.symm).trans (h2.more _)
theorem Con.closed {L : List (Nat × Nat)} {x y : Nat} (h : Con L x y) (X : Nat → Prop) (hL : ∀ e ∈ L,(X e.1 ↔ X e.2)) : X x ↔ X y := by
 induction h with
 | refl x => exact Iff.rfl
 | edge h => exact hL _ h
 | symm _ ih => exact ih.symm
 | trans _ _ ih ih2 => exact ih.trans ih2
inductive Full (n : Nat) : List Stp → List (Nat × Nat) → Prop where
 | nil {L : List (Nat × Nat)} (h : ∀ x y,x < n → y < n → Con L x y) : Full n [] L
 | step {S T : List Stp} {s : Stp} {L : List (Nat × Nat)} (hp : S.Perm (s :: T)) (h1 : Con L s.c s.d) (h2 : ¬ Con L s.a s.b) (h : Full n T ((s.a,s.b) :: L)) : Full n S L
theorem Full.perm {n : Nat} {S S' : List Stp} {L : List (Nat × Nat)} (h : Full n S L) (hp : S.Perm S') : Full n S' L := by
 cases h with
 | nil h => rw [List.nil_perm.1 hp]; exact .nil h
 | step hq h1 h2 h => exact .step (hp.symm.trans hq) h1 h2 h
theorem Full.congr {n : Nat} {S : List Stp} {L : List (Nat × Nat)} (h : Full n S L) : ∀ {L' : List (Nat × Nat)},(∀ x y,Con L x y ↔ Con L' x y) → Full n S L' := by
 induction h with
 | nil h => intro L' hL; exact .nil fun x y hx hy => (hL _ _).1 (h x y hx hy)
 | step hp h1 h2 _ ih =>
  intro L' hL
  exact .step hp ((hL _ _).1 h1) (fun g => h2 ((hL _ _).2 g)) (ih fun x y => by rw [con_cons,con_cons]; simp only [hL])
theorem Full.later {n : Nat} {S : List Stp} {L : List (Nat × Nat)} (h : Full n S L) {s : Stp} (hs : s ∈ S) : ¬ Con L s.a s.b := by
 induction h with
 | nil _ => cases hs
 | step hp h1 h2 _ ih =>
  rcases List.mem_cons.1 (hp.mem_iff.1 hs) with rfl | h
  ·exact h2
  ·exact fun g => ih h (g.more _)
theorem Full.exch {n : Nat} {S : List Stp} {L : List (Nat × Nat)} (h : Full n S L) : ∀ {s : Stp} {T : List Stp},S.Perm (s :: T) → Con L s.c s.d → Full n T ((s.a,s.b) :: L) := by
 induction h with
 | nil _ => intro s T hp; exact absurd (List.nil_perm.1 hp) (by simp)
 | @step S T1 t L hp h1 h2 h ih =>
  intro s T hq hc
  by_cases hst : s = t
  ·subst hst
   exact h.perm (List.Perm.cons_inv (hp.symm.trans hq))
  ·have hs : s ∈ T1 := by
    have := hp.mem_iff.1 (hq.mem_iff.2 (List.mem_cons_self ..))
    rcases List.mem_cons.1 this with h | h
    ·exact absurd h hst
    ·exact h
   obtain ⟨A,B,rfl⟩ := List.append_of_mem hs
   have p1 : (A ++ s :: B).Perm (s :: (A ++ B)) := List.perm_middle
   have g := ih p1 (hc.more _)
   have l1 := h.later hs
   refine .step (s := t) (T := A ++ B) ?_ (h1.more _) ?_ ?_
   ·have : (s :: T).Perm (s :: t :: (A ++ B)) := hq.symm.trans (hp.trans ((p1.cons t).trans (List.Perm.swap s t _)))
    exact List.Perm.cons_inv this
   ·intro g2
    rcases con_cons.1 g2 with g2 | ⟨g2,g3⟩ | ⟨g2,g3⟩
    ·exact h2 g2
    ·exact l1 (con_cons.2 (.inr (.inl ⟨g2.symm,g3.symm⟩)))
    ·exact l1 (con_cons.2 (.inr (.inr ⟨g3,g2⟩)))
   ·refine g.congr fun x y => ?_
    constructor <;> exact fun h => h.mono fun e he => by simp at he ⊢; rcases he with h | h | h <;> simp [h]
theorem Full.ready {n : Nat} {S : List Stp} {L : List (Nat × Nat)} (h : Full n S L) (hS : S ≠ []) : ∃ s ∈ S,Con L s.c s.d ∧ ¬ Con L s.a s.b := by
 cases h with
 | nil _ => exact absurd rfl hS
 | step hp h1 h2 _ => exact ⟨_,hp.mem_iff.2 (List.mem_cons_self ..),h1,h2⟩
def edS (e : Nat × Nat) : Stp := ⟨e.1,e.2,e.1,e.1⟩
def paS (p : Nat × Nat × Nat) : Stp := ⟨p.1,p.2.1,p.2.1,p.2.2⟩
def RepU (u : List Nat) (L : List (Nat × Nat)) : Prop := ∀ x y,x < u.length → y < u.length → (rtU u x = rtU u y ↔ Con L x y)
theorem RepU.join {u : List Nat} {L : List (Nat × Nat)} (h : RepU u L) (hg : Good u) {a b : Nat} (ha : a < u.length) (hb : b < u.length) : RepU (joinU u a b) ((a,b) :: L) := by
 intro x y hx hy
 rw [joinU_len] at hx hy
 rw [joinU_rt hg ha hb hx,joinU_rt hg ha hb hy,con_cons,← h x y hx hy,← h x a hx ha,← h b y hb hy,← h x b hx hb,← h a y ha hy]
 by_cases h1 : rtU u x = rtU u a <;> by_cases h2 : rtU u y = rtU u a
 ·rw [if_pos h1,if_pos h2]
  exact ⟨fun _ => .inl (h1.trans h2.symm),fun _ => rfl⟩
 ·rw [if_pos h1,if_neg h2]
  constructor
  ·intro h; exact .inr (.inl ⟨h1,h⟩)
  ·rintro (h | ⟨_,h⟩ | ⟨h,g⟩)
   ·exact absurd (h.symm.trans h1) h2
   ·exact h
   ·exact absurd g.symm h2
 ·rw [if_neg h1,if_pos h2]
  constructor
  ·intro h; exact .inr (.inr ⟨h,h2.symm⟩)
  ·rintro (h | ⟨h,_⟩ | ⟨h,_⟩)
   ·exact absurd (h.trans h2) h1
   ·exact absurd h h1
   ·exact h
 ·rw [if_neg h1,if_neg h2]
  constructor
  ·intro h; exact .inl h
  ·rintro (h | ⟨h,_⟩ | ⟨_,h⟩)
   ·exact h
   ·exact absurd h h1
   ·exact absurd h.symm h2
theorem edgU_full {S : List Stp} : ∀ (E : List (Nat × Nat)) (u : List Nat) (L : List (Nat × Nat)),Good u → RepU u L → (∀ e ∈ E,e.1 < u.length ∧ e.2 < u.length) →
  match edgU E u with
  | none => ¬ Full u.length (E.map edS ++ S) L
  | some u' => Good u' ∧ u'.length = u.length ∧ ∃ L',RepU u' L' ∧ (Full u.length (E.map edS ++ S) L ↔ Full u.length S L')
 | [],u,L,hg,hr,_ => ⟨hg,rfl,L,hr,Iff.rfl⟩
 | e :: r,u,L,hg,hr,hE => by
  obtain ⟨h1,h2⟩ := hE e (by simp)
  rw [edgU]
  by_cases h : rtU u e.1 = rtU u e.2
  ·rw [if_pos h]
   exact fun f => f.later (s := edS e) (by simp) ((hr _ _ h1 h2).1 h)
  ·rw [if_neg h]
   have ih := edgU_full (S := S) r (joinU u e.1 e.2) ((e.1,e.2) :: L) (joinU_good hg h1 h2) (hr.join hg h1 h2) (fun f hf => by rw [joinU_len]; exact hE f (by simp [hf]))
   have hk : Full u.length ((e :: r).map edS ++ S) L ↔ Full u.length (r.map edS ++ S) ((e.1,e.2) :: L) :=
    ⟨fun f => f.exch (s := edS e) (by simp) (.refl _),fun f => .step (s := edS e) (by simp) (.refl _) (fun g => h ((hr _ _ h1 h2).2 g)) f⟩
   rw [joinU_len] at ih
   cases he : edgU r (joinU u e.1 e.2) with
   | none => rw [he] at ih; dsimp only at ih ⊢; rw [hk]; exact ih
   | some u' =>
    rw [he] at ih
    dsimp only at ih ⊢
    rw [hk]
    exact ih
theorem perm_eraseIdx {α : Type} : ∀ (P : List α) (i : Nat) (h : i < P.length),P.Perm (P[i] :: P.eraseIdx i)
 | x :: r,0,_ => .refl _
 | x :: r,i + 1,h => ((perm_eraseIdx r i (by simpa using h)).cons x).trans (.swap _ _ _)
theorem endU_full {u : List Nat} {L : List (Nat × Nat)} (hr : RepU u L) : endU u = true ↔ Full u.length [] L := by
 unfold endU
 rw [decide_eq_true_eq]
 constructor
 ·intro h
  refine .nil fun x y hx hy => ?_
  exact (hr x y hx hy).1 ((h x hx).trans (h y hy).symm)
 ·intro h x hx
  cases h with
  | nil h => exact (hr x 0 hx (by omega)).2 (h x 0 hx (by omega))
  | step hp => exact absurd (List.nil_perm.1 hp) (by simp)
theorem parU_full : ∀ (n : Nat) (P : List (Nat × Nat × Nat)) (u : List Nat) (L : List (Nat × Nat)),P.length < n → Good u → RepU u L → (∀ p ∈ P,p.1 < u.length ∧ p.2.1 < u.length ∧ p.2.2 < u.length) →
  ((match parU n P u with | none => false | some u => endU u) = true ↔ Full u.length (P.map paS) L) := by
 intro n
 induction n with
 | zero => intro P u L h; omega
 | succ n ih =>
  intro P u L hn hg hr hP
  rw [parU]
  by_cases h0 : P = []
  ·rw [if_pos h0]
   subst h0
   exact endU_full hr
  ·rw [if_neg h0]
   cases hf : P.findIdx? (rdyU u) with
   | none =>
    rw [List.findIdx?_eq_none_iff] at hf
    refine ⟨fun h => Bool.noConfusion h,fun h => ?_⟩
    obtain ⟨s,hs,h1,h2⟩ := h.ready (by simp [h0])
    obtain ⟨p,hp,rfl⟩ := List.mem_map.1 hs
    obtain ⟨b1,b2,b3⟩ := hP p hp
    have := hf p hp
    unfold rdyU at this
    rw [decide_eq_false_iff_not] at this
    exact absurd ⟨(hr _ _ b2 b3).2 h1,fun g => h2 ((hr _ _ b1 b2).1 g.symm)⟩ this
   | some i =>
    rw [List.findIdx?_eq_some_iff_getElem] at hf
    obtain ⟨hi,h1,_⟩ := hf
    unfold rdyU at h1
    rw [decide_eq_true_eq] at h1
    obtain ⟨b1,b2,b3⟩ := hP P[i] (List.getElem_mem ..)
    dsimp only
    rw [getElem!_pos P i hi]
    have := ih (P.eraseIdx i) (joinU u P[i].1 P[i].2.1) ((P[i].1,P[i].2.1) :: L) (by rw [List.length_eraseIdx_of_lt hi]; omega) (joinU_good hg b1 b2) (hr.join hg b1 b2) (fun p hp => by rw [joinU_len]; exact hP p (List.mem_of_mem_eraseIdx hp))
    rw [this,joinU_len]
    have hp : (P.map paS).Perm (paS P[i] :: (P.eraseIdx i).map paS) := by
     rw [← List.map_cons]
     exact (perm_eraseIdx P i hi).map _
    exact ⟨fun f => .step hp ((hr _ _ b2 b3).1 h1.1) (fun g => h1.2 ((hr _ _ b1 b2).2 g).symm) f,fun f => f.exch hp ((hr _ _ b2 b3).1 h1.1)⟩
theorem runU_full (P : List (Nat × Nat × Nat)) (E : List (Nat × Nat)) (n : Nat) (hE : ∀ e ∈ E,e.1 < n ∧ e.2 < n) (hP : ∀ p ∈ P,p.1 < n ∧ p.2.1 < n ∧ p.2.2 < n) :
  runU P (edgU E (List.range n)) = true ↔ Full n (E.map edS ++ P.map paS) [] := by
 have h0 : RepU (List.range n) [] := by
  intro x y hx hy
  rw [List.length_range] at hx hy
  rw [range_rt hx,range_rt hy]
  constructor
  ·rintro rfl; exact .refl _
  ·intro h
   exact (h.closed (fun z => x = z) (by simp)).1 rfl
 have h1 := edgU_full (S := P.map paS) E (List.range n) [] (range_good n) h0 (by rw [List.length_range]; exact hE)
 rw [List.length_range] at h1
 cases he : edgU E (List.range n) with
 | none =>
  rw [he] at h1
  exact ⟨fun h => Bool.noConfusion h,fun h => absurd h h1⟩
 | some u =>
  rw [he] at h1
  obtain ⟨hg,hl,L',hr,h2⟩ := h1
  rw [h2]
  have := parU_full (P.length + 1) P u L' (by omega) hg hr (by rw [hl]; exact hP)
  rw [hl] at this
  exact this
theorem Full.part {N n : Nat} {W : List Stp} {L : List (Nat × Nat)} (h : Full N W L) : ∀ {φ ρ : Nat → Nat} {S R : List Stp} {L1 : List (Nat × Nat)},W.Perm (S.map (fun s => ⟨φ s.a,φ s.b,φ s.c,φ s.d⟩) ++ R) → (∀ x,ρ (φ x) = x) → (∀ x,x < n → φ x < N) →
  (∀ s ∈ R,ρ s.a = ρ s.b) → (∀ e ∈ L,Con L1 (ρ e.1) (ρ e.2)) → (∀ e ∈ L1,Con L (φ e.1) (φ e.2)) → Full n S L1 := by
 induction h with
 | @nil L h =>
  intro φ ρ S R L1 hp hφ hn hR hL hL1
  have := List.append_eq_nil_iff.1 (List.nil_perm.1 hp)
  obtain rfl : S = [] := List.map_eq_nil_iff.1 this.1
  refine .nil fun x y hx hy => ?_
  have := (h (φ x) (φ y) (hn x hx) (hn y hy)).hom ρ hL
  rwa [hφ,hφ] at this
 | @step W T s L hq h1 h2 h ih =>
  intro φ ρ S R L1 hp hφ hn hR hL hL1
  have hs : s ∈ S.map (fun s => (⟨φ s.a,φ s.b,φ s.c,φ s.d⟩ : Stp)) ++ R := hp.mem_iff.1 (hq.mem_iff.2 (List.mem_cons_self ..))
  rcases List.mem_append.1 hs with hs | hs
  ·obtain ⟨t,ht,rfl⟩ := List.mem_map.1 hs
   obtain ⟨A,B,rfl⟩ := List.append_of_mem ht
   have p1 : (A ++ t :: B).Perm (t :: (A ++ B)) := List.perm_middle
   have hT : T.Perm ((A ++ B).map (fun s => (⟨φ s.a,φ s.b,φ s.c,φ s.d⟩ : Stp)) ++ R) := by
    refine List.Perm.cons_inv ((hq.symm.trans hp).trans ?_)
    rw [← List.cons_append]
    exact (p1.map (fun s => (⟨φ s.a,φ s.b,φ s.c,φ s.d⟩ : Stp))).append_right R
   refine .step p1 ?_ ?_ (ih hT hφ hn hR ?_ ?_)
   ·have := h1.hom ρ hL
    rwa [hφ,hφ] at this
   ·exact fun g => h2 (g.hom φ hL1)
   ·intro e he
    rcases List.mem_cons.1 he with rfl | he
    ·simp only [hφ]; exact .edge (by simp)
    ·exact (hL e he).more _
   ·intro e he
    rcases List.mem_cons.1 he with rfl | he
    ·exact .edge (by simp)
    ·exact (hL1 e he).more _
  ·obtain ⟨A,B,rfl⟩ := List.append_of_mem hs
   have p1 : (A ++ s :: B).Perm (s :: (A ++ B)) := List.perm_middle
   have hT : T.Perm (S.map (fun s => (⟨φ s.a,φ s.b,φ s.c,φ s.d⟩ : Stp)) ++ (A ++ B)) := by
    refine List.Perm.cons_inv ((hq.symm.trans hp).trans ?_)
    exact (p1.append_left _).trans List.perm_middle
   refine ih hT hφ hn (fun t ht => hR t (p1.mem_iff.2 (by simp [ht]))) ?_ (fun e he => (hL1 e he).more _)
   intro e he
   rcases List.mem_cons.1 he with rfl | he
   ·show Con L1 (ρ s.a) (ρ s.b)
    rw [hR s hs]; exact .refl _
   ·exact hL e he
inductive Can : List Stp → List (Nat × Nat) → Prop where
 | nil (L : List (Nat × Nat)) : Can [] L
 | cons {s : Stp} {S : List Stp} {L : List (Nat × Nat)} (h1 : Con L s.c s.d) (h2 : ¬ Con L s.a s.b) (h : Can S ((s.a,s.b) :: L)) : Can (s :: S) L
def ends (S : List Stp) : List (Nat × Nat) := (S.map fun s => (s.a,s.b)).reverse
theorem ends_cons (s : Stp) (S : List Stp) (L : List (Nat × Nat)) : ends (s :: S) ++ L = ends S ++ (s.a,s.b) :: L := by unfold ends; simp
theorem ends_app (S T : List Stp) : ends (S ++ T) = ends T ++ ends S := by unfold ends; simp
theorem mem_ends {S : List Stp} {e : Nat × Nat} : e ∈ ends S ↔ ∃ s ∈ S,(s.a,s.b) = e := by unfold ends; simp
theorem Can.app {S : List Stp} {L : List (Nat × Nat)} (h : Can S L) {T : List Stp} : Can T (ends S ++ L) → Can (S ++ T) L := by
 induction h with
 | nil L => exact id
 | cons h1 h2 _ ih => intro g; rw [ends_cons] at g; exact .cons h1 h2 (ih g)
theorem Can.full {n : Nat} {S : List Stp} {L : List (Nat × Nat)} (h : Can S L) {T : List Stp} : Full n T (ends S ++ L) → Full n (S ++ T) L := by
 induction h with
 | nil L => exact id
 | cons h1 h2 _ ih => intro g; rw [ends_cons] at g; exact .step (by rfl) h1 h2 (ih g)
theorem Full.can {n : Nat} {S : List Stp} {L : List (Nat × Nat)} (h : Full n S L) : ∃ T,S.Perm T ∧ Can T L ∧ ∀ x y,x < n → y < n → Con (ends T ++ L) x y := by
 induction h with
 | nil h => exact ⟨[],.refl _,.nil _,h⟩
 | step hp h1 h2 _ ih =>
  obtain ⟨T,p,c,e⟩ := ih
  exact ⟨_ :: T,hp.trans (p.cons _),.cons h1 h2 c,by rw [ends_cons]; exact e⟩
theorem Can.put {S : List Stp} {L : List (Nat × Nat)} (h : Can S L) : ∀ {φ ρ : Nat → Nat} {L' : List (Nat × Nat)},(∀ x,ρ (φ x) = x) → (∀ e ∈ L',Con L (ρ e.1) (ρ e.2)) → (∀ e ∈ L,Con L' (φ e.1) (φ e.2)) → Can (S.map fun s => ⟨φ s.a,φ s.b,φ s.c,φ s.d⟩) L' := by
 induction h with
 | nil L => intro φ ρ L' _ _ _; exact .nil _
 | @cons s S L h1 h2 h ih =>
  intro φ ρ L' hφ hL hL1
  refine .cons (h1.hom φ hL1) (fun g => h2 ?_) (ih hφ ?_ ?_)
  ·have := g.hom ρ hL
   simpa only [hφ] using this
  ·intro e he
   rcases List.mem_cons.1 he with rfl | he
   ·simp only [hφ]; exact .edge (by simp)
   ·exact (hL e he).more _
  ·intro e he
   rcases List.mem_cons.1 he with rfl | he
   ·exact .edge (by simp)
   ·exact (hL1 e he).more _
end Go.Proofs.Ytbdionmmfigfiaa
namespace Go.Proofs.Ytbdionmmfigfiaa
open Go Go.Pv
theorem lfL_ok : ∀ (l : List Ln) (n i : Nat),i ≤ 200 → 201 ≤ i + n → lfL (l.take n) i = (0,0) → i + l.length ≤ 200 ∧ ∀ x ∈ l,lfN x = 0
 | [],n,i,hi,_,_ => ⟨by simpa using hi,fun x hx => by cases hx⟩
 | x :: r,n,i,hi,hn,h => by
  obtain ⟨n,rfl⟩ : ∃ m,n = m + 1 := ⟨n - 1,by omega⟩
  rw [List.take_succ_cons,lfL] at h
  by_cases h2 : i = 200
  ·rw [if_pos h2] at h; cases h
  rw [if_neg h2] at h
  by_cases h3 : lfN x = 0
  ·rw [if_neg (by simp [h3])] at h
   obtain ⟨g1,g2⟩ := lfL_ok r n (i + 1) (by omega) (by omega) h
   refine ⟨by rw [List.length_cons]; omega,fun y hy => ?_⟩
   rcases List.mem_cons.1 hy with rfl | hy
   ·exact h3
   ·exact g2 y hy
  ·rw [if_pos h3] at h
   exact absurd (congrArg Prod.fst h) h3
def LtOk : Lt → Prop
 | .atom nm _ => isNameB nm = true
 | .op _ a b => LtOk a ∧ LtOk b
theorem lt_of (x : Ln) : (∀ y ∈ ndL x,lfN y = 0) → ∃ t,x = lnOf t ∧ LtOk t := by
 induction x using Ln.ind with
 | h x ih =>
  intro h
  have h0 := h x (by rw [ndL_eq]; simp)
  have hk : ∀ v ∈ x.kids,∃ t,v = lnOf t ∧ LtOk t := fun v hv => ih v hv fun y hy => h y (by
   rw [ndL_eq,List.mem_cons]
   refine .inr ?_
   have : ∀ l : List Ln,v ∈ l → y ∈ ndLs l := by
    intro l
    induction l with
    | nil => intro h; cases h
    | cons z r ihr =>
     intro h
     rw [ndLs,List.mem_append]
     rcases List.mem_cons.1 h with rfl | h
     ·exact .inl hy
     ·exact .inr (ihr h)
   exact this _ hv)
  clear h ih
  cases x with
  | mk k nm no l =>
   simp only [ln_mk] at hk
   unfold lfN at h0
   simp only [ln_mk] at h0
   split at h0
   ·cases h0
   split at h0
   ·cases h0
   rename_i h1 h2
   have h2 : (l.length : Int) = kidsL k := Decidable.not_not.1 h2
   unfold lfM at h0
   split at h0
   ·cases h0
   rename_i h3
   simp only [ln_mk,not_or,not_and] at h3
   have hk3 : k = 1 ∨ k = 2 ∨ k = 3 := by
    unfold kidsL at h1
    split at h1
    ·exact .inl ‹_›
    split at h1
    ·exact .inr ‹_›
    ·exact absurd (by decide) h1
   rcases hk3 with rfl | hk2
   ·obtain rfl : l = [] := List.eq_nil_of_length_eq_zero (by simp [kidsL] at h2; simp [h2])
    refine ⟨.atom nm no,rfl,?_⟩
    have := h3.1 rfl
    simpa [LtOk] using this
   ·have hl2 : l.length = 2 := by
     have : kidsL k = 2 := by unfold kidsL; rw [if_neg (by omega),if_pos hk2]
     omega
    match l,hl2 with
    | [a,b],_ =>
     obtain ⟨ta,rfl,oa⟩ := hk a (by simp)
     obtain ⟨tb,rfl,ob⟩ := hk b (by simp)
     have hpos : 0 < kidsL k := by unfold kidsL; rw [if_neg (by omega),if_pos hk2]; decide
     have h4 := h3.2 hpos
     have hnm : nm = ⟨#[]⟩ := Decidable.not_not.1 h4.1
     have hno : no = false := by simpa using h4.2
     subst hnm; subst hno
     rcases hk2 with rfl | rfl
     ·exact ⟨.op false ta tb,rfl,oa,ob⟩
     ·exact ⟨.op true ta tb,rfl,oa,ob⟩
end Go.Proofs.Ytbdionmmfigfiaa
namespace Go.Proofs.Ytbdionmmfigfiaa
open Go Go.Pv
def gT : Nat → Lt → List (Int × (Int × Int) × (Nat × Nat))
 | _,.atom _ _ => [(1,(-1,-1),(0,0))]
 | n,.op p a b => (if p = true then 3 else 2,(((n + 1 : Nat) : Int),((n + 1 + szT a : Nat) : Int)),(n + 1,n + 1 + szT a)) :: (gT (n + 1) a ++ gT (n + 1 + szT a) b)
def gTs : Nat → List Lt → List (Int × (Int × Int) × (Nat × Nat))
 | _,[] => []
 | n,t :: r => gT n t ++ gTs (n + szT t) r
theorem gT_kd (t : Lt) : ∀ n,(gT n t).map (·.1) = kdT t := by
 induction t with
 | atom => intro n; rfl
 | op p a b ha hb => intro n; rw [gT,kdT,List.map_cons,List.map_append,ha,hb]
theorem gT_ks (t : Lt) : ∀ n,(gT n t).map (·.2.1) = ksT n t := by
 induction t with
 | atom => intro n; rfl
 | op p a b ha hb => intro n; rw [gT,ksT,List.map_cons,List.map_append,ha,hb]
theorem gTs_kd (l : List Lt) : ∀ n,(gTs n l).map (·.1) = kdTs l := by
 induction l with
 | nil => intro n; rfl
 | cons t r ih => intro n; rw [gTs,kdTs,List.map_append,gT_kd,ih]
theorem gTs_ks (l : List Lt) : ∀ n,(gTs n l).map (·.2.1) = ksTs n l := by
 induction l with
 | nil => intro n; rfl
 | cons t r ih => intro n; rw [gTs,ksTs,List.map_append,gT_ks,ih]
theorem szT_pos (t : Lt) : 0 < szT t := by cases t <;> simp [szT]; omega
theorem gT_ok (t : Lt) : ∀ n,∀ x ∈ gT n t,x.1 = 2 ∨ x.1 = 3 → x.2.1 = ((x.2.2.1 : Int),(x.2.2.2 : Int)) ∧ x.2.2.1 < n + szT t ∧ x.2.2.2 < n + szT t := by
 induction t with
 | atom =>
  intro n x hx h
  rw [gT,List.mem_singleton] at hx
  subst hx
  rcases h with h | h <;> cases h
 | op p a b ha hb =>
  intro n x hx h
  have := szT_pos a
  have := szT_pos b
  rw [gT] at hx
  rw [szT]
  rcases List.mem_cons.1 hx with rfl | hx
  ·exact ⟨rfl,by dsimp only; omega,by dsimp only; omega⟩
  ·rcases List.mem_append.1 hx with hx | hx
   ·obtain ⟨h1,h2,h3⟩ := ha _ x hx h; exact ⟨h1,by omega,by omega⟩
   ·obtain ⟨h1,h2,h3⟩ := hb _ x hx h; exact ⟨h1,by omega,by omega⟩
theorem gTs_ok (l : List Lt) : ∀ n,∀ x ∈ gTs n l,x.1 = 2 ∨ x.1 = 3 → x.2.1 = ((x.2.2.1 : Int),(x.2.2.2 : Int)) ∧ x.2.2.1 < n + szTs l ∧ x.2.2.2 < n + szTs l := by
 induction l with
 | nil => intro n x hx; cases hx
 | cons t r ih =>
  intro n x hx h
  rw [gTs] at hx
  rw [szTs]
  rcases List.mem_append.1 hx with hx | hx
  ·obtain ⟨h1,h2,h3⟩ := gT_ok t _ x hx h; exact ⟨h1,by omega,by omega⟩
  ·obtain ⟨h1,h2,h3⟩ := ih _ x hx h; exact ⟨h1,by omega,by omega⟩
def lnT : Nat → Lt → List Nat
 | n,.atom _ _ => [n]
 | n,.op _ a b => lnT (n + 1) a ++ lnT (n + 1 + szT a) b
def lnTs : Nat → List Lt → List Nat
 | _,[] => []
 | n,t :: r => lnT n t ++ lnTs (n + szT t) r
theorem lnT_lf (t : Lt) : ∀ n,lfT n t = (lnT n t).map fun (x : Nat) => (x : Int) := by
 induction t with
 | atom => intro n; rfl
 | op p a b ha hb => intro n; rw [lfT,lnT,List.map_append,ha,hb]
theorem lnTs_lf (l : List Lt) : ∀ n,lfTs n l = (lnTs n l).map fun (x : Nat) => (x : Int) := by
 induction l with
 | nil => intro n; rfl
 | cons t r ih => intro n; rw [lfTs,lnTs,List.map_append,lnT_lf,ih]
theorem lnT_in (t : Lt) : ∀ n,∀ x ∈ lnT n t,n ≤ x ∧ x < n + szT t := by
 induction t with
 | atom => intro n x hx; rw [lnT,List.mem_singleton] at hx; subst hx; rw [szT]; omega
 | op p a b ha hb =>
  intro n x hx
  rw [lnT] at hx
  rw [szT]
  rcases List.mem_append.1 hx with hx | hx
  ·have := ha _ x hx; omega
  ·have := hb _ x hx; omega
theorem lnTs_in (l : List Lt) : ∀ n,∀ x ∈ lnTs n l,n ≤ x ∧ x < n + szTs l := by
 induction l with
 | nil => intro n x hx; cases hx
 | cons t r ih =>
  intro n x hx
  rw [lnTs] at hx
  rw [szTs]
  rcases List.mem_append.1 hx with hx | hx
  ·have := lnT_in t _ x hx; omega
  ·have := ih _ x hx; omega
theorem lnTs_app (a b : List Lt) : ∀ n,lnTs n (a ++ b) = lnTs n a ++ lnTs (n + szTs a) b := by
 induction a with
 | nil => intro n; simp [lnTs,szTs]
 | cons x r ih => intro n; rw [List.cons_append,lnTs,lnTs,ih,List.append_assoc,szTs,Nat.add_assoc]
def tenT : Nat → Lt → List (Nat × Nat)
 | _,.atom _ _ => []
 | n,.op p a b => (if p = true then [] else [(n,n + 1),(n,n + 1 + szT a)]) ++ (tenT (n + 1) a ++ tenT (n + 1 + szT a) b)
def parT : Nat → Lt → List (Nat × Nat × Nat)
 | _,.atom _ _ => []
 | n,.op p a b => (if p = true then [(n,n + 1,n + 1 + szT a)] else []) ++ (parT (n + 1) a ++ parT (n + 1 + szT a) b)
def stT : Nat → Lt → List Stp
 | _,.atom _ _ => []
 | n,.op p a b => (if p = true then [paS (n,n + 1,n + 1 + szT a)] else [edS (n,n + 1),edS (n,n + 1 + szT a)]) ++ (stT (n + 1) a ++ stT (n + 1 + szT a) b)
def tenTs : Nat → List Lt → List (Nat × Nat)
 | _,[] => []
 | n,t :: r => tenT n t ++ tenTs (n + szT t) r
def parTs : Nat → List Lt → List (Nat × Nat × Nat)
 | _,[] => []
 | n,t :: r => parT n t ++ parTs (n + szT t) r
def stTs : Nat → List Lt → List Stp
 | _,[] => []
 | n,t :: r => stT n t ++ stTs (n + szT t) r
theorem gT_ten (t : Lt) : ∀ (n : Nat) (K : List Int) (C : List (Nat × Nat)),tenK (kdT t ++ K) ((gT n t).map (·.2.2) ++ C) n = tenT n t ++ tenK K C (n + szT t) := by
 induction t with
 | atom nm no => intro n K C; rw [kdT,gT,tenT,szT]; rfl
 | op p a b ha hb =>
  intro n K C
  rw [kdT,gT,tenT,szT,List.map_cons,List.map_append,List.cons_append,List.cons_append,List.append_assoc,List.append_assoc,tenK,ha,hb,show n + 1 + szT a + szT b = n + (1 + szT a + szT b) by omega]
  cases p <;> simp
theorem gT_par (t : Lt) : ∀ (n : Nat) (K : List Int) (C : List (Nat × Nat)),parK (kdT t ++ K) ((gT n t).map (·.2.2) ++ C) n = parT n t ++ parK K C (n + szT t) := by
 induction t with
 | atom nm no => intro n K C; rw [kdT,gT,parT,szT]; rfl
 | op p a b ha hb =>
  intro n K C
  rw [kdT,gT,parT,szT,List.map_cons,List.map_append,List.cons_append,List.cons_append,List.append_assoc,List.append_assoc,parK,ha,hb,show n + 1 + szT a + szT b = n + (1 + szT a + szT b) by omega]
  cases p <;> simp
theorem gTs_ten (l : List Lt) : ∀ n : Nat,tenK (kdTs l) ((gTs n l).map (·.2.2)) n = tenTs n l := by
 induction l with
 | nil => intro n; rfl
 | cons t r ih => intro n; rw [kdTs,gTs,tenTs,List.map_append,gT_ten,ih]
theorem gTs_par (l : List Lt) : ∀ n : Nat,parK (kdTs l) ((gTs n l).map (·.2.2)) n = parTs n l := by
 induction l with
 | nil => intro n; rfl
 | cons t r ih => intro n; rw [kdTs,gTs,parTs,List.map_append,gT_par,ih]
theorem perm4 {α : Type} (a b c d : List α) : ((a ++ b) ++ (c ++ d)).Perm ((a ++ c) ++ (b ++ d)) := by
 rw [List.append_assoc,List.append_assoc]
 refine List.Perm.append_left a ?_
 rw [← List.append_assoc,← List.append_assoc]
 exact List.Perm.append_right d List.perm_append_comm
theorem stT_perm (t : Lt) : ∀ n,((tenT n t).map edS ++ (parT n t).map paS).Perm (stT n t) := by
 induction t with
 | atom => intro n; exact .refl _
 | op p a b ha hb =>
  intro n
  rw [tenT,parT,stT,List.map_append,List.map_append,List.map_append,List.map_append]
  refine (perm4 _ _ _ _).trans ?_
  refine List.Perm.append ?_ ((perm4 _ _ _ _).trans ((ha _).append (hb _)))
  cases p <;> simp
theorem stTs_perm (l : List Lt) : ∀ n,((tenTs n l).map edS ++ (parTs n l).map paS).Perm (stTs n l) := by
 induction l with
 | nil => intro n; exact .refl _
 | cons t r ih =>
  intro n
  rw [tenTs,parTs,stTs,List.map_append,List.map_append]
  exact (perm4 _ _ _ _).trans ((stT_perm t n).append (ih _))
theorem stTs_app (a b : List Lt) : ∀ n,stTs n (a ++ b) = stTs n a ++ stTs (n + szTs a) b := by
 induction a with
 | nil => intro n; simp [stTs,szTs]
 | cons x r ih => intro n; rw [List.cons_append,stTs,stTs,ih,List.append_assoc,szTs,Nat.add_assoc]
def InS (lo hi : Nat) (s : Stp) : Prop := lo ≤ s.a ∧ s.a < hi ∧ lo ≤ s.b ∧ s.b < hi ∧ lo ≤ s.c ∧ s.c < hi ∧ lo ≤ s.d ∧ s.d < hi
theorem InS.mono {lo hi lo' hi' : Nat} {s : Stp} (h : InS lo hi s) (h1 : lo' ≤ lo) (h2 : hi ≤ hi') : InS lo' hi' s := by
 obtain ⟨a,b,c,d,e,f,g,i⟩ := h
 exact ⟨by omega,by omega,by omega,by omega,by omega,by omega,by omega,by omega⟩
theorem stT_in (t : Lt) : ∀ n,∀ s ∈ stT n t,InS n (n + szT t) s := by
 induction t with
 | atom => intro n s hs; cases hs
 | op p a b ha hb =>
  intro n s hs
  have := szT_pos a
  have := szT_pos b
  rw [stT] at hs
  rw [szT]
  rcases List.mem_append.1 hs with hs | hs
  ·cases p with
   | true =>
    simp only [if_pos,List.mem_singleton] at hs
    subst hs
    unfold InS paS
    dsimp only
    omega
   | false =>
    simp only [Bool.false_eq_true,if_false,List.mem_cons,List.not_mem_nil,or_false] at hs
    rcases hs with rfl | rfl <;> unfold InS edS <;> dsimp only <;> omega
  ·rcases List.mem_append.1 hs with hs | hs
   ·exact (ha _ s hs).mono (by omega) (by omega)
   ·exact (hb _ s hs).mono (by omega) (by omega)
theorem stTs_in (l : List Lt) : ∀ n,∀ s ∈ stTs n l,InS n (n + szTs l) s := by
 induction l with
 | nil => intro n s hs; cases hs
 | cons t r ih =>
  intro n s hs
  rw [stTs] at hs
  rw [szTs]
  rcases List.mem_append.1 hs with hs | hs
  ·exact (stT_in t _ s hs).mono (by omega) (by omega)
  ·exact (ih _ s hs).mono (by omega) (by omega)
def mapS (φ : Nat → Nat) (s : Stp) : Stp := ⟨φ s.a,φ s.b,φ s.c,φ s.d⟩
theorem stT_map (t : Lt) : ∀ (n m : Nat) (φ : Nat → Nat),(∀ i,i < szT t → φ (n + i) = m + i) → (stT n t).map (mapS φ) = stT m t := by
 induction t with
 | atom => intro n m φ h; rfl
 | op p a b ha hb =>
  intro n m φ h
  have := szT_pos a
  have := szT_pos b
  rw [szT] at h
  rw [stT,stT,List.map_append,List.map_append,ha (n + 1) (m + 1) φ (fun i hi => by have := h (1 + i) (by omega); rw [Nat.add_assoc,this]; omega),
   hb (n + 1 + szT a) (m + 1 + szT a) φ (fun i hi => by have := h (1 + szT a + i) (by omega); rw [show n + 1 + szT a + i = n + (1 + szT a + i) by omega,this]; omega)]
  congr 1
  have h0 := h 0 (by omega)
  have h1 := h 1 (by omega)
  have h2 := h (1 + szT a) (by omega)
  rw [Nat.add_zero,Nat.add_zero] at h0
  rw [← Nat.add_assoc,← Nat.add_assoc] at h2
  cases p <;> simp [mapS,paS,edS,h0,h1,h2]
theorem stTs_map (l : List Lt) : ∀ (n m : Nat) (φ : Nat → Nat),(∀ i,i < szTs l → φ (n + i) = m + i) → (stTs n l).map (mapS φ) = stTs m l := by
 induction l with
 | nil => intro n m φ h; rfl
 | cons t r ih =>
  intro n m φ h
  rw [szTs] at h
  rw [stTs,stTs,List.map_append,stT_map t n m φ (fun i hi => h i (by omega)),ih (n + szT t) (m + szT t) φ (fun i hi => by rw [Nat.add_assoc,h _ (by omega)]; omega)]
theorem lnT_map (t : Lt) : ∀ (n m : Nat) (φ : Nat → Nat),(∀ i,i < szT t → φ (n + i) = m + i) → (lnT n t).map φ = lnT m t := by
 induction t with
 | atom => intro n m φ h; rw [lnT,lnT,List.map_singleton]; have := h 0 (by simp [szT]); simp at this; rw [this]
 | op p a b ha hb =>
  intro n m φ h
  rw [szT] at h
  rw [lnT,lnT,List.map_append,ha (n + 1) (m + 1) φ (fun i hi => by have := h (1 + i) (by omega); rw [Nat.add_assoc,this]; omega),
   hb (n + 1 + szT a) (m + 1 + szT a) φ (fun i hi => by have := h (1 + szT a + i) (by omega); rw [show n + 1 + szT a + i = n + (1 + szT a + i) by omega,this]; omega)]
theorem lnTs_map (l : List Lt) : ∀ (n m : Nat) (φ : Nat → Nat),(∀ i,i < szTs l → φ (n + i) = m + i) → (lnTs n l).map φ = lnTs m l := by
 induction l with
 | nil => intro n m φ h; rfl
 | cons t r ih =>
  intro n m φ h
  rw [szTs] at h
  rw [lnTs,lnTs,List.map_append,lnT_map t n m φ (fun i hi => h i (by omega)),ih (n + szT t) (m + szT t) φ (fun i hi => by rw [Nat.add_assoc,h _ (by omega)]; omega)]
def axS (lf : List Nat) (ax : List (Nat × Nat)) : List Stp := ax.map fun a => edS (lf[a.1]!,lf[a.2]!)
def CorT (ts : List Lt) (ax : List (Nat × Nat)) : Prop := Full (szTs ts) (axS (lnTs 0 ts) ax ++ stTs 0 ts) []
end Go.Proofs.Ytbdionmmfigfiaa
