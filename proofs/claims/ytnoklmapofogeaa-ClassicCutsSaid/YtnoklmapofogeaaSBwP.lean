import Derived.Test.YtnoklmapofogeaaSCcW
import Derived.Test.YtnoklmapofogeaaSCcZ
import Derived.Test.YtnoklmapofogeaaSFormB
import Derived.Test.YtnoklmapofogeaaSCcA
import Derived.Test.YtnoklmapofogeaaSPvOz
import Derived.Test.YtnoklmapofogeaaSTrA
set_option linter.unusedVariables false
set_option linter.unusedSimpArgs false
set_option maxRecDepth 100000
set_option maxHeartbeats 4000000
namespace Go.Proofs.Ytnoklmapofogeaa
open Go Go.Pv
inductive Gr : List Fm → List Fm → Int → Nat → Pf → Nat → Prop where
 | last {l r : List Fm} {d : Int} {n : Nat} {e : ByteArray × Fm} (hn : n < 20000) (hd : d ≤ 400) (hl : l.length + r.length ≤ 60) (he : endF l r = some e) : Gr l r d n (.mk e.1 e.2 l r []) (n + 1)
 | one {l r : List Fm} {d : Int} {n n' : Nat} {a : ByteArray} {f : Fm} {q : Prem} {k : Pf} (hn : n < 20000) (hd : d ≤ 400) (hl : l.length + r.length ≤ 60) (hm : Mv l r (a, f, [q])) (h : Gr q.1 q.2 (d + 1) (n + 1) k n') : Gr l r d n (.mk a f l r [k]) n'
 | two {l r : List Fm} {d : Int} {n n1 n2 : Nat} {a : ByteArray} {f : Fm} {q1 q2 : Prem} {k1 k2 : Pf} (hn : n < 20000) (hd : d ≤ 400) (hl : l.length + r.length ≤ 60) (hm : Mv l r (a, f, [q1, q2])) (h1 : Gr q1.1 q1.2 (d + 1) (n + 1) k1 n1) (h2 : Gr q2.1 q2.2 (d + 1) n1 k2 n2) : Gr l r d n (.mk a f l r [k1, k2]) n2
theorem mv_count {l r : List Fm} {m : ByteArray × Fm × List Prem} (h : Mv l r m) : (∃ q, m.2.2 = [q]) ∨ ∃ q1 q2, m.2.2 = [q1, q2] := by
 cases h <;> first | exact .inl ⟨_, rfl⟩ | exact .inr ⟨_, _, rfl⟩
theorem grow_gr : ∀ (k : Nat) (l r : List Fm) (d : Int) (n : Nat) (p : Pf), (∀ f ∈ l, Pl f) → (∀ f ∈ r, Pl f) → (growF k l r d n).ok = some p → Gr l r d n p (growF k l r d n).n := by
 intro k
 induction k with
 | zero => intro l r d n p _ _ h; rw [growF] at h; cases h
 | succ k ih =>
  intro l r d n p hl hr h
  by_cases h0 : 20000 < n + 1 ∨ 400 < d ∨ 60 < l.length + r.length
  ·rw [growF, if_pos h0] at h; cases h
  ·have b1 : n < 20000 := by omega
   have b2 : d ≤ 400 := by omega
   have b3 : l.length + r.length ≤ 60 := by omega
   cases he : endF l r with
   | some e =>
    have e1 : growF (k + 1) l r d n = ⟨some (.mk e.1 e.2 l r []), n + 1, none⟩ := by rw [growF, if_neg h0, he]
    rw [e1] at h ⊢
    cases h
    exact .last b1 b2 b3 he
   | none =>
    cases hm : moveF l r with
    | none =>
     have e1 : growF (k + 1) l r d n = ⟨none, n + 1, some (varsL l)⟩ := by rw [growF, if_neg h0, he]; dsimp only; rw [hm]
     rw [e1] at h; cases h
    | some m =>
     have hmv := move_some (fun f hf => pl_ar (hl f hf)) (fun f hf => pl_ar (hr f hf)) hm
     have hpl := mv_pl hmv hl hr
     have e1 : growF (k + 1) l r d n = match (growL (fun l r n => growF k l r (d + 1) n) m.2.2 (n + 1) []).ok with
       | some ks => ⟨some (.mk m.1 m.2.1 l r ks), (growL (fun l r n => growF k l r (d + 1) n) m.2.2 (n + 1) []).n, none⟩
       | none => ⟨none, (growL (fun l r n => growF k l r (d + 1) n) m.2.2 (n + 1) []).n, (growL (fun l r n => growF k l r (d + 1) n) m.2.2 (n + 1) []).cnt⟩ := by rw [growF, if_neg h0, he]; dsimp only; rw [hm]; rfl
     rw [e1] at h ⊢
     obtain ⟨a, f, qs⟩ := m
     dsimp only at h ⊢ hpl
     rcases mv_count hmv with ⟨q, hq⟩ | ⟨q1, q2, hq⟩
     ·dsimp only at hq
      subst hq
      cases hok : (growF k q.1 q.2 (d + 1) (n + 1)).ok with
      | none =>
       rw [growL, hok] at h; cases h
      | some x =>
       have hx := ih q.1 q.2 (d + 1) (n + 1) x (hpl q (by simp)).1 (hpl q (by simp)).2 hok
       simp only [growL, hok] at h ⊢
       cases h
       exact .one b1 b2 b3 hmv hx
     ·dsimp only at hq
      subst hq
      cases hok : (growF k q1.1 q1.2 (d + 1) (n + 1)).ok with
      | none =>
       rw [growL, hok] at h; cases h
      | some x =>
       have hx := ih q1.1 q1.2 (d + 1) (n + 1) x (hpl q1 (by simp)).1 (hpl q1 (by simp)).2 hok
       cases hok2 : (growF k q2.1 q2.2 (d + 1) (growF k q1.1 q1.2 (d + 1) (n + 1)).n).ok with
       | none =>
        simp only [growL, hok, hok2] at h
        cases h
       | some y =>
        have hy := ih q2.1 q2.2 (d + 1) _ y (hpl q2 (by simp)).1 (hpl q2 (by simp)).2 hok2
        simp only [growL, hok, hok2] at h ⊢
        cases h
        exact .two b1 b2 b3 hmv hx hy
theorem len_two {α : Type} {l : List α} (h : l.length = 2) : ∃ a b, l = [a, b] := by
 match l, h with
 | [a, b], _ => exact ⟨a, b, rfl⟩
theorem kindF_of {l : List Fm} {i : Nat} {k : Int} (hi : i < l.length) (hk : l[i].kind = k) : kindF l[i] k l = true := by
 unfold kindF
 rw [hasF_of (List.getElem_mem hi)]
 simp [hk]
theorem mv_step {l r : List Fm} {m : ByteArray × Fm × List Prem} (h : Mv l r m) (hp : (plainF m.2.1).1 = 0) (ks : List Pf) (hks : ks.map (fun k => (k.l, k.r)) = m.2.2) : stepF false (.mk m.1 m.2.1 l r ks) = 0 := by
 cases h with
 | andL i hi a b hk hs =>
  obtain ⟨k, rfl⟩ : ∃ k, ks = [k] := List.length_eq_one_iff.1 (by simpa using congrArg List.length hks)
  simp only [List.map_cons, List.map_nil, List.cons.injEq, Prod.mk.injEq, and_true] at hks
  obtain ⟨e1, e2⟩ := hks
  have hR : andLR l[i] l r = ((andLR l[i] l r).1, true) := by unfold andLR; rw [if_pos (kindF_of hi hk)]
  refine step_ok (u := false) (qs := (andLR l[i] l r).1) (show (⟨#[97, 110, 100, 45, 108]⟩ : ByteArray) ≠ _ by decide) rt_andl_f hp hR ?_ ?_
  ·unfold andLR; rw [if_pos (kindF_of hi hk)]; rfl
  ·unfold andLR; rw [if_pos (kindF_of hi hk)]
   have hw := perm_with hi (more := [])
   simp only [meetB, kid, hs, List.getD_cons_zero, List.getD_cons_succ, Bool.and_eq_true, Pf.kids, e1, e2, same_self, and_true, true_and, sameF_iff]
   try rw [List.append_nil] at hw
   first | exact perm_with hi _ | exact hw | exact ⟨perm_with hi _, perm_with hi _⟩ | exact ⟨hw, perm_with hi _⟩
 | notL i hi a hk hs =>
  obtain ⟨k, rfl⟩ : ∃ k, ks = [k] := List.length_eq_one_iff.1 (by simpa using congrArg List.length hks)
  simp only [List.map_cons, List.map_nil, List.cons.injEq, Prod.mk.injEq, and_true] at hks
  obtain ⟨e1, e2⟩ := hks
  have hR : notLR l[i] l r = ((notLR l[i] l r).1, true) := by unfold notLR; rw [if_pos (kindF_of hi hk)]
  refine step_ok (u := false) (qs := (notLR l[i] l r).1) (show (⟨#[110, 111, 116, 45, 108]⟩ : ByteArray) ≠ _ by decide) rt_notl_f hp hR ?_ ?_
  ·unfold notLR; rw [if_pos (kindF_of hi hk)]; rfl
  ·unfold notLR; rw [if_pos (kindF_of hi hk)]
   have hw := perm_with hi (more := [])
   simp only [meetB, kid, hs, List.getD_cons_zero, List.getD_cons_succ, Bool.and_eq_true, Pf.kids, e1, e2, same_self, and_true, true_and, sameF_iff]
   try rw [List.append_nil] at hw
   first | exact perm_with hi _ | exact hw | exact ⟨perm_with hi _, perm_with hi _⟩ | exact ⟨hw, perm_with hi _⟩
 | orR i hi a b hk hs =>
  obtain ⟨k, rfl⟩ : ∃ k, ks = [k] := List.length_eq_one_iff.1 (by simpa using congrArg List.length hks)
  simp only [List.map_cons, List.map_nil, List.cons.injEq, Prod.mk.injEq, and_true] at hks
  obtain ⟨e1, e2⟩ := hks
  have hR : orRR r[i] l r = ((orRR r[i] l r).1, true) := by unfold orRR; rw [if_pos (kindF_of hi hk)]
  refine step_ok (u := false) (qs := (orRR r[i] l r).1) (show (⟨#[111, 114, 45, 114]⟩ : ByteArray) ≠ _ by decide) rt_orr_f hp hR ?_ ?_
  ·unfold orRR; rw [if_pos (kindF_of hi hk)]; rfl
  ·unfold orRR; rw [if_pos (kindF_of hi hk)]
   have hw := perm_with hi (more := [])
   simp only [meetB, kid, hs, List.getD_cons_zero, List.getD_cons_succ, Bool.and_eq_true, Pf.kids, e1, e2, same_self, and_true, true_and, sameF_iff]
   try rw [List.append_nil] at hw
   first | exact perm_with hi _ | exact hw | exact ⟨perm_with hi _, perm_with hi _⟩ | exact ⟨hw, perm_with hi _⟩
 | notR i hi a hk hs =>
  obtain ⟨k, rfl⟩ : ∃ k, ks = [k] := List.length_eq_one_iff.1 (by simpa using congrArg List.length hks)
  simp only [List.map_cons, List.map_nil, List.cons.injEq, Prod.mk.injEq, and_true] at hks
  obtain ⟨e1, e2⟩ := hks
  have hR : notRR r[i] l r = ((notRR r[i] l r).1, true) := by unfold notRR; rw [if_pos (kindF_of hi hk)]
  refine step_ok (u := false) (qs := (notRR r[i] l r).1) (show (⟨#[110, 111, 116, 45, 114]⟩ : ByteArray) ≠ _ by decide) rt_notr_f hp hR ?_ ?_
  ·unfold notRR; rw [if_pos (kindF_of hi hk)]; rfl
  ·unfold notRR; rw [if_pos (kindF_of hi hk)]
   have hw := perm_with hi (more := [])
   simp only [meetB, kid, hs, List.getD_cons_zero, List.getD_cons_succ, Bool.and_eq_true, Pf.kids, e1, e2, same_self, and_true, true_and, sameF_iff]
   try rw [List.append_nil] at hw
   first | exact perm_with hi _ | exact hw | exact ⟨perm_with hi _, perm_with hi _⟩ | exact ⟨hw, perm_with hi _⟩
 | thenR i hi a b hk hs =>
  obtain ⟨k, rfl⟩ : ∃ k, ks = [k] := List.length_eq_one_iff.1 (by simpa using congrArg List.length hks)
  simp only [List.map_cons, List.map_nil, List.cons.injEq, Prod.mk.injEq, and_true] at hks
  obtain ⟨e1, e2⟩ := hks
  have hR : thenRR r[i] l r = ((thenRR r[i] l r).1, true) := by unfold thenRR; rw [if_pos (kindF_of hi hk)]
  refine step_ok (u := false) (qs := (thenRR r[i] l r).1) (show (⟨#[116, 104, 101, 110, 45, 114]⟩ : ByteArray) ≠ _ by decide) rt_thenr_f hp hR ?_ ?_
  ·unfold thenRR; rw [if_pos (kindF_of hi hk)]; rfl
  ·unfold thenRR; rw [if_pos (kindF_of hi hk)]
   have hw := perm_with hi (more := [])
   simp only [meetB, kid, hs, List.getD_cons_zero, List.getD_cons_succ, Bool.and_eq_true, Pf.kids, e1, e2, same_self, and_true, true_and, sameF_iff]
   try rw [List.append_nil] at hw
   first | exact perm_with hi _ | exact hw | exact ⟨perm_with hi _, perm_with hi _⟩ | exact ⟨hw, perm_with hi _⟩
 | andR i hi a b hk hs =>
  obtain ⟨k, k2, rfl⟩ : ∃ k k2, ks = [k, k2] := len_two (by simpa using congrArg List.length hks)
  simp only [List.map_cons, List.map_nil, List.cons.injEq, Prod.mk.injEq, and_true] at hks
  obtain ⟨⟨e1, e2⟩, e3, e4⟩ := hks
  have hR : andRR r[i] l r = ((andRR r[i] l r).1, true) := by unfold andRR; rw [if_pos (kindF_of hi hk)]
  refine step_ok (u := false) (qs := (andRR r[i] l r).1) (show (⟨#[97, 110, 100, 45, 114]⟩ : ByteArray) ≠ _ by decide) rt_andr_f hp hR ?_ ?_
  ·unfold andRR; rw [if_pos (kindF_of hi hk)]; rfl
  ·unfold andRR; rw [if_pos (kindF_of hi hk)]
   have hw := perm_with hi (more := [])
   simp only [meetB, kid, hs, List.getD_cons_zero, List.getD_cons_succ, Bool.and_eq_true, Pf.kids, e1, e2, e3, e4, same_self, and_true, true_and, sameF_iff]
   try rw [List.append_nil] at hw
   first | exact perm_with hi _ | exact hw | exact ⟨perm_with hi _, perm_with hi _⟩ | exact ⟨hw, perm_with hi _⟩
 | orL i hi a b hk hs =>
  obtain ⟨k, k2, rfl⟩ : ∃ k k2, ks = [k, k2] := len_two (by simpa using congrArg List.length hks)
  simp only [List.map_cons, List.map_nil, List.cons.injEq, Prod.mk.injEq, and_true] at hks
  obtain ⟨⟨e1, e2⟩, e3, e4⟩ := hks
  have hR : orLR l[i] l r = ((orLR l[i] l r).1, true) := by unfold orLR; rw [if_pos (kindF_of hi hk)]
  refine step_ok (u := false) (qs := (orLR l[i] l r).1) (show (⟨#[111, 114, 45, 108]⟩ : ByteArray) ≠ _ by decide) rt_orl_f hp hR ?_ ?_
  ·unfold orLR; rw [if_pos (kindF_of hi hk)]; rfl
  ·unfold orLR; rw [if_pos (kindF_of hi hk)]
   have hw := perm_with hi (more := [])
   simp only [meetB, kid, hs, List.getD_cons_zero, List.getD_cons_succ, Bool.and_eq_true, Pf.kids, e1, e2, e3, e4, same_self, and_true, true_and, sameF_iff]
   try rw [List.append_nil] at hw
   first | exact perm_with hi _ | exact hw | exact ⟨perm_with hi _, perm_with hi _⟩ | exact ⟨hw, perm_with hi _⟩
 | thenL i hi a b hk hs =>
  obtain ⟨k, k2, rfl⟩ : ∃ k k2, ks = [k, k2] := len_two (by simpa using congrArg List.length hks)
  simp only [List.map_cons, List.map_nil, List.cons.injEq, Prod.mk.injEq, and_true] at hks
  obtain ⟨⟨e1, e2⟩, e3, e4⟩ := hks
  have hR : thenLR l[i] l r = ((thenLR l[i] l r).1, true) := by unfold thenLR; rw [if_pos (kindF_of hi hk)]
  refine step_ok (u := false) (qs := (thenLR l[i] l r).1) (show (⟨#[116, 104, 101, 110, 45, 108]⟩ : ByteArray) ≠ _ by decide) rt_thenl_f hp hR ?_ ?_
  ·unfold thenLR; rw [if_pos (kindF_of hi hk)]; rfl
  ·unfold thenLR; rw [if_pos (kindF_of hi hk)]
   have hw := perm_with hi (more := [])
   simp only [meetB, kid, hs, List.getD_cons_zero, List.getD_cons_succ, Bool.and_eq_true, Pf.kids, e1, e2, e3, e4, same_self, and_true, true_and, sameF_iff]
   try rw [List.append_nil] at hw
   first | exact perm_with hi _ | exact hw | exact ⟨perm_with hi _, perm_with hi _⟩ | exact ⟨hw, perm_with hi _⟩
theorem end_of {l r : List Fm} {e : ByteArray × Fm} (h : endF l r = some e) : (e.1 = ⟨#[102, 97, 108, 115, 101]⟩ ∧ e.2 ∈ l ∧ e.2.kind = 3) ∨ (e.1 = ⟨#[97, 120]⟩ ∧ e.2 ∈ l ∧ e.2 ∈ r) ∨ (e.1 = ⟨#[116, 114, 117, 101]⟩ ∧ e.2 ∈ r ∧ e.2.kind = 2) := by
 have h1 : ∀ t : List Fm, (∀ f ∈ t, f ∈ l) → ∀ e, endL r t = some e → (e.1 = ⟨#[102, 97, 108, 115, 101]⟩ ∧ e.2 ∈ l ∧ e.2.kind = 3) ∨ (e.1 = ⟨#[97, 120]⟩ ∧ e.2 ∈ l ∧ e.2 ∈ r) := by
  intro t
  induction t with
  | nil => intro _ e h; rw [endL] at h; cases h
  | cons f t ih =>
   intro ht e h
   rw [endL] at h
   by_cases c1 : f.kind = 3
   ·rw [if_pos c1] at h; cases h; exact .inl ⟨rfl, ht f (.head _), c1⟩
   ·rw [if_neg c1] at h
    by_cases c2 : hasF r f = true
    ·rw [if_pos c2] at h; cases h; exact .inr ⟨rfl, ht f (.head _), hasF_iff.1 c2⟩
    ·rw [if_neg c2] at h; exact ih (fun f hf => ht f (.tail _ hf)) e h
 have h2 : ∀ t : List Fm, (∀ f ∈ t, f ∈ r) → ∀ e, endR t = some e → (e.1 = ⟨#[116, 114, 117, 101]⟩ ∧ e.2 ∈ r ∧ e.2.kind = 2) := by
  intro t
  induction t with
  | nil => intro _ e h; rw [endR] at h; cases h
  | cons f t ih =>
   intro ht e h
   rw [endR] at h
   by_cases c1 : f.kind = 2
   ·rw [if_pos c1] at h; cases h; exact ⟨rfl, ht f (.head _), c1⟩
   ·rw [if_neg c1] at h; exact ih (fun f hf => ht f (.tail _ hf)) e h
 unfold endF at h
 cases hL : endL r l with
 | some x =>
  rw [hL] at h; cases h
  rcases h1 l (fun f hf => hf) _ hL with h | h
  ·exact .inl h
  ·exact .inr (.inl h)
 | none => rw [hL] at h; exact .inr (.inr (h2 r (fun f hf => hf) _ h))
theorem end_step {l r : List Fm} {e : ByteArray × Fm} (h : endF l r = some e) (hp : (plainF e.2).1 = 0) : stepF false (.mk e.1 e.2 l r []) = 0 := by
 obtain ⟨a, f⟩ := e
 rcases end_of h with ⟨e1, m1, k⟩ | ⟨e1, m1, m2⟩ | ⟨e1, m1, k⟩
 ·dsimp only at e1 m1 k hp; subst e1
  refine step_ok (u := false) (qs := []) (show (⟨#[102, 97, 108, 115, 101]⟩ : ByteArray) ≠ _ by decide) rt_false_f hp ?_ rfl rfl
  show falseR f l r = _
  unfold falseR kindF; rw [hasF_of m1]; simp [k]
 ·dsimp only at e1 m1 m2 hp; subst e1
  refine step_ok (u := false) (qs := []) (show (⟨#[97, 120]⟩ : ByteArray) ≠ _ by decide) rt_ax_f hp ?_ rfl rfl
  show axR f l r = _
  unfold axR; rw [hasF_of m1, hasF_of m2]; rfl
 ·dsimp only at e1 m1 k hp; subst e1
  refine step_ok (u := false) (qs := []) (show (⟨#[116, 114, 117, 101]⟩ : ByteArray) ≠ _ by decide) rt_true_f hp ?_ rfl rfl
  show trueR f l r = _
  unfold trueR kindF; rw [hasF_of m1]; simp [k]
def Pz (f : Fm) : Prop := (plainF f).1 = 0
theorem pz_kid (f : Fm) (h : Pz f) (g : Fm) (hg : g ∈ f.kids) : Pz g := by
 obtain ⟨h1, h2⟩ := (plainF_iff f).1 h
 refine (plainF_iff g).2 ⟨h1.kid hg, ?_⟩
 have : (pre g).length ≤ (pre f).length := by
  rw [pre_eq f, List.length_cons]
  have : (pre g).length ≤ (pres f.kids).length := by
   have := pres_len _ hg
   omega
  omega
 omega
theorem mv_main {l r : List Fm} {m : ByteArray × Fm × List Prem} (h : Mv l r m) : m.2.1 ∈ l ∨ m.2.1 ∈ r := by
 cases h <;> first | exact .inl (List.getElem_mem _) | exact .inr (List.getElem_mem _)
theorem gr_look {l r : List Fm} {d : Int} {n n' : Nat} {p : Pf} (h : Gr l r d n p n') : (∀ f ∈ l, Pz f) → (∀ f ∈ r, Pz f) → (p.l = l ∧ p.r = r) ∧ lookF false p n d = (n', (0, 0)) := by
 have key : ∀ {l r : List Fm} {d : Int} {n : Nat} {a : ByteArray} {f : Fm} {ks : List Pf}, n < 20000 → d ≤ 400 → l.length + r.length ≤ 60 → (∀ f ∈ l, Pz f) → (∀ f ∈ r, Pz f) → stepF false (.mk a f l r ks) = 0 → lookF false (.mk a f l r ks) n d = looksF false ks (n + 1) (d + 1) := by
  intro l r d n a f ks hn hd hl h1 h2 hs
  rw [lookF_eq, hs, if_neg (by omega), if_neg ?_, if_neg (by simp)]
  ·rfl
  ·rintro (g | ⟨g, _⟩)
   ·exact g (sequent_of hl h1 h2)
   ·cases g
 induction h with
 | last hn hd hl he =>
  rename_i l r d n e
  intro h1 h2
  refine ⟨⟨rfl, rfl⟩, ?_⟩
  rw [key hn hd hl h1 h2 (end_step he ?_), looksF]
  rcases end_of he with ⟨_, m, _⟩ | ⟨_, m, _⟩ | ⟨_, m, _⟩
  ·exact h1 _ m
  ·exact h1 _ m
  ·exact h2 _ m
 | one hn hd hl hm h ih =>
  intro h1 h2
  have hq := mv_all pz_kid hm h1 h2
  obtain ⟨⟨e1, e2⟩, hk⟩ := ih (hq _ (by simp)).1 (hq _ (by simp)).2
  refine ⟨⟨rfl, rfl⟩, ?_⟩
  rw [key hn hd hl h1 h2 (mv_step hm ((mv_main hm).elim (h1 _) (h2 _)) _ (by simp [e1, e2])), looksF, hk]
  simp [looksF]
 | two hn hd hl hm h h' ih ih' =>
  intro h1 h2
  have hq := mv_all pz_kid hm h1 h2
  obtain ⟨⟨e1, e2⟩, hk⟩ := ih (hq _ (by simp)).1 (hq _ (by simp)).2
  obtain ⟨⟨e3, e4⟩, hk'⟩ := ih' (hq _ (by simp)).1 (hq _ (by simp)).2
  refine ⟨⟨rfl, rfl⟩, ?_⟩
  rw [key hn hd hl h1 h2 (mv_step hm ((mv_main hm).elim (h1 _) (h2 _)) _ (by simp [e1, e2, e3, e4])), looksF, hk]
  simp [looksF, hk']
end Go.Proofs.Ytnoklmapofogeaa
namespace Go.Proofs.Ytnoklmapofogeaa
open Go Go.Pv
def andNot (f g : Fm) : Fm := .mk 5 ⟨#[]⟩ [f, .mk 4 ⟨#[]⟩ [g]]
end Go.Proofs.Ytnoklmapofogeaa
namespace Go.Proofs.Ytnoklmapofogeaa
open Go Go.Pv
theorem drop_eq_step {α : Type} [DecidableEq α] {a b : List α} {i : Nat} (ha : i < a.length) (hb : i < b.length) : decide (a.drop i = b.drop i) = (decide (a[i] = b[i]) && decide (a.drop (i + 1) = b.drop (i + 1))) := by
 rw [List.drop_eq_getElem_cons ha, List.drop_eq_getElem_cons hb, Bool.eq_iff_iff]; simp only [decide_eq_true_eq, Bool.and_eq_true, List.cons.injEq]
def x45_L0 : XC := .seq (.seq (.reg [⟨some 11,.move (.tmp 5),none⟩,⟨some 12,.move (.tmp 0),none⟩,⟨some 13,.call ⟨.builtin .len,#[.tmp 12],#[35]⟩,none⟩,⟨some 14,.binOp .lss 3 (.tmp 11) (.tmp 13) 3,none⟩]) (.cond (.tmp 14) .skip (.exit 0))) (.seq (.block 1 (.seq (.drawn 6 [⟨some 17,.move (.tmp 0),none⟩,⟨some 18,.move (.tmp 5),none⟩,⟨some 19,.indexAddr 35 (.tmp 17) (.tmp 18),none⟩,⟨some 20,.load 9 (.tmp 19),none⟩,⟨some 21,.move (.tmp 1),none⟩,⟨some 22,.move (.tmp 5),none⟩,⟨some 23,.indexAddr 35 (.tmp 21) (.tmp 22),none⟩,⟨some 24,.load 9 (.tmp 23),none⟩,⟨some 25,.binOp .neq 9 (.tmp 20) (.tmp 24) 9,none⟩]) (.cond (.tmp 25) (.seq (.reg [⟨some 4,.assign (.const (.bool false)),none⟩]) .ret) .skip))) (.reg [⟨some 15,.move (.tmp 5),none⟩,⟨some 16,.binOp .add 3 (.tmp 15) (.const (.int .i64 1)) 3,none⟩,⟨some 5,.assign (.tmp 16),none⟩]))
def x45 : XC := .seq (.reg [⟨some 4,.assign (.const (.bool false)),none⟩]) (.seq (.seq (.reg [⟨some 6,.move (.tmp 0),none⟩,⟨some 7,.call ⟨.builtin .len,#[.tmp 6],#[35]⟩,none⟩,⟨some 8,.move (.tmp 1),none⟩,⟨some 9,.call ⟨.builtin .len,#[.tmp 8],#[35]⟩,none⟩,⟨some 10,.binOp .neq 3 (.tmp 7) (.tmp 9) 3,none⟩]) (.cond (.tmp 10) (.seq (.reg [⟨some 4,.assign (.const (.bool false)),none⟩]) .ret) .skip)) (.seq (.seq (.reg [⟨some 5,.assign (.const (.int .i64 0)),none⟩]) (.bloop 0 x45_L0)) (.seq (.reg [⟨some 4,.assign (.const (.bool true)),none⟩]) .ret)))
@[simp] theorem x45_s {C e s K} : type_of% (@X_at C e s K _ _ x45_L0.eq_1) ∧ type_of% (@X_at C e s K _ _ x45.eq_1) := ⟨X_at x45_L0.eq_1, X_at x45.eq_1⟩
def an45 : Ann := ⟨[], [(0, [], [0, 1, 5], [4])], []⟩
@[simp] theorem an45_a : an45.clsOf 6 = .draw ∧ an45.frzOf 6 = [] ∧ an45.loopOf 0 = ([], [0, 1, 5], [4]) := ⟨rfl, rfl, rfl⟩
theorem fi45 : FI Try.prog 45 (cxA an45) x45 [.tmp 4] Try.f45 := fiA Try.func45 mixed
theorem Texts_ref (a b : List ByteArray) : CallOK Try.prog 45 [.list (a.map strRow), .list (b.map strRow)] [] (.bool (decide (a = b))) [] := by
 refine fi45.op ?_
 by_cases hl : a.length = b.length
 ·((refine Sg.h ?_); try repeat' ((first | (with_reducible first | refine brA ?_ | refine brE fun _ => ?_ | (refine spl ⟨?_, ?_⟩ <;> intro _))) <;> ((try simp -implicitDefEqProofs [hl]); (try simp -implicitDefEqProofs (disch := first | assumption | (try simp only [lens]); omega -splitDisjunctions) [hl]))))
  refine W_of fun Q hQ => ?_
  generalize hR : decide (a = b) = R at hQ ⊢
  have main : ∀ k i, i + k = a.length → R = decide (a.drop i = b.drop i) → Q [(0, .list (a.map strRow)), (1, .list (b.map strRow)), (5, .int .i64 (i : Int))] [] := by
   intro k
   induction k with
   | zero =>
    intro i hi hb
    rw [List.drop_of_length_le (by omega), List.drop_of_length_le (by omega)] at hb
    apply hQ
    rw [hb]
    ((refine Sg.h ?_); try repeat' ((first | (with_reducible first | refine brA ?_ | refine brE fun _ => ?_ | (refine spl ⟨?_, ?_⟩ <;> intro _))) <;> ((try simp -implicitDefEqProofs [hl]); (try simp -implicitDefEqProofs (disch := first | assumption | (try simp only [lens]); omega -splitDisjunctions) [hl]))))
   | succ k ih =>
    intro i hi hb
    have hia : i < a.length := by omega
    have hib : i < b.length := by omega
    have ih := ih (i + 1) (by omega)
    rw [drop_eq_step hia hib] at hb
    apply hQ
    clear hQ hR
    by_cases e : a[i] = b[i]
    ·rw [decide_eq_true e, Bool.true_and] at hb
     have ih := ih hb
     ((refine Sg.h ?_); try repeat' ((first | (with_reducible first | refine brA ?_ | refine brE fun _ => ?_ | (refine spl ⟨?_, ?_⟩ <;> intro _))) <;> ((try simp -implicitDefEqProofs [hl, hia, hib, e]); (try simp -implicitDefEqProofs (disch := first | assumption | (try simp only [lens]); omega -splitDisjunctions) [hl, hia, hib, e]))))
     all_goals first | exact ih | (refine at2 ih ?_ ?_ <;> simp; done) | (exfalso; first | omega | (simp_all; done) | (simp_all; omega))
    ·rw [decide_eq_false e, Bool.false_and] at hb
     rw [hb]
     ((refine Sg.h ?_); try repeat' ((first | (with_reducible first | refine brA ?_ | refine brE fun _ => ?_ | (refine spl ⟨?_, ?_⟩ <;> intro _))) <;> ((try simp -implicitDefEqProofs [hl, hia, hib, e]); (try simp -implicitDefEqProofs (disch := first | assumption | (try simp only [lens]); omega -splitDisjunctions) [hl, hia, hib, e]))))
  refine at2 (main _ 0 (Nat.zero_add _) (by simp [← hR])) ?_ ?_ <;> simp
 ·have hne : decide (a = b) = false := decide_eq_false fun e => hl (by rw [e])
  rw [hne]
  have hl' : ¬ (a.length : Int) = (b.length : Int) := by omega
  ((refine Sg.h ?_); try repeat' ((first | (with_reducible first | refine brA ?_ | refine brE fun _ => ?_ | (refine spl ⟨?_, ?_⟩ <;> intro _))) <;> ((try simp -implicitDefEqProofs [hl, hl']); (try simp -implicitDefEqProofs (disch := first | assumption | (try simp only [lens]); omega -splitDisjunctions) [hl, hl']))))
def rowL : List ByteArray → Nat → List ByteArray
 | [], _ => []
 | x :: r, k => if k % 2 = 1 then x :: rowL r (k / 2) else rowL r (k / 2)
def x43_T1 : XC := .seq (.reg [⟨some 25,.move (.tmp 5),none⟩,⟨some 4,.assign (.tmp 25),none⟩]) .ret
def x43_L0 : XC := .seq (.seq (.reg [⟨some 7,.move (.tmp 6),none⟩,⟨some 8,.move (.tmp 0),none⟩,⟨some 9,.call ⟨.builtin .len,#[.tmp 8],#[35]⟩,none⟩,⟨some 10,.binOp .lss 3 (.tmp 7) (.tmp 9) 3,none⟩]) (.cond (.tmp 10) .skip (.exit 0))) (.seq (.block 1 (.seq (.seq (.reg [⟨some 13,.move (.tmp 1),none⟩,⟨some 14,.binOp .rem 3 (.tmp 13) (.const (.int .i64 2)) 3,none⟩,⟨some 15,.binOp .eql 3 (.tmp 14) (.const (.int .i64 1)) 3,none⟩]) (.cond (.tmp 15) (.reg [⟨some 16,.move (.tmp 5),none⟩,⟨some 17,.move (.tmp 0),none⟩,⟨some 18,.move (.tmp 6),none⟩,⟨some 19,.indexAddr 35 (.tmp 17) (.tmp 18),none⟩,⟨some 20,.load 9 (.tmp 19),none⟩,⟨some 21,.buildSlice 35 1 #[(0,.tmp 20)],none⟩,⟨some 22,.call ⟨.builtin .append,#[.tmp 16,.tmp 21],#[35,35]⟩,none⟩,⟨some 5,.assign (.tmp 22),none⟩]) .skip)) (.reg [⟨some 23,.move (.tmp 1),none⟩,⟨some 24,.binOp .quo 3 (.tmp 23) (.const (.int .i64 2)) 3,none⟩,⟨some 1,.assign (.tmp 24),none⟩]))) (.reg [⟨some 11,.move (.tmp 6),none⟩,⟨some 12,.binOp .add 3 (.tmp 11) (.const (.int .i64 1)) 3,none⟩,⟨some 6,.assign (.tmp 12),none⟩]))
def x43 : XC := .seq (.reg [⟨some 4,.assign (.const (.slice none 0 0)),none⟩]) (.seq (.reg [⟨some 5,.assign (.const (.slice none 0 0)),none⟩]) (.seq (.seq (.reg [⟨some 6,.assign (.const (.int .i64 0)),none⟩]) (.bloop 0 x43_L0)) (x43_T1)))
@[simp] theorem x43_s {C e s K} : type_of% (@X_at C e s K _ _ x43_T1.eq_1) ∧ type_of% (@X_at C e s K _ _ x43_L0.eq_1) ∧ type_of% (@X_at C e s K _ _ x43.eq_1) := ⟨X_at x43_T1.eq_1, X_at x43_L0.eq_1, X_at x43.eq_1⟩
def an43 : Ann := ⟨[], [(0, [(5, none, 1)], [0, 1, 5, 6], [5])], []⟩
@[simp] theorem an43_a : an43.loopOf 0 = ([(5, none, 1)], [0, 1, 5, 6], [5]) := rfl
theorem fi43 : FI Try.prog 43 (cxA an43) x43 [.tmp 4] Try.f43 := fiA Try.func43 mixed
theorem Row_ref (ns : List ByteArray) (hns : ns.length ≤ 1000) (k : Nat) (hk : k < 1048576) : CallOK Try.prog 43 [.list (ns.map strRow), .int .i64 (k : Int)] [] (.list ((rowL ns k).map strRow)) [] := by
 generalize hR : rowL ns k = R
 refine fi43.os ?_
 ((refine Sg.h ?_); try repeat' ((first | (with_reducible first | refine brA ?_ | refine brE fun _ => ?_ | (refine spl ⟨?_, ?_⟩ <;> intro _))) <;> ((try simp -implicitDefEqProofs); (try simp -implicitDefEqProofs (disch := first | assumption | (try simp only [lens]); omega -splitDisjunctions)))))
 refine W_of fun Q hQ => ?_
 have main : ∀ r i k acc, i + r = ns.length → k < 1048576 → acc.length ≤ i → acc ++ rowL (ns.drop i) k = R → Q [(0, .list (ns.map strRow)), (1, .int .i64 (k : Int)), (5, .sl 0 0 acc.length), (6, .int .i64 (i : Int))] [.rows 1 (acc.map strRow)] := by
  intro r
  induction r with
  | zero =>
   intro i k acc hi hk hai hb
   rw [List.drop_of_length_le (by omega), rowL, List.append_nil] at hb
   apply hQ
   rw [hb]
   ((refine Sg.h ?_); try repeat' ((first | (with_reducible first | refine brA ?_ | refine brE fun _ => ?_ | (refine spl ⟨?_, ?_⟩ <;> intro _))) <;> ((try simp -implicitDefEqProofs); (try simp -implicitDefEqProofs (disch := first | assumption | (try simp only [lens]); omega -splitDisjunctions)))))
  | succ r ih =>
   intro i k acc hi hk hai hb
   have hin : i < ns.length := by omega
   rw [List.drop_eq_getElem_cons hin, rowL] at hb
   apply hQ
   clear hQ
   have h2 := Nat.mod_two_eq_zero_or_one k
   rcases h2 with h2 | h2
   ·rw [if_neg (by omega)] at hb
    have ih := ih (i + 1) (k / 2) acc (by omega) (by omega) (by omega) hb
    have h2i : (k : Int) % 2 = 0 := by omega
    have h2t : (k : Int).tmod 2 = 0 := by rw [Int.tmod_eq_emod_of_nonneg (by omega)]; exact h2i
    ((refine Sg.h ?_); try repeat' ((first | (with_reducible first | refine brA ?_ | refine brE fun _ => ?_ | (refine spl ⟨?_, ?_⟩ <;> intro _))) <;> ((try simp -implicitDefEqProofs [hin, h2i, h2t]); (try simp -implicitDefEqProofs (disch := first | assumption | (try simp only [lens]); omega -splitDisjunctions) [hin, h2i, h2t]))))
    all_goals first | exact ih | (refine at2 ih ?_ ?_ <;> simp; done) | (exfalso; first | omega | (simp_all; done) | (simp_all; omega))
   ·rw [if_pos h2] at hb
    have ih := ih (i + 1) (k / 2) (acc ++ [ns[i]]) (by omega) (by omega) (by simp; omega) (by rw [List.append_assoc]; exact hb)
    have h2i : (k : Int) % 2 = 1 := by omega
    have h2t : (k : Int).tmod 2 = 1 := by rw [Int.tmod_eq_emod_of_nonneg (by omega)]; exact h2i
    ((refine Sg.h ?_); try repeat' ((first | (with_reducible first | refine brA ?_ | refine brE fun _ => ?_ | (refine spl ⟨?_, ?_⟩ <;> intro _))) <;> ((try simp -implicitDefEqProofs [hin, h2i, h2t]); (try simp -implicitDefEqProofs (disch := first | assumption | (try simp only [lens]); omega -splitDisjunctions) [hin, h2i, h2t]))))
    all_goals first | exact ih | (refine at2 ih ?_ ?_ <;> simp; done) | (exfalso; first | omega | (simp_all; done) | (simp_all; omega))
 refine at2 (main _ 0 k [] (Nat.zero_add _) hk (by simp) (by simpa using hR)) ?_ ?_ <;> simp
end Go.Proofs.Ytnoklmapofogeaa
namespace Go.Proofs.Ytnoklmapofogeaa
open Go Go.Pv
theorem ris_nodup {l : List ByteArray} (h : Ris l) : l.Nodup := by
 unfold Ris at h
 refine h.imp fun {a b} hab e => ?_
 subst e
 exact absurd hab (List.lt_irrefl _)
theorem rowL_mem : ∀ (ns : List ByteArray), ns.Nodup → ∀ (i k : Nat) (x : ByteArray), ns[i]? = some x → (x ∈ rowL ns k ↔ k.testBit i = true)
 | [], _, i, k, x, h => by simp at h
 | a :: r, hd, i, k, x, h => by
  have hsub : ∀ (l : List ByteArray) (k : Nat) (y : ByteArray), y ∈ rowL l k → y ∈ l := by
   intro l
   induction l with
   | nil => intro k y h; exact h
   | cons b r ih =>
    intro k y h
    rw [rowL] at h
    split at h
    ·rcases List.mem_cons.1 h with rfl | h
     ·exact List.mem_cons_self
     ·exact List.mem_cons_of_mem _ (ih _ _ h)
    ·exact List.mem_cons_of_mem _ (ih _ _ h)
  rw [List.nodup_cons] at hd
  cases i with
  | zero =>
   simp at h; subst h
   rw [rowL, Nat.testBit_zero]
   split
   ·simp [*]
   ·simp [*]; exact fun g => hd.1 (hsub _ _ _ g)
  | succ i =>
   rw [List.getElem?_cons_succ] at h
   have ih := rowL_mem r hd.2 i (k / 2) x h
   have hx : x ≠ a := by rintro rfl; exact hd.1 (List.mem_of_getElem? h)
   rw [rowL, Nat.testBit_succ, ← ih]
   split <;> simp [hx]
end Go.Proofs.Ytnoklmapofogeaa
namespace Go.Proofs.Ytnoklmapofogeaa
open Go Go.Pv
theorem bits_have : ∀ (n : Nat) (P : Nat → Bool), ∃ k, k < 2 ^ n ∧ ∀ w, w < n → k.testBit w = P w := by
 intro n
 induction n with
 | zero => intro P; exact ⟨0, by simp, fun w h => by omega⟩
 | succ n ih =>
  intro P
  obtain ⟨k, hk, h⟩ := ih fun w => P (w + 1)
  have hb : (P 0).toNat ≤ 1 := by cases P 0 <;> simp
  refine ⟨2 * k + (P 0).toNat, ?_, fun w hw => ?_⟩
  ·rw [Nat.pow_succ]; omega
  ·cases w with
   | zero => rw [Nat.testBit_zero]; cases P 0 <;> simp <;> omega
   | succ w =>
    rw [Nat.testBit_succ, show (2 * k + (P 0).toNat) / 2 = k by omega]
    exact h w (by omega)
theorem tv_congr {h h' : ByteArray → Bool} (f : Fm) (hf : Pl f) (hh : ∀ x ∈ pre f, x.kind = 1 → h x.name = h' x.name) : tv h f = tv h' f := by
 induction f using Fm.ind with
 | h f ih =>
  have ih := fun g hg => ih g hg (hf.kid hg) fun x hx hk => hh x (by rw [pre_eq]; exact List.mem_cons_of_mem _ (pres_mem hx _ hg)) hk
  rcases hf.seven with ⟨nm, hn, rfl⟩ | rfl | rfl | ⟨a, ha, rfl⟩ | ⟨a, b, ha, hb, rfl⟩ | ⟨a, b, ha, hb, rfl⟩ | ⟨a, b, ha, hb, rfl⟩
  ·rw [tv_1, tv_1]; exact hh _ (by rw [pre_eq]; exact List.mem_cons_self) rfl
  ·rw [tv_2, tv_2]
  ·rw [tv_3, tv_3]
  ·rw [tv_4, tv_4, ih a (by simp)]
  ·rw [tv_5, tv_5, ih a (by simp), ih b (by simp)]
  ·rw [tv_6, tv_6, ih a (by simp), ih b (by simp)]
  ·rw [tv_7, tv_7, ih a (by simp), ih b (by simp)]
theorem rowL_sub : ∀ (l : List ByteArray) (k : Nat) (y : ByteArray), y ∈ rowL l k → y ∈ l := by
 intro l
 induction l with
 | nil => intro k y h; exact h
 | cons b r ih =>
  intro k y h
  rw [rowL] at h
  split at h
  ·rcases List.mem_cons.1 h with rfl | h
   ·exact List.mem_cons_self
   ·exact List.mem_cons_of_mem _ (ih _ _ h)
  ·exact List.mem_cons_of_mem _ (ih _ _ h)
theorem rowL_filter : ∀ (ns : List ByteArray), ns.Nodup → ∀ k, rowL ns k = ns.filter fun x => memB x (rowL ns k)
 | [], _, k => rfl
 | a :: r, hd, k => by
  rw [List.nodup_cons] at hd
  have ih := rowL_filter r hd.2 (k / 2)
  have hc : ∀ (b : List ByteArray), (∀ y, y ∈ r → (y ∈ b ↔ y ∈ rowL r (k / 2))) → r.filter (fun x => memB x b) = rowL r (k / 2) := by
   intro b hb
   rw [ih]
   refine List.filter_congr fun y hy => ?_
   rw [Bool.eq_iff_iff, memB_iff, hb y hy, memB_iff]
  rw [rowL]
  by_cases h : k % 2 = 1
  ·rw [if_pos h, List.filter_cons, if_pos (memB_iff.2 List.mem_cons_self), hc _ fun y hy => ?_]
   rw [List.mem_cons]
   exact ⟨fun g => g.elim (fun e => absurd (e ▸ hy) hd.1) id, .inr⟩
  ·rw [if_neg h, List.filter_cons, if_neg (fun g => hd.1 (rowL_sub _ _ _ (memB_iff.1 g))), hc _ fun y hy => Iff.rfl]
theorem row_have {ns : List ByteArray} (hd : ns.Nodup) (p : ByteArray → Bool) : ∃ k, k < 2 ^ ns.length ∧ rowL ns k = ns.filter p := by
 obtain ⟨k, hk, hb⟩ := bits_have ns.length fun w => p ((ns[w]?).getD ⟨#[]⟩)
 refine ⟨k, hk, ?_⟩
 rw [rowL_filter ns hd k]
 refine List.filter_congr fun y hy => ?_
 obtain ⟨i, hi⟩ := List.getElem?_of_mem hy
 have hil := (List.getElem?_eq_some_iff.1 hi).1
 rw [Bool.eq_iff_iff, memB_iff, rowL_mem ns hd i k y hi, hb i hil, hi]
 rfl
def Good (ns : List ByteArray) (N : Nat) (f : Fm) : Prop := Pl f ∧ (∀ x ∈ pre f, x.kind = 1 → x.name ∈ ns) ∧ (pre f).length ≤ N
theorem Good.mono {ns ms : List ByteArray} {N M : Nat} {f : Fm} (h : Good ns N f) (hs : ∀ x ∈ ns, x ∈ ms) (hN : N ≤ M) : Good ms M f := ⟨h.1, fun x hx hk => hs _ (h.2.1 x hx hk), Nat.le_trans h.2.2 hN⟩
theorem Good.len {ns : List ByteArray} {N : Nat} {f : Fm} (h : Good ns N f) : Good ns (pre f).length f := ⟨h.1, h.2.1, Nat.le_refl _⟩
theorem vast_small (f : Fm) : ∀ d : Int, (∀ x ∈ pre f, okN x) → (pre f).length + d ≤ 25000 → vastB f d = false := by
 induction f using Fm.ind with
 | h f ih =>
  intro d hf hd
  have h1 := (hf f (by rw [pre_eq]; exact List.mem_cons_self)).2.1
  have hk : (f.kids.length : Int) ≤ 2 := by rw [h1]; unfold kidsN; (repeat' split) <;> omega
  rw [pre_eq, List.length_cons] at hd
  rw [vastB_eq]
  have e1 : decide (25000 < d) = false := decide_eq_false (by omega)
  have e2 : decide (25000 < (f.kids.length : Int)) = false := decide_eq_false (by omega)
  rw [e1, e2, Bool.false_or, Bool.false_or]
  have hs : ∀ l : List Fm, (∀ g ∈ l, g ∈ f.kids) → (pres l).length + (d + 1) ≤ 25000 → vastsB l (d + 1) = false := by
   intro l
   induction l with
   | nil => intro _ _; rfl
   | cons a r ihl =>
    intro hl hlen
    rw [pres_cons, List.length_append] at hlen
    rw [vastsB, ih a (hl a List.mem_cons_self) (d + 1) (fun x hx => hf x (by rw [pre_eq]; exact List.mem_cons_of_mem _ (pres_mem hx _ (hl a List.mem_cons_self)))) (by omega), Bool.false_or]
    exact ihl (fun g hg => hl g (List.mem_cons_of_mem _ hg)) (by omega)
  exact hs f.kids (fun g hg => hg) (by omega)
end Go.Proofs.Ytnoklmapofogeaa
