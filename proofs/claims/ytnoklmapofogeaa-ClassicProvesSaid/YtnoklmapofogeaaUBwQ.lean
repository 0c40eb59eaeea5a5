import Derived.Test.YtnoklmapofogeaaUBwP
set_option linter.unusedVariables false
set_option linter.unusedSimpArgs false
set_option maxRecDepth 100000
set_option maxHeartbeats 4000000
namespace Go.Proofs.Ytnoklmapofogeaa
open Go Go.Pv
inductive Gc (k : Nat) (l r : List Fm) (d : Int) (n : Nat) : GR → Prop where
 | much (h : 20000 < n + 1 ∨ 400 < d ∨ 60 < l.length + r.length) : Gc k l r d n ⟨none, n + 1, none⟩
 | last {p : Pf} : Gc k l r d n ⟨some p, n + 1, none⟩
 | opened (he : endF l r = none) (hm : moveF l r = none) : Gc k l r d n ⟨none, n + 1, some (varsL l)⟩
 | one {a : ByteArray} {f : Fm} {q : Prem} {o : Option Pf} (hm : Mv l r (a, f, [q])) (ho : o.isSome = (growF k q.1 q.2 (d + 1) (n + 1)).ok.isSome) : Gc k l r d n ⟨o, (growF k q.1 q.2 (d + 1) (n + 1)).n, (growF k q.1 q.2 (d + 1) (n + 1)).cnt⟩
 | fst {a : ByteArray} {f : Fm} {q1 q2 : Prem} (hm : Mv l r (a, f, [q1, q2])) (ho : (growF k q1.1 q1.2 (d + 1) (n + 1)).ok = none) : Gc k l r d n ⟨none, (growF k q1.1 q1.2 (d + 1) (n + 1)).n, (growF k q1.1 q1.2 (d + 1) (n + 1)).cnt⟩
 | two {a : ByteArray} {f : Fm} {q1 q2 : Prem} {o : Option Pf} (hm : Mv l r (a, f, [q1, q2])) (h1 : (growF k q1.1 q1.2 (d + 1) (n + 1)).ok.isSome = true)
   (ho : o.isSome = (growF k q2.1 q2.2 (d + 1) (growF k q1.1 q1.2 (d + 1) (n + 1)).n).ok.isSome) : Gc k l r d n ⟨o, (growF k q2.1 q2.2 (d + 1) (growF k q1.1 q1.2 (d + 1) (n + 1)).n).n, (growF k q2.1 q2.2 (d + 1) (growF k q1.1 q1.2 (d + 1) (n + 1)).n).cnt⟩
theorem grow_cases (k : Nat) (l r : List Fm) (d : Int) (n : Nat) (hl : ∀ f ∈ l, Pl f) (hr : ∀ f ∈ r, Pl f) : Gc k l r d n (growF (k + 1) l r d n) := by
 by_cases h0 : 20000 < n + 1 ∨ 400 < d ∨ 60 < l.length + r.length
 ·rw [growF, if_pos h0]; exact .much h0
 ·cases he : endF l r with
  | some e =>
   have e1 : growF (k + 1) l r d n = ⟨some (.mk e.1 e.2 l r []), n + 1, none⟩ := by rw [growF, if_neg h0, he]
   rw [e1]; exact .last
  | none =>
   cases hm : moveF l r with
   | none =>
    have e1 : growF (k + 1) l r d n = ⟨none, n + 1, some (varsL l)⟩ := by rw [growF, if_neg h0, he]; dsimp only; rw [hm]
    rw [e1]; exact .opened he hm
   | some m =>
    have hmv := move_some (fun f hf => pl_ar (hl f hf)) (fun f hf => pl_ar (hr f hf)) hm
    have e1 : growF (k + 1) l r d n = match (growL (fun l r n => growF k l r (d + 1) n) m.2.2 (n + 1) []).ok with
      | some ks => ⟨some (.mk m.1 m.2.1 l r ks), (growL (fun l r n => growF k l r (d + 1) n) m.2.2 (n + 1) []).n, none⟩
      | none => ⟨none, (growL (fun l r n => growF k l r (d + 1) n) m.2.2 (n + 1) []).n, (growL (fun l r n => growF k l r (d + 1) n) m.2.2 (n + 1) []).cnt⟩ := by rw [growF, if_neg h0, he]; dsimp only; rw [hm]; rfl
    rw [e1]
    obtain ⟨a, f, qs⟩ := m
    dsimp only
    rcases mv_count hmv with ⟨q, hq⟩ | ⟨q1, q2, hq⟩
    ·dsimp only at hq
     subst hq
     cases hok : (growF k q.1 q.2 (d + 1) (n + 1)).ok with
     | none =>
      simp only [growL, hok]
      exact .one hmv (by rw [hok])
     | some x =>
      have hx := (growF_n k q.1 q.2 (d + 1) (n + 1) x hok).2
      simp only [growL, hok]
      rw [← hx]
      exact .one hmv (by rw [hok]; rfl)
    ·dsimp only at hq
     subst hq
     cases hok : (growF k q1.1 q1.2 (d + 1) (n + 1)).ok with
     | none =>
      simp only [growL, hok]
      exact .fst hmv hok
     | some x =>
      cases hok2 : (growF k q2.1 q2.2 (d + 1) (growF k q1.1 q1.2 (d + 1) (n + 1)).n).ok with
      | none =>
       simp only [growL, hok, hok2]
       exact .two hmv (by rw [hok]; rfl) (by rw [hok2])
      | some y =>
       have hx := (growF_n k q2.1 q2.2 (d + 1) _ y hok2).2
       simp only [growL, hok, hok2]
       rw [← hx]
       exact .two hmv (by rw [hok]; rfl) (by rw [hok2]; rfl)
def Ct (v : ByteArray → Bool) (l r : List Fm) : Prop := (∀ f ∈ l, tv v f = true) ∧ ∀ f ∈ r, tv v f = false
theorem mem_at {l : List Fm} {i : Nat} (hi : i < l.length) {f : Fm} (hf : f ∈ l) (more : List Fm) : f = l[i] ∨ f ∈ withL l i more := by
 rw [split_at hi] at hf
 unfold withL
 simp only [List.mem_append, List.mem_singleton] at hf ⊢
 rcases hf with h | h | h
 ·exact .inr (.inl h)
 ·exact .inl h
 ·exact .inr (.inr (.inl h))
theorem mem_more {l : List Fm} {i : Nat} {more : List Fm} {f : Fm} (hf : f ∈ more) : f ∈ withL l i more := by
 unfold withL; simp [hf]
theorem fm_is {f : Fm} {k : Int} {ks : List Fm} (hk : f.kind = k) (hs : f.kids = ks) : f = .mk k f.name ks := by
 cases f; subst hk hs; rfl
theorem mv_ct {v : ByteArray → Bool} {l r : List Fm} {m : ByteArray × Fm × List Prem} (h : Mv l r m) : ∀ q ∈ m.2.2, Ct v q.1 q.2 → Ct v l r := by
 have go : ∀ {t : List Fm} {b : Bool} (i : Nat) (hi : i < t.length) (more : List Fm), tv v t[i] = b → (∀ f ∈ withL t i more, tv v f = b) → ∀ f ∈ t, tv v f = b := by
  intro t b i hi more h1 h2 f hf
  rcases mem_at hi hf more with rfl | h
  ·exact h1
  ·exact h2 f h
 cases h with
 | andL i hi a b hk hs =>
  intro q hq hc; simp at hq; subst hq
  refine ⟨go i hi _ ?_ hc.1, hc.2⟩
  rw [fm_is hk hs, tv_5, hc.1 a (mem_more (by simp)), hc.1 b (mem_more (by simp))]; rfl
 | notL i hi a hk hs =>
  intro q hq hc; simp at hq; subst hq
  refine ⟨go i hi _ ?_ hc.1, fun f hf => hc.2 f (List.mem_append_left _ hf)⟩
  rw [fm_is hk hs, tv_4, hc.2 a (by simp)]; rfl
 | orR i hi a b hk hs =>
  intro q hq hc; simp at hq; subst hq
  refine ⟨hc.1, go i hi _ ?_ hc.2⟩
  rw [fm_is hk hs, tv_6, hc.2 a (mem_more (by simp)), hc.2 b (mem_more (by simp))]; rfl
 | notR i hi a hk hs =>
  intro q hq hc; simp at hq; subst hq
  refine ⟨fun f hf => hc.1 f (List.mem_append_left _ hf), go i hi _ ?_ hc.2⟩
  rw [fm_is hk hs, tv_4, hc.1 a (by simp)]; rfl
 | thenR i hi a b hk hs =>
  intro q hq hc; simp at hq; subst hq
  refine ⟨fun f hf => hc.1 f (List.mem_append_left _ hf), go i hi _ ?_ hc.2⟩
  rw [fm_is hk hs, tv_7, hc.1 a (by simp), hc.2 b (mem_more (by simp))]; rfl
 | andR i hi a b hk hs =>
  intro q hq hc; simp at hq
  rcases hq with rfl | rfl
  ·refine ⟨hc.1, go i hi _ ?_ hc.2⟩
   rw [fm_is hk hs, tv_5, hc.2 a (mem_more (by simp))]; rfl
  ·refine ⟨hc.1, go i hi _ ?_ hc.2⟩
   rw [fm_is hk hs, tv_5, hc.2 b (mem_more (by simp)), Bool.and_false]
 | orL i hi a b hk hs =>
  intro q hq hc; simp at hq
  rcases hq with rfl | rfl
  ·refine ⟨go i hi _ ?_ hc.1, hc.2⟩
   rw [fm_is hk hs, tv_6, hc.1 a (mem_more (by simp))]; rfl
  ·refine ⟨go i hi _ ?_ hc.1, hc.2⟩
   rw [fm_is hk hs, tv_6, hc.1 b (mem_more (by simp)), Bool.or_true]
 | thenL i hi a b hk hs =>
  intro q hq hc; simp at hq
  rcases hq with rfl | rfl
  ·refine ⟨go i hi _ ?_ hc.1, fun f hf => hc.2 f (List.mem_append_left _ hf)⟩
   rw [fm_is hk hs, tv_7, hc.2 a (by simp)]; rfl
  ·refine ⟨go i hi _ ?_ hc.1, hc.2⟩
   rw [fm_is hk hs, tv_7, hc.1 b (mem_more (by simp)), Bool.or_true]
theorem endL_none {r : List Fm} : ∀ {l : List Fm}, endL r l = none → ∀ f ∈ l, f.kind ≠ 3 ∧ f ∉ r
 | [], _, f, hf => nomatch hf
 | a :: t, h, f, hf => by
  rw [endL] at h
  split at h
  ·cases h
  ·rename_i h1
   split at h
   ·cases h
   ·rename_i h2
    rcases List.mem_cons.1 hf with rfl | hf
    ·exact ⟨h1, fun g => h2 (hasF_of g)⟩
    ·exact endL_none h f hf
theorem endR_none : ∀ {l : List Fm}, endR l = none → ∀ f ∈ l, f.kind ≠ 2
 | [], _, f, hf => nomatch hf
 | a :: t, h, f, hf => by
  rw [endR] at h
  split at h
  ·cases h
  ·rename_i h1
   rcases List.mem_cons.1 hf with rfl | hf
   ·exact h1
   ·exact endR_none h f hf
theorem open_ct {l r : List Fm} (hl : ∀ f ∈ l, Pl f) (hr : ∀ f ∈ r, Pl f) (he : endF l r = none) (hm : moveF l r = none) : Ct (fun x => memB x (varsL l)) l r := by
 have hE : endL r l = none := by
  unfold endF at he
  cases h : endL r l with
  | none => rfl
  | some e => rw [h] at he; cases he
 have hE2 : endR r = none := by unfold endF at he; rw [hE] at he; exact he
 obtain ⟨m1, m2⟩ := move_none hm
 constructor
 ·intro f hf
  obtain ⟨c4, c5, c6, c7⟩ := m1 f hf
  have c3 := (endL_none hE f hf).1
  rcases (hl f hf).seven with ⟨nm, _, rfl⟩ | rfl | rfl | ⟨a, _, rfl⟩ | ⟨a, b, _, _, rfl⟩ | ⟨a, b, _, _, rfl⟩ | ⟨a, b, _, _, rfl⟩
  ·rw [tv_1, memB_iff]
   unfold varsL
   exact List.mem_map.2 ⟨_, List.mem_filter.2 ⟨hf, by simp⟩, rfl⟩
  ·exact tv_2
  all_goals simp at c3 c4 c5 c6 c7
 ·intro f hf
  obtain ⟨c4, c5, c6, c7⟩ := m2 f hf
  have c2 := endR_none hE2 f hf
  rcases (hr f hf).seven with ⟨nm, _, rfl⟩ | rfl | rfl | ⟨a, _, rfl⟩ | ⟨a, b, _, _, rfl⟩ | ⟨a, b, _, _, rfl⟩ | ⟨a, b, _, _, rfl⟩
  ·rw [tv_1, Bool.eq_false_iff]
   intro g
   rw [memB_iff] at g
   unfold varsL at g
   obtain ⟨x, hx, e⟩ := List.mem_map.1 g
   obtain ⟨hx, hk⟩ := List.mem_filter.1 hx
   have hk : x.kind = 1 := by simpa using hk
   have := (endL_none hE x hx).2
   rcases (hl x hx).seven with ⟨nm', _, rfl⟩ | rfl | rfl | ⟨a, _, rfl⟩ | ⟨a, b, _, _, rfl⟩ | ⟨a, b, _, _, rfl⟩ | ⟨a, b, _, _, rfl⟩
   ·obtain rfl : nm' = nm := e
    exact this hf
   all_goals simp at hk
  ·simp at c2
  ·exact tv_3
  all_goals simp at c2 c4 c5 c6 c7
theorem vars_name {l : List Fm} (hl : ∀ f ∈ l, Pl f) : ∀ x ∈ varsL l, isNameB x = true := by
 intro x hx
 unfold varsL at hx
 obtain ⟨f, hf, rfl⟩ := List.mem_map.1 hx
 obtain ⟨hf, hk⟩ := List.mem_filter.1 hf
 have hk : f.kind = 1 := by simpa using hk
 rcases (hl f hf).seven with ⟨nm, hN, rfl⟩ | rfl | rfl | ⟨a, _, rfl⟩ | ⟨a, b, _, _, rfl⟩ | ⟨a, b, _, _, rfl⟩ | ⟨a, b, _, _, rfl⟩
 ·exact hN
 all_goals simp at hk
theorem grow_open : ∀ (k : Nat) (l r : List Fm) (d : Int) (n : Nat) (V : List ByteArray), (∀ f ∈ l, Pl f) → (∀ f ∈ r, Pl f) → (growF k l r d n).cnt = some V → (∀ x ∈ V, isNameB x = true) ∧ V.length ≤ 60 ∧ Ct (fun x => memB x V) l r := by
 intro k
 induction k with
 | zero => intro l r d n V _ _ h; rw [growF] at h; cases h
 | succ k ih =>
  intro l r d n V hl hr h
  by_cases h0 : 20000 < n + 1 ∨ 400 < d ∨ 60 < l.length + r.length
  ·rw [growF, if_pos h0] at h; cases h
  ·have hc := grow_cases k l r d n hl hr
   generalize hG : growF (k + 1) l r d n = G at *
   cases hc with
   | much _ => cases h
   | last => cases h
   | opened he hm =>
    cases h
    have := varsL_le l
    exact ⟨vars_name hl, by omega, open_ct hl hr he hm⟩
   | one hm ho =>
    have hp := mv_pl hm hl hr _ (List.mem_cons_self)
    obtain ⟨a1, a2, a3⟩ := ih _ _ _ _ V hp.1 hp.2 h
    exact ⟨a1, a2, mv_ct hm _ (List.mem_cons_self) a3⟩
   | fst hm ho =>
    have hp := mv_pl hm hl hr _ (List.mem_cons_self)
    obtain ⟨a1, a2, a3⟩ := ih _ _ _ _ V hp.1 hp.2 h
    exact ⟨a1, a2, mv_ct hm _ (List.mem_cons_self) a3⟩
   | two hm h1 ho =>
    have hp := mv_pl hm hl hr _ (List.mem_cons_of_mem _ List.mem_cons_self)
    obtain ⟨a1, a2, a3⟩ := ih _ _ _ _ V hp.1 hp.2 h
    exact ⟨a1, a2, mv_ct hm _ (List.mem_cons_of_mem _ List.mem_cons_self) a3⟩
def bnd : Nat → Nat
 | 0 => 1
 | 1 => 2
 | n + 2 => 1 + 2 * bnd n
theorem bnd_succ : ∀ n, bnd n + 1 ≤ bnd (n + 1)
 | 0 => by decide
 | 1 => by decide
 | n + 2 => by
  have := bnd_succ n
  rw [show n + 2 + 1 = (n + 1) + 2 from rfl, bnd, bnd]; omega
theorem bnd_mono {a b : Nat} (h : a ≤ b) : bnd a ≤ bnd b := by
 obtain ⟨c, rfl⟩ := Nat.exists_eq_add_of_le h
 induction c with
 | zero => exact Nat.le_refl _
 | succ c ih => have := bnd_succ (a + c); have := ih (by omega); rw [← Nat.add_assoc]; omega
theorem mv_two {l r : List Fm} {a : ByteArray} {f : Fm} {q1 q2 : Prem} (h : Mv l r (a, f, [q1, q2])) : szL q1.1 + szL q1.2 + 2 ≤ szL l + szL r ∧ szL q2.1 + szL q2.2 + 2 ≤ szL l + szL r := by
 cases h with
 | andR i hi a b hk hs =>
  have h1 := szL_with hi [a]; have h3 := szL_with hi [b]; rw [hs, szL_two] at h1 h3
  have := szL_pos a; have := szL_pos b
  constructor <;> dsimp only <;> omega
 | orL i hi a b hk hs =>
  have h1 := szL_with hi [a]; have h3 := szL_with hi [b]; rw [hs, szL_two] at h1 h3
  have := szL_pos a; have := szL_pos b
  constructor <;> dsimp only <;> omega
 | thenL i hi a b hk hs =>
  have h1 := szL_with hi []; have h3 := szL_with hi [b]; rw [hs, szL_two] at h1 h3
  have := szL_pos a; have := szL_pos b; have := szL_app r [a]
  have e : szL [] = 0 := by simp [szL, pres_nil]
  constructor <;> dsimp only <;> omega
theorem szL_len (l : List Fm) : l.length ≤ szL l := pres_ge l
theorem grow_small : ∀ (k : Nat) (l r : List Fm) (d : Int) (n : Nat), szL l + szL r < k → (∀ f ∈ l, Pl f) → (∀ f ∈ r, Pl f) → szL l + szL r ≤ 60 → (szL l + szL r : Int) + d ≤ 400 → n + bnd (szL l + szL r) ≤ 20000 → (growF k l r d n).n ≤ n + bnd (szL l + szL r) ∧ ((growF k l r d n).ok.isSome = true ∨ (growF k l r d n).cnt.isSome = true) := by
 intro k
 induction k with
 | zero => intro l r d n h; omega
 | succ k ih =>
  intro l r d n hs hl hr h60 hd hn
  have b1 : 1 ≤ bnd (szL l + szL r) := bnd_mono (a := 0) (Nat.zero_le _)
  have q1 := szL_len l
  have q2 := szL_len r
  have hc := grow_cases k l r d n hl hr
  generalize hG : growF (k + 1) l r d n = G at *
  cases hc with
  | much h => omega
  | last => exact ⟨by dsimp only; omega, .inl rfl⟩
  | opened he hm => exact ⟨by dsimp only; omega, .inr rfl⟩
  | one hm ho =>
   rename_i a f q o
   have hp := mv_pl hm hl hr _ (List.mem_cons_self)
   have hz := (mv_size hm _ (List.mem_cons_self)).1
   have hb := bnd_succ (szL q.1 + szL q.2)
   have hb2 := bnd_mono (show szL q.1 + szL q.2 + 1 ≤ szL l + szL r by omega)
   obtain ⟨a1, a2⟩ := ih q.1 q.2 (d + 1) (n + 1) (by omega) hp.1 hp.2 (by omega) (by omega) (by omega)
   refine ⟨by dsimp only; omega, ?_⟩
   dsimp only
   rw [ho]; exact a2
  | fst hm ho =>
   rename_i a f q q'
   have hp := mv_pl hm hl hr _ (List.mem_cons_self)
   have hz := (mv_size hm _ (List.mem_cons_self)).1
   have hb := bnd_succ (szL q.1 + szL q.2)
   have hb2 := bnd_mono (show szL q.1 + szL q.2 + 1 ≤ szL l + szL r by omega)
   obtain ⟨a1, a2⟩ := ih q.1 q.2 (d + 1) (n + 1) (by omega) hp.1 hp.2 (by omega) (by omega) (by omega)
   refine ⟨by dsimp only; omega, ?_⟩
   dsimp only
   rw [ho] at a2; exact a2
  | two hm h1 ho =>
   rename_i a f q q' o
   have hp := mv_pl hm hl hr _ (List.mem_cons_self)
   have hp' := mv_pl hm hl hr _ (List.mem_cons_of_mem _ List.mem_cons_self)
   obtain ⟨z1, z2⟩ := mv_two hm
   have hB : 1 + 2 * bnd (szL l + szL r - 2) = bnd (szL l + szL r) := by
    obtain ⟨c, hc⟩ : ∃ c, szL l + szL r = c + 2 := ⟨szL l + szL r - 2, by omega⟩
    rw [hc, bnd]; rfl
   have hb2 := bnd_mono (show szL q.1 + szL q.2 ≤ szL l + szL r - 2 by omega)
   have hb3 := bnd_mono (show szL q'.1 + szL q'.2 ≤ szL l + szL r - 2 by omega)
   obtain ⟨a1, a2⟩ := ih q.1 q.2 (d + 1) (n + 1) (by omega) hp.1 hp.2 (by omega) (by omega) (by omega)
   obtain ⟨a3, a4⟩ := ih q'.1 q'.2 (d + 1) (growF k q.1 q.2 (d + 1) (n + 1)).n (by omega) hp'.1 hp'.2 (by omega) (by omega) (by omega)
   refine ⟨by dsimp only; omega, ?_⟩
   dsimp only
   rw [ho]; exact a4
theorem gr_cuts {l r : List Fm} {d : Int} {n n' : Nat} {p : Pf} (h : Gr l r d n p n') : cutsP p = 0 := by
 have hm : ∀ {l r : List Fm} {m : ByteArray × Fm × List Prem}, Mv l r m → m.1 ≠ ⟨#[99, 117, 116]⟩ := by
  intro l r m h; cases h <;> (dsimp only; decide)
 induction h with
 | last hn hd hl he =>
  rw [cutsP, if_neg, cutsL]
  rcases end_of he with ⟨e, _⟩ | ⟨e, _⟩ | ⟨e, _⟩ <;> rw [e] <;> decide
 | one hn hd hl hv h ih => rw [cutsP, if_neg (hm hv), cutsL, cutsL, ih]
 | two hn hd hl hv h h' ih ih' => rw [cutsP, if_neg (hm hv), cutsL, cutsL, cutsL, ih, ih']
theorem vastsB_of : ∀ {l : List Fm} {d : Int}, (∀ f ∈ l, vastB f d = false) → vastsB l d = false
 | [], _, _ => by rw [vastsB]
 | a :: r, d, h => by rw [vastsB, h a (.head _), vastsB_of fun f hf => h f (.tail _ hf)]; rfl
theorem gr_vast {l r : List Fm} {d : Int} {n n' : Nat} {p : Pf} (h : Gr l r d n p n') : (∀ f ∈ l, Pz f ∧ vastB f 0 = false) → (∀ f ∈ r, Pz f ∧ vastB f 0 = false) → ∀ e : Int, e ≤ d + 700 → vastP p e = false := by
 have hK : ∀ f, Pz f ∧ vastB f 0 = false → ∀ g ∈ f.kids, Pz g ∧ vastB g 0 = false := fun f hf g hg => ⟨pz_kid f hf.1 g hg, by
  obtain ⟨h1, h2⟩ := (plainF_iff g).1 (pz_kid f hf.1 g hg)
  exact vast_small g 0 h1.1 (by omega)⟩
 induction h with
 | last hn hd hl he =>
  rename_i l r d n e
  intro h1 h2 x hx
  have hf : vastB e.2 0 = false := by
   rcases end_of he with ⟨_, m, _⟩ | ⟨_, m, _⟩ | ⟨_, m, _⟩
   ·exact (h1 _ m).2
   ·exact (h1 _ m).2
   ·exact (h2 _ m).2
  rw [vastP_eq]
  simp only [pf_mk1, hf, vastsB_of fun f hf => (h1 f hf).2, vastsB_of fun f hf => (h2 f hf).2, List.length_nil, vastPs, Bool.or_false, Bool.or_eq_false_iff, decide_eq_false_iff_not]
  refine ⟨?_, ?_, ?_, ?_⟩ <;> first | omega | decide
 | one hn hd hl hv h ih =>
  intro h1 h2 x hx
  have hf : vastB _ 0 = false := (mv_main hv).elim (fun m => (h1 _ m).2) fun m => (h2 _ m).2
  have hq := mv_all hK hv h1 h2
  have hi := ih (hq _ (by simp)).1 (hq _ (by simp)).2 (x + 1) (by omega)
  rw [vastP_eq]
  simp only [pf_mk1, hf, vastsB_of fun f hf => (h1 f hf).2, vastsB_of fun f hf => (h2 f hf).2, List.length_nil, List.length_cons, vastPs, hi, Bool.or_false, Bool.or_eq_false_iff, decide_eq_false_iff_not]
  refine ⟨?_, ?_, ?_, ?_⟩ <;> first | omega | decide
 | two hn hd hl hv h h' ih ih' =>
  intro h1 h2 x hx
  have hf : vastB _ 0 = false := (mv_main hv).elim (fun m => (h1 _ m).2) fun m => (h2 _ m).2
  have hq := mv_all hK hv h1 h2
  have hi := ih (hq _ (by simp)).1 (hq _ (by simp)).2 (x + 1) (by omega)
  have hi' := ih' (hq _ (by simp)).1 (hq _ (by simp)).2 (x + 1) (by omega)
  rw [vastP_eq]
  simp only [pf_mk1, hf, vastsB_of fun f hf => (h1 f hf).2, vastsB_of fun f hf => (h2 f hf).2, List.length_nil, List.length_cons, vastPs, hi, hi', Bool.or_false, Bool.or_eq_false_iff, decide_eq_false_iff_not]
  refine ⟨?_, ?_, ?_, ?_⟩ <;> first | omega | decide
end Go.Proofs.Ytnoklmapofogeaa
namespace Go.Proofs.Ytnoklmapofogeaa
open Go Go.Pv
def x39 : XC := .seq (.reg [⟨some 1,.box 24 (.tmp 0),none⟩,⟨some 2,.assign (.const (.bool false)),none⟩]) (.seq (.reg [⟨some 3,.fieldAddr 24 (.tmp 1) 0,none⟩,⟨some 4,.load 3 (.tmp 3),none⟩,⟨some 5,.binOp .eql 3 (.tmp 4) (.const (.int .i64 0)) 3,none⟩,⟨some 6,.move (.tmp 5),none⟩,⟨some 7,.fieldAddr 24 (.tmp 1) 1,some (some 6,true)⟩,⟨some 8,.load 9 (.tmp 7),some (some 6,true)⟩,⟨some 9,.binOp .eql 9 (.tmp 8) (.const (.string ⟨#[]⟩)) 9,some (some 6,true)⟩,⟨some 10,.pick (.tmp 6) (.tmp 9) (.const (.bool false)),none⟩,⟨some 11,.move (.tmp 10),none⟩,⟨some 12,.fieldAddr 24 (.tmp 1) 2,some (some 11,true)⟩,⟨some 13,.load 22 (.tmp 12),some (some 11,true)⟩,⟨some 14,.call ⟨.builtin .len,#[.tmp 13],#[22]⟩,some (some 11,true)⟩,⟨some 15,.binOp .eql 3 (.tmp 14) (.const (.int .i64 0)) 3,some (some 11,true)⟩,⟨some 16,.pick (.tmp 11) (.tmp 15) (.const (.bool false)),none⟩,⟨some 2,.assign (.tmp 16),none⟩]) .ret)
@[simp] theorem x39_s {C e s K} : type_of% (@X_at C e s K _ _ x39.eq_1) := X_at x39.eq_1
def an39 : Ann := ⟨[], [], []⟩
theorem fi39 : FI Try.prog 39 (cxA an39) x39 [.tmp 2] Try.f39 := fiA Try.func39 mixed
end Go.Proofs.Ytnoklmapofogeaa
