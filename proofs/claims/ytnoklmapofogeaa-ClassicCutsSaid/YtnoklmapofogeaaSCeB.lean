import Derived.Test.YtnoklmapofogeaaSBwP
import Derived.Test.YtnoklmapofogeaaSCcZ
import Derived.Test.YtnoklmapofogeaaSCcW
import Derived.Test.YtnoklmapofogeaaSCcH
set_option linter.unusedVariables false
set_option linter.unusedSimpArgs false
set_option maxRecDepth 100000
set_option maxHeartbeats 4000000
namespace Go.Proofs.Ytnoklmapofogeaa
open Go Go.Pv
inductive Gc (k : Nat) (l r : List Fm) (d : Int) (n : Nat) : GR → Prop where
 | much (h : 20000 < n + 1 ∨ 400 < d ∨ 60 < l.length + r.length) : Gc k l r d n ⟨none, n + 1, none⟩
 | last {p : Pf} : Gc k l r d n ⟨some p, n + 1, none⟩
 | opened (he : endF l r = none) (hm : moveF l r = none) : Gc k l r d n ⟨none, n + 1, some (varsL l)⟩
 | one {a : ByteArray} {f : Fm} {q : Prem} {o : Option Pf} (hm : Mv l r (a, f, [q])) (ho : o.isSome = (growF k q.1 q.2 (d + 1) (n + 1)).ok.isSome) : Gc k l r d n ⟨o, (growF k q.1 q.2 (d + 1) (n + 1)).n, (growF k q.1 q.2 (d + 1) (n + 1)).cnt⟩
 | fst {a : ByteArray} {f : Fm} {q1 q2 : Prem} (hm : Mv l r (a, f, [q1, q2])) (ho : (growF k q1.1 q1.2 (d + 1) (n + 1)).ok = none) : Gc k l r d n ⟨none, (growF k q1.1 q1.2 (d + 1) (n + 1)).n, (growF k q1.1 q1.2 (d + 1) (n + 1)).cnt⟩
 | two {a : ByteArray} {f : Fm} {q1 q2 : Prem} {o : Option Pf} (hm : Mv l r (a, f, [q1, q2])) (h1 : (growF k q1.1 q1.2 (d + 1) (n + 1)).ok.isSome = true)
   (ho : o.isSome = (growF k q2.1 q2.2 (d + 1) (growF k q1.1 q1.2 (d + 1) (n + 1)).n).ok.isSome) : Gc k l r d n ⟨o, (growF k q2.1 q2.2 (d + 1) (growF k q1.1 q1.2 (d + 1) (n + 1)).n).n, (growF k q2.1 q2.2 (d + 1) (growF k q1.1 q1.2 (d + 1) (n + 1)).n).cnt⟩
theorem grow_cases (k : Nat) (l r : List Fm) (d : Int) (n : Nat) (hl : ∀ f ∈ l, Pl f) (hr : ∀ f ∈ r, Pl f) : Gc k l r d n (growF (k + 1) l r d n) := by
 by_cases h0 : 20000 < n + 1 ∨ 400 < d ∨ 60 < l.length + r.length
 ·rw [growF, if_pos h0]; exact .much h0
 ·cases he : endF l r with
  | some e =>
   have e1 : growF (k + 1) l r d n = ⟨some (.mk e.1 e.2 l r []), n + 1, none⟩ := by rw [growF, if_neg h0, he]
   rw [e1]; exact .last
  | none =>
   cases hm : moveF l r with
   | none =>
    have e1 : growF (k + 1) l r d n = ⟨none, n + 1, some (varsL l)⟩ := by rw [growF, if_neg h0, he]; dsimp only; rw [hm]
    rw [e1]; exact .opened he hm
   | some m =>
    have hmv := move_some (fun f hf => pl_ar (hl f hf)) (fun f hf => pl_ar (hr f hf)) hm
    have e1 : growF (k + 1) l r d n = match (growL (fun l r n => growF k l r (d + 1) n) m.2.2 (n + 1) []).ok with
      | some ks => ⟨some (.mk m.1 m.2.1 l r ks), (growL (fun l r n => growF k l r (d + 1) n) m.2.2 (n + 1) []).n, none⟩
      | none => ⟨none, (growL (fun l r n => growF k l r (d + 1) n) m.2.2 (n + 1) []).n, (growL (fun l r n => growF k l r (d + 1) n) m.2.2 (n + 1) []).cnt⟩ := by rw [growF, if_neg h0, he]; dsimp only; rw [hm]; rfl
    rw [e1]
    obtain ⟨a, f, qs⟩ := m
    dsimp only
    rcases mv_count hmv with ⟨q, hq⟩ | ⟨q1, q2, hq⟩
    ·dsimp only at hq
     subst hq
     cases hok : (growF k q.1 q.2 (d + 1) (n + 1)).ok with
     | none =>
      simp only [growL, hok]
      exact .one hmv (by rw [hok])
     | some x =>
      have hx := (growF_n k q.1 q.2 (d + 1) (n + 1) x hok).2
      simp only [growL, hok]
      rw [← hx]
      exact .one hmv (by rw [hok]; rfl)
    ·dsimp only at hq
     subst hq
     cases hok : (growF k q1.1 q1.2 (d + 1) (n + 1)).ok with
     | none =>
      simp only [growL, hok]
      exact .fst hmv hok
     | some x =>
      cases hok2 : (growF k q2.1 q2.2 (d + 1) (growF k q1.1 q1.2 (d + 1) (n + 1)).n).ok with
      | none =>
       simp only [growL, hok, hok2]
       exact .two hmv (by rw [hok]; rfl) (by rw [hok2])
      | some y =>
       have hx := (growF_n k q2.1 q2.2 (d + 1) _ y hok2).2
       simp only [growL, hok, hok2]
       rw [← hx]
       exact .two hmv (by rw [hok]; rfl) (by rw [hok2]; rfl)
def Ct (v : ByteArray → Bool) (l r : List Fm) : Prop := (∀ f ∈ l, tv v f = true) ∧ ∀ f ∈ r, tv v f = false
theorem ct_not {v : ByteArray → Bool} {l r : List Fm} (h : Ct v l r) : ¬ SqT v l r := by
 intro g
 obtain ⟨x, hx, ht⟩ := g h.1
 rw [h.2 x hx] at ht; cases ht
theorem mem_at {l : List Fm} {i : Nat} (hi : i < l.length) {f : Fm} (hf : f ∈ l) (more : List Fm) : f = l[i] ∨ f ∈ withL l i more := by
 rw [split_at hi] at hf
 unfold withL
 simp only [List.mem_append, List.mem_singleton] at hf ⊢
 rcases hf with h | h | h
 ·exact .inr (.inl h)
 ·exact .inl h
 ·exact .inr (.inr (.inl h))
theorem mem_more {l : List Fm} {i : Nat} {more : List Fm} {f : Fm} (hf : f ∈ more) : f ∈ withL l i more := by
 unfold withL; simp [hf]
theorem fm_is {f : Fm} {k : Int} {ks : List Fm} (hk : f.kind = k) (hs : f.kids = ks) : f = .mk k f.name ks := by
 cases f; subst hk hs; rfl
theorem mv_ct {v : ByteArray → Bool} {l r : List Fm} {m : ByteArray × Fm × List Prem} (h : Mv l r m) : ∀ q ∈ m.2.2, Ct v q.1 q.2 → Ct v l r := by
 have go : ∀ {t : List Fm} {b : Bool} (i : Nat) (hi : i < t.length) (more : List Fm), tv v t[i] = b → (∀ f ∈ withL t i more, tv v f = b) → ∀ f ∈ t, tv v f = b := by
  intro t b i hi more h1 h2 f hf
  rcases mem_at hi hf more with rfl | h
  ·exact h1
  ·exact h2 f h
 cases h with
 | andL i hi a b hk hs =>
  intro q hq hc; simp at hq; subst hq
  refine ⟨go i hi _ ?_ hc.1, hc.2⟩
  rw [fm_is hk hs, tv_5, hc.1 a (mem_more (by simp)), hc.1 b (mem_more (by simp))]; rfl
 | notL i hi a hk hs =>
  intro q hq hc; simp at hq; subst hq
  refine ⟨go i hi _ ?_ hc.1, fun f hf => hc.2 f (List.mem_append_left _ hf)⟩
  rw [fm_is hk hs, tv_4, hc.2 a (by simp)]; rfl
 | orR i hi a b hk hs =>
  intro q hq hc; simp at hq; subst hq
  refine ⟨hc.1, go i hi _ ?_ hc.2⟩
  rw [fm_is hk hs, tv_6, hc.2 a (mem_more (by simp)), hc.2 b (mem_more (by simp))]; rfl
 | notR i hi a hk hs =>
  intro q hq hc; simp at hq; subst hq
  refine ⟨fun f hf => hc.1 f (List.mem_append_left _ hf), go i hi _ ?_ hc.2⟩
  rw [fm_is hk hs, tv_4, hc.1 a (by simp)]; rfl
 | thenR i hi a b hk hs =>
  intro q hq hc; simp at hq; subst hq
  refine ⟨fun f hf => hc.1 f (List.mem_append_left _ hf), go i hi _ ?_ hc.2⟩
  rw [fm_is hk hs, tv_7, hc.1 a (by simp), hc.2 b (mem_more (by simp))]; rfl
 | andR i hi a b hk hs =>
  intro q hq hc; simp at hq
  rcases hq with rfl | rfl
  ·refine ⟨hc.1, go i hi _ ?_ hc.2⟩
   rw [fm_is hk hs, tv_5, hc.2 a (mem_more (by simp))]; rfl
  ·refine ⟨hc.1, go i hi _ ?_ hc.2⟩
   rw [fm_is hk hs, tv_5, hc.2 b (mem_more (by simp)), Bool.and_false]
 | orL i hi a b hk hs =>
  intro q hq hc; simp at hq
  rcases hq with rfl | rfl
  ·refine ⟨go i hi _ ?_ hc.1, hc.2⟩
   rw [fm_is hk hs, tv_6, hc.1 a (mem_more (by simp))]; rfl
  ·refine ⟨go i hi _ ?_ hc.1, hc.2⟩
   rw [fm_is hk hs, tv_6, hc.1 b (mem_more (by simp)), Bool.or_true]
 | thenL i hi a b hk hs =>
  intro q hq hc; simp at hq
  rcases hq with rfl | rfl
  ·refine ⟨go i hi _ ?_ hc.1, fun f hf => hc.2 f (List.mem_append_left _ hf)⟩
   rw [fm_is hk hs, tv_7, hc.2 a (by simp)]; rfl
  ·refine ⟨go i hi _ ?_ hc.1, hc.2⟩
   rw [fm_is hk hs, tv_7, hc.1 b (mem_more (by simp)), Bool.or_true]
theorem endL_none {r : List Fm} : ∀ {l : List Fm}, endL r l = none → ∀ f ∈ l, f.kind ≠ 3 ∧ f ∉ r
 | [], _, f, hf => nomatch hf
 | a :: t, h, f, hf => by
  rw [endL] at h
  split at h
  ·cases h
  ·rename_i h1
   split at h
   ·cases h
   ·rename_i h2
    rcases List.mem_cons.1 hf with rfl | hf
    ·exact ⟨h1, fun g => h2 (hasF_of g)⟩
    ·exact endL_none h f hf
theorem endR_none : ∀ {l : List Fm}, endR l = none → ∀ f ∈ l, f.kind ≠ 2
 | [], _, f, hf => nomatch hf
 | a :: t, h, f, hf => by
  rw [endR] at h
  split at h
  ·cases h
  ·rename_i h1
   rcases List.mem_cons.1 hf with rfl | hf
   ·exact h1
   ·exact endR_none h f hf
theorem open_ct {l r : List Fm} (hl : ∀ f ∈ l, Pl f) (hr : ∀ f ∈ r, Pl f) (he : endF l r = none) (hm : moveF l r = none) : Ct (fun x => memB x (varsL l)) l r := by
 have hE : endL r l = none := by
  unfold endF at he
  cases h : endL r l with
  | none => rfl
  | some e => rw [h] at he; cases he
 have hE2 : endR r = none := by unfold endF at he; rw [hE] at he; exact he
 obtain ⟨m1, m2⟩ := move_none hm
 constructor
 ·intro f hf
  obtain ⟨c4, c5, c6, c7⟩ := m1 f hf
  have c3 := (endL_none hE f hf).1
  rcases (hl f hf).seven with ⟨nm, _, rfl⟩ | rfl | rfl | ⟨a, _, rfl⟩ | ⟨a, b, _, _, rfl⟩ | ⟨a, b, _, _, rfl⟩ | ⟨a, b, _, _, rfl⟩
  ·rw [tv_1, memB_iff]
   unfold varsL
   exact List.mem_map.2 ⟨_, List.mem_filter.2 ⟨hf, by simp⟩, rfl⟩
  ·exact tv_2
  all_goals simp at c3 c4 c5 c6 c7
 ·intro f hf
  obtain ⟨c4, c5, c6, c7⟩ := m2 f hf
  have c2 := endR_none hE2 f hf
  rcases (hr f hf).seven with ⟨nm, _, rfl⟩ | rfl | rfl | ⟨a, _, rfl⟩ | ⟨a, b, _, _, rfl⟩ | ⟨a, b, _, _, rfl⟩ | ⟨a, b, _, _, rfl⟩
  ·rw [tv_1, Bool.eq_false_iff]
   intro g
   rw [memB_iff] at g
   unfold varsL at g
   obtain ⟨x, hx, e⟩ := List.mem_map.1 g
   obtain ⟨hx, hk⟩ := List.mem_filter.1 hx
   have hk : x.kind = 1 := by simpa using hk
   have := (endL_none hE x hx).2
   rcases (hl x hx).seven with ⟨nm', _, rfl⟩ | rfl | rfl | ⟨a, _, rfl⟩ | ⟨a, b, _, _, rfl⟩ | ⟨a, b, _, _, rfl⟩ | ⟨a, b, _, _, rfl⟩
   ·obtain rfl : nm' = nm := e
    exact this hf
   all_goals simp at hk
  ·simp at c2
  ·exact tv_3
  all_goals simp at c2 c4 c5 c6 c7
theorem vars_name {l : List Fm} (hl : ∀ f ∈ l, Pl f) : ∀ x ∈ varsL l, isNameB x = true := by
 intro x hx
 unfold varsL at hx
 obtain ⟨f, hf, rfl⟩ := List.mem_map.1 hx
 obtain ⟨hf, hk⟩ := List.mem_filter.1 hf
 have hk : f.kind = 1 := by simpa using hk
 rcases (hl f hf).seven with ⟨nm, hN, rfl⟩ | rfl | rfl | ⟨a, _, rfl⟩ | ⟨a, b, _, _, rfl⟩ | ⟨a, b, _, _, rfl⟩ | ⟨a, b, _, _, rfl⟩
 ·exact hN
 all_goals simp at hk
theorem grow_open : ∀ (k : Nat) (l r : List Fm) (d : Int) (n : Nat) (V : List ByteArray), (∀ f ∈ l, Pl f) → (∀ f ∈ r, Pl f) → (growF k l r d n).cnt = some V → (∀ x ∈ V, isNameB x = true) ∧ V.length ≤ 60 ∧ Ct (fun x => memB x V) l r := by
 intro k
 induction k with
 | zero => intro l r d n V _ _ h; rw [growF] at h; cases h
 | succ k ih =>
  intro l r d n V hl hr h
  by_cases h0 : 20000 < n + 1 ∨ 400 < d ∨ 60 < l.length + r.length
  ·rw [growF, if_pos h0] at h; cases h
  ·have hc := grow_cases k l r d n hl hr
   generalize hG : growF (k + 1) l r d n = G at *
   cases hc with
   | much _ => cases h
   | last => cases h
   | opened he hm =>
    cases h
    have := varsL_le l
    exact ⟨vars_name hl, by omega, open_ct hl hr he hm⟩
   | one hm ho =>
    have hp := mv_pl hm hl hr _ (List.mem_cons_self)
    obtain ⟨a1, a2, a3⟩ := ih _ _ _ _ V hp.1 hp.2 h
    exact ⟨a1, a2, mv_ct hm _ (List.mem_cons_self) a3⟩
   | fst hm ho =>
    have hp := mv_pl hm hl hr _ (List.mem_cons_self)
    obtain ⟨a1, a2, a3⟩ := ih _ _ _ _ V hp.1 hp.2 h
    exact ⟨a1, a2, mv_ct hm _ (List.mem_cons_self) a3⟩
   | two hm h1 ho =>
    have hp := mv_pl hm hl hr _ (List.mem_cons_of_mem _ List.mem_cons_self)
    obtain ⟨a1, a2, a3⟩ := ih _ _ _ _ V hp.1 hp.2 h
    exact ⟨a1, a2, mv_ct hm _ (List.mem_cons_of_mem _ List.mem_cons_self) a3⟩
theorem gr_cuts {l r : List Fm} {d : Int} {n n' : Nat} {p : Pf} (h : Gr l r d n p n') : cutsP p = 0 := by
 have hm : ∀ {l r : List Fm} {m : ByteArray × Fm × List Prem}, Mv l r m → m.1 ≠ ⟨#[99, 117, 116]⟩ := by
  intro l r m h; cases h <;> (dsimp only; decide)
 induction h with
 | last hn hd hl he =>
  rw [cutsP, if_neg, cutsL]
  rcases end_of he with ⟨e, _⟩ | ⟨e, _⟩ | ⟨e, _⟩ <;> rw [e] <;> decide
 | one hn hd hl hv h ih => rw [cutsP, if_neg (hm hv), cutsL, cutsL, ih]
 | two hn hd hl hv h h' ih ih' => rw [cutsP, if_neg (hm hv), cutsL, cutsL, cutsL, ih, ih']
theorem vastsB_of : ∀ {l : List Fm} {d : Int}, (∀ f ∈ l, vastB f d = false) → vastsB l d = false
 | [], _, _ => by rw [vastsB]
 | a :: r, d, h => by rw [vastsB, h a (.head _), vastsB_of fun f hf => h f (.tail _ hf)]; rfl
theorem gr_vast {l r : List Fm} {d : Int} {n n' : Nat} {p : Pf} (h : Gr l r d n p n') : (∀ f ∈ l, Pz f ∧ vastB f 0 = false) → (∀ f ∈ r, Pz f ∧ vastB f 0 = false) → ∀ e : Int, e ≤ d + 700 → vastP p e = false := by
 have hK : ∀ f, Pz f ∧ vastB f 0 = false → ∀ g ∈ f.kids, Pz g ∧ vastB g 0 = false := fun f hf g hg => ⟨pz_kid f hf.1 g hg, by
  obtain ⟨h1, h2⟩ := (plainF_iff g).1 (pz_kid f hf.1 g hg)
  exact vast_small g 0 h1.1 (by omega)⟩
 induction h with
 | last hn hd hl he =>
  rename_i l r d n e
  intro h1 h2 x hx
  have hf : vastB e.2 0 = false := by
   rcases end_of he with ⟨_, m, _⟩ | ⟨_, m, _⟩ | ⟨_, m, _⟩
   ·exact (h1 _ m).2
   ·exact (h1 _ m).2
   ·exact (h2 _ m).2
  rw [vastP_eq]
  simp only [pf_mk1, hf, vastsB_of fun f hf => (h1 f hf).2, vastsB_of fun f hf => (h2 f hf).2, List.length_nil, vastPs, Bool.or_false, Bool.or_eq_false_iff, decide_eq_false_iff_not]
  refine ⟨?_, ?_, ?_, ?_⟩ <;> first | omega | decide
 | one hn hd hl hv h ih =>
  intro h1 h2 x hx
  have hf : vastB _ 0 = false := (mv_main hv).elim (fun m => (h1 _ m).2) fun m => (h2 _ m).2
  have hq := mv_all hK hv h1 h2
  have hi := ih (hq _ (by simp)).1 (hq _ (by simp)).2 (x + 1) (by omega)
  rw [vastP_eq]
  simp only [pf_mk1, hf, vastsB_of fun f hf => (h1 f hf).2, vastsB_of fun f hf => (h2 f hf).2, List.length_nil, List.length_cons, vastPs, hi, Bool.or_false, Bool.or_eq_false_iff, decide_eq_false_iff_not]
  refine ⟨?_, ?_, ?_, ?_⟩ <;> first | omega | decide
 | two hn hd hl hv h h' ih ih' =>
  intro h1 h2 x hx
  have hf : vastB _ 0 = false := (mv_main hv).elim (fun m => (h1 _ m).2) fun m => (h2 _ m).2
  have hq := mv_all hK hv h1 h2
  have hi := ih (hq _ (by simp)).1 (hq _ (by simp)).2 (x + 1) (by omega)
  have hi' := ih' (hq _ (by simp)).1 (hq _ (by simp)).2 (x + 1) (by omega)
  rw [vastP_eq]
  simp only [pf_mk1, hf, vastsB_of fun f hf => (h1 f hf).2, vastsB_of fun f hf => (h2 f hf).2, List.length_nil, List.length_cons, vastPs, hi, hi', Bool.or_false, Bool.or_eq_false_iff, decide_eq_false_iff_not]
  refine ⟨?_, ?_, ?_, ?_⟩ <;> first | omega | decide
end Go.Proofs.Ytnoklmapofogeaa
namespace Go.Proofs.Ytnoklmapofogeaa
open Go Go.Pv
def x48 : XC := .seq (.reg [⟨some 1,.box 26 (.tmp 0),none⟩,⟨some 2,.assign (.const (.bool false)),none⟩]) (.seq (.reg [⟨some 3,.load 26 (.tmp 1),none⟩,⟨some 4,.build 29 #[(2,.tmp 3)],none⟩,⟨some 5,.call ⟨.value (.func 15),#[.tmp 4,.const (.int .i64 0)],#[29,3]⟩,none⟩,⟨some 2,.assign (.tmp 5),none⟩]) .ret)
@[simp] theorem x48_s {C e s K} : type_of% (@X_at C e s K _ _ x48.eq_1) := X_at x48.eq_1
def an48 : Ann := ⟨[], [], []⟩
theorem fi48 : FI Try.prog 48 (cxA an48) x48 [.tmp 2] Try.f48 := fiA Try.func48 mixed
theorem vastSequent_law (l r : List Fm) : CallOK Try.prog 48 [.agg [.list (l.map frm), .list (r.map frm)]] [] (.bool (vastP (.mk ⟨#[]⟩ (.mk 0 ⟨#[]⟩ []) l r []) 0)) [] := by
 have h := callOK_softA (VastProof_ref (.mk ⟨#[]⟩ (.mk 0 ⟨#[]⟩ []) l r []) 0 (by decide) (by decide)) (args := [.agg [.str ⟨#[]⟩, .int .i64 0, .str ⟨#[]⟩, .nilsl, .list (l.map frm), .list (r.map frm), .nilsl], .int .i64 0]) (by rw [prf_eq]; exact .cons (.agg (.cons .refl (.cons .refl (.cons .refl (.cons .nil (.cons .refl (.cons .refl (.cons .nil .nil)))))))) (.cons .refl .nil))
 generalize vastP (.mk ⟨#[]⟩ (.mk 0 ⟨#[]⟩ []) l r []) 0 = V at *
 refine fi48.op ?_
 ((refine Sg.h ?_); try repeat' ((first | (with_reducible first | refine brA ?_ | refine brE fun _ => ?_ | (refine spl ⟨?_, ?_⟩ <;> intro _)) | refine clo h ?_) <;> ((try simp -implicitDefEqProofs); (try simp -implicitDefEqProofs (disch := first | assumption | (try simp only [lens]); omega -splitDisjunctions)))))
end Go.Proofs.Ytnoklmapofogeaa
namespace Go.Proofs.Ytnoklmapofogeaa
open Go Go.Pv
def GrowOK (g : List Fm → List Fm → Nat → GR) (d : Int) (q : Prem) : Prop := ∀ n, n ≤ 20000 →
 ((g q.1 q.2 n).ok.isSome = true → (g q.1 q.2 n).n ≤ 20000 ∧ (g q.1 q.2 n).cnt = none) ∧
 CallOK Try.prog 87 [.ptr 0 0 0, .list (q.1.map frm), .list (q.2.map frm), .int .i64 d] [fndO 0 n none] (.tuple [.agg (rowO (g q.1 q.2 n).ok), .bool (g q.1 q.2 n).ok.isSome]) (fndO 1 (g q.1 q.2 n).n (g q.1 q.2 n).cnt :: fndT (g q.1 q.2 n).cnt)
def x108_T1 : XC := .seq (.reg [⟨some 48,.load 29 (.tmp 3),none⟩,⟨none,.store 29 (.tmp 9) (.tmp 48),none⟩,⟨some 10,.assign (.const (.bool true)),none⟩]) .ret
def x108_L0 : XC := .seq (.reg [⟨some 22,.binOp .lss 3 (.tmp 21) (.tmp 20) 3,none⟩]) (.seq (.cond (.tmp 22) .skip (.exit 0)) (.seq (.block 1 (.seq (.reg [⟨some 23,.indexAddr 111 (.tmp 19) (.tmp 21),none⟩,⟨some 24,.load 26 (.tmp 23),none⟩,⟨some 12,.alloc 26,none⟩,⟨none,.store 26 (.tmp 12) (.tmp 24),none⟩]) (.seq (.reg [⟨some 26,.load 102 (.tmp 4),none⟩,⟨some 27,.fieldAddr 26 (.tmp 12) 0,none⟩,⟨some 28,.load 22 (.tmp 27),none⟩,⟨some 29,.fieldAddr 26 (.tmp 12) 1,none⟩,⟨some 30,.load 22 (.tmp 29),none⟩,⟨some 31,.load 3 (.tmp 5),none⟩,⟨some 32,.binOp .add 3 (.tmp 31) (.const (.int .i64 1)) 3,none⟩,⟨some 33,.call ⟨.value (.func 87),#[.tmp 26,.tmp 28,.tmp 30,.tmp 32],#[102,22,22,3]⟩,none⟩,⟨some 25,.move (.tmp 33),none⟩,⟨some 34,.extract (.tmp 25) 0,none⟩,⟨some 35,.extract (.tmp 25) 1,none⟩,⟨some 13,.alloc 29,none⟩,⟨none,.store 29 (.tmp 13) (.tmp 34),none⟩,⟨some 14,.assign (.tmp 35),none⟩]) (.seq (.seq (.reg [⟨some 36,.move (.tmp 14),none⟩,⟨some 37,.unOp .not 4 (.tmp 36),none⟩]) (.cond (.tmp 37) (.seq (.reg [⟨some 38,.build 29 #[],none⟩,⟨none,.store 29 (.tmp 9) (.tmp 38),none⟩,⟨some 10,.assign (.const (.bool false)),none⟩]) .ret) .skip)) (.drawn 8 [⟨some 39,.fieldAddr 29 (.tmp 3) 3,none⟩,⟨some 40,.load 27 (.tmp 39),none⟩,⟨some 41,.load 29 (.tmp 13),none⟩,⟨some 42,.call ⟨.builtin .len,#[.tmp 40],#[27]⟩,none⟩,⟨some 43,.buildSlice 27 1 #[(0,.const (.agg #[.string ⟨#[]⟩,.int .i64 0,.string ⟨#[]⟩,.slice none 0 0,.slice none 0 0,.slice none 0 0,.slice none 0 0]))],none⟩,⟨some 44,.call ⟨.builtin .append,#[.tmp 40,.tmp 43],#[27,27]⟩,none⟩,⟨some 45,.indexAddr 27 (.tmp 44) (.tmp 42),none⟩,⟨none,.store 29 (.tmp 45) (.tmp 41),none⟩,⟨some 46,.fieldAddr 29 (.tmp 3) 3,none⟩,⟨none,.store 27 (.tmp 46) (.tmp 44),none⟩]))))) (.reg [⟨some 47,.binOp .add 3 (.tmp 21) (.const (.int .i64 1)) 3,none⟩,⟨some 21,.move (.tmp 47),none⟩])))
def x108 : XC := .seq (.reg [⟨some 7,.box 24 (.tmp 1),none⟩,⟨some 9,.alloc 29,none⟩,⟨some 10,.assign (.const (.bool false)),none⟩]) (.seq (.drawn 1 [⟨some 15,.move (.tmp 0),none⟩,⟨some 16,.load 24 (.tmp 7),none⟩,⟨some 17,.fieldAddr 29 (.tmp 3) 0,none⟩,⟨none,.store 9 (.tmp 17) (.tmp 15),none⟩,⟨some 18,.fieldAddr 29 (.tmp 3) 1,none⟩,⟨none,.store 24 (.tmp 18) (.tmp 16),none⟩]) (.seq (.seq (.reg [⟨some 19,.move (.tmp 2),none⟩,⟨some 20,.call ⟨.builtin .len,#[.tmp 19],#[111]⟩,none⟩,⟨some 21,.move (.const (.int .i64 0)),none⟩]) (.bloop 0 x108_L0)) (x108_T1)))
@[simp] theorem x108_s {C e s K} : type_of% (@X_at C e s K _ _ x108_T1.eq_1) ∧ type_of% (@X_at C e s K _ _ x108_L0.eq_1) ∧ type_of% (@X_at C e s K _ _ x108.eq_1) := ⟨X_at x108_T1.eq_1, X_at x108_L0.eq_1, X_at x108.eq_1⟩
def an108 : Ann := ⟨[(1, .mix3 3 1), (8, .tree (.op 0 (.op 1 (.op 2 (.op 3 (.op 4 (.ck 1 (.ck 2 (.ck 3 (.op 5 (.op 6 (.op 8 (.br (.op 7 (.op 9 .fin)) (.op 9 (.ck 6 (.op 7 .fin))))))))))))))))], [(0, [(3, some 6, 7)], [3, 4, 5, 9, 19, 20, 21], [3, 9, 10])], []⟩
@[simp] theorem an108_a : an108.clsOf 1 = .mix3 3 1 ∧ an108.clsOf 8 = .tree (.op 0 (.op 1 (.op 2 (.op 3 (.op 4 (.ck 1 (.ck 2 (.ck 3 (.op 5 (.op 6 (.op 8 (.br (.op 7 (.op 9 .fin)) (.op 9 (.ck 6 (.op 7 .fin))))))))))))))) ∧ an108.frzOf 1 = [] ∧ an108.frzOf 8 = [] ∧ an108.loopOf 0 = ([(3, some 6, 7)], [3, 4, 5, 9, 19, 20, 21], [3, 9, 10]) := ⟨rfl, rfl, rfl, rfl, rfl⟩
theorem fi108 : FI Try.prog 108 (cxA an108) x108 [.cell 9 29, .tmp 10] Try.f108 := fiA Try.func108 mixed
theorem more_classic (g : List Fm → List Fm → Nat → GR) (rule : ByteArray) (f : Fm) (qs : List Prem) (l r : List Fm) (d : Int) (hd : 0 ≤ d) (hd2 : d ≤ 1000) (hql : qs.length ≤ 10) (hg : ∀ q ∈ qs, GrowOK g (d + 1) q) (n : Nat) (hn : n ≤ 20000) (ks : List Pf) (hk : (growL g qs n []).ok = some ks) :
  CallOK Try.prog 108 [.str rule, .agg (frm f), .list (qs.map premRow), .ptr 0 0 0, .ptr 1 0 0, .ptr 2 0 0]
   [.rows 7 [[.str ⟨#[]⟩, .int .i64 0, .str ⟨#[]⟩, .nilsl, .list (l.map frm), .list (r.map frm), .nilsl]], .rows 1 [[.ptr 3 0 0]], .rows 1 [[.int .i64 d]], fndO 0 n none]
   (.tuple [.agg (rowO (some (.mk rule f l r ks))), .bool true]) [.dead, .rows 1 [[.ptr 3 0 0]], .rows 1 [[.int .i64 d]], fndO 0 (growL g qs n []).n none] := by
 have hpf := frm_eq f
 have hfo : ∀ n, fndO 0 n none = .rows 3 [[.int .i64 (n : Int), .nilsl, .bool false]] := fun _ => rfl
 have hr4 : List.range 4 = [0, 1, 2, 3] := rfl
 refine fi108.od [0] ?_
 rw [rowO_s, prf_eq (Pf.mk _ _ _ _ _)]
 simp only [pf_mk1, hfo]
 generalize hN : (growL g qs n []).n = N
 ((refine Sg.h ?_); try repeat' ((first | (with_reducible first | refine brA ?_ | refine brE fun _ => ?_ | (refine spl ⟨?_, ?_⟩ <;> intro _))) <;> ((try simp -implicitDefEqProofs [hpf, hr4]); (try simp -implicitDefEqProofs (disch := first | assumption | (try simp only [lens]); omega -splitDisjunctions) [hpf, hr4]))))
 refine W_of fun Q hQ => ?_
 have main : ∀ j i m (acc : List Pf), i + j = qs.length → m ≤ 20000 → acc.length = i → (growL g (qs.drop i) m acc).ok = some ks → (growL g (qs.drop i) m acc).n = N → Q [(3, .ptr 0 0 0), (4, .ptr 1 0 0), (5, .ptr 2 0 0), (9, .ptr 5 0 0), (19, .list (qs.map premRow)), (20, .int .i64 (qs.length : Int)), (21, .int .i64 (i : Int))] [.rows 7 [[.str rule, .int .i64 f.kind, .str f.name, .list (f.kids.map frm), .list (l.map frm), .list (r.map frm), .sl 4 0 acc.length]], .rows 1 [[.ptr 3 0 0]], .rows 1 [[.int .i64 d]], .rows 3 [[.int .i64 (m : Int), .nilsl, .bool false]], .rows 7 (acc.map prf), .rows 7 [[.str ⟨#[]⟩, .int .i64 0, .str ⟨#[]⟩, .nilsl, .nilsl, .nilsl, .nilsl]]] := by
  intro j
  induction j with
  | zero =>
   intro i m acc hi hm ha ho hN2
   rw [List.drop_of_length_le (by omega), growL] at ho hN2
   obtain rfl : acc = ks := by simpa using ho
   simp only at hN2
   subst hN2
   apply hQ
   clear hQ
   ((refine Sg.h ?_); try repeat' ((first | (with_reducible first | refine brA ?_ | refine brE fun _ => ?_ | (refine spl ⟨?_, ?_⟩ <;> intro _))) <;> ((try simp -implicitDefEqProofs [hr4]); (try simp -implicitDefEqProofs (disch := first | assumption | (try simp only [lens]); omega -splitDisjunctions) [hr4]))))
  | succ j ih =>
   intro i m acc hi hm ha ho hN2
   have hil : i < qs.length := by omega
   have hgi := hg _ (List.getElem_mem hil) m hm
   rw [List.drop_eq_getElem_cons hil, growL] at ho hN2
   have ih := ih (i + 1)
   have row : ∀ q, premRow q = [.list (q.1.map frm), .list (q.2.map frm)] := fun _ => rfl
   have hlt : (acc.length : Int) < (acc.length : Int) + 1 := by omega
   cases hok : (g qs[i].1 qs[i].2 m).ok with
   | none => rw [hok] at ho; cases ho
   | some x =>
    rw [hok] at ho hN2
    obtain ⟨hx1, hx3⟩ := hgi.1 (by rw [hok]; rfl)
    have hx2 := hgi.2
    have ih := ih (g qs[i].1 qs[i].2 m).n (acc ++ [x]) (by omega) hx1 (by simp [ha]) ho hN2
    rw [hok, hx3] at hx2
    rw [rowO_s] at hx2
    unfold fndO fndT at hx2
    dsimp only [Option.isSome_some] at hx2
    generalize (g qs[i].1 qs[i].2 m).n = m' at *
    apply hQ
    clear hQ
    ((refine Sg.h ?_); try repeat' ((first | (with_reducible first | refine brA ?_ | refine brE fun _ => ?_ | (refine spl ⟨?_, ?_⟩ <;> intro _))) <;> ((try simp -implicitDefEqProofs [hil, row, hr4]); (try simp -implicitDefEqProofs (disch := first | assumption | (try simp only [lens]); omega -splitDisjunctions) [hil, row, hr4]))))
    refine CL.sub [3] (hc := by simpa using hx2) ?_
    ((refine Sg.h ?_); try repeat' ((first | (with_reducible first | refine brA ?_ | refine brE fun _ => ?_ | (refine spl ⟨?_, ?_⟩ <;> intro _))) <;> ((try simp -implicitDefEqProofs [hr4, hlt]); (try simp -implicitDefEqProofs (disch := first | assumption | (try simp only [lens]); omega -splitDisjunctions) [hr4, hlt]))))
    all_goals first | exact ih | (refine at2 ih ?_ ?_ <;> simp; done) | (exfalso; first | omega | (simp_all; done) | (simp_all; omega))
 all_goals first | exact main _ 0 n [] (Nat.zero_add _) hn rfl hk hN | (refine at2 main _ 0 n [] (Nat.zero_add _) hn rfl hk hN ?_ ?_ <;> simp; done) | (exfalso; first | omega | (simp_all; done) | (simp_all; omega))
theorem more_fail (g : List Fm → List Fm → Nat → GR) (rule : ByteArray) (f : Fm) (qs : List Prem) (l r : List Fm) (d : Int) (hd : 0 ≤ d) (hd2 : d ≤ 1000) (hql : qs.length ≤ 10) (hg : ∀ q ∈ qs, GrowOK g (d + 1) q) (n : Nat) (hn : n ≤ 20000) (hk : (growL g qs n []).ok = none) :
  CallOK Try.prog 108 [.str rule, .agg (frm f), .list (qs.map premRow), .ptr 0 0 0, .ptr 1 0 0, .ptr 2 0 0]
   [.rows 7 [[.str ⟨#[]⟩, .int .i64 0, .str ⟨#[]⟩, .nilsl, .list (l.map frm), .list (r.map frm), .nilsl]], .rows 1 [[.ptr 3 0 0]], .rows 1 [[.int .i64 d]], fndO 0 n none]
   (.tuple [.agg (rowO none), .bool false]) (.dead :: .rows 1 [[.ptr 3 0 0]] :: .rows 1 [[.int .i64 d]] :: fndO 4 (growL g qs n []).n (growL g qs n []).cnt :: fndT (growL g qs n []).cnt) := by
 have hpf := frm_eq f
 have hfo : ∀ n, fndO 0 n none = .rows 3 [[.int .i64 (n : Int), .nilsl, .bool false]] := fun _ => rfl
 have hr4 : List.range 4 = [0, 1, 2, 3] := rfl
 refine fi108.od [0] ?_
 rw [rowO_n]
 simp only [hfo]
 generalize hN : (growL g qs n []).n = N
 generalize hC : (growL g qs n []).cnt = V
 ((refine Sg.h ?_); try repeat' ((first | (with_reducible first | refine brA ?_ | refine brE fun _ => ?_ | (refine spl ⟨?_, ?_⟩ <;> intro _))) <;> ((try simp -implicitDefEqProofs [hpf, hr4]); (try simp -implicitDefEqProofs (disch := first | assumption | (try simp only [lens]); omega -splitDisjunctions) [hpf, hr4]))))
 refine W_of fun Q hQ => ?_
 have main : ∀ j i m (acc : List Pf), i + j = qs.length → m ≤ 20000 → acc.length = i → (growL g (qs.drop i) m acc).ok = none → (growL g (qs.drop i) m acc).n = N → (growL g (qs.drop i) m acc).cnt = V → Q [(3, .ptr 0 0 0), (4, .ptr 1 0 0), (5, .ptr 2 0 0), (9, .ptr 5 0 0), (19, .list (qs.map premRow)), (20, .int .i64 (qs.length : Int)), (21, .int .i64 (i : Int))] [.rows 7 [[.str rule, .int .i64 f.kind, .str f.name, .list (f.kids.map frm), .list (l.map frm), .list (r.map frm), .sl 4 0 acc.length]], .rows 1 [[.ptr 3 0 0]], .rows 1 [[.int .i64 d]], .rows 3 [[.int .i64 (m : Int), .nilsl, .bool false]], .rows 7 (acc.map prf), .rows 7 [[.str ⟨#[]⟩, .int .i64 0, .str ⟨#[]⟩, .nilsl, .nilsl, .nilsl, .nilsl]]] := by
  intro j
  induction j with
  | zero =>
   intro i m acc hi hm ha ho hN2 hC2
   rw [List.drop_of_length_le (by omega), growL] at ho
   cases ho
  | succ j ih =>
   intro i m acc hi hm ha ho hN2 hC2
   have hil : i < qs.length := by omega
   have hgi := hg _ (List.getElem_mem hil) m hm
   rw [List.drop_eq_getElem_cons hil, growL] at ho hN2 hC2
   have ih := ih (i + 1)
   have row : ∀ q, premRow q = [.list (q.1.map frm), .list (q.2.map frm)] := fun _ => rfl
   have hlt : (acc.length : Int) < (acc.length : Int) + 1 := by omega
   cases hok : (g qs[i].1 qs[i].2 m).ok with
   | none =>
    rw [hok] at hN2 hC2
    dsimp only at hN2 hC2
    have hx2 := hgi.2
    rw [hN2, hC2, hfo, hok] at hx2
    rw [rowO_n] at hx2
    dsimp only [Option.isSome_none] at hx2
    apply hQ
    clear hQ ih hgi
    cases V with
    | none =>
     unfold fndT fndO noPf at hx2
     unfold fndT fndO noPf
     ((refine Sg.h ?_); try repeat' ((first | (with_reducible first | refine brA ?_ | refine brE fun _ => ?_ | (refine spl ⟨?_, ?_⟩ <;> intro _))) <;> ((try simp -implicitDefEqProofs [hil, row, hr4]); (try simp -implicitDefEqProofs (disch := first | assumption | (try simp only [lens]); omega -splitDisjunctions) [hil, row, hr4]))))
     refine CL.sub [3] (hc := by simpa using hx2) ?_
     ((refine Sg.h ?_); try repeat' ((first | (with_reducible first | refine brA ?_ | refine brE fun _ => ?_ | (refine spl ⟨?_, ?_⟩ <;> intro _))) <;> ((try simp -implicitDefEqProofs [hr4, hlt]); (try simp -implicitDefEqProofs (disch := first | assumption | (try simp only [lens]); omega -splitDisjunctions) [hr4, hlt]))))
    | some V =>
     unfold fndT fndO noPf at hx2
     unfold fndT fndO noPf
     generalize cntC V = C at *
     generalize cntR V = R at *
     ((refine Sg.h ?_); try repeat' ((first | (with_reducible first | refine brA ?_ | refine brE fun _ => ?_ | (refine spl ⟨?_, ?_⟩ <;> intro _))) <;> ((try simp -implicitDefEqProofs [hil, row, hr4]); (try simp -implicitDefEqProofs (disch := first | assumption | (try simp only [lens]); omega -splitDisjunctions) [hil, row, hr4]))))
     refine CL.sub [3] (hc := by simpa using hx2) ?_
     ((refine Sg.h ?_); try repeat' ((first | (with_reducible first | refine brA ?_ | refine brE fun _ => ?_ | (refine spl ⟨?_, ?_⟩ <;> intro _))) <;> ((try simp -implicitDefEqProofs [hr4, hlt]); (try simp -implicitDefEqProofs (disch := first | assumption | (try simp only [lens]); omega -splitDisjunctions) [hr4, hlt]))))
   | some x =>
    rw [hok] at ho hN2 hC2
    obtain ⟨hx1, hx3⟩ := hgi.1 (by rw [hok]; rfl)
    have hx2 := hgi.2
    have ih := ih (g qs[i].1 qs[i].2 m).n (acc ++ [x]) (by omega) hx1 (by simp [ha]) ho hN2 hC2
    rw [hok, hx3] at hx2
    rw [rowO_s] at hx2
    unfold fndO fndT at hx2
    dsimp only [Option.isSome_some] at hx2
    generalize (g qs[i].1 qs[i].2 m).n = m' at *
    apply hQ
    clear hQ
    ((refine Sg.h ?_); try repeat' ((first | (with_reducible first | refine brA ?_ | refine brE fun _ => ?_ | (refine spl ⟨?_, ?_⟩ <;> intro _))) <;> ((try simp -implicitDefEqProofs [hil, row, hr4]); (try simp -implicitDefEqProofs (disch := first | assumption | (try simp only [lens]); omega -splitDisjunctions) [hil, row, hr4]))))
    refine CL.sub [3] (hc := by simpa using hx2) ?_
    ((refine Sg.h ?_); try repeat' ((first | (with_reducible first | refine brA ?_ | refine brE fun _ => ?_ | (refine spl ⟨?_, ?_⟩ <;> intro _))) <;> ((try simp -implicitDefEqProofs [hr4, hlt]); (try simp -implicitDefEqProofs (disch := first | assumption | (try simp only [lens]); omega -splitDisjunctions) [hr4, hlt]))))
    all_goals first | exact ih | (refine at2 ih ?_ ?_ <;> simp; done) | (exfalso; first | omega | (simp_all; done) | (simp_all; omega))
 all_goals first | exact main _ 0 n [] (Nat.zero_add _) hn rfl hk hN hC | (refine at2 main _ 0 n [] (Nat.zero_add _) hn rfl hk hN hC ?_ ?_ <;> simp; done) | (exfalso; first | omega | (simp_all; done) | (simp_all; omega))
theorem growL_cnt {g : List Fm → List Fm → Nat → GR} : ∀ {qs : List Prem} {n : Nat} {acc ks : List Pf}, (growL g qs n acc).ok = some ks → (growL g qs n acc).cnt = none
 | [], _, _, _, _ => rfl
 | q :: qs, n, acc, ks, h => by
  rw [growL] at h ⊢
  cases hok : (g q.1 q.2 n).ok with
  | none => rw [hok] at h; cases h
  | some x => rw [hok] at h; exact growL_cnt h
theorem more_all (g : List Fm → List Fm → Nat → GR) (rule : ByteArray) (f : Fm) (qs : List Prem) (l r : List Fm) (d : Int) (hd : 0 ≤ d) (hd2 : d ≤ 1000) (hql : qs.length ≤ 10) (hg : ∀ q ∈ qs, GrowOK g (d + 1) q) (n : Nat) (hn : n ≤ 20000) :
  CallOK Try.prog 108 [.str rule, .agg (frm f), .list (qs.map premRow), .ptr 0 0 0, .ptr 1 0 0, .ptr 2 0 0]
   [.rows 7 [[.str ⟨#[]⟩, .int .i64 0, .str ⟨#[]⟩, .nilsl, .list (l.map frm), .list (r.map frm), .nilsl]], .rows 1 [[.ptr 3 0 0]], .rows 1 [[.int .i64 d]], fndO 0 n none]
   (.tuple [.agg (rowO ((growL g qs n []).ok.map fun ks => .mk rule f l r ks)), .bool (growL g qs n []).ok.isSome]) (.dead :: .rows 1 [[.ptr 3 0 0]] :: .rows 1 [[.int .i64 d]] :: fndO 4 (growL g qs n []).n (growL g qs n []).cnt :: fndT (growL g qs n []).cnt) := by
 cases h : (growL g qs n []).ok with
 | none => exact more_fail g rule f qs l r d hd hd2 hql hg n hn h
 | some ks => rw [growL_cnt h]; exact more_classic g rule f qs l r d hd hd2 hql hg n hn ks h
end Go.Proofs.Ytnoklmapofogeaa
