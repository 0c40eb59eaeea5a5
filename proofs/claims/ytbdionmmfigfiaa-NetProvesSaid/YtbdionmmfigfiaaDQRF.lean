import Derived.Test.YtbdionmmfigfiaaDNtN
import Derived.Test.YtbdionmmfigfiaaDNtD
import Derived.Test.YtbdionmmfigfiaaDPvRec
set_option linter.unusedVariables false
set_option linter.unusedSimpArgs false
set_option maxRecDepth 100000
set_option maxHeartbeats 4000000
set_option linter.unusedSectionVars false
namespace Go.Proofs.Ytbdionmmfigfiaa
open Go Go.Pv
def atT : Lt → List Ln
 | .atom nm no => [.mk 1 nm no []]
 | .op _ a b => atT a ++ atT b
def atTs : List Lt → List Ln
 | [] => []
 | t :: r => atT t ++ atTs r
theorem atT_len (t : Lt) : ∀ n,(lnT n t).length = (atT t).length := by
 induction t with
 | atom => intro n; rfl
 | op p a b ha hb => intro n; rw [lnT,atT,List.length_append,List.length_append,ha,hb]
theorem atTs_len (l : List Lt) : ∀ n,(lnTs n l).length = (atTs l).length := by
 induction l with
 | nil => intro n; rfl
 | cons t r ih => intro n; rw [lnTs,atTs,List.length_append,List.length_append,atT_len,ih]
theorem ndL_lt (t : Lt) : (ndL (lnOf t)).length = szT t ∧ (ndL (lnOf t)).filter (fun x => decide (x.k = 1)) = atT t := by
 induction t with
 | atom nm no => rw [ndL_eq]; simp [lnOf,szT,atT]
 | op p a b ha hb =>
  have hk : ¬ (if p = true then (3 : Int) else 2) = 1 := by cases p <;> decide
  rw [ndL_eq,lnOf,szT,atT,← ha.2,← hb.2]
  simp [ndLs,ha.1,hb.1,hk]
  omega
theorem ndLs_lt (l : List Lt) : (ndLs (l.map lnOf)).length = szTs l ∧ (ndLs (l.map lnOf)).filter (fun x => decide (x.k = 1)) = atTs l := by
 induction l with
 | nil => simp [szTs,atTs]
 | cons t r ih => rw [List.map_cons,ndLs,List.length_append,List.filter_append,ih.1,ih.2,(ndL_lt t).1,(ndL_lt t).2,szTs,atTs]; exact ⟨rfl,rfl⟩
theorem lvs_lt (l : List Lt) (h : szTs l ≤ 200) : lvs (l.map lnOf) = atTs l := by
 unfold lvs
 rw [List.take_of_length_le (by rw [(ndLs_lt l).1]; exact h),(ndLs_lt l).2]
theorem lnFault_code {l : List Ln} (h : (lnFault l).1 = 0) : lnFault l = (0,0) := by
 have : ∀ (L : List Ln) (i : Nat),(lfL L i).1 = 0 → lfL L i = (0,0) := by
  intro L
  induction L with
  | nil => intro i _; rfl
  | cons x r ih =>
   intro i h
   rw [lfL] at h ⊢
   split at h
   ·cases h
   split at h
   ·exact absurd h ‹_›
   ·rename_i h1 h2
    rw [if_neg h1,if_neg h2]
    exact ih _ h
 unfold lnFault at h ⊢
 split at h
 ·cases h
 ·rename_i h1
  rw [if_neg h1]
  exact this _ _ h
theorem trees_of {l : List Ln} (h : (lnFault l).1 = 0) : ∃ ts : List Lt,l = ts.map lnOf ∧ (∀ t ∈ ts,LtOk t) ∧ 1 ≤ ts.length ∧ ts.length ≤ 20 ∧ szTs ts ≤ 200 := by
 have h := lnFault_code h
 unfold lnFault at h
 split at h
 ·cases h
 rename_i h1
 obtain ⟨h2,h3⟩ := lfL_ok _ 201 0 (by omega) (by omega) h
 have : ∀ l : List Ln,(∀ x ∈ ndLs l,lfN x = 0) → ∃ ts : List Lt,l = ts.map lnOf ∧ ∀ t ∈ ts,LtOk t := by
  intro l
  induction l with
  | nil => intro _; exact ⟨[],rfl,by simp⟩
  | cons x r ih =>
   intro h
   rw [ndLs] at h
   obtain ⟨t,rfl,ht⟩ := lt_of x fun y hy => h y (by simp [hy])
   obtain ⟨ts,rfl,hts⟩ := ih fun y hy => h y (by simp [hy])
   exact ⟨t :: ts,rfl,by simpa using ⟨ht,hts⟩⟩
 obtain ⟨ts,rfl,hts⟩ := this l h3
 rw [List.length_map] at h1
 rw [(ndLs_lt ts).1] at h2
 exact ⟨ts,rfl,hts,by omega,by omega,by omega⟩
theorem lfN_lt (t : Lt) (h : LtOk t) : ∀ x ∈ ndL (lnOf t),lfN x = 0 := by
 induction t with
 | atom nm no =>
  intro x hx
  rw [ndL_eq] at hx
  simp [lnOf] at hx
  subst hx
  unfold LtOk at h
  unfold lfN lfM kidsL
  simp [h]
 | op p a b ha hb =>
  intro x hx
  unfold LtOk at h
  rw [ndL_eq] at hx
  simp only [lnOf,ln_mk,ndLs,List.append_nil,List.mem_cons,List.mem_append] at hx
  rcases hx with rfl | hx | hx
  ·unfold lfN lfM kidsL
   cases p <;> simp
  ·exact ha h.1 x hx
  ·exact hb h.2 x hx
theorem fine_of {ts : List Lt} (h1 : ∀ t ∈ ts,LtOk t) (h2 : 1 ≤ ts.length) (h3 : ts.length ≤ 20) (h4 : szTs ts ≤ 200) : lnFault (ts.map lnOf) = (0,0) := by
 have : ∀ (L : List Ln) (i : Nat),i + L.length ≤ 200 → (∀ x ∈ L,lfN x = 0) → lfL L i = (0,0) := by
  intro L
  induction L with
  | nil => intro i _ _; rfl
  | cons x r ih =>
   intro i h g
   rw [List.length_cons] at h
   rw [lfL,if_neg (by omega),if_neg (by rw [g x (by simp)]; simp)]
   exact ih _ (by omega) fun y hy => g y (by simp [hy])
 have h5 : ∀ l : List Lt,(∀ t ∈ l,LtOk t) → ∀ x ∈ ndLs (l.map lnOf),lfN x = 0 := by
  intro l
  induction l with
  | nil => intro _ x hx; simp at hx
  | cons t r ih =>
   intro h x hx
   rw [List.map_cons,ndLs,List.mem_append] at hx
   rcases hx with hx | hx
   ·exact lfN_lt t (h t (by simp)) x hx
   ·exact ih (fun t ht => h t (by simp [ht])) x hx
 unfold lnFault
 rw [List.length_map,if_neg (by omega)]
 exact this _ _ (by rw [List.length_take,(ndLs_lt ts).1]; omega) fun x hx => h5 ts h1 x (List.mem_of_mem_take hx)
def flat2 (ax : List (Nat × Nat)) : List Nat := ax.flatMap fun a => [a.1,a.2]
def cst (ax : List (Nat × Nat)) : List (Int × Int) := ax.map fun a => ((a.1 : Int),(a.2 : Int))
def fits (x y : Ln) : Prop := x.nm = y.nm ∧ x.no ≠ y.no
def Lk (A : List Ln) (ax : List (Nat × Nat)) : Prop := (∀ a ∈ ax,a.1 < A.length ∧ a.2 < A.length ∧ fits A[a.1]! A[a.2]!) ∧ (flat2 ax).Nodup ∧ ∀ k,k < A.length → k ∈ flat2 ax
theorem set_get! {u : List Bool} {p k : Nat} (hp : p < u.length) : (u.set p true)[k]! = if k = p then true else u[k]! := by
 rw [List.getElem!_eq_getElem?_getD,List.getElem!_eq_getElem?_getD,List.getElem?_set]
 by_cases h : k = p
 ·subst h; simp [hp]
 ·rw [if_neg h,if_neg (fun e => h e.symm)]
theorem lkEnd_ok (u : List Bool) : lkEnd u = (0,0) ↔ ∀ k,k < u.length → u[k]! = true := by
 unfold lkEnd indexB
 cases hf : u.findIdx? (fun x => decide (false = x)) with
 | none =>
  rw [List.findIdx?_eq_none_iff] at hf
  refine ⟨fun _ k hk => ?_,fun _ => rfl⟩
  have := hf u[k] (List.getElem_mem ..)
  rw [getElem!_pos u k hk]
  simpa using this
 | some i =>
  rw [List.findIdx?_eq_some_iff_getElem] at hf
  obtain ⟨hi,h1,_⟩ := hf
  dsimp only
  rw [if_pos (by omega)]
  refine ⟨fun h => (by cases h),fun h => ?_⟩
  have := h i hi
  rw [getElem!_pos u i hi] at this
  rw [this] at h1
  simp at h1
theorem tick_ok {u : List Bool} {n : Int} {u' : List Bool} : tick u n = .ok u' ↔ ∃ p : Nat,n = (p : Int) ∧ p < u.length ∧ u[p]! = false ∧ u' = u.set p true := by
 unfold tick
 constructor
 ·intro h
  split at h
  ·cases h
  split at h
  ·cases h
  rename_i h1 h2
  cases h
  refine ⟨n.toNat,by omega,by omega,by simpa using h2,rfl⟩
 ·rintro ⟨p,rfl,h1,h2,rfl⟩
  rw [if_neg (by omega),Int.toNat_natCast,h2,if_neg (by decide)]
theorem tick_err {u : List Bool} {n : Int} {c : Int} (h : tick u n = .error c) : c ≠ 0 := by
 unfold tick at h
 split at h
 ·cases h; decide
 split at h
 ·cases h; decide
 ·cases h
theorem lkL_ok (A : List Ln) : ∀ (ax : List (Int × Int)) (i : Nat) (u : List Bool),u.length = A.length →
  (lkL A ax i u = (0,0) ↔ ∃ an,ax = cst an ∧ (∀ a ∈ an,a.1 < A.length ∧ a.2 < A.length ∧ fits A[a.1]! A[a.2]!) ∧ (flat2 an).Nodup ∧ (∀ k ∈ flat2 an,u[k]! = false) ∧ ∀ k,k < A.length → u[k]! = false → k ∈ flat2 an) := by
 intro ax
 induction ax with
 | nil =>
  intro i u hu
  rw [lkL,lkEnd_ok]
  constructor
  ·intro h
   exact ⟨[],rfl,by simp,by simp [flat2],by simp [flat2],fun k hk h2 => by rw [h k (by omega)] at h2; cases h2⟩
  ·rintro ⟨an,h1,_,_,_,h2⟩ k hk
   obtain rfl : an = [] := List.map_eq_nil_iff.1 h1.symm
   cases h3 : u[k]! with
   | true => rfl
   | false => exact absurd (h2 k (by omega) h3) (by simp [flat2])
 | cons a r ih =>
  intro i u hu
  rw [lkL]
  have hbad : ∀ c : Int,c ≠ 0 → ((c,(i : Int)) = (0,0) ↔ False) := fun c hc => ⟨fun h => hc (congrArg Prod.fst h),False.elim⟩
  have hcons : ∀ {an : List (Nat × Nat)},a :: r = cst an → ∃ p q an',an = (p,q) :: an' ∧ a = ((p : Int),(q : Int)) ∧ r = cst an' := by
   intro an h
   cases an with
   | nil => cases h
   | cons x y => obtain ⟨p,q⟩ := x; injection h with h1 h2; exact ⟨p,q,y,rfl,h1,h2⟩
  unfold lkStep
  cases h1 : tick u a.1 with
  | error c =>
   dsimp only
   rw [hbad c (tick_err h1)]
   refine ⟨False.elim,?_⟩
   rintro ⟨an,e,g1,g2,g3,g4⟩
   obtain ⟨p,q,an',rfl,rfl,rfl⟩ := hcons e
   have := tick_ok.2 ⟨p,rfl,by rw [hu]; exact (g1 (p,q) (by simp)).1,g3 p (by simp [flat2]),rfl⟩
   rw [this] at h1
   cases h1
  | ok u1 =>
   obtain ⟨p,hp,hpl,hpu,rfl⟩ := tick_ok.1 h1
   dsimp only
   cases h2 : tick (u.set p true) a.2 with
   | error c =>
    dsimp only
    rw [hbad c (tick_err h2)]
    refine ⟨False.elim,?_⟩
    rintro ⟨an,e,g1,g2,g3,g4⟩
    obtain ⟨p',q,an',rfl,rfl,rfl⟩ := hcons e
    obtain rfl : p' = p := by have hp : (p' : Int) = (p : Int) := hp; omega
    have hq : q ≠ p' := by
     intro e; subst e
     simp [flat2] at g2
    have := (tick_ok (u := u.set p' true) (n := (q : Int)) (u' := (u.set p' true).set q true)).2 ⟨q,rfl,by rw [List.length_set,hu]; exact (g1 (p',q) (by simp)).2.1,by rw [set_get! hpl,if_neg hq]; exact g3 q (by simp [flat2]),rfl⟩
    dsimp only at h2
    rw [this] at h2
    cases h2
   | ok u2 =>
    obtain ⟨q,hq,hql,hqu,rfl⟩ := tick_ok.1 h2
    rw [List.length_set] at hql
    have hqp : q ≠ p := by
     intro e
     rw [set_get! hpl,if_pos e] at hqu
     cases hqu
    rw [set_get! hpl,if_neg hqp] at hqu
    obtain ⟨a1,a2⟩ := a
    dsimp only at hp hq ⊢
    subst hp; subst hq
    rw [Int.toNat_natCast,Int.toNat_natCast]
    by_cases h3 : A[p]!.nm ≠ A[q]!.nm ∨ A[p]!.no = A[q]!.no
    ·rw [if_pos h3]
     dsimp only
     rw [hbad 5 (by decide)]
     refine ⟨False.elim,?_⟩
     rintro ⟨an,e,g1,g2,g3,g4⟩
     obtain ⟨p',q',an',rfl,e2,rfl⟩ := hcons e
     simp only [Prod.mk.injEq,Int.natCast_inj] at e2
     obtain ⟨rfl,rfl⟩ := e2
     have := (g1 (p,q) (by simp)).2.2
     rcases h3 with h3 | h3
     ·exact h3 this.1
     ·exact this.2 h3
    ·rw [if_neg h3]
     have hfit : fits A[p]! A[q]! := ⟨Decidable.not_not.1 fun g => h3 (.inl g),fun g => h3 (.inr g)⟩
     dsimp only
     rw [ih _ _ (by simp [hu])]
     have hget : ∀ k,((u.set p true).set q true)[k]! = if k = q then true else if k = p then true else u[k]! := fun k => by rw [set_get! (by simpa using hql),set_get! hpl]
     constructor
     ·rintro ⟨an,rfl,g1,g2,g3,g4⟩
      refine ⟨(p,q) :: an,rfl,?_,?_,?_,?_⟩
      ·intro b hb
       rcases List.mem_cons.1 hb with rfl | hb
       ·exact ⟨by rw [← hu]; exact hpl,by rw [← hu]; exact hql,hfit⟩
       ·exact g1 b hb
      ·have n1 : p ∉ flat2 an := fun h => by have := g3 p h; rw [hget,if_neg (fun e => hqp e.symm),if_pos rfl] at this; cases this
       have n2 : q ∉ flat2 an := fun h => by have := g3 q h; rw [hget,if_pos rfl] at this; cases this
       show (p :: q :: flat2 an).Nodup
       rw [List.nodup_cons,List.nodup_cons]
       exact ⟨fun h => (List.mem_cons.1 h).elim (fun e => hqp e.symm) n1,n2,g2⟩
      ·intro k hk
       have hk : k = p ∨ k = q ∨ k ∈ flat2 an := by simpa [flat2] using hk
       rcases hk with rfl | rfl | hk
       ·exact hpu
       ·exact hqu
       ·have := g3 k hk
        rw [hget] at this
        split at this
        ·cases this
        split at this
        ·cases this
        ·exact this
      ·intro k hk h
       show k ∈ p :: q :: flat2 an
       by_cases e1 : k = p
       ·simp [e1]
       by_cases e2 : k = q
       ·simp [e2]
       have := g4 k hk (by rw [hget,if_neg e2,if_neg e1]; exact h)
       simp [this]
     ·rintro ⟨an,e,g1,g2,g3,g4⟩
      obtain ⟨p',q',an',rfl,e2,rfl⟩ := hcons e
      simp only [Prod.mk.injEq,Int.natCast_inj] at e2
      obtain ⟨rfl,rfl⟩ := e2
      have g2 : (p :: q :: flat2 an').Nodup := g2
      rw [List.nodup_cons,List.nodup_cons] at g2
      refine ⟨an',rfl,fun b hb => g1 b (by simp [hb]),g2.2.2,?_,?_⟩
      ·intro k hk
       have n1 : k ≠ p := fun e => g2.1 (by simp [← e,hk])
       have n2 : k ≠ q := fun e => g2.2.1 (by simp [← e,hk])
       rw [hget,if_neg n2,if_neg n1]
       exact g3 k (by show k ∈ p :: q :: flat2 an'; simp [hk])
      ·intro k hk h
       rw [hget] at h
       split at h
       ·cases h
       split at h
       ·cases h
       ·have : k ∈ p :: q :: flat2 an' := g4 k hk h
        simp_all
theorem lkF_ok {ts : List Lt} (h0 : lnFault (ts.map lnOf) = (0,0)) (h4 : szTs ts ≤ 200) {ax : List (Int × Int)} : lkF (ts.map lnOf) ax = (0,0) ↔ ∃ an,ax = cst an ∧ an.length ≤ (atTs ts).length ∧ Lk (atTs ts) an := by
 unfold lkF
 rw [h0,lvs_lt ts h4,if_neg (by simp)]
 have hl := lkL_ok (atTs ts) ax 0 (List.replicate (atTs ts).length false) (by simp)
 have hrep : ∀ k,k < (atTs ts).length → (List.replicate (atTs ts).length false)[k]! = false := fun k hk => by rw [getElem!_pos _ k (by simpa using hk)]; simp
 split
 ·rename_i h
  refine ⟨fun h => (by cases h),?_⟩
  rintro ⟨an,rfl,h2,_⟩
  simp [cst] at h
  omega
 ·rename_i h
  rw [hl]
  constructor
  ·rintro ⟨an,rfl,g1,g2,g3,g4⟩
   exact ⟨an,rfl,by simp [cst] at h; omega,g1,g2,fun k hk => g4 k hk (hrep k hk)⟩
  ·rintro ⟨an,rfl,g0,g1,g2,g3⟩
   refine ⟨an,rfl,g1,g2,fun k hk => ?_,fun k hk _ => g3 k hk⟩
   obtain ⟨a,ha,hk⟩ := List.mem_flatMap.1 hk
   have := g1 a ha
   refine hrep k ?_
   simp at hk
   rcases hk with rfl | rfl <;> omega
theorem lkF_of {ts : List Lt} {an : List (Nat × Nat)} (h1 : ∀ t ∈ ts,LtOk t) (h2 : 1 ≤ ts.length) (h3 : ts.length ≤ 20) (h4 : szTs ts ≤ 200) (h5 : an.length ≤ (atTs ts).length) (h6 : Lk (atTs ts) an) : lkF (ts.map lnOf) (cst an) = (0,0) :=
 (lkF_ok (fine_of h1 h2 h3 h4) h4).2 ⟨an,rfl,h5,h6⟩
noncomputable def corB (ts : List Lt) (an : List (Nat × Nat)) : Bool := open Classical in decide (CorT ts an)
theorem corB_iff {ts : List Lt} {an : List (Nat × Nat)} : corB ts an = true ↔ CorT ts an := by
 unfold corB
 exact @decide_eq_true_iff _ (Classical.propDecidable _)
def x13 : XC := .seq (.reg [⟨some 4,.assign (.const (.bool false)),none⟩,⟨some 5,.alloc 29,none⟩]) (.seq (.seq (.reg [⟨some 7,.move (.tmp 0),none⟩,⟨some 8,.move (.tmp 1),none⟩,⟨some 9,.call ⟨.value (.func 35),#[.tmp 7,.tmp 8],#[22,25]⟩,none⟩,⟨some 6,.alloc 29,none⟩,⟨none,.store 29 (.tmp 6) (.tmp 9),none⟩]) (.seq (.reg [⟨some 10,.fieldAddr 29 (.tmp 6) 0,none⟩,⟨some 11,.load 3 (.tmp 10),none⟩,⟨some 12,.binOp .neq 3 (.tmp 11) (.const (.int .i64 0)) 3,none⟩]) (.cond (.tmp 12) (.seq (.drawn 3 [⟨some 13,.load 29 (.tmp 6),none⟩,⟨some 4,.assign (.const (.bool false)),none⟩,⟨none,.store 29 (.tmp 5) (.tmp 13),none⟩]) .ret) .skip))) (.seq (.reg [⟨some 14,.move (.tmp 0),none⟩,⟨some 15,.call ⟨.value (.func 36),#[.tmp 14],#[22]⟩,none⟩,⟨some 16,.move (.tmp 1),none⟩,⟨some 17,.call ⟨.value (.func 37),#[.tmp 15,.tmp 16],#[61,25]⟩,none⟩,⟨some 18,.build 29 #[],none⟩,⟨some 4,.assign (.tmp 17),none⟩,⟨none,.store 29 (.tmp 5) (.tmp 18),none⟩]) .ret))
@[simp] theorem x13_s {C e s K} : type_of% (@X_at C e s K _ _ x13.eq_1) := X_at x13.eq_1
def an13 : Ann := ⟨[],[],[]⟩
@[simp] theorem an13_a : an13.clsOf 3 = .draw ∧ an13.frzOf 3 = [] := ⟨rfl,rfl⟩
theorem fi13 : FI Try.prog 13 (cxA an13) x13 [.tmp 4,.cell 5 29] Try.f13 := fiA Try.func13 mixed
theorem graph_net (ts : List Lt) (an : List (Nat × Nat)) (h4 : szTs ts ≤ 200) (h6 : Lk (atTs ts) an) : CallOK Try.prog 37 [.iptr (grV ts),.list ((cst an).map relRow)] [] (.bool (corB ts an)) [] := by
 have hc := correct_net (kdTs ts) (rtTs 0 ts) (lnTs 0 ts) (ksTs 0 ts) (cst an) (an.map fun a => ((lnTs 0 ts)[a.1]!,(lnTs 0 ts)[a.2]!)) ((gTs 0 ts).map (·.2.2)) (by rw [kdTs_len]; omega) (by simp [cst])
  (by
   intro e he
   obtain ⟨a,ha,rfl⟩ := List.mem_map.1 he
   obtain ⟨g1,g2,_⟩ := h6.1 a ha
   rw [← atTs_len ts 0] at g1 g2
   rw [kdTs_len]
   dsimp only
   rw [getElem!_pos (lnTs 0 ts) a.1 g1,getElem!_pos (lnTs 0 ts) a.2 g2]
   have b1 := lnTs_in ts 0 _ (List.getElem_mem g1)
   have b2 := lnTs_in ts 0 _ (List.getElem_mem g2)
   exact ⟨by omega,by omega⟩)
  (by
   intro i hi
   have hi' : i < an.length := by simpa [cst] using hi
   obtain ⟨g1,g2,_⟩ := h6.1 an[i] (List.getElem_mem hi')
   rw [← atTs_len ts 0] at g1 g2
   refine ⟨an[i].1,an[i].2,by simp [cst],?_,?_⟩
   ·rw [List.getElem_map,List.getElem?_eq_getElem g1]; dsimp only; rw [getElem!_pos (lnTs 0 ts) an[i].1 g1]
   ·rw [List.getElem_map,List.getElem?_eq_getElem g2]; dsimp only; rw [getElem!_pos (lnTs 0 ts) an[i].2 g2])
  (by rw [List.length_map,← gTs_kd ts 0,List.length_map])
  (by
   intro n hn hk
   have hg : n < (gTs 0 ts).length := by rw [← gTs_kd ts 0,List.length_map] at hn; exact hn
   have hx := gTs_ok ts 0 _ (List.getElem_mem hg) (by
    have : (kdTs ts)[n] = ((gTs 0 ts).map (·.1))[n]'(by simpa using hg) := by congr 1; exact (gTs_kd ts 0).symm
    rw [List.getElem_map] at this
    rw [← this]; exact hk)
   have hkl := kdTs_len ts
   rw [← gTs_ks ts 0,List.getElem?_map,List.getElem?_eq_getElem hg,List.getElem_map]
   refine ⟨?_,by have := hx.2.1; omega,by have := hx.2.2; omega⟩
   rw [Option.map_some,hx.1])
 have hb : runU (parK (kdTs ts) ((gTs 0 ts).map (·.2.2)) 0) (edgU (an.map (fun a => ((lnTs 0 ts)[a.1]!,(lnTs 0 ts)[a.2]!)) ++ tenK (kdTs ts) ((gTs 0 ts).map (·.2.2)) 0) (List.range (kdTs ts).length)) = corB ts an := by
  have hin : ∀ s ∈ stTs 0 ts,InS 0 (szTs ts) s := fun s hs => by have := stTs_in ts 0 s hs; rwa [Nat.zero_add] at this
  have hp := stTs_perm ts 0
  rw [gTs_par,gTs_ten,kdTs_len,Bool.eq_iff_iff,runU_full]
  ·rw [corB_iff]
   unfold CorT axS
   have hq : ((an.map (fun a => ((lnTs 0 ts)[a.1]!,(lnTs 0 ts)[a.2]!)) ++ tenTs 0 ts).map edS ++ (parTs 0 ts).map paS).Perm ((an.map fun a => edS ((lnTs 0 ts)[a.1]!,(lnTs 0 ts)[a.2]!)) ++ stTs 0 ts) := by
    rw [List.map_append,List.append_assoc,List.map_map]
    exact List.Perm.append_left _ hp
   exact ⟨fun h => h.perm hq,fun h => h.perm hq.symm⟩
  ·intro e he
   rcases List.mem_append.1 he with he | he
   ·obtain ⟨a,ha,rfl⟩ := List.mem_map.1 he
    obtain ⟨g1,g2,_⟩ := h6.1 a ha
    rw [← atTs_len ts 0] at g1 g2
    dsimp only
    rw [getElem!_pos (lnTs 0 ts) a.1 g1,getElem!_pos (lnTs 0 ts) a.2 g2]
    have b1 := lnTs_in ts 0 _ (List.getElem_mem g1)
    have b2 := lnTs_in ts 0 _ (List.getElem_mem g2)
    exact ⟨by omega,by omega⟩
   ·have := hin (edS e) (hp.mem_iff.1 (List.mem_append_left _ (List.mem_map_of_mem he)))
    exact ⟨this.2.1,this.2.2.2.1⟩
  ·intro p hp2
   have := hin (paS p) (hp.mem_iff.1 (List.mem_append_right _ (List.mem_map_of_mem hp2)))
   exact ⟨this.2.1,this.2.2.2.1,this.2.2.2.2.2.2.2⟩
 rw [hb] at hc
 have e : (lfTs 0 ts).map intRow = (lnTs 0 ts).map numRow := by rw [lnTs_lf,List.map_map]; rfl
 unfold grV
 rw [e]
 exact hc
theorem Correct_ok (ts : List Lt) (an : List (Nat × Nat)) (h1 : ∀ t ∈ ts,LtOk t) (h2 : 1 ≤ ts.length) (h3 : ts.length ≤ 20) (h4 : szTs ts ≤ 200) (h5 : an.length ≤ (atTs ts).length) (h6 : Lk (atTs ts) an) :
  CallOK Try.prog 13 [.list ((ts.map lnOf).map lnr),.list ((cst an).map relRow)] [] (.tuple [.bool (corB ts an),.agg [.int .i64 0,.int .i64 0]]) [] := by
 have g1 := links_net (ts.map lnOf) (cst an)
 rw [lkF_of h1 h2 h3 h4 h5 h6] at g1
 have g2 := newGraph_net ts (by omega) (by omega)
 have g3 := graph_net ts an h4 h6
 generalize corB ts an = b at *
 generalize cst an = ax at *
 generalize ts.map lnOf = l at *
 unfold grV at *
 generalize kdTs ts = kd at *
 generalize ksTs 0 ts = ks at *
 generalize lfTs 0 ts = lf at *
 generalize rtTs 0 ts = rt at *
 refine fi13.op ?_
 (refine Sg.h ?_;try repeat' ((first | (with_reducible first|refine brA ?_|refine brE fun _=>?_|refine spl ⟨?_,?_⟩<;>intro _) | refine clo g1 ?_ | refine clo g2 ?_ | refine clo g3 ?_) <;> ((try simp -implicitDefEqProofs); (try simp -implicitDefEqProofs(disch:=first|assumption|(try simp only[lens]);omega -splitDisjunctions)))))
end Go.Proofs.Ytbdionmmfigfiaa
namespace Go.Proofs.Ytbdionmmfigfiaa
open Go Go.Pv
theorem take_snoc {α : Type} {l : List α} {i : Nat} (h : i < l.length) : l.take (i + 1) = l.take i ++ [l[i]] := by
 rw [List.take_add_one,List.getElem?_eq_getElem h]; rfl
theorem OkF.kid {N : ByteArray → Prop} {f g : Fm} (h : OkF N f) (hg : g ∈ f.kids) : OkF N g := by
 cases h with | mk a b c => exact c g hg
theorem pres_mem {x g : Fm} (hx : x ∈ pre g) : ∀ l : List Fm,g ∈ l → x ∈ pres l
 | a :: r,h => by
  rw [pres_cons,List.mem_append]
  cases h with
  | head => exact .inl hx
  | tail _ h => exact .inr (pres_mem hx r h)
theorem mem_pres {x : Fm} : ∀ l : List Fm,x ∈ pres l → ∃ g ∈ l,x ∈ pre g
 | [],h => by rw [pres_nil] at h; cases h
 | a :: r,h => by
  rw [pres_cons,List.mem_append] at h
  rcases h with h | h
  ·exact ⟨a,by simp,h⟩
  ·obtain ⟨g,h1,h2⟩ := mem_pres r h; exact ⟨g,by simp [h1],h2⟩
theorem pres_len {g : Fm} : ∀ l : List Fm,g ∈ l → (pre g).length ≤ (pres l).length
 | a :: r,h => by
  rw [pres_cons,List.length_append]
  cases h with
  | head => omega
  | tail _ h => have := pres_len r h; omega
theorem pre_sub {N : ByteArray → Prop} (f : Fm) (hf : OkF N f) : ∀ x ∈ pre f,OkF N x ∧ (pre x).length ≤ (pre f).length ∧ ∀ y ∈ pre x,y ∈ pre f := by
 induction f using Fm.ind with
 | h f ih =>
  intro x hx
  rw [pre_eq] at hx
  cases hx with
  | head => exact ⟨hf,Nat.le_refl _,fun y h => h⟩
  | tail _ hx =>
   obtain ⟨g,h1,h2⟩ := mem_pres _ hx
   obtain ⟨h3,h4,h5⟩ := ih g h1 (hf.kid h1) x h2
   refine ⟨h3,?_,fun y hy => ?_⟩
   ·have := pres_len _ h1
    rw [pre_eq f]; simp; omega
   ·rw [pre_eq f]; exact List.mem_cons_of_mem _ (pres_mem (h5 y hy) _ h1)
def Td (f : Fm) : Prop := ∀ x ∈ pre f,okN x
theorem Td.kid {f g : Fm} (h : Td f) (hg : g ∈ f.kids) : Td g := fun x hx => h x (by rw [pre_eq]; exact List.mem_cons_of_mem _ (pres_mem hx _ hg))
theorem Td.ok {f : Fm} (h : Td f) : OkF (fun n => isNameB n = true) f := okF_of_pre f h
theorem Td.pre {f x : Fm} (h : Td f) (hx : x ∈ pre f) : Td x := fun y hy => h y ((pre_sub f h.ok x hx).2.2 y hy)
section
variable {n : Nat} {t : Nat → Nat → Bool} {hold : Nat → ByteArray → Bool} {w : Nat} {nm : ByteArray} {l : List Fm} {a b : Fm}
end
end Go.Proofs.Ytbdionmmfigfiaa
namespace Go.Proofs.Ytbdionmmfigfiaa
open Go Go.Pv
def x17 : XC := .seq (.reg [⟨some 4,.alloc 29,none⟩]) (.seq (.reg [⟨some 5,.move (.tmp 0),none⟩,⟨some 6,.move (.tmp 1),none⟩,⟨some 7,.build 29 #[(0,.tmp 5),(1,.tmp 6)],none⟩,⟨none,.store 29 (.tmp 4) (.tmp 7),none⟩]) .ret)
@[simp] theorem x17_s {C e s K} : type_of% (@X_at C e s K _ _ x17.eq_1) := X_at x17.eq_1
def an17 : Ann := ⟨[],[],[]⟩
theorem fi17 : FI Try.prog 17 (cxA an17) x17 [.cell 4 29] Try.f17 := fiA Try.func17 mixed
theorem F_ref (a b : Int) : CallOK Try.prog 17 [.int .i64 a,.int .i64 b] [] (.agg [.int .i64 a,.int .i64 b]) [] := by
 refine fi17.op ?_
 (refine Sg.h ?_;try repeat' ((with_reducible first|refine brA ?_|refine brE fun _=>?_|refine spl ⟨?_,?_⟩<;>intro _)<;> (try simp -implicitDefEqProofs(disch:=first|assumption|(try simp only[lens]);omega -splitDisjunctions))))
def x34_T1 : XC := .seq (.reg [⟨some 20,.move (.tmp 0),none⟩,⟨some 21,.call ⟨.builtin .len,#[.tmp 20],#[9]⟩,none⟩,⟨some 22,.binOp .gtr 3 (.tmp 21) (.const (.int .i64 0)) 3,none⟩,⟨some 23,.move (.tmp 22),none⟩,⟨some 24,.move (.tmp 0),some (some 23,true)⟩,⟨some 25,.call ⟨.builtin .len,#[.tmp 24],#[9]⟩,some (some 23,true)⟩,⟨some 26,.binOp .lss 3 (.tmp 25) (.const (.int .i64 9)) 3,some (some 23,true)⟩,⟨some 27,.pick (.tmp 23) (.tmp 26) (.const (.bool false)),none⟩,⟨some 2,.assign (.tmp 27),none⟩]) .ret
def x34_L0 : XC := .seq (.seq (.reg [⟨some 4,.move (.tmp 3),none⟩,⟨some 5,.move (.tmp 0),none⟩,⟨some 6,.call ⟨.builtin .len,#[.tmp 5],#[9]⟩,none⟩,⟨some 7,.binOp .lss 3 (.tmp 4) (.tmp 6) 3,none⟩]) (.cond (.tmp 7) .skip (.exit 0))) (.seq (.block 1 (.seq (.reg [⟨some 10,.move (.tmp 0),none⟩,⟨some 11,.move (.tmp 3),none⟩,⟨some 12,.index 9 (.tmp 10) (.tmp 11),none⟩,⟨some 13,.binOp .lss 5 (.tmp 12) (.const (.int .u8 97)) 5,none⟩,⟨some 14,.move (.tmp 13),none⟩,⟨some 15,.move (.tmp 0),some (some 14,false)⟩,⟨some 16,.move (.tmp 3),some (some 14,false)⟩,⟨some 17,.index 9 (.tmp 15) (.tmp 16),some (some 14,false)⟩,⟨some 18,.binOp .gtr 5 (.tmp 17) (.const (.int .u8 122)) 5,some (some 14,false)⟩,⟨some 19,.pick (.tmp 14) (.const (.bool true)) (.tmp 18),none⟩]) (.cond (.tmp 19) (.seq (.reg [⟨some 2,.assign (.const (.bool false)),none⟩]) .ret) .skip))) (.reg [⟨some 8,.move (.tmp 3),none⟩,⟨some 9,.binOp .add 3 (.tmp 8) (.const (.int .i64 1)) 3,none⟩,⟨some 3,.assign (.tmp 9),none⟩]))
def x34 : XC := .seq (.reg [⟨some 2,.assign (.const (.bool false)),none⟩]) (.seq (.seq (.reg [⟨some 3,.assign (.const (.int .i64 0)),none⟩]) (.bloop 0 x34_L0)) (x34_T1))
@[simp] theorem x34_s {C e s K} : type_of% (@X_at C e s K _ _ x34_T1.eq_1) ∧ type_of% (@X_at C e s K _ _ x34_L0.eq_1) ∧ type_of% (@X_at C e s K _ _ x34.eq_1) := ⟨X_at x34_T1.eq_1,X_at x34_L0.eq_1,X_at x34.eq_1⟩
def an34 : Ann := ⟨[],[(0,[],[0,3],[0,2])],[]⟩
@[simp] theorem an34_a : an34.loopOf 0 = ([],[0,3],[0,2]) := rfl
theorem fi34 : FI Try.prog 34 (cxA an34) x34 [.tmp 2] Try.f34 := fiA Try.func34 mixed
theorem IsName_ref (t : ByteArray) : CallOK Try.prog 34 [.str t] [] (.bool (isNameB t)) [] := by
 refine fi34.op ?_
 (refine Sg.h ?_;try repeat' ((with_reducible first|refine brA ?_|refine brE fun _=>?_|refine spl ⟨?_,?_⟩<;>intro _)<;> (try simp -implicitDefEqProofs(disch:=first|assumption|(try simp only[lens]);omega -splitDisjunctions))))
 refine W_of fun Q hQ => ?_
 have main : ∀ n i,i + n = t.size → (∀ j (h : j < t.size),j < i → letterB t[j] = true) → Q [(0,.str t),(3,.int .i64 (i : Int))] [] := by
  intro n
  induction n with
  | zero =>
   intro i hi hl
   have hall : t.data.toList.all letterB = true := by
    rw [all_letter]; intro j hj; exact hl j hj (by omega)
   apply hQ
   (refine Sg.h ?_;try repeat' ((with_reducible first|refine brA ?_|refine brE fun _=>?_|refine spl ⟨?_,?_⟩<;>intro _)<;> (try simp -implicitDefEqProofs(disch:=first|assumption|(try simp only[lens]);omega -splitDisjunctions))))
   all_goals (rw [Bool.eq_iff_iff]; simp [isNameB,hall]; omega)
  | succ n ih =>
   intro i hi hl
   have hlt : i < t.size := by omega
   by_cases hb : letterB t[i] = true
   ·have hb' := hb
    simp only [letterB,decide_eq_true_eq] at hb'
    have ih := ih (i + 1) (by omega) (fun j hj hji => by
     by_cases e : j = i
     ·subst e; exact hb
     ·exact hl j hj (by omega))
    apply hQ
    (refine Sg.h ?_;try repeat' ((with_reducible first|refine brA ?_|refine brE fun _=>?_|refine spl ⟨?_,?_⟩<;>intro _)<;> (try simp -implicitDefEqProofs(disch:=first|assumption|(try simp only[lens]);omega -splitDisjunctions))))
    all_goals simpa using ih
   ·have hno : isNameB t = false := by
     have h2 : ¬ t.data.toList.all letterB = true := by
      rw [all_letter]; intro h3; exact hb (h3 i hlt)
     simp [isNameB,h2]
    simp only [letterB,decide_eq_true_eq] at hb
    apply hQ
    (refine Sg.h ?_;try repeat' ((with_reducible first|refine brA ?_|refine brE fun _=>?_|refine spl ⟨?_,?_⟩<;>intro _)<;> (try simp -implicitDefEqProofs(disch:=first|assumption|(try simp only[lens]);omega -splitDisjunctions))))
    all_goals first | (exfalso; have := hb (by omega); omega; done) | simp_all
 refine at2 (main _ 0 (Nat.zero_add _) (fun j h hj => by omega)) ?_ ?_ <;> simp
end Go.Proofs.Ytbdionmmfigfiaa
