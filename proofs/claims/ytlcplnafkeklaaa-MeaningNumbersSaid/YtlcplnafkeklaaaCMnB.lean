import Derived.Test.YtlcplnafkeklaaaCMnA
set_option linter.unusedVariables false
set_option linter.unusedSimpArgs false
set_option maxRecDepth 100000
set_option maxHeartbeats 4000000
namespace Go.Proofs.Ytlcplnafkeklaaa
open Go Go.Pv
theorem pow_le8 {n : Int} (h0 : 0 ≤ n) (h8 : n ≤ 8) : ∀ k : Nat,k ≤ 6 → 0 ≤ n ^ k ∧ n ^ k ≤ 262144:=by
 have h : ∀ k : Nat,0 ≤ n ^ k ∧ n ^ k ≤ 8 ^ k:=by
  intro k
  induction k with
  | zero=>simp
  | succ k ih=>
   rw [Int.pow_succ,Int.pow_succ]
   exact ⟨Int.mul_nonneg ih.1 h0,Int.mul_le_mul ih.2 h8 h0 (by have:=ih.1;omega)⟩
 intro k hk
 refine ⟨(h k).1,Int.le_trans (h k).2 ?_⟩
 match k,hk with
 | 0,_ | 1,_ | 2,_ | 3,_ | 4,_ | 5,_ | 6,_=>decide
def x26_T1 : XC:=.seq (.reg [⟨some 13,.move (.tmp 5),none⟩,⟨some 4,.assign (.tmp 13),none⟩]) .ret
def x26_L0 : XC:=.seq (.reg [⟨some 8,.binOp .lss 3 (.tmp 7) (.tmp 6) 3,none⟩]) (.seq (.cond (.tmp 8) .skip (.exit 0)) (.seq (.block 1 (.reg [⟨some 9,.move (.tmp 5),none⟩,⟨some 10,.move (.tmp 0),none⟩,⟨some 11,.binOp .mul 3 (.tmp 9) (.tmp 10) 3,none⟩,⟨some 5,.assign (.tmp 11),none⟩])) (.reg [⟨some 12,.binOp .add 3 (.tmp 7) (.const (.int .i64 1)) 3,none⟩,⟨some 7,.move (.tmp 12),none⟩])))
def x26 : XC:=.seq (.reg [⟨some 4,.assign (.const (.int .i64 0)),none⟩]) (.seq (.reg [⟨some 5,.assign (.const (.int .i64 1)),none⟩]) (.seq (.seq (.reg [⟨some 6,.move (.tmp 1),none⟩,⟨some 7,.move (.const (.int .i64 0)),none⟩]) (.bloop 0 x26_L0)) (x26_T1)))
@[simp] theorem x26_s {C e s K} : type_of% (@X_at C e s K _ _ x26_T1.eq_1) ∧ type_of% (@X_at C e s K _ _ x26_L0.eq_1) ∧ type_of% (@X_at C e s K _ _ x26.eq_1):=⟨X_at x26_T1.eq_1,X_at x26_L0.eq_1,X_at x26.eq_1⟩
def an26 : Ann:=⟨[],[(0,[],[0,5,6,7],[5])],[]⟩
@[simp] theorem an26_a : an26.loopOf 0 = ([],[0,5,6,7],[5]):=rfl
theorem fi26 : FI Try.prog 26 (cxA an26) x26 [.tmp 4] Try.f26:=fiA Try.func26 mixed
theorem power_meaning (n : Int) (k : Nat) (h0 : 0 ≤ n) (h8 : n ≤ 8) (hk : k ≤ 6) : CallOK Try.prog 26 [.int .i64 n,.int .i64 (k : Int)] [] (.int .i64 (n ^ k)) []:=by
 refine fi26.op ?_
 (refine Sg.h ?_;try repeat' ((with_reducible first|refine brA ?_|refine brE fun _=>?_|refine spl ⟨?_,?_⟩<;>intro _)<;>((try simp -implicitDefEqProofs);(try simp -implicitDefEqProofs(disch:=first|assumption|(try simp only[lens]);omega -splitDisjunctions)))))
 refine W_of fun Q hQ=>?_
 have main : ∀ r i,i + r = k → Q [(0,.int .i64 n),(5,.int .i64 (n ^ i)),(6,.int .i64 (k : Int)),(7,.int .i64 (i : Int))] []:=by
  intro r
  induction r with
  | zero=>
   intro i hi
   obtain rfl : i = k:=by omega
   generalize n ^ i = p at *
   apply hQ
   (refine Sg.h ?_;try repeat' ((with_reducible first|refine brA ?_|refine brE fun _=>?_|refine spl ⟨?_,?_⟩<;>intro _)<;>((try simp -implicitDefEqProofs);(try simp -implicitDefEqProofs(disch:=first|assumption|(try simp only[lens]);omega -splitDisjunctions)))))
  | succ r ih=>
   intro i hi
   have ih:=ih (i + 1) (by omega)
   have hp:=pow_le8 h0 h8 (i + 1) (by omega)
   rw [Int.pow_succ] at ih hp
   obtain ⟨q,hq⟩ : ∃ q,n ^ i * n = q:=⟨_,rfl⟩
   rw [hq] at ih hp
   have hik : (i : Int) < (k : Int):=by omega
   apply hQ
   clear hQ
   (refine Sg.h ?_;try repeat' ((with_reducible first|refine brA ?_|refine brE fun _=>?_|refine spl ⟨?_,?_⟩<;>intro _)<;>((try simp -implicitDefEqProofs [hik,hq]);(try simp -implicitDefEqProofs(disch:=first|assumption|(try simp only[lens]);omega -splitDisjunctions) [hik,hq]))))
   all_goals first|exact ih|(refine at2 ih ?_ ?_<;>simp;done)|(exfalso;first|omega|(simp_all;done)|(simp_all;omega))
 refine at2 (main k 0 (Nat.zero_add _)) ?_ ?_
 ·simp
 ·rfl
def indexQ {α : Type} (p : α → Bool) (l : List α) : Int:=match l.findIdx? p with
 | some i=>i
 | none=>-1
theorem indexQ_at {α : Type} {p : α → Bool} {l : List α} {i : Nat} (h : i < l.length) (hp : p l[i] = true) (hb : ∀ j (hj : j < i), p (l[j]'(by omega)) = false) : indexQ p l = i:=by
 unfold indexQ
 have : l.findIdx? p = some i:=by
  rw [List.findIdx?_eq_some_iff_getElem]
  exact ⟨h,hp,fun j hj=>by simp [hb j hj]⟩
 rw [this]
theorem indexQ_none {α : Type} {p : α → Bool} {l : List α} (hb : ∀ j (hj : j < l.length),p l[j] = false) : indexQ p l = -1:=by
 unfold indexQ
 have : l.findIdx? p = none:=by
  rw [List.findIdx?_eq_none_iff]
  intro x hx
  obtain ⟨j,hj,rfl⟩:=List.mem_iff_getElem.1 hx
  exact hb j hj
 rw [this]
theorem indexQ_any {α : Type} {p : α → Bool} {l : List α} : 0 ≤ indexQ p l ↔ l.any p = true:=by
 unfold indexQ
 cases h : l.findIdx? p with
 | none=>
  rw [List.findIdx?_eq_none_iff] at h
  refine ⟨fun h=>absurd h (by decide),fun g=>?_⟩
  obtain ⟨x,hx,hp⟩:=List.any_eq_true.1 g
  rw [h x hx] at hp;cases hp
 | some i=>
  rw [List.findIdx?_eq_some_iff_getElem] at h
  obtain ⟨hi,hp,_⟩:=h
  exact ⟨fun _=>List.any_eq_true.2 ⟨_,List.getElem_mem hi,hp⟩,fun _=>by dsimp only;omega⟩
def x45_L0 : XC:=.seq (.reg [⟨some 9,.binOp .lss 3 (.tmp 8) (.tmp 7) 3,none⟩]) (.seq (.cond (.tmp 9) .skip (.exit 0)) (.seq (.block 1 (.seq (.reg [⟨some 10,.move (.tmp 8),none⟩,⟨some 5,.assign (.tmp 10),none⟩]) (.seq (.reg [⟨some 11,.move (.tmp 1),none⟩,⟨some 12,.move (.tmp 0),none⟩,⟨some 13,.move (.tmp 5),none⟩,⟨some 14,.indexAddr 22 (.tmp 12) (.tmp 13),none⟩,⟨some 15,.load 52 (.tmp 14),none⟩,⟨some 16,.call ⟨.value (.tmp 11),#[.tmp 15],#[52]⟩,none⟩]) (.cond (.tmp 16) (.seq (.reg [⟨some 17,.move (.tmp 5),none⟩,⟨some 4,.assign (.tmp 17),none⟩]) .ret) .skip)))) (.reg [⟨some 18,.binOp .add 3 (.tmp 8) (.const (.int .i64 1)) 3,none⟩,⟨some 8,.move (.tmp 18),none⟩])))
def x45 : XC:=.seq (.reg [⟨some 4,.assign (.const (.int .i64 0)),none⟩]) (.seq (.seq (.reg [⟨some 6,.move (.tmp 0),none⟩,⟨some 7,.call ⟨.builtin .len,#[.tmp 6],#[22]⟩,none⟩,⟨some 8,.move (.const (.int .i64 0)),none⟩]) (.bloop 0 x45_L0)) (.seq (.reg [⟨some 4,.assign (.const (.int .i64 (-1))),none⟩]) .ret))
@[simp] theorem x45_s {C e s K} : type_of% (@X_at C e s K _ _ x45_L0.eq_1) ∧ type_of% (@X_at C e s K _ _ x45.eq_1):=⟨X_at x45_L0.eq_1,X_at x45.eq_1⟩
def an45 : Ann:=⟨[],[(0,[],[0,1,7,8],[4])],[]⟩
@[simp] theorem an45_a : an45.loopOf 0 = ([],[0,1,7,8],[4]):=rfl
theorem fi45 : FI Try.prog 45 (cxA an45) x45 [.tmp 4] Try.f45:=fiA Try.func45 mixed
theorem IndexFunc_fun (l : List Fn) (hl : l.length ≤ 1000000) (fid : Nat) [EnT Try.prog fid] (ys : List PV) [hy : FlatL ys] (p : Fn → Bool) (h : ∀ a ∈ l,CallOK Try.prog fid (.agg (fnRow a) :: ys) [] (.bool (p a)) []) :
  CallOK Try.prog 45 [.list (l.map fnRow),.fn (.func fid) [] ys] [] (.int .i64 (indexQ p l)) []:=by
 have hcl : ∀ a : Fn,∀ v ∈ .agg (fnRow a) :: ys,Closed v:=by
  intro a v hv
  rcases List.mem_cons.1 hv with rfl | hv
  ·exact closed_agg (by simp)
  ·exact hy.closed v hv
 refine fi45.op ?_
 (refine Sg.h ?_;try repeat' ((with_reducible first|refine brA ?_|refine brE fun _=>?_|refine spl ⟨?_,?_⟩<;>intro _)<;>((try simp -implicitDefEqProofs);(try simp -implicitDefEqProofs(disch:=first|assumption|(try simp only[lens]);omega -splitDisjunctions)))))
 refine W_of fun Q hQ=>?_
 have main : ∀ n i,i + n = l.length → (∀ j (hj : j < i) (hl : j < l.length),p l[j] = false) → Q [(0,.list (l.map fnRow)),(1,.fn (.func fid) [] ys),(7,.int .i64 (l.length : Int)),(8,.int .i64 (i : Int))] []:=by
  intro n
  induction n with
  | zero=>
   intro i hi hb
   have hv:=indexQ_none (p:=p) (l:=l) fun j hj=>hb j (by omega) hj
   generalize indexQ p l = v at *
   apply hQ
   subst hv
   (refine Sg.h ?_;try repeat' ((with_reducible first|refine brA ?_|refine brE fun _=>?_|refine spl ⟨?_,?_⟩<;>intro _)<;>((try simp -implicitDefEqProofs);(try simp -implicitDefEqProofs(disch:=first|assumption|(try simp only[lens]);omega -splitDisjunctions)))))
  | succ n ih=>
   intro i hi hb
   have hil : i < l.length:=by omega
   have hc:=h _ (List.getElem_mem hil)
   have ih:=ih (i + 1) (by omega)
   have hat:=fun hp=>indexQ_at (p:=p) hil hp fun j hj=>hb j hj (by omega)
   generalize indexQ p l = v at *
   cases hp : p l[i] with
   | true=>
    have hv:=hat hp
    rw [hp] at hc
    apply hQ
    clear hQ
    subst hv
    (refine Sg.h ?_;try repeat' ((with_reducible first|refine brA ?_|refine brE fun _=>?_|refine spl ⟨?_,?_⟩<;>intro _)<;>((try simp -implicitDefEqProofs [hil]);(try simp -implicitDefEqProofs(disch:=first|assumption|(try simp only[lens]);omega -splitDisjunctions) [hil]))))
    refine CL.clo hc ?_ (hcl _)
    (refine Sg.h ?_;try repeat' ((with_reducible first|refine brA ?_|refine brE fun _=>?_|refine spl ⟨?_,?_⟩<;>intro _)<;>((try simp -implicitDefEqProofs);(try simp -implicitDefEqProofs(disch:=first|assumption|(try simp only[lens]);omega -splitDisjunctions)))))
   | false=>
    have ih:=ih fun j hj hl=>by
     rcases Nat.lt_or_ge j i with hji | hji
     ·exact hb j hji hl
     ·have : j = i := by omega
      subst this;exact hp
    rw [hp] at hc
    apply hQ
    clear hQ
    (refine Sg.h ?_;try repeat' ((with_reducible first|refine brA ?_|refine brE fun _=>?_|refine spl ⟨?_,?_⟩<;>intro _)<;>((try simp -implicitDefEqProofs [hil]);(try simp -implicitDefEqProofs(disch:=first|assumption|(try simp only[lens]);omega -splitDisjunctions) [hil]))))
    refine CL.clo hc ?_ (hcl _)
    (refine Sg.h ?_;try repeat' ((with_reducible first|refine brA ?_|refine brE fun _=>?_|refine spl ⟨?_,?_⟩<;>intro _)<;>((try simp -implicitDefEqProofs);(try simp -implicitDefEqProofs(disch:=first|assumption|(try simp only[lens]);omega -splitDisjunctions)))))
    all_goals first|exact ih|(refine at2 ih ?_ ?_<;>simp;done)|(exfalso;first|omega|(simp_all;done)|(simp_all;omega))
 all_goals first|exact main _ 0 (Nat.zero_add _) (fun j hj=>by omega)|(refine at2 main _ 0 (Nat.zero_add _) (fun j hj=>by omega) ?_ ?_<;>simp;done)|(exfalso;first|omega|(simp_all;done)|(simp_all;omega))
def x24 : XC:=.seq (.reg [⟨some 4,.assign (.const (.bool false)),none⟩]) (.seq (.reg [⟨some 5,.move (.tmp 0),none⟩,⟨some 6,.move (.tmp 1),none⟩,⟨some 7,.call ⟨.value (.func 45),#[.tmp 5,.tmp 6],#[22,58]⟩,none⟩,⟨some 8,.binOp .geq 3 (.tmp 7) (.const (.int .i64 0)) 3,none⟩,⟨some 4,.assign (.tmp 8),none⟩]) .ret)
@[simp] theorem x24_s {C e s K} : type_of% (@X_at C e s K _ _ x24.eq_1):=X_at x24.eq_1
def an24 : Ann:=⟨[],[],[]⟩
theorem fi24 : FI Try.prog 24 (cxA an24) x24 [.tmp 4] Try.f24:=fiA Try.func24 mixed
theorem ContainsFunc_fun (l : List Fn) (hl : l.length ≤ 1000000) (fid : Nat) [EnT Try.prog fid] (ys : List PV) [hy : FlatL ys] (p : Fn → Bool) (h : ∀ a ∈ l,CallOK Try.prog fid (.agg (fnRow a) :: ys) [] (.bool (p a)) []) :
  CallOK Try.prog 24 [.list (l.map fnRow),.fn (.func fid) [] ys] [] (.bool (l.any p)) []:=by
 have hc:=IndexFunc_fun l hl fid ys p h
 have hany : (0 ≤ indexQ p l) ↔ l.any p = true:=indexQ_any
 refine fi24.op ?_
 (refine Sg.h ?_;try repeat' ((with_reducible first|refine brA ?_|refine brE fun _=>?_|refine spl ⟨?_,?_⟩<;>intro _)<;>((try simp -implicitDefEqProofs);(try simp -implicitDefEqProofs(disch:=first|assumption|(try simp only[lens]);omega -splitDisjunctions)))))
 refine CL.clo hc ?_ (by
  intro v hv
  rcases List.mem_cons.1 hv with rfl | hv
  ·exact closed_list _
  ·rw [List.mem_singleton.1 hv];exact closed_fn (by simp) hy.closed)
 generalize indexQ p l = q at *
 cases hb : l.any p with
 | true=>
  have h0 : 0 ≤ q:=hany.2 hb
  (refine Sg.h ?_;try repeat' ((with_reducible first|refine brA ?_|refine brE fun _=>?_|refine spl ⟨?_,?_⟩<;>intro _)<;>((try simp -implicitDefEqProofs [h0]);(try simp -implicitDefEqProofs(disch:=first|assumption|(try simp only[lens]);omega -splitDisjunctions) [h0]))))
 | false=>
  have h0 : ¬ 0 ≤ q:=fun g=>by rw [hany.1 g] at hb;cases hb
  (refine Sg.h ?_;try repeat' ((with_reducible first|refine brA ?_|refine brE fun _=>?_|refine spl ⟨?_,?_⟩<;>intro _)<;>((try simp -implicitDefEqProofs [h0]);(try simp -implicitDefEqProofs(disch:=first|assumption|(try simp only[lens]);omega -splitDisjunctions) [h0]))))
def x46_L0 : XC:=.seq (.reg [⟨some 9,.binOp .lss 3 (.tmp 8) (.tmp 7) 3,none⟩]) (.seq (.cond (.tmp 9) .skip (.exit 0)) (.seq (.block 1 (.seq (.reg [⟨some 10,.move (.tmp 8),none⟩,⟨some 5,.assign (.tmp 10),none⟩]) (.seq (.reg [⟨some 11,.move (.tmp 1),none⟩,⟨some 12,.move (.tmp 0),none⟩,⟨some 13,.move (.tmp 5),none⟩,⟨some 14,.indexAddr 23 (.tmp 12) (.tmp 13),none⟩,⟨some 15,.load 55 (.tmp 14),none⟩,⟨some 16,.call ⟨.value (.tmp 11),#[.tmp 15],#[55]⟩,none⟩]) (.cond (.tmp 16) (.seq (.reg [⟨some 17,.move (.tmp 5),none⟩,⟨some 4,.assign (.tmp 17),none⟩]) .ret) .skip)))) (.reg [⟨some 18,.binOp .add 3 (.tmp 8) (.const (.int .i64 1)) 3,none⟩,⟨some 8,.move (.tmp 18),none⟩])))
def x46 : XC:=.seq (.reg [⟨some 4,.assign (.const (.int .i64 0)),none⟩]) (.seq (.seq (.reg [⟨some 6,.move (.tmp 0),none⟩,⟨some 7,.call ⟨.builtin .len,#[.tmp 6],#[23]⟩,none⟩,⟨some 8,.move (.const (.int .i64 0)),none⟩]) (.bloop 0 x46_L0)) (.seq (.reg [⟨some 4,.assign (.const (.int .i64 (-1))),none⟩]) .ret))
@[simp] theorem x46_s {C e s K} : type_of% (@X_at C e s K _ _ x46_L0.eq_1) ∧ type_of% (@X_at C e s K _ _ x46.eq_1):=⟨X_at x46_L0.eq_1,X_at x46.eq_1⟩
def an46 : Ann:=⟨[],[(0,[],[0,1,7,8],[4])],[]⟩
@[simp] theorem an46_a : an46.loopOf 0 = ([],[0,1,7,8],[4]):=rfl
theorem fi46 : FI Try.prog 46 (cxA an46) x46 [.tmp 4] Try.f46:=fiA Try.func46 mixed
theorem IndexFunc_pred (l : List Pd) (hl : l.length ≤ 1000000) (fid : Nat) [EnT Try.prog fid] (ys : List PV) [hy : FlatL ys] (p : Pd → Bool) (h : ∀ a ∈ l,CallOK Try.prog fid (.agg (pdRow a) :: ys) [] (.bool (p a)) []) :
  CallOK Try.prog 46 [.list (l.map pdRow),.fn (.func fid) [] ys] [] (.int .i64 (indexQ p l)) []:=by
 have hcl : ∀ a : Pd,∀ v ∈ .agg (pdRow a) :: ys,Closed v:=by
  intro a v hv
  rcases List.mem_cons.1 hv with rfl | hv
  ·exact closed_agg (by simp)
  ·exact hy.closed v hv
 refine fi46.op ?_
 (refine Sg.h ?_;try repeat' ((with_reducible first|refine brA ?_|refine brE fun _=>?_|refine spl ⟨?_,?_⟩<;>intro _)<;>((try simp -implicitDefEqProofs);(try simp -implicitDefEqProofs(disch:=first|assumption|(try simp only[lens]);omega -splitDisjunctions)))))
 refine W_of fun Q hQ=>?_
 have main : ∀ n i,i + n = l.length → (∀ j (hj : j < i) (hl : j < l.length),p l[j] = false) → Q [(0,.list (l.map pdRow)),(1,.fn (.func fid) [] ys),(7,.int .i64 (l.length : Int)),(8,.int .i64 (i : Int))] []:=by
  intro n
  induction n with
  | zero=>
   intro i hi hb
   have hv:=indexQ_none (p:=p) (l:=l) fun j hj=>hb j (by omega) hj
   generalize indexQ p l = v at *
   apply hQ
   subst hv
   (refine Sg.h ?_;try repeat' ((with_reducible first|refine brA ?_|refine brE fun _=>?_|refine spl ⟨?_,?_⟩<;>intro _)<;>((try simp -implicitDefEqProofs);(try simp -implicitDefEqProofs(disch:=first|assumption|(try simp only[lens]);omega -splitDisjunctions)))))
  | succ n ih=>
   intro i hi hb
   have hil : i < l.length:=by omega
   have hc:=h _ (List.getElem_mem hil)
   have ih:=ih (i + 1) (by omega)
   have hat:=fun hp=>indexQ_at (p:=p) hil hp fun j hj=>hb j hj (by omega)
   generalize indexQ p l = v at *
   cases hp : p l[i] with
   | true=>
    have hv:=hat hp
    rw [hp] at hc
    apply hQ
    clear hQ
    subst hv
    (refine Sg.h ?_;try repeat' ((with_reducible first|refine brA ?_|refine brE fun _=>?_|refine spl ⟨?_,?_⟩<;>intro _)<;>((try simp -implicitDefEqProofs [hil]);(try simp -implicitDefEqProofs(disch:=first|assumption|(try simp only[lens]);omega -splitDisjunctions) [hil]))))
    refine CL.clo hc ?_ (hcl _)
    (refine Sg.h ?_;try repeat' ((with_reducible first|refine brA ?_|refine brE fun _=>?_|refine spl ⟨?_,?_⟩<;>intro _)<;>((try simp -implicitDefEqProofs);(try simp -implicitDefEqProofs(disch:=first|assumption|(try simp only[lens]);omega -splitDisjunctions)))))
   | false=>
    have ih:=ih fun j hj hl=>by
     rcases Nat.lt_or_ge j i with hji | hji
     ·exact hb j hji hl
     ·have : j = i := by omega
      subst this;exact hp
    rw [hp] at hc
    apply hQ
    clear hQ
    (refine Sg.h ?_;try repeat' ((with_reducible first|refine brA ?_|refine brE fun _=>?_|refine spl ⟨?_,?_⟩<;>intro _)<;>((try simp -implicitDefEqProofs [hil]);(try simp -implicitDefEqProofs(disch:=first|assumption|(try simp only[lens]);omega -splitDisjunctions) [hil]))))
    refine CL.clo hc ?_ (hcl _)
    (refine Sg.h ?_;try repeat' ((with_reducible first|refine brA ?_|refine brE fun _=>?_|refine spl ⟨?_,?_⟩<;>intro _)<;>((try simp -implicitDefEqProofs);(try simp -implicitDefEqProofs(disch:=first|assumption|(try simp only[lens]);omega -splitDisjunctions)))))
    all_goals first|exact ih|(refine at2 ih ?_ ?_<;>simp;done)|(exfalso;first|omega|(simp_all;done)|(simp_all;omega))
 all_goals first|exact main _ 0 (Nat.zero_add _) (fun j hj=>by omega)|(refine at2 main _ 0 (Nat.zero_add _) (fun j hj=>by omega) ?_ ?_<;>simp;done)|(exfalso;first|omega|(simp_all;done)|(simp_all;omega))
def x27 : XC:=.seq (.reg [⟨some 4,.assign (.const (.bool false)),none⟩]) (.seq (.reg [⟨some 5,.move (.tmp 0),none⟩,⟨some 6,.move (.tmp 1),none⟩,⟨some 7,.call ⟨.value (.func 46),#[.tmp 5,.tmp 6],#[23,61]⟩,none⟩,⟨some 8,.binOp .geq 3 (.tmp 7) (.const (.int .i64 0)) 3,none⟩,⟨some 4,.assign (.tmp 8),none⟩]) .ret)
@[simp] theorem x27_s {C e s K} : type_of% (@X_at C e s K _ _ x27.eq_1):=X_at x27.eq_1
def an27 : Ann:=⟨[],[],[]⟩
theorem fi27 : FI Try.prog 27 (cxA an27) x27 [.tmp 4] Try.f27:=fiA Try.func27 mixed
theorem ContainsFunc_pred (l : List Pd) (hl : l.length ≤ 1000000) (fid : Nat) [EnT Try.prog fid] (ys : List PV) [hy : FlatL ys] (p : Pd → Bool) (h : ∀ a ∈ l,CallOK Try.prog fid (.agg (pdRow a) :: ys) [] (.bool (p a)) []) :
  CallOK Try.prog 27 [.list (l.map pdRow),.fn (.func fid) [] ys] [] (.bool (l.any p)) []:=by
 have hc:=IndexFunc_pred l hl fid ys p h
 have hany : (0 ≤ indexQ p l) ↔ l.any p = true:=indexQ_any
 refine fi27.op ?_
 (refine Sg.h ?_;try repeat' ((with_reducible first|refine brA ?_|refine brE fun _=>?_|refine spl ⟨?_,?_⟩<;>intro _)<;>((try simp -implicitDefEqProofs);(try simp -implicitDefEqProofs(disch:=first|assumption|(try simp only[lens]);omega -splitDisjunctions)))))
 refine CL.clo hc ?_ (by
  intro v hv
  rcases List.mem_cons.1 hv with rfl | hv
  ·exact closed_list _
  ·rw [List.mem_singleton.1 hv];exact closed_fn (by simp) hy.closed)
 generalize indexQ p l = q at *
 cases hb : l.any p with
 | true=>
  have h0 : 0 ≤ q:=hany.2 hb
  (refine Sg.h ?_;try repeat' ((with_reducible first|refine brA ?_|refine brE fun _=>?_|refine spl ⟨?_,?_⟩<;>intro _)<;>((try simp -implicitDefEqProofs [h0]);(try simp -implicitDefEqProofs(disch:=first|assumption|(try simp only[lens]);omega -splitDisjunctions) [h0]))))
 | false=>
  have h0 : ¬ 0 ≤ q:=fun g=>by rw [hany.1 g] at hb;cases hb
  (refine Sg.h ?_;try repeat' ((with_reducible first|refine brA ?_|refine brE fun _=>?_|refine spl ⟨?_,?_⟩<;>intro _)<;>((try simp -implicitDefEqProofs [h0]);(try simp -implicitDefEqProofs(disch:=first|assumption|(try simp only[lens]);omega -splitDisjunctions) [h0]))))
def x25 : XC:=.seq (.reg [⟨some 2,.box 52 (.tmp 0),none⟩,⟨some 3,.assign (.const (.bool false)),none⟩]) (.seq (.reg [⟨some 4,.fieldAddr 52 (.tmp 2) 0,none⟩,⟨some 5,.load 9 (.tmp 4),none⟩,⟨some 6,.fieldAddr 52 (.tmp 1) 0,none⟩,⟨some 7,.load 9 (.tmp 6),none⟩,⟨some 8,.binOp .eql 9 (.tmp 5) (.tmp 7) 9,none⟩,⟨some 3,.assign (.tmp 8),none⟩]) .ret)
@[simp] theorem x25_s {C e s K} : type_of% (@X_at C e s K _ _ x25.eq_1):=X_at x25.eq_1
def an25 : Ann:=⟨[],[],[]⟩
theorem fi25 : FI Try.prog 25 (cxA an25) x25 [.tmp 3] Try.f25:=fiA Try.func25 mixed
theorem check1_meaning (f g : Fn) : CallOK Try.prog 25 [.agg (fnRow g),.iptr (fnRow f)] [] (.bool (decide (g.name = f.name))) []:=by
 refine fi25.op ?_
 by_cases h : g.name = f.name
 ·rw [decide_eq_true h];(refine Sg.h ?_;try repeat' ((with_reducible first|refine brA ?_|refine brE fun _=>?_|refine spl ⟨?_,?_⟩<;>intro _)<;>((try simp -implicitDefEqProofs [h]);(try simp -implicitDefEqProofs(disch:=first|assumption|(try simp only[lens]);omega -splitDisjunctions) [h]))))
 ·rw [decide_eq_false h];(refine Sg.h ?_;try repeat' ((with_reducible first|refine brA ?_|refine brE fun _=>?_|refine spl ⟨?_,?_⟩<;>intro _)<;>((try simp -implicitDefEqProofs [h]);(try simp -implicitDefEqProofs(disch:=first|assumption|(try simp only[lens]);omega -splitDisjunctions) [h]))))
def x28 : XC:=.seq (.reg [⟨some 2,.box 55 (.tmp 0),none⟩,⟨some 3,.assign (.const (.bool false)),none⟩]) (.seq (.reg [⟨some 4,.fieldAddr 55 (.tmp 2) 0,none⟩,⟨some 5,.load 9 (.tmp 4),none⟩,⟨some 6,.fieldAddr 55 (.tmp 1) 0,none⟩,⟨some 7,.load 9 (.tmp 6),none⟩,⟨some 8,.binOp .eql 9 (.tmp 5) (.tmp 7) 9,none⟩,⟨some 3,.assign (.tmp 8),none⟩]) .ret)
@[simp] theorem x28_s {C e s K} : type_of% (@X_at C e s K _ _ x28.eq_1):=X_at x28.eq_1
def an28 : Ann:=⟨[],[],[]⟩
theorem fi28 : FI Try.prog 28 (cxA an28) x28 [.tmp 3] Try.f28:=fiA Try.func28 mixed
theorem check2_meaning (f g : Pd) : CallOK Try.prog 28 [.agg (pdRow g),.iptr (pdRow f)] [] (.bool (decide (g.name = f.name))) []:=by
 refine fi28.op ?_
 by_cases h : g.name = f.name
 ·rw [decide_eq_true h];(refine Sg.h ?_;try repeat' ((with_reducible first|refine brA ?_|refine brE fun _=>?_|refine spl ⟨?_,?_⟩<;>intro _)<;>((try simp -implicitDefEqProofs [h]);(try simp -implicitDefEqProofs(disch:=first|assumption|(try simp only[lens]);omega -splitDisjunctions) [h]))))
 ·rw [decide_eq_false h];(refine Sg.h ?_;try repeat' ((with_reducible first|refine brA ?_|refine brE fun _=>?_|refine spl ⟨?_,?_⟩<;>intro _)<;>((try simp -implicitDefEqProofs [h]);(try simp -implicitDefEqProofs(disch:=first|assumption|(try simp only[lens]);omega -splitDisjunctions) [h]))))
def x22 : XC:=.seq (.reg [⟨some 4,.alloc 36,none⟩]) (.seq (.reg [⟨some 5,.move (.tmp 0),none⟩,⟨some 6,.move (.tmp 1),none⟩,⟨some 7,.build 36 #[(0,.tmp 5),(1,.tmp 6)],none⟩,⟨none,.store 36 (.tmp 4) (.tmp 7),none⟩]) .ret)
@[simp] theorem x22_s {C e s K} : type_of% (@X_at C e s K _ _ x22.eq_1):=X_at x22.eq_1
def an22 : Ann:=⟨[],[],[]⟩
theorem fi22 : FI Try.prog 22 (cxA an22) x22 [.cell 4 36] Try.f22:=fiA Try.func22 mixed
theorem fault_meaning (c a : Int) : CallOK Try.prog 22 [.int .i64 c,.int .i64 a] [] (.agg [.int .i64 c,.int .i64 a]) []:=by
 refine fi22.op ?_
 (refine Sg.h ?_;try repeat' ((with_reducible first|refine brA ?_|refine brE fun _=>?_|refine spl ⟨?_,?_⟩<;>intro _)<;>((try simp -implicitDefEqProofs);(try simp -implicitDefEqProofs(disch:=first|assumption|(try simp only[lens]);omega -splitDisjunctions)))))
end Go.Proofs.Ytlcplnafkeklaaa
