import Derived.Test.YtfhakdonenhnbaaCGaQ
set_option linter.unusedVariables false
set_option linter.unusedSimpArgs false
set_option maxRecDepth 100000
set_option maxHeartbeats 4000000
namespace Go.Proofs.Ytfhakdonenhnbaa
open Go Go.Pv
theorem pow_le8 {n : Int} (h0 : 0 ≤ n) (h8 : n ≤ 8) : ∀ k : Nat,k ≤ 6 → 0 ≤ n ^ k ∧ n ^ k ≤ 262144:=by
 have h : ∀ k : Nat,0 ≤ n ^ k ∧ n ^ k ≤ 8 ^ k:=by
  intro k
  induction k with
  | zero=>simp
  | succ k ih=>
   rw [Int.pow_succ,Int.pow_succ]
   exact ⟨Int.mul_nonneg ih.1 h0,Int.mul_le_mul ih.2 h8 h0 (by have:=ih.1;omega)⟩
 intro k hk
 refine ⟨(h k).1,Int.le_trans (h k).2 ?_⟩
 match k,hk with
 | 0,_ | 1,_ | 2,_ | 3,_ | 4,_ | 5,_ | 6,_=>decide
def x39_T1 : XC:=.seq (.reg [⟨some 13,.move (.tmp 5),none⟩,⟨some 4,.assign (.tmp 13),none⟩]) .ret
def x39_L0 : XC:=.seq (.reg [⟨some 8,.binOp .lss 3 (.tmp 7) (.tmp 6) 3,none⟩]) (.seq (.cond (.tmp 8) .skip (.exit 0)) (.seq (.block 1 (.reg [⟨some 9,.move (.tmp 5),none⟩,⟨some 10,.move (.tmp 0),none⟩,⟨some 11,.binOp .mul 3 (.tmp 9) (.tmp 10) 3,none⟩,⟨some 5,.assign (.tmp 11),none⟩])) (.reg [⟨some 12,.binOp .add 3 (.tmp 7) (.const (.int .i64 1)) 3,none⟩,⟨some 7,.move (.tmp 12),none⟩])))
def x39 : XC:=.seq (.reg [⟨some 4,.assign (.const (.int .i64 0)),none⟩]) (.seq (.reg [⟨some 5,.assign (.const (.int .i64 1)),none⟩]) (.seq (.seq (.reg [⟨some 6,.move (.tmp 1),none⟩,⟨some 7,.move (.const (.int .i64 0)),none⟩]) (.bloop 0 x39_L0)) (x39_T1)))
@[simp] theorem x39_s {C e s K} : type_of% (@X_at C e s K _ _ x39_T1.eq_1) ∧ type_of% (@X_at C e s K _ _ x39_L0.eq_1) ∧ type_of% (@X_at C e s K _ _ x39.eq_1):=⟨X_at x39_T1.eq_1,X_at x39_L0.eq_1,X_at x39.eq_1⟩
def an39 : Ann:=⟨[],[(0,[],[0,5,6,7],[5])],[]⟩
@[simp] theorem an39_a : an39.loopOf 0 = ([],[0,5,6,7],[5]):=rfl
theorem fi39 : FI Try.prog 39 (cxA an39) x39 [.tmp 4] Try.f39:=fiA Try.func39 mixed
theorem power_meaning (n : Int) (k : Nat) (h0 : 0 ≤ n) (h8 : n ≤ 8) (hk : k ≤ 6) : CallOK Try.prog 39 [.int .i64 n,.int .i64 (k : Int)] [] (.int .i64 (n ^ k)) []:=by
 refine fi39.op ?_
 (refine Sg.h ?_;try repeat' ((with_reducible first|refine brA ?_|refine brE fun _=>?_|refine spl ⟨?_,?_⟩<;>intro _)<;>((try simp -implicitDefEqProofs);(try simp -implicitDefEqProofs(disch:=first|assumption|(try simp only[lens]);omega -splitDisjunctions)))))
 refine W_of fun Q hQ=>?_
 have main : ∀ r i,i + r = k → Q [(0,.int .i64 n),(5,.int .i64 (n ^ i)),(6,.int .i64 (k : Int)),(7,.int .i64 (i : Int))] []:=by
  intro r
  induction r with
  | zero=>
   intro i hi
   obtain rfl : i = k:=by omega
   generalize n ^ i = p at *
   apply hQ
   (refine Sg.h ?_;try repeat' ((with_reducible first|refine brA ?_|refine brE fun _=>?_|refine spl ⟨?_,?_⟩<;>intro _)<;>((try simp -implicitDefEqProofs);(try simp -implicitDefEqProofs(disch:=first|assumption|(try simp only[lens]);omega -splitDisjunctions)))))
  | succ r ih=>
   intro i hi
   have ih:=ih (i + 1) (by omega)
   have hp:=pow_le8 h0 h8 (i + 1) (by omega)
   rw [Int.pow_succ] at ih hp
   obtain ⟨q,hq⟩ : ∃ q,n ^ i * n = q:=⟨_,rfl⟩
   rw [hq] at ih hp
   have hik : (i : Int) < (k : Int):=by omega
   apply hQ
   clear hQ
   (refine Sg.h ?_;try repeat' ((with_reducible first|refine brA ?_|refine brE fun _=>?_|refine spl ⟨?_,?_⟩<;>intro _)<;>((try simp -implicitDefEqProofs [hik,hq]);(try simp -implicitDefEqProofs(disch:=first|assumption|(try simp only[lens]);omega -splitDisjunctions) [hik,hq]))))
   all_goals first|exact ih|(refine at2 ih ?_ ?_<;>simp;done)|(exfalso;first|omega|(simp_all;done)|(simp_all;omega))
 refine at2 (main k 0 (Nat.zero_add _)) ?_ ?_
 ·simp
 ·rfl
def indexQ {α : Type} (p : α → Bool) (l : List α) : Int:=match l.findIdx? p with
 | some i=>i
 | none=>-1
theorem indexQ_at {α : Type} {p : α → Bool} {l : List α} {i : Nat} (h : i < l.length) (hp : p l[i] = true) (hb : ∀ j (hj : j < i), p (l[j]'(by omega)) = false) : indexQ p l = i:=by
 unfold indexQ
 have : l.findIdx? p = some i:=by
  rw [List.findIdx?_eq_some_iff_getElem]
  exact ⟨h,hp,fun j hj=>by simp [hb j hj]⟩
 rw [this]
theorem indexQ_none {α : Type} {p : α → Bool} {l : List α} (hb : ∀ j (hj : j < l.length),p l[j] = false) : indexQ p l = -1:=by
 unfold indexQ
 have : l.findIdx? p = none:=by
  rw [List.findIdx?_eq_none_iff]
  intro x hx
  obtain ⟨j,hj,rfl⟩:=List.mem_iff_getElem.1 hx
  exact hb j hj
 rw [this]
theorem indexQ_any {α : Type} {p : α → Bool} {l : List α} : 0 ≤ indexQ p l ↔ l.any p = true:=by
 unfold indexQ
 cases h : l.findIdx? p with
 | none=>
  rw [List.findIdx?_eq_none_iff] at h
  refine ⟨fun h=>absurd h (by decide),fun g=>?_⟩
  obtain ⟨x,hx,hp⟩:=List.any_eq_true.1 g
  rw [h x hx] at hp;cases hp
 | some i=>
  rw [List.findIdx?_eq_some_iff_getElem] at h
  obtain ⟨hi,hp,_⟩:=h
  exact ⟨fun _=>List.any_eq_true.2 ⟨_,List.getElem_mem hi,hp⟩,fun _=>by dsimp only;omega⟩
def x43_L0 : XC:=.seq (.reg [⟨some 9,.binOp .lss 3 (.tmp 8) (.tmp 7) 3,none⟩]) (.seq (.cond (.tmp 9) .skip (.exit 0)) (.seq (.block 1 (.seq (.reg [⟨some 10,.move (.tmp 8),none⟩,⟨some 5,.assign (.tmp 10),none⟩]) (.seq (.reg [⟨some 11,.move (.tmp 1),none⟩,⟨some 12,.move (.tmp 0),none⟩,⟨some 13,.move (.tmp 5),none⟩,⟨some 14,.indexAddr 22 (.tmp 12) (.tmp 13),none⟩,⟨some 15,.load 80 (.tmp 14),none⟩,⟨some 16,.call ⟨.value (.tmp 11),#[.tmp 15],#[80]⟩,none⟩]) (.cond (.tmp 16) (.seq (.reg [⟨some 17,.move (.tmp 5),none⟩,⟨some 4,.assign (.tmp 17),none⟩]) .ret) .skip)))) (.reg [⟨some 18,.binOp .add 3 (.tmp 8) (.const (.int .i64 1)) 3,none⟩,⟨some 8,.move (.tmp 18),none⟩])))
def x43 : XC:=.seq (.reg [⟨some 4,.assign (.const (.int .i64 0)),none⟩]) (.seq (.seq (.reg [⟨some 6,.move (.tmp 0),none⟩,⟨some 7,.call ⟨.builtin .len,#[.tmp 6],#[22]⟩,none⟩,⟨some 8,.move (.const (.int .i64 0)),none⟩]) (.bloop 0 x43_L0)) (.seq (.reg [⟨some 4,.assign (.const (.int .i64 (-1))),none⟩]) .ret))
@[simp] theorem x43_s {C e s K} : type_of% (@X_at C e s K _ _ x43_L0.eq_1) ∧ type_of% (@X_at C e s K _ _ x43.eq_1):=⟨X_at x43_L0.eq_1,X_at x43.eq_1⟩
def an43 : Ann:=⟨[],[(0,[],[0,1,7,8],[4])],[]⟩
@[simp] theorem an43_a : an43.loopOf 0 = ([],[0,1,7,8],[4]):=rfl
theorem fi43 : FI Try.prog 43 (cxA an43) x43 [.tmp 4] Try.f43:=fiA Try.func43 mixed
theorem IndexFunc_fun (l : List Fn) (hl : l.length ≤ 1000000) (fid : Nat) [EnT Try.prog fid] (ys : List PV) [hy : FlatL ys] (p : Fn → Bool) (h : ∀ a ∈ l,CallOK Try.prog fid (.agg (fnRow a) :: ys) [] (.bool (p a)) []) :
  CallOK Try.prog 43 [.list (l.map fnRow),.fn (.func fid) [] ys] [] (.int .i64 (indexQ p l)) []:=by
 have hcl : ∀ a : Fn,∀ v ∈ .agg (fnRow a) :: ys,Closed v:=by
  intro a v hv
  rcases List.mem_cons.1 hv with rfl | hv
  ·exact closed_agg (by simp)
  ·exact hy.closed v hv
 refine fi43.op ?_
 (refine Sg.h ?_;try repeat' ((with_reducible first|refine brA ?_|refine brE fun _=>?_|refine spl ⟨?_,?_⟩<;>intro _)<;>((try simp -implicitDefEqProofs);(try simp -implicitDefEqProofs(disch:=first|assumption|(try simp only[lens]);omega -splitDisjunctions)))))
 refine W_of fun Q hQ=>?_
 have main : ∀ n i,i + n = l.length → (∀ j (hj : j < i) (hl : j < l.length),p l[j] = false) → Q [(0,.list (l.map fnRow)),(1,.fn (.func fid) [] ys),(7,.int .i64 (l.length : Int)),(8,.int .i64 (i : Int))] []:=by
  intro n
  induction n with
  | zero=>
   intro i hi hb
   have hv:=indexQ_none (p:=p) (l:=l) fun j hj=>hb j (by omega) hj
   generalize indexQ p l = v at *
   apply hQ
   subst hv
   (refine Sg.h ?_;try repeat' ((with_reducible first|refine brA ?_|refine brE fun _=>?_|refine spl ⟨?_,?_⟩<;>intro _)<;>((try simp -implicitDefEqProofs);(try simp -implicitDefEqProofs(disch:=first|assumption|(try simp only[lens]);omega -splitDisjunctions)))))
  | succ n ih=>
   intro i hi hb
   have hil : i < l.length:=by omega
   have hc:=h _ (List.getElem_mem hil)
   have ih:=ih (i + 1) (by omega)
   have hat:=fun hp=>indexQ_at (p:=p) hil hp fun j hj=>hb j hj (by omega)
   generalize indexQ p l = v at *
   cases hp : p l[i] with
   | true=>
    have hv:=hat hp
    rw [hp] at hc
    apply hQ
    clear hQ
    subst hv
    (refine Sg.h ?_;try repeat' ((with_reducible first|refine brA ?_|refine brE fun _=>?_|refine spl ⟨?_,?_⟩<;>intro _)<;>((try simp -implicitDefEqProofs [hil]);(try simp -implicitDefEqProofs(disch:=first|assumption|(try simp only[lens]);omega -splitDisjunctions) [hil]))))
    refine CL.clo hc ?_ (hcl _)
    (refine Sg.h ?_;try repeat' ((with_reducible first|refine brA ?_|refine brE fun _=>?_|refine spl ⟨?_,?_⟩<;>intro _)<;>((try simp -implicitDefEqProofs);(try simp -implicitDefEqProofs(disch:=first|assumption|(try simp only[lens]);omega -splitDisjunctions)))))
   | false=>
    have ih:=ih fun j hj hl=>by
     rcases Nat.lt_or_ge j i with hji | hji
     ·exact hb j hji hl
     ·have : j = i := by omega
      subst this;exact hp
    rw [hp] at hc
    apply hQ
    clear hQ
    (refine Sg.h ?_;try repeat' ((with_reducible first|refine brA ?_|refine brE fun _=>?_|refine spl ⟨?_,?_⟩<;>intro _)<;>((try simp -implicitDefEqProofs [hil]);(try simp -implicitDefEqProofs(disch:=first|assumption|(try simp only[lens]);omega -splitDisjunctions) [hil]))))
    refine CL.clo hc ?_ (hcl _)
    (refine Sg.h ?_;try repeat' ((with_reducible first|refine brA ?_|refine brE fun _=>?_|refine spl ⟨?_,?_⟩<;>intro _)<;>((try simp -implicitDefEqProofs);(try simp -implicitDefEqProofs(disch:=first|assumption|(try simp only[lens]);omega -splitDisjunctions)))))
    all_goals first|exact ih|(refine at2 ih ?_ ?_<;>simp;done)|(exfalso;first|omega|(simp_all;done)|(simp_all;omega))
 all_goals first|exact main _ 0 (Nat.zero_add _) (fun j hj=>by omega)|(refine at2 main _ 0 (Nat.zero_add _) (fun j hj=>by omega) ?_ ?_<;>simp;done)|(exfalso;first|omega|(simp_all;done)|(simp_all;omega))
def x37 : XC:=.seq (.reg [⟨some 4,.assign (.const (.bool false)),none⟩]) (.seq (.reg [⟨some 5,.move (.tmp 0),none⟩,⟨some 6,.move (.tmp 1),none⟩,⟨some 7,.call ⟨.value (.func 43),#[.tmp 5,.tmp 6],#[22,83]⟩,none⟩,⟨some 8,.binOp .geq 3 (.tmp 7) (.const (.int .i64 0)) 3,none⟩,⟨some 4,.assign (.tmp 8),none⟩]) .ret)
@[simp] theorem x37_s {C e s K} : type_of% (@X_at C e s K _ _ x37.eq_1):=X_at x37.eq_1
def an37 : Ann:=⟨[],[],[]⟩
theorem fi37 : FI Try.prog 37 (cxA an37) x37 [.tmp 4] Try.f37:=fiA Try.func37 mixed
theorem ContainsFunc_fun (l : List Fn) (hl : l.length ≤ 1000000) (fid : Nat) [EnT Try.prog fid] (ys : List PV) [hy : FlatL ys] (p : Fn → Bool) (h : ∀ a ∈ l,CallOK Try.prog fid (.agg (fnRow a) :: ys) [] (.bool (p a)) []) :
  CallOK Try.prog 37 [.list (l.map fnRow),.fn (.func fid) [] ys] [] (.bool (l.any p)) []:=by
 have hc:=IndexFunc_fun l hl fid ys p h
 have hany : (0 ≤ indexQ p l) ↔ l.any p = true:=indexQ_any
 refine fi37.op ?_
 (refine Sg.h ?_;try repeat' ((with_reducible first|refine brA ?_|refine brE fun _=>?_|refine spl ⟨?_,?_⟩<;>intro _)<;>((try simp -implicitDefEqProofs);(try simp -implicitDefEqProofs(disch:=first|assumption|(try simp only[lens]);omega -splitDisjunctions)))))
 refine CL.clo hc ?_ (by
  intro v hv
  rcases List.mem_cons.1 hv with rfl | hv
  ·exact closed_list _
  ·rw [List.mem_singleton.1 hv];exact closed_fn (by simp) hy.closed)
 generalize indexQ p l = q at *
 cases hb : l.any p with
 | true=>
  have h0 : 0 ≤ q:=hany.2 hb
  (refine Sg.h ?_;try repeat' ((with_reducible first|refine brA ?_|refine brE fun _=>?_|refine spl ⟨?_,?_⟩<;>intro _)<;>((try simp -implicitDefEqProofs [h0]);(try simp -implicitDefEqProofs(disch:=first|assumption|(try simp only[lens]);omega -splitDisjunctions) [h0]))))
 | false=>
  have h0 : ¬ 0 ≤ q:=fun g=>by rw [hany.1 g] at hb;cases hb
  (refine Sg.h ?_;try repeat' ((with_reducible first|refine brA ?_|refine brE fun _=>?_|refine spl ⟨?_,?_⟩<;>intro _)<;>((try simp -implicitDefEqProofs [h0]);(try simp -implicitDefEqProofs(disch:=first|assumption|(try simp only[lens]);omega -splitDisjunctions) [h0]))))
def x44_L0 : XC:=.seq (.reg [⟨some 9,.binOp .lss 3 (.tmp 8) (.tmp 7) 3,none⟩]) (.seq (.cond (.tmp 9) .skip (.exit 0)) (.seq (.block 1 (.seq (.reg [⟨some 10,.move (.tmp 8),none⟩,⟨some 5,.assign (.tmp 10),none⟩]) (.seq (.reg [⟨some 11,.move (.tmp 1),none⟩,⟨some 12,.move (.tmp 0),none⟩,⟨some 13,.move (.tmp 5),none⟩,⟨some 14,.indexAddr 23 (.tmp 12) (.tmp 13),none⟩,⟨some 15,.load 64 (.tmp 14),none⟩,⟨some 16,.call ⟨.value (.tmp 11),#[.tmp 15],#[64]⟩,none⟩]) (.cond (.tmp 16) (.seq (.reg [⟨some 17,.move (.tmp 5),none⟩,⟨some 4,.assign (.tmp 17),none⟩]) .ret) .skip)))) (.reg [⟨some 18,.binOp .add 3 (.tmp 8) (.const (.int .i64 1)) 3,none⟩,⟨some 8,.move (.tmp 18),none⟩])))
def x44 : XC:=.seq (.reg [⟨some 4,.assign (.const (.int .i64 0)),none⟩]) (.seq (.seq (.reg [⟨some 6,.move (.tmp 0),none⟩,⟨some 7,.call ⟨.builtin .len,#[.tmp 6],#[23]⟩,none⟩,⟨some 8,.move (.const (.int .i64 0)),none⟩]) (.bloop 0 x44_L0)) (.seq (.reg [⟨some 4,.assign (.const (.int .i64 (-1))),none⟩]) .ret))
@[simp] theorem x44_s {C e s K} : type_of% (@X_at C e s K _ _ x44_L0.eq_1) ∧ type_of% (@X_at C e s K _ _ x44.eq_1):=⟨X_at x44_L0.eq_1,X_at x44.eq_1⟩
def an44 : Ann:=⟨[],[(0,[],[0,1,7,8],[4])],[]⟩
@[simp] theorem an44_a : an44.loopOf 0 = ([],[0,1,7,8],[4]):=rfl
theorem fi44 : FI Try.prog 44 (cxA an44) x44 [.tmp 4] Try.f44:=fiA Try.func44 mixed
theorem IndexFunc_pred (l : List Pd) (hl : l.length ≤ 1000000) (fid : Nat) [EnT Try.prog fid] (ys : List PV) [hy : FlatL ys] (p : Pd → Bool) (h : ∀ a ∈ l,CallOK Try.prog fid (.agg (pdRow a) :: ys) [] (.bool (p a)) []) :
  CallOK Try.prog 44 [.list (l.map pdRow),.fn (.func fid) [] ys] [] (.int .i64 (indexQ p l)) []:=by
 have hcl : ∀ a : Pd,∀ v ∈ .agg (pdRow a) :: ys,Closed v:=by
  intro a v hv
  rcases List.mem_cons.1 hv with rfl | hv
  ·exact closed_agg (by simp)
  ·exact hy.closed v hv
 refine fi44.op ?_
 (refine Sg.h ?_;try repeat' ((with_reducible first|refine brA ?_|refine brE fun _=>?_|refine spl ⟨?_,?_⟩<;>intro _)<;>((try simp -implicitDefEqProofs);(try simp -implicitDefEqProofs(disch:=first|assumption|(try simp only[lens]);omega -splitDisjunctions)))))
 refine W_of fun Q hQ=>?_
 have main : ∀ n i,i + n = l.length → (∀ j (hj : j < i) (hl : j < l.length),p l[j] = false) → Q [(0,.list (l.map pdRow)),(1,.fn (.func fid) [] ys),(7,.int .i64 (l.length : Int)),(8,.int .i64 (i : Int))] []:=by
  intro n
  induction n with
  | zero=>
   intro i hi hb
   have hv:=indexQ_none (p:=p) (l:=l) fun j hj=>hb j (by omega) hj
   generalize indexQ p l = v at *
   apply hQ
   subst hv
   (refine Sg.h ?_;try repeat' ((with_reducible first|refine brA ?_|refine brE fun _=>?_|refine spl ⟨?_,?_⟩<;>intro _)<;>((try simp -implicitDefEqProofs);(try simp -implicitDefEqProofs(disch:=first|assumption|(try simp only[lens]);omega -splitDisjunctions)))))
  | succ n ih=>
   intro i hi hb
   have hil : i < l.length:=by omega
   have hc:=h _ (List.getElem_mem hil)
   have ih:=ih (i + 1) (by omega)
   have hat:=fun hp=>indexQ_at (p:=p) hil hp fun j hj=>hb j hj (by omega)
   generalize indexQ p l = v at *
   cases hp : p l[i] with
   | true=>
    have hv:=hat hp
    rw [hp] at hc
    apply hQ
    clear hQ
    subst hv
    (refine Sg.h ?_;try repeat' ((with_reducible first|refine brA ?_|refine brE fun _=>?_|refine spl ⟨?_,?_⟩<;>intro _)<;>((try simp -implicitDefEqProofs [hil]);(try simp -implicitDefEqProofs(disch:=first|assumption|(try simp only[lens]);omega -splitDisjunctions) [hil]))))
    refine CL.clo hc ?_ (hcl _)
    (refine Sg.h ?_;try repeat' ((with_reducible first|refine brA ?_|refine brE fun _=>?_|refine spl ⟨?_,?_⟩<;>intro _)<;>((try simp -implicitDefEqProofs);(try simp -implicitDefEqProofs(disch:=first|assumption|(try simp only[lens]);omega -splitDisjunctions)))))
   | false=>
    have ih:=ih fun j hj hl=>by
     rcases Nat.lt_or_ge j i with hji | hji
     ·exact hb j hji hl
     ·have : j = i := by omega
      subst this;exact hp
    rw [hp] at hc
    apply hQ
    clear hQ
    (refine Sg.h ?_;try repeat' ((with_reducible first|refine brA ?_|refine brE fun _=>?_|refine spl ⟨?_,?_⟩<;>intro _)<;>((try simp -implicitDefEqProofs [hil]);(try simp -implicitDefEqProofs(disch:=first|assumption|(try simp only[lens]);omega -splitDisjunctions) [hil]))))
    refine CL.clo hc ?_ (hcl _)
    (refine Sg.h ?_;try repeat' ((with_reducible first|refine brA ?_|refine brE fun _=>?_|refine spl ⟨?_,?_⟩<;>intro _)<;>((try simp -implicitDefEqProofs);(try simp -implicitDefEqProofs(disch:=first|assumption|(try simp only[lens]);omega -splitDisjunctions)))))
    all_goals first|exact ih|(refine at2 ih ?_ ?_<;>simp;done)|(exfalso;first|omega|(simp_all;done)|(simp_all;omega))
 all_goals first|exact main _ 0 (Nat.zero_add _) (fun j hj=>by omega)|(refine at2 main _ 0 (Nat.zero_add _) (fun j hj=>by omega) ?_ ?_<;>simp;done)|(exfalso;first|omega|(simp_all;done)|(simp_all;omega))
def x40 : XC:=.seq (.reg [⟨some 4,.assign (.const (.bool false)),none⟩]) (.seq (.reg [⟨some 5,.move (.tmp 0),none⟩,⟨some 6,.move (.tmp 1),none⟩,⟨some 7,.call ⟨.value (.func 44),#[.tmp 5,.tmp 6],#[23,85]⟩,none⟩,⟨some 8,.binOp .geq 3 (.tmp 7) (.const (.int .i64 0)) 3,none⟩,⟨some 4,.assign (.tmp 8),none⟩]) .ret)
@[simp] theorem x40_s {C e s K} : type_of% (@X_at C e s K _ _ x40.eq_1):=X_at x40.eq_1
def an40 : Ann:=⟨[],[],[]⟩
theorem fi40 : FI Try.prog 40 (cxA an40) x40 [.tmp 4] Try.f40:=fiA Try.func40 mixed
theorem ContainsFunc_pred (l : List Pd) (hl : l.length ≤ 1000000) (fid : Nat) [EnT Try.prog fid] (ys : List PV) [hy : FlatL ys] (p : Pd → Bool) (h : ∀ a ∈ l,CallOK Try.prog fid (.agg (pdRow a) :: ys) [] (.bool (p a)) []) :
  CallOK Try.prog 40 [.list (l.map pdRow),.fn (.func fid) [] ys] [] (.bool (l.any p)) []:=by
 have hc:=IndexFunc_pred l hl fid ys p h
 have hany : (0 ≤ indexQ p l) ↔ l.any p = true:=indexQ_any
 refine fi40.op ?_
 (refine Sg.h ?_;try repeat' ((with_reducible first|refine brA ?_|refine brE fun _=>?_|refine spl ⟨?_,?_⟩<;>intro _)<;>((try simp -implicitDefEqProofs);(try simp -implicitDefEqProofs(disch:=first|assumption|(try simp only[lens]);omega -splitDisjunctions)))))
 refine CL.clo hc ?_ (by
  intro v hv
  rcases List.mem_cons.1 hv with rfl | hv
  ·exact closed_list _
  ·rw [List.mem_singleton.1 hv];exact closed_fn (by simp) hy.closed)
 generalize indexQ p l = q at *
 cases hb : l.any p with
 | true=>
  have h0 : 0 ≤ q:=hany.2 hb
  (refine Sg.h ?_;try repeat' ((with_reducible first|refine brA ?_|refine brE fun _=>?_|refine spl ⟨?_,?_⟩<;>intro _)<;>((try simp -implicitDefEqProofs [h0]);(try simp -implicitDefEqProofs(disch:=first|assumption|(try simp only[lens]);omega -splitDisjunctions) [h0]))))
 | false=>
  have h0 : ¬ 0 ≤ q:=fun g=>by rw [hany.1 g] at hb;cases hb
  (refine Sg.h ?_;try repeat' ((with_reducible first|refine brA ?_|refine brE fun _=>?_|refine spl ⟨?_,?_⟩<;>intro _)<;>((try simp -implicitDefEqProofs [h0]);(try simp -implicitDefEqProofs(disch:=first|assumption|(try simp only[lens]);omega -splitDisjunctions) [h0]))))
def x38 : XC:=.seq (.reg [⟨some 2,.box 80 (.tmp 0),none⟩,⟨some 3,.assign (.const (.bool false)),none⟩]) (.seq (.reg [⟨some 4,.fieldAddr 80 (.tmp 2) 0,none⟩,⟨some 5,.load 9 (.tmp 4),none⟩,⟨some 6,.fieldAddr 80 (.tmp 1) 0,none⟩,⟨some 7,.load 9 (.tmp 6),none⟩,⟨some 8,.binOp .eql 9 (.tmp 5) (.tmp 7) 9,none⟩,⟨some 3,.assign (.tmp 8),none⟩]) .ret)
@[simp] theorem x38_s {C e s K} : type_of% (@X_at C e s K _ _ x38.eq_1):=X_at x38.eq_1
def an38 : Ann:=⟨[],[],[]⟩
theorem fi38 : FI Try.prog 38 (cxA an38) x38 [.tmp 3] Try.f38:=fiA Try.func38 mixed
theorem check1_meaning (f g : Fn) : CallOK Try.prog 38 [.agg (fnRow g),.iptr (fnRow f)] [] (.bool (decide (g.name = f.name))) []:=by
 refine fi38.op ?_
 by_cases h : g.name = f.name
 ·rw [decide_eq_true h];(refine Sg.h ?_;try repeat' ((with_reducible first|refine brA ?_|refine brE fun _=>?_|refine spl ⟨?_,?_⟩<;>intro _)<;>((try simp -implicitDefEqProofs [h]);(try simp -implicitDefEqProofs(disch:=first|assumption|(try simp only[lens]);omega -splitDisjunctions) [h]))))
 ·rw [decide_eq_false h];(refine Sg.h ?_;try repeat' ((with_reducible first|refine brA ?_|refine brE fun _=>?_|refine spl ⟨?_,?_⟩<;>intro _)<;>((try simp -implicitDefEqProofs [h]);(try simp -implicitDefEqProofs(disch:=first|assumption|(try simp only[lens]);omega -splitDisjunctions) [h]))))
def x41 : XC:=.seq (.reg [⟨some 2,.box 64 (.tmp 0),none⟩,⟨some 3,.assign (.const (.bool false)),none⟩]) (.seq (.reg [⟨some 4,.fieldAddr 64 (.tmp 2) 0,none⟩,⟨some 5,.load 9 (.tmp 4),none⟩,⟨some 6,.fieldAddr 64 (.tmp 1) 0,none⟩,⟨some 7,.load 9 (.tmp 6),none⟩,⟨some 8,.binOp .eql 9 (.tmp 5) (.tmp 7) 9,none⟩,⟨some 3,.assign (.tmp 8),none⟩]) .ret)
@[simp] theorem x41_s {C e s K} : type_of% (@X_at C e s K _ _ x41.eq_1):=X_at x41.eq_1
def an41 : Ann:=⟨[],[],[]⟩
theorem fi41 : FI Try.prog 41 (cxA an41) x41 [.tmp 3] Try.f41:=fiA Try.func41 mixed
theorem check2_meaning (f g : Pd) : CallOK Try.prog 41 [.agg (pdRow g),.iptr (pdRow f)] [] (.bool (decide (g.name = f.name))) []:=by
 refine fi41.op ?_
 by_cases h : g.name = f.name
 ·rw [decide_eq_true h];(refine Sg.h ?_;try repeat' ((with_reducible first|refine brA ?_|refine brE fun _=>?_|refine spl ⟨?_,?_⟩<;>intro _)<;>((try simp -implicitDefEqProofs [h]);(try simp -implicitDefEqProofs(disch:=first|assumption|(try simp only[lens]);omega -splitDisjunctions) [h]))))
 ·rw [decide_eq_false h];(refine Sg.h ?_;try repeat' ((with_reducible first|refine brA ?_|refine brE fun _=>?_|refine spl ⟨?_,?_⟩<;>intro _)<;>((try simp -implicitDefEqProofs [h]);(try simp -implicitDefEqProofs(disch:=first|assumption|(try simp only[lens]);omega -splitDisjunctions) [h]))))
def x35 : XC:=.seq (.reg [⟨some 4,.alloc 33,none⟩]) (.seq (.reg [⟨some 5,.move (.tmp 0),none⟩,⟨some 6,.move (.tmp 1),none⟩,⟨some 7,.build 33 #[(0,.tmp 5),(1,.tmp 6)],none⟩,⟨none,.store 33 (.tmp 4) (.tmp 7),none⟩]) .ret)
@[simp] theorem x35_s {C e s K} : type_of% (@X_at C e s K _ _ x35.eq_1):=X_at x35.eq_1
def an35 : Ann:=⟨[],[],[]⟩
theorem fi35 : FI Try.prog 35 (cxA an35) x35 [.cell 4 33] Try.f35:=fiA Try.func35 mixed
theorem fault_meaning (c a : Int) : CallOK Try.prog 35 [.int .i64 c,.int .i64 a] [] (.agg [.int .i64 c,.int .i64 a]) []:=by
 refine fi35.op ?_
 (refine Sg.h ?_;try repeat' ((with_reducible first|refine brA ?_|refine brE fun _=>?_|refine spl ⟨?_,?_⟩<;>intro _)<;>((try simp -implicitDefEqProofs);(try simp -implicitDefEqProofs(disch:=first|assumption|(try simp only[lens]);omega -splitDisjunctions)))))
end Go.Proofs.Ytfhakdonenhnbaa
