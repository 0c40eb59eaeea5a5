import Derived.Test.YtbimioonhfhflaaDFaO
set_option linter.unusedVariables false
set_option linter.unusedSimpArgs false
set_option maxRecDepth 100000
set_option maxHeartbeats 4000000
namespace Go.Proofs.Ytbimioonhfhflaa
open Go Go.Pv
structure Fn where
 name : ByteArray
 ar : Int
 tab : List Int
 deriving Inhabited
structure Pd where
 name : ByteArray
 ar : Int
 bits : List Bool
 deriving Inhabited
structure Stc where
 n : Int
 funs : List Fn
 preds : List Pd
def fnRow (f : Fn) : List PV:=[.str f.name,.int .i64 f.ar,.list (f.tab.map intRow)]
def pdRow (p : Pd) : List PV:=[.str p.name,.int .i64 p.ar,.list (p.bits.map boolRow)]
def stc (S : Stc) : List PV:=[.int .i64 S.n,.list (S.funs.map fnRow),.list (S.preds.map pdRow)]
instance : FlatRow fnRow:=⟨fun _=>rfl⟩
instance : FlatRow pdRow:=⟨fun _=>rfl⟩
@[simp] theorem fn_len {f : Fn} : (fnRow f).length = 3:=rfl
@[simp] theorem fn_cell {f : Fn} : (∀ x ∈ fnRow f,isCell x = true) = True:=by simp [fnRow]
@[simp] theorem fn_cell2 {f : Fn} : (fnRow f).all isCell = true:=rfl
@[simp] theorem fn_get0 {f : Fn} : (fnRow f)[0]? = some (.str f.name):=rfl
@[simp] theorem fn_get1 {f : Fn} : (fnRow f)[1]? = some (.int .i64 f.ar):=rfl
@[simp] theorem fn_get2 {f : Fn} : (fnRow f)[2]? = some (.list (f.tab.map intRow)):=rfl
@[simp] theorem pd_len {f : Pd} : (pdRow f).length = 3:=rfl
@[simp] theorem pd_cell {f : Pd} : (∀ x ∈ pdRow f,isCell x = true) = True:=by simp [pdRow]
@[simp] theorem pd_cell2 {f : Pd} : (pdRow f).all isCell = true:=rfl
@[simp] theorem pd_get0 {f : Pd} : (pdRow f)[0]? = some (.str f.name):=rfl
@[simp] theorem pd_get1 {f : Pd} : (pdRow f)[1]? = some (.int .i64 f.ar):=rfl
@[simp] theorem pd_get2 {f : Pd} : (pdRow f)[2]? = some (.list (f.bits.map boolRow)):=rfl
@[simp] theorem fn_ge0 {f : Fn} (h : 0 < (fnRow f).length) : (fnRow f)[0] = .str f.name:=rfl
@[simp] theorem fn_ge1 {f : Fn} (h : 1 < (fnRow f).length) : (fnRow f)[1] = .int .i64 f.ar:=rfl
@[simp] theorem fn_ge2 {f : Fn} (h : 2 < (fnRow f).length) : (fnRow f)[2] = .list (f.tab.map intRow):=rfl
@[simp] theorem fn_take3 {f : Fn} : (fnRow f).take 3 = fnRow f:=rfl
@[simp] theorem fn_drop1 {f : Fn} : (fnRow f).drop 1 = [.int .i64 f.ar,.list (f.tab.map intRow)]:=rfl
@[simp] theorem fn_drop2 {f : Fn} : (fnRow f).drop 2 = [.list (f.tab.map intRow)]:=rfl
@[simp] theorem fn_drop3 {f : Fn} : (fnRow f).drop 3 = []:=rfl
@[simp] theorem fn_tail {f : Fn} : (fnRow f).tail = [.int .i64 f.ar,.list (f.tab.map intRow)]:=rfl
theorem fn_flat (f : Fn) : (fnRow f).all flatV = true:=rfl
@[simp] theorem fn_renm {f : Fn} {ρ : List Nat} {n : Nat} : (fnRow f).map (renN ρ n) = fnRow f:=map_id_of (fun v=>flat_ren) (fn_flat f)
@[simp] theorem fn_derefm {f : Fn} {s : Store} {n : Nat} : (fnRow f).map (deref s n) = fnRow f:=map_id_of (fun v=>flat_deref) (fn_flat f)
@[simp] theorem fn_frz {f : Fn} {F : List Nat} {s : Store} : (fnRow f).map (frzV F s) = fnRow f:=map_id_of (fun v=>frzV_flat) (fn_flat f)
@[simp] theorem fn_up {f : Fn} {ρ : List Nat} {n : Nat} : (fnRow f).map (upN ρ n) = fnRow f:=map_id_of (fun v=>flat_up) (fn_flat f)
@[simp] theorem fn_refs {f : Fn} {n : Nat} : (fnRow f).flatMap (refsN n) = []:=by simp [fnRow]
@[simp] theorem fn_soft {f : Fn} : (fnRow f).map soft1 = fnRow f:=rfl
@[simp] theorem pd_ge0 {f : Pd} (h : 0 < (pdRow f).length) : (pdRow f)[0] = .str f.name:=rfl
@[simp] theorem pd_ge1 {f : Pd} (h : 1 < (pdRow f).length) : (pdRow f)[1] = .int .i64 f.ar:=rfl
@[simp] theorem pd_ge2 {f : Pd} (h : 2 < (pdRow f).length) : (pdRow f)[2] = .list (f.bits.map boolRow):=rfl
@[simp] theorem pd_take3 {f : Pd} : (pdRow f).take 3 = pdRow f:=rfl
@[simp] theorem pd_drop1 {f : Pd} : (pdRow f).drop 1 = [.int .i64 f.ar,.list (f.bits.map boolRow)]:=rfl
@[simp] theorem pd_drop2 {f : Pd} : (pdRow f).drop 2 = [.list (f.bits.map boolRow)]:=rfl
@[simp] theorem pd_drop3 {f : Pd} : (pdRow f).drop 3 = []:=rfl
@[simp] theorem pd_tail {f : Pd} : (pdRow f).tail = [.int .i64 f.ar,.list (f.bits.map boolRow)]:=rfl
theorem pd_flat (f : Pd) : (pdRow f).all flatV = true:=rfl
@[simp] theorem pd_renm {f : Pd} {ρ : List Nat} {n : Nat} : (pdRow f).map (renN ρ n) = pdRow f:=map_id_of (fun v=>flat_ren) (pd_flat f)
@[simp] theorem pd_derefm {f : Pd} {s : Store} {n : Nat} : (pdRow f).map (deref s n) = pdRow f:=map_id_of (fun v=>flat_deref) (pd_flat f)
@[simp] theorem pd_frz {f : Pd} {F : List Nat} {s : Store} : (pdRow f).map (frzV F s) = pdRow f:=map_id_of (fun v=>frzV_flat) (pd_flat f)
@[simp] theorem pd_up {f : Pd} {ρ : List Nat} {n : Nat} : (pdRow f).map (upN ρ n) = pdRow f:=map_id_of (fun v=>flat_up) (pd_flat f)
@[simp] theorem pd_refs {f : Pd} {n : Nat} : (pdRow f).flatMap (refsN n) = []:=by simp [pdRow]
@[simp] theorem pd_soft {f : Pd} : (pdRow f).map soft1 = pdRow f:=rfl
def tabF (N : Int) (f : Fn) : Int:=if f.ar < 0 ∨ 3 < f.ar then 3 else if (f.tab.length : Int) ≠ N ^ f.ar.toNat then 9 else if f.tab.any (fun x=>decide (x < 0 ∨ N ≤ x)) = true then 5 else 0
def bitF (N : Int) (p : Pd) : Int:=if p.ar < 0 ∨ 3 < p.ar then 3 else if (p.bits.length : Int) ≠ N ^ p.ar.toNat then 9 else 0
def funsF (N : Int) : List Fn → List Fn → Nat → Int × Int
 | _,[],_=>(0,0)
 | pre,f :: r,i=>if isBigB f.name = false ∨ (pre.any fun g=>decide (g.name = f.name)) = true then (8,(i : Int)) else if tabF N f ≠ 0 then (tabF N f,(i : Int)) else funsF N (pre ++ [f]) r (i + 1)
def predsF (N : Int) : List Pd → List Pd → Nat → Int × Int
 | _,[],_=>(0,0)
 | pre,p :: r,i=>if isBigB p.name = false ∨ (pre.any fun g=>decide (g.name = p.name)) = true then (8,(i : Int)) else if bitF N p ≠ 0 then (bitF N p,(i : Int)) else predsF N (pre ++ [p]) r (i + 1)
def stcF (S : Stc) : Int × Int:=if S.n < 1 ∨ 8 < S.n ∨ 10 < S.funs.length ∨ 10 < S.preds.length then (2,0) else if (funsF S.n [] S.funs 0).1 ≠ 0 then funsF S.n [] S.funs 0 else predsF S.n [] S.preds S.funs.length
end Go.Proofs.Ytbimioonhfhflaa
namespace Go.Proofs.Ytbimioonhfhflaa
open Go Go.Pv
theorem pow_le8 {n : Int} (h0 : 0 ≤ n) (h8 : n ≤ 8) : ∀ k : Nat,k ≤ 6 → 0 ≤ n ^ k ∧ n ^ k ≤ 262144:=by
 have h : ∀ k : Nat,0 ≤ n ^ k ∧ n ^ k ≤ 8 ^ k:=by
  intro k
  induction k with
  | zero=>simp
  | succ k ih=>
   rw [Int.pow_succ,Int.pow_succ]
   exact ⟨Int.mul_nonneg ih.1 h0,Int.mul_le_mul ih.2 h8 h0 (by have:=ih.1;omega)⟩
 intro k hk
 refine ⟨(h k).1,Int.le_trans (h k).2 ?_⟩
 match k,hk with
 | 0,_ | 1,_ | 2,_ | 3,_ | 4,_ | 5,_ | 6,_=>decide
def x33_T1 : XC:=.seq (.reg [⟨some 13,.move (.tmp 5),none⟩,⟨some 4,.assign (.tmp 13),none⟩]) .ret
def x33_L0 : XC:=.seq (.reg [⟨some 8,.binOp .lss 3 (.tmp 7) (.tmp 6) 3,none⟩]) (.seq (.cond (.tmp 8) .skip (.exit 0)) (.seq (.block 1 (.reg [⟨some 9,.move (.tmp 5),none⟩,⟨some 10,.move (.tmp 0),none⟩,⟨some 11,.binOp .mul 3 (.tmp 9) (.tmp 10) 3,none⟩,⟨some 5,.assign (.tmp 11),none⟩])) (.reg [⟨some 12,.binOp .add 3 (.tmp 7) (.const (.int .i64 1)) 3,none⟩,⟨some 7,.move (.tmp 12),none⟩])))
def x33 : XC:=.seq (.reg [⟨some 4,.assign (.const (.int .i64 0)),none⟩]) (.seq (.reg [⟨some 5,.assign (.const (.int .i64 1)),none⟩]) (.seq (.seq (.reg [⟨some 6,.move (.tmp 1),none⟩,⟨some 7,.move (.const (.int .i64 0)),none⟩]) (.bloop 0 x33_L0)) (x33_T1)))
@[simp] theorem x33_s {C e s K} : type_of% (@X_at C e s K _ _ x33_T1.eq_1) ∧ type_of% (@X_at C e s K _ _ x33_L0.eq_1) ∧ type_of% (@X_at C e s K _ _ x33.eq_1):=⟨X_at x33_T1.eq_1,X_at x33_L0.eq_1,X_at x33.eq_1⟩
def an33 : Ann:=⟨[],[(0,[],[0,5,6,7],[5])],[]⟩
@[simp] theorem an33_a : an33.loopOf 0 = ([],[0,5,6,7],[5]):=rfl
theorem fi33 : FI Try.prog 33 (cxA an33) x33 [.tmp 4] Try.f33:=fiA Try.func33 mixed
theorem power_meaning (n : Int) (k : Nat) (h0 : 0 ≤ n) (h8 : n ≤ 8) (hk : k ≤ 6) : CallOK Try.prog 33 [.int .i64 n,.int .i64 (k : Int)] [] (.int .i64 (n ^ k)) []:=by
 refine fi33.op ?_
 (refine Sg.h ?_;try repeat' ((with_reducible first|refine brA ?_|refine brE fun _=>?_|refine spl ⟨?_,?_⟩<;>intro _)<;>((try simp -implicitDefEqProofs(disch:=first|assumption|(try simp only[lens]);omega -splitDisjunctions)))))
 refine W_of fun Q hQ=>?_
 have main : ∀ r i,i + r = k → Q [(0,.int .i64 n),(5,.int .i64 (n ^ i)),(6,.int .i64 (k : Int)),(7,.int .i64 (i : Int))] []:=by
  intro r
  induction r with
  | zero=>
   intro i hi
   obtain rfl : i = k:=by omega
   generalize n ^ i = p at *
   apply hQ
   (refine Sg.h ?_;try repeat' ((with_reducible first|refine brA ?_|refine brE fun _=>?_|refine spl ⟨?_,?_⟩<;>intro _)<;>((try simp -implicitDefEqProofs(disch:=first|assumption|(try simp only[lens]);omega -splitDisjunctions)))))
  | succ r ih=>
   intro i hi
   have ih:=ih (i + 1) (by omega)
   have hp:=pow_le8 h0 h8 (i + 1) (by omega)
   rw [Int.pow_succ] at ih hp
   obtain ⟨q,hq⟩ : ∃ q,n ^ i * n = q:=⟨_,rfl⟩
   rw [hq] at ih hp
   have hik : (i : Int) < (k : Int):=by omega
   apply hQ
   clear hQ
   (refine Sg.h ?_;try repeat' ((with_reducible first|refine brA ?_|refine brE fun _=>?_|refine spl ⟨?_,?_⟩<;>intro _)<;>((try simp -implicitDefEqProofs(disch:=first|assumption|(try simp only[lens]);omega -splitDisjunctions) [hik,hq]))))
   all_goals first|exact ih|(refine at2 ih ?_ ?_<;>simp;done)|(exfalso;first|omega|(simp_all;done)|(simp_all;omega))
 refine at2 (main k 0 (Nat.zero_add _)) ?_ ?_
 ·simp
 ·rfl
def indexQ {α : Type} (p : α → Bool) (l : List α) : Int:=match l.findIdx? p with
 | some i=>i
 | none=>-1
theorem indexQ_at {α : Type} {p : α → Bool} {l : List α} {i : Nat} (h : i < l.length) (hp : p l[i] = true) (hb : ∀ j (hj : j < i), p (l[j]'(by omega)) = false) : indexQ p l = i:=by
 unfold indexQ
 have : l.findIdx? p = some i:=by
  rw [List.findIdx?_eq_some_iff_getElem]
  exact ⟨h,hp,fun j hj=>by simp [hb j hj]⟩
 rw [this]
theorem indexQ_none {α : Type} {p : α → Bool} {l : List α} (hb : ∀ j (hj : j < l.length),p l[j] = false) : indexQ p l = -1:=by
 unfold indexQ
 have : l.findIdx? p = none:=by
  rw [List.findIdx?_eq_none_iff]
  intro x hx
  obtain ⟨j,hj,rfl⟩:=List.mem_iff_getElem.1 hx
  exact hb j hj
 rw [this]
theorem indexQ_any {α : Type} {p : α → Bool} {l : List α} : 0 ≤ indexQ p l ↔ l.any p = true:=by
 unfold indexQ
 cases h : l.findIdx? p with
 | none=>
  rw [List.findIdx?_eq_none_iff] at h
  refine ⟨fun h=>absurd h (by decide),fun g=>?_⟩
  obtain ⟨x,hx,hp⟩:=List.any_eq_true.1 g
  rw [h x hx] at hp;cases hp
 | some i=>
  rw [List.findIdx?_eq_some_iff_getElem] at h
  obtain ⟨hi,hp,_⟩:=h
  exact ⟨fun _=>List.any_eq_true.2 ⟨_,List.getElem_mem hi,hp⟩,fun _=>by dsimp only;omega⟩
def x70_L0 : XC:=.seq (.reg [⟨some 9,.binOp .lss 3 (.tmp 8) (.tmp 7) 3,none⟩]) (.seq (.cond (.tmp 9) .skip (.exit 0)) (.seq (.block 1 (.seq (.reg [⟨some 10,.move (.tmp 8),none⟩,⟨some 5,.assign (.tmp 10),none⟩]) (.seq (.reg [⟨some 11,.move (.tmp 1),none⟩,⟨some 12,.move (.tmp 0),none⟩,⟨some 13,.move (.tmp 5),none⟩,⟨some 14,.indexAddr 22 (.tmp 12) (.tmp 13),none⟩,⟨some 15,.load 57 (.tmp 14),none⟩,⟨some 16,.call ⟨.value (.tmp 11),#[.tmp 15],#[57]⟩,none⟩]) (.cond (.tmp 16) (.seq (.reg [⟨some 17,.move (.tmp 5),none⟩,⟨some 4,.assign (.tmp 17),none⟩]) .ret) .skip)))) (.reg [⟨some 18,.binOp .add 3 (.tmp 8) (.const (.int .i64 1)) 3,none⟩,⟨some 8,.move (.tmp 18),none⟩])))
def x70 : XC:=.seq (.reg [⟨some 4,.assign (.const (.int .i64 0)),none⟩]) (.seq (.seq (.reg [⟨some 6,.move (.tmp 0),none⟩,⟨some 7,.call ⟨.builtin .len,#[.tmp 6],#[22]⟩,none⟩,⟨some 8,.move (.const (.int .i64 0)),none⟩]) (.bloop 0 x70_L0)) (.seq (.reg [⟨some 4,.assign (.const (.int .i64 (-1))),none⟩]) .ret))
@[simp] theorem x70_s {C e s K} : type_of% (@X_at C e s K _ _ x70_L0.eq_1) ∧ type_of% (@X_at C e s K _ _ x70.eq_1):=⟨X_at x70_L0.eq_1,X_at x70.eq_1⟩
def an70 : Ann:=⟨[],[(0,[],[0,1,7,8],[4])],[]⟩
@[simp] theorem an70_a : an70.loopOf 0 = ([],[0,1,7,8],[4]):=rfl
theorem fi70 : FI Try.prog 70 (cxA an70) x70 [.tmp 4] Try.f70:=fiA Try.func70 mixed
theorem IndexFunc_fun (l : List Fn) (hl : l.length ≤ 1000000) (fid : Nat) [EnT Try.prog fid] (ys : List PV) [hy : FlatL ys] (p : Fn → Bool) (h : ∀ a ∈ l,CallOK Try.prog fid (.agg (fnRow a) :: ys) [] (.bool (p a)) []) :
  CallOK Try.prog 70 [.list (l.map fnRow),.fn (.func fid) [] ys] [] (.int .i64 (indexQ p l)) []:=by
 have hcl : ∀ a : Fn,∀ v ∈ .agg (fnRow a) :: ys,Closed v:=by
  intro a v hv
  rcases List.mem_cons.1 hv with rfl | hv
  ·exact closed_agg (by simp)
  ·exact hy.closed v hv
 refine fi70.op ?_
 (refine Sg.h ?_;try repeat' ((with_reducible first|refine brA ?_|refine brE fun _=>?_|refine spl ⟨?_,?_⟩<;>intro _)<;>((try simp -implicitDefEqProofs(disch:=first|assumption|(try simp only[lens]);omega -splitDisjunctions)))))
 refine W_of fun Q hQ=>?_
 have main : ∀ n i,i + n = l.length → (∀ j (hj : j < i) (hl : j < l.length),p l[j] = false) → Q [(0,.list (l.map fnRow)),(1,.fn (.func fid) [] ys),(7,.int .i64 (l.length : Int)),(8,.int .i64 (i : Int))] []:=by
  intro n
  induction n with
  | zero=>
   intro i hi hb
   have hv:=indexQ_none (p:=p) (l:=l) fun j hj=>hb j (by omega) hj
   generalize indexQ p l = v at *
   apply hQ
   subst hv
   (refine Sg.h ?_;try repeat' ((with_reducible first|refine brA ?_|refine brE fun _=>?_|refine spl ⟨?_,?_⟩<;>intro _)<;>((try simp -implicitDefEqProofs(disch:=first|assumption|(try simp only[lens]);omega -splitDisjunctions)))))
  | succ n ih=>
   intro i hi hb
   have hil : i < l.length:=by omega
   have hc:=h _ (List.getElem_mem hil)
   have ih:=ih (i + 1) (by omega)
   have hat:=fun hp=>indexQ_at (p:=p) hil hp fun j hj=>hb j hj (by omega)
   generalize indexQ p l = v at *
   cases hp : p l[i] with
   | true=>
    have hv:=hat hp
    rw [hp] at hc
    apply hQ
    clear hQ
    subst hv
    (refine Sg.h ?_;try repeat' ((with_reducible first|refine brA ?_|refine brE fun _=>?_|refine spl ⟨?_,?_⟩<;>intro _)<;>((try simp -implicitDefEqProofs(disch:=first|assumption|(try simp only[lens]);omega -splitDisjunctions) [hil]))))
    refine CL.clo hc ?_ (hcl _)
    (refine Sg.h ?_;try repeat' ((with_reducible first|refine brA ?_|refine brE fun _=>?_|refine spl ⟨?_,?_⟩<;>intro _)<;>((try simp -implicitDefEqProofs(disch:=first|assumption|(try simp only[lens]);omega -splitDisjunctions)))))
   | false=>
    have ih:=ih fun j hj hl=>by
     rcases Nat.lt_or_ge j i with hji | hji
     ·exact hb j hji hl
     ·have : j = i := by omega
      subst this;exact hp
    rw [hp] at hc
    apply hQ
    clear hQ
    (refine Sg.h ?_;try repeat' ((with_reducible first|refine brA ?_|refine brE fun _=>?_|refine spl ⟨?_,?_⟩<;>intro _)<;>((try simp -implicitDefEqProofs(disch:=first|assumption|(try simp only[lens]);omega -splitDisjunctions) [hil]))))
    refine CL.clo hc ?_ (hcl _)
    (refine Sg.h ?_;try repeat' ((with_reducible first|refine brA ?_|refine brE fun _=>?_|refine spl ⟨?_,?_⟩<;>intro _)<;>((try simp -implicitDefEqProofs(disch:=first|assumption|(try simp only[lens]);omega -splitDisjunctions)))))
    all_goals first|exact ih|(refine at2 ih ?_ ?_<;>simp;done)|(exfalso;first|omega|(simp_all;done)|(simp_all;omega))
 all_goals first|exact main _ 0 (Nat.zero_add _) (fun j hj=>by omega)|(refine at2 main _ 0 (Nat.zero_add _) (fun j hj=>by omega) ?_ ?_<;>simp;done)|(exfalso;first|omega|(simp_all;done)|(simp_all;omega))
def x48 : XC:=.seq (.reg [⟨some 4,.assign (.const (.bool false)),none⟩]) (.seq (.reg [⟨some 5,.move (.tmp 0),none⟩,⟨some 6,.move (.tmp 1),none⟩,⟨some 7,.call ⟨.value (.func 70),#[.tmp 5,.tmp 6],#[22,89]⟩,none⟩,⟨some 8,.binOp .geq 3 (.tmp 7) (.const (.int .i64 0)) 3,none⟩,⟨some 4,.assign (.tmp 8),none⟩]) .ret)
@[simp] theorem x48_s {C e s K} : type_of% (@X_at C e s K _ _ x48.eq_1):=X_at x48.eq_1
def an48 : Ann:=⟨[],[],[]⟩
theorem fi48 : FI Try.prog 48 (cxA an48) x48 [.tmp 4] Try.f48:=fiA Try.func48 mixed
theorem ContainsFunc_fun (l : List Fn) (hl : l.length ≤ 1000000) (fid : Nat) [EnT Try.prog fid] (ys : List PV) [hy : FlatL ys] (p : Fn → Bool) (h : ∀ a ∈ l,CallOK Try.prog fid (.agg (fnRow a) :: ys) [] (.bool (p a)) []) :
  CallOK Try.prog 48 [.list (l.map fnRow),.fn (.func fid) [] ys] [] (.bool (l.any p)) []:=by
 have hc:=IndexFunc_fun l hl fid ys p h
 have hany : (0 ≤ indexQ p l) ↔ l.any p = true:=indexQ_any
 refine fi48.op ?_
 (refine Sg.h ?_;try repeat' ((with_reducible first|refine brA ?_|refine brE fun _=>?_|refine spl ⟨?_,?_⟩<;>intro _)<;>((try simp -implicitDefEqProofs(disch:=first|assumption|(try simp only[lens]);omega -splitDisjunctions)))))
 refine CL.clo hc ?_ (by
  intro v hv
  rcases List.mem_cons.1 hv with rfl | hv
  ·exact closed_list _
  ·rw [List.mem_singleton.1 hv];exact closed_fn (by simp) hy.closed)
 generalize indexQ p l = q at *
 cases hb : l.any p with
 | true=>
  have h0 : 0 ≤ q:=hany.2 hb
  (refine Sg.h ?_;try repeat' ((with_reducible first|refine brA ?_|refine brE fun _=>?_|refine spl ⟨?_,?_⟩<;>intro _)<;>((try simp -implicitDefEqProofs(disch:=first|assumption|(try simp only[lens]);omega -splitDisjunctions) [h0]))))
 | false=>
  have h0 : ¬ 0 ≤ q:=fun g=>by rw [hany.1 g] at hb;cases hb
  (refine Sg.h ?_;try repeat' ((with_reducible first|refine brA ?_|refine brE fun _=>?_|refine spl ⟨?_,?_⟩<;>intro _)<;>((try simp -implicitDefEqProofs(disch:=first|assumption|(try simp only[lens]);omega -splitDisjunctions) [h0]))))
def x71_L0 : XC:=.seq (.reg [⟨some 9,.binOp .lss 3 (.tmp 8) (.tmp 7) 3,none⟩]) (.seq (.cond (.tmp 9) .skip (.exit 0)) (.seq (.block 1 (.seq (.reg [⟨some 10,.move (.tmp 8),none⟩,⟨some 5,.assign (.tmp 10),none⟩]) (.seq (.reg [⟨some 11,.move (.tmp 1),none⟩,⟨some 12,.move (.tmp 0),none⟩,⟨some 13,.move (.tmp 5),none⟩,⟨some 14,.indexAddr 23 (.tmp 12) (.tmp 13),none⟩,⟨some 15,.load 61 (.tmp 14),none⟩,⟨some 16,.call ⟨.value (.tmp 11),#[.tmp 15],#[61]⟩,none⟩]) (.cond (.tmp 16) (.seq (.reg [⟨some 17,.move (.tmp 5),none⟩,⟨some 4,.assign (.tmp 17),none⟩]) .ret) .skip)))) (.reg [⟨some 18,.binOp .add 3 (.tmp 8) (.const (.int .i64 1)) 3,none⟩,⟨some 8,.move (.tmp 18),none⟩])))
def x71 : XC:=.seq (.reg [⟨some 4,.assign (.const (.int .i64 0)),none⟩]) (.seq (.seq (.reg [⟨some 6,.move (.tmp 0),none⟩,⟨some 7,.call ⟨.builtin .len,#[.tmp 6],#[23]⟩,none⟩,⟨some 8,.move (.const (.int .i64 0)),none⟩]) (.bloop 0 x71_L0)) (.seq (.reg [⟨some 4,.assign (.const (.int .i64 (-1))),none⟩]) .ret))
@[simp] theorem x71_s {C e s K} : type_of% (@X_at C e s K _ _ x71_L0.eq_1) ∧ type_of% (@X_at C e s K _ _ x71.eq_1):=⟨X_at x71_L0.eq_1,X_at x71.eq_1⟩
def an71 : Ann:=⟨[],[(0,[],[0,1,7,8],[4])],[]⟩
@[simp] theorem an71_a : an71.loopOf 0 = ([],[0,1,7,8],[4]):=rfl
theorem fi71 : FI Try.prog 71 (cxA an71) x71 [.tmp 4] Try.f71:=fiA Try.func71 mixed
theorem IndexFunc_pred (l : List Pd) (hl : l.length ≤ 1000000) (fid : Nat) [EnT Try.prog fid] (ys : List PV) [hy : FlatL ys] (p : Pd → Bool) (h : ∀ a ∈ l,CallOK Try.prog fid (.agg (pdRow a) :: ys) [] (.bool (p a)) []) :
  CallOK Try.prog 71 [.list (l.map pdRow),.fn (.func fid) [] ys] [] (.int .i64 (indexQ p l)) []:=by
 have hcl : ∀ a : Pd,∀ v ∈ .agg (pdRow a) :: ys,Closed v:=by
  intro a v hv
  rcases List.mem_cons.1 hv with rfl | hv
  ·exact closed_agg (by simp)
  ·exact hy.closed v hv
 refine fi71.op ?_
 (refine Sg.h ?_;try repeat' ((with_reducible first|refine brA ?_|refine brE fun _=>?_|refine spl ⟨?_,?_⟩<;>intro _)<;>((try simp -implicitDefEqProofs(disch:=first|assumption|(try simp only[lens]);omega -splitDisjunctions)))))
 refine W_of fun Q hQ=>?_
 have main : ∀ n i,i + n = l.length → (∀ j (hj : j < i) (hl : j < l.length),p l[j] = false) → Q [(0,.list (l.map pdRow)),(1,.fn (.func fid) [] ys),(7,.int .i64 (l.length : Int)),(8,.int .i64 (i : Int))] []:=by
  intro n
  induction n with
  | zero=>
   intro i hi hb
   have hv:=indexQ_none (p:=p) (l:=l) fun j hj=>hb j (by omega) hj
   generalize indexQ p l = v at *
   apply hQ
   subst hv
   (refine Sg.h ?_;try repeat' ((with_reducible first|refine brA ?_|refine brE fun _=>?_|refine spl ⟨?_,?_⟩<;>intro _)<;>((try simp -implicitDefEqProofs(disch:=first|assumption|(try simp only[lens]);omega -splitDisjunctions)))))
  | succ n ih=>
   intro i hi hb
   have hil : i < l.length:=by omega
   have hc:=h _ (List.getElem_mem hil)
   have ih:=ih (i + 1) (by omega)
   have hat:=fun hp=>indexQ_at (p:=p) hil hp fun j hj=>hb j hj (by omega)
   generalize indexQ p l = v at *
   cases hp : p l[i] with
   | true=>
    have hv:=hat hp
    rw [hp] at hc
    apply hQ
    clear hQ
    subst hv
    (refine Sg.h ?_;try repeat' ((with_reducible first|refine brA ?_|refine brE fun _=>?_|refine spl ⟨?_,?_⟩<;>intro _)<;>((try simp -implicitDefEqProofs(disch:=first|assumption|(try simp only[lens]);omega -splitDisjunctions) [hil]))))
    refine CL.clo hc ?_ (hcl _)
    (refine Sg.h ?_;try repeat' ((with_reducible first|refine brA ?_|refine brE fun _=>?_|refine spl ⟨?_,?_⟩<;>intro _)<;>((try simp -implicitDefEqProofs(disch:=first|assumption|(try simp only[lens]);omega -splitDisjunctions)))))
   | false=>
    have ih:=ih fun j hj hl=>by
     rcases Nat.lt_or_ge j i with hji | hji
     ·exact hb j hji hl
     ·have : j = i := by omega
      subst this;exact hp
    rw [hp] at hc
    apply hQ
    clear hQ
    (refine Sg.h ?_;try repeat' ((with_reducible first|refine brA ?_|refine brE fun _=>?_|refine spl ⟨?_,?_⟩<;>intro _)<;>((try simp -implicitDefEqProofs(disch:=first|assumption|(try simp only[lens]);omega -splitDisjunctions) [hil]))))
    refine CL.clo hc ?_ (hcl _)
    (refine Sg.h ?_;try repeat' ((with_reducible first|refine brA ?_|refine brE fun _=>?_|refine spl ⟨?_,?_⟩<;>intro _)<;>((try simp -implicitDefEqProofs(disch:=first|assumption|(try simp only[lens]);omega -splitDisjunctions)))))
    all_goals first|exact ih|(refine at2 ih ?_ ?_<;>simp;done)|(exfalso;first|omega|(simp_all;done)|(simp_all;omega))
 all_goals first|exact main _ 0 (Nat.zero_add _) (fun j hj=>by omega)|(refine at2 main _ 0 (Nat.zero_add _) (fun j hj=>by omega) ?_ ?_<;>simp;done)|(exfalso;first|omega|(simp_all;done)|(simp_all;omega))
def x50 : XC:=.seq (.reg [⟨some 4,.assign (.const (.bool false)),none⟩]) (.seq (.reg [⟨some 5,.move (.tmp 0),none⟩,⟨some 6,.move (.tmp 1),none⟩,⟨some 7,.call ⟨.value (.func 71),#[.tmp 5,.tmp 6],#[23,91]⟩,none⟩,⟨some 8,.binOp .geq 3 (.tmp 7) (.const (.int .i64 0)) 3,none⟩,⟨some 4,.assign (.tmp 8),none⟩]) .ret)
@[simp] theorem x50_s {C e s K} : type_of% (@X_at C e s K _ _ x50.eq_1):=X_at x50.eq_1
def an50 : Ann:=⟨[],[],[]⟩
theorem fi50 : FI Try.prog 50 (cxA an50) x50 [.tmp 4] Try.f50:=fiA Try.func50 mixed
theorem ContainsFunc_pred (l : List Pd) (hl : l.length ≤ 1000000) (fid : Nat) [EnT Try.prog fid] (ys : List PV) [hy : FlatL ys] (p : Pd → Bool) (h : ∀ a ∈ l,CallOK Try.prog fid (.agg (pdRow a) :: ys) [] (.bool (p a)) []) :
  CallOK Try.prog 50 [.list (l.map pdRow),.fn (.func fid) [] ys] [] (.bool (l.any p)) []:=by
 have hc:=IndexFunc_pred l hl fid ys p h
 have hany : (0 ≤ indexQ p l) ↔ l.any p = true:=indexQ_any
 refine fi50.op ?_
 (refine Sg.h ?_;try repeat' ((with_reducible first|refine brA ?_|refine brE fun _=>?_|refine spl ⟨?_,?_⟩<;>intro _)<;>((try simp -implicitDefEqProofs(disch:=first|assumption|(try simp only[lens]);omega -splitDisjunctions)))))
 refine CL.clo hc ?_ (by
  intro v hv
  rcases List.mem_cons.1 hv with rfl | hv
  ·exact closed_list _
  ·rw [List.mem_singleton.1 hv];exact closed_fn (by simp) hy.closed)
 generalize indexQ p l = q at *
 cases hb : l.any p with
 | true=>
  have h0 : 0 ≤ q:=hany.2 hb
  (refine Sg.h ?_;try repeat' ((with_reducible first|refine brA ?_|refine brE fun _=>?_|refine spl ⟨?_,?_⟩<;>intro _)<;>((try simp -implicitDefEqProofs(disch:=first|assumption|(try simp only[lens]);omega -splitDisjunctions) [h0]))))
 | false=>
  have h0 : ¬ 0 ≤ q:=fun g=>by rw [hany.1 g] at hb;cases hb
  (refine Sg.h ?_;try repeat' ((with_reducible first|refine brA ?_|refine brE fun _=>?_|refine spl ⟨?_,?_⟩<;>intro _)<;>((try simp -implicitDefEqProofs(disch:=first|assumption|(try simp only[lens]);omega -splitDisjunctions) [h0]))))
def x49 : XC:=.seq (.reg [⟨some 2,.box 57 (.tmp 0),none⟩,⟨some 3,.assign (.const (.bool false)),none⟩]) (.seq (.reg [⟨some 4,.fieldAddr 57 (.tmp 2) 0,none⟩,⟨some 5,.load 9 (.tmp 4),none⟩,⟨some 6,.fieldAddr 57 (.tmp 1) 0,none⟩,⟨some 7,.load 9 (.tmp 6),none⟩,⟨some 8,.binOp .eql 9 (.tmp 5) (.tmp 7) 9,none⟩,⟨some 3,.assign (.tmp 8),none⟩]) .ret)
@[simp] theorem x49_s {C e s K} : type_of% (@X_at C e s K _ _ x49.eq_1):=X_at x49.eq_1
def an49 : Ann:=⟨[],[],[]⟩
theorem fi49 : FI Try.prog 49 (cxA an49) x49 [.tmp 3] Try.f49:=fiA Try.func49 mixed
theorem check1_meaning (f g : Fn) : CallOK Try.prog 49 [.agg (fnRow g),.iptr (fnRow f)] [] (.bool (decide (g.name = f.name))) []:=by
 refine fi49.op ?_
 by_cases h : g.name = f.name
 ·rw [decide_eq_true h];(refine Sg.h ?_;try repeat' ((with_reducible first|refine brA ?_|refine brE fun _=>?_|refine spl ⟨?_,?_⟩<;>intro _)<;>((try simp -implicitDefEqProofs(disch:=first|assumption|(try simp only[lens]);omega -splitDisjunctions) [h]))))
 ·rw [decide_eq_false h];(refine Sg.h ?_;try repeat' ((with_reducible first|refine brA ?_|refine brE fun _=>?_|refine spl ⟨?_,?_⟩<;>intro _)<;>((try simp -implicitDefEqProofs(disch:=first|assumption|(try simp only[lens]);omega -splitDisjunctions) [h]))))
def x51 : XC:=.seq (.reg [⟨some 2,.box 61 (.tmp 0),none⟩,⟨some 3,.assign (.const (.bool false)),none⟩]) (.seq (.reg [⟨some 4,.fieldAddr 61 (.tmp 2) 0,none⟩,⟨some 5,.load 9 (.tmp 4),none⟩,⟨some 6,.fieldAddr 61 (.tmp 1) 0,none⟩,⟨some 7,.load 9 (.tmp 6),none⟩,⟨some 8,.binOp .eql 9 (.tmp 5) (.tmp 7) 9,none⟩,⟨some 3,.assign (.tmp 8),none⟩]) .ret)
@[simp] theorem x51_s {C e s K} : type_of% (@X_at C e s K _ _ x51.eq_1):=X_at x51.eq_1
def an51 : Ann:=⟨[],[],[]⟩
theorem fi51 : FI Try.prog 51 (cxA an51) x51 [.tmp 3] Try.f51:=fiA Try.func51 mixed
theorem check2_meaning (f g : Pd) : CallOK Try.prog 51 [.agg (pdRow g),.iptr (pdRow f)] [] (.bool (decide (g.name = f.name))) []:=by
 refine fi51.op ?_
 by_cases h : g.name = f.name
 ·rw [decide_eq_true h];(refine Sg.h ?_;try repeat' ((with_reducible first|refine brA ?_|refine brE fun _=>?_|refine spl ⟨?_,?_⟩<;>intro _)<;>((try simp -implicitDefEqProofs(disch:=first|assumption|(try simp only[lens]);omega -splitDisjunctions) [h]))))
 ·rw [decide_eq_false h];(refine Sg.h ?_;try repeat' ((with_reducible first|refine brA ?_|refine brE fun _=>?_|refine spl ⟨?_,?_⟩<;>intro _)<;>((try simp -implicitDefEqProofs(disch:=first|assumption|(try simp only[lens]);omega -splitDisjunctions) [h]))))
def x30 : XC:=.seq (.reg [⟨some 4,.alloc 39,none⟩]) (.seq (.reg [⟨some 5,.move (.tmp 0),none⟩,⟨some 6,.move (.tmp 1),none⟩,⟨some 7,.build 39 #[(0,.tmp 5),(1,.tmp 6)],none⟩,⟨none,.store 39 (.tmp 4) (.tmp 7),none⟩]) .ret)
@[simp] theorem x30_s {C e s K} : type_of% (@X_at C e s K _ _ x30.eq_1):=X_at x30.eq_1
def an30 : Ann:=⟨[],[],[]⟩
theorem fi30 : FI Try.prog 30 (cxA an30) x30 [.cell 4 39] Try.f30:=fiA Try.func30 mixed
theorem fault_meaning (c a : Int) : CallOK Try.prog 30 [.int .i64 c,.int .i64 a] [] (.agg [.int .i64 c,.int .i64 a]) []:=by
 refine fi30.op ?_
 (refine Sg.h ?_;try repeat' ((with_reducible first|refine brA ?_|refine brE fun _=>?_|refine spl ⟨?_,?_⟩<;>intro _)<;>((try simp -implicitDefEqProofs(disch:=first|assumption|(try simp only[lens]);omega -splitDisjunctions)))))
end Go.Proofs.Ytbimioonhfhflaa
