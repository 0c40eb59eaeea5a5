import Derived.Test.YtbimioonhfhflaaAPvPan
import Derived.Test.YtbimioonhfhflaaAPvRecN
set_option linter.unusedVariables false
set_option linter.unusedSimpArgs false
set_option maxRecDepth 100000
set_option maxHeartbeats 4000000
namespace Go.Proofs.Ytbimioonhfhflaa
open Go Go.Pv
def x25 : XC:=.seq (.reg [⟨some 4,.alloc 39,none⟩]) (.seq (.reg [⟨some 5,.move (.tmp 0),none⟩,⟨some 6,.move (.tmp 1),none⟩,⟨some 7,.build 39 #[(0,.tmp 5),(1,.tmp 6)],none⟩,⟨none,.store 39 (.tmp 4) (.tmp 7),none⟩]) .ret)
@[simp] theorem x25_s {C e s K} : type_of% (@X_at C e s K _ _ x25.eq_1):=X_at x25.eq_1
def an25 : Ann:=⟨[],[],[]⟩
theorem fi25 : FI Try.prog 25 (cxA an25) x25 [.cell 4 39] Try.f25:=fiA Try.func25 mixed
theorem fault_first (c a : Int) : CallOK Try.prog 25 [.int .i64 c,.int .i64 a] [] (.agg [.int .i64 c,.int .i64 a]) []:=by
 refine fi25.op ?_
 (refine Sg.h ?_;try repeat' ((with_reducible first|refine brA ?_|refine brE fun _=>?_|refine spl ⟨?_,?_⟩<;>intro _)<;>((try simp -implicitDefEqProofs);(try simp -implicitDefEqProofs(disch:=first|assumption|(try simp only[lens]);omega -splitDisjunctions)))))
def stopE (c p : Int) : Value:=.iface 109 (.agg #[.int .i64 c,.int .i64 p])
@[simp] theorem xi_fst (v : PV) : xiface Try.prog 109 v = some (.iface 109 v):=by kernel_rfl
@[simp] theorem xa_fst (v : PV) : xassert Try.prog 109 true (.iface 109 v) = some (.tuple [v,.bool true]):=by kernel_rfl
theorem pan_fst (c p : Int) : panP (.iface 109 (.agg [.int .i64 c,.int .i64 p])) = some (stopE c p):=rfl
def x74_L0 : XC:=.seq (.seq (.drawn 0 [⟨some 2,.move (.tmp 0),none⟩,⟨some 3,.nilCheck (.tmp 2),none⟩,⟨some 4,.fieldAddr 120 (.tmp 3) 1,none⟩,⟨some 5,.load 3 (.tmp 4),none⟩,⟨some 6,.move (.tmp 0),none⟩,⟨some 7,.nilCheck (.tmp 6),none⟩,⟨some 8,.fieldAddr 120 (.tmp 7) 0,none⟩,⟨some 9,.load 9 (.tmp 8),none⟩,⟨some 10,.call ⟨.builtin .len,#[.tmp 9],#[9]⟩,none⟩,⟨some 11,.binOp .lss 3 (.tmp 5) (.tmp 10) 3,none⟩,⟨some 12,.move (.tmp 11),none⟩,⟨some 13,.move (.tmp 0),some (some 12,true)⟩,⟨some 14,.nilCheck (.tmp 13),some (some 12,true)⟩,⟨some 15,.fieldAddr 120 (.tmp 14) 0,some (some 12,true)⟩,⟨some 16,.load 9 (.tmp 15),some (some 12,true)⟩,⟨some 17,.move (.tmp 0),some (some 12,true)⟩,⟨some 18,.nilCheck (.tmp 17),some (some 12,true)⟩,⟨some 19,.fieldAddr 120 (.tmp 18) 1,some (some 12,true)⟩,⟨some 20,.load 3 (.tmp 19),some (some 12,true)⟩,⟨some 21,.index 9 (.tmp 16) (.tmp 20),some (some 12,true)⟩,⟨some 22,.binOp .eql 5 (.tmp 21) (.const (.int .u8 32)) 5,some (some 12,true)⟩,⟨some 23,.move (.tmp 22),some (some 12,true)⟩,⟨some 24,.move (.tmp 0),some (some 23,false)⟩,⟨some 25,.nilCheck (.tmp 24),some (some 23,false)⟩,⟨some 26,.fieldAddr 120 (.tmp 25) 0,some (some 23,false)⟩,⟨some 27,.load 9 (.tmp 26),some (some 23,false)⟩,⟨some 28,.move (.tmp 0),some (some 23,false)⟩,⟨some 29,.nilCheck (.tmp 28),some (some 23,false)⟩,⟨some 30,.fieldAddr 120 (.tmp 29) 1,some (some 23,false)⟩,⟨some 31,.load 3 (.tmp 30),some (some 23,false)⟩,⟨some 32,.index 9 (.tmp 27) (.tmp 31),some (some 23,false)⟩,⟨some 33,.binOp .eql 5 (.tmp 32) (.const (.int .u8 10)) 5,some (some 23,false)⟩,⟨some 34,.pick (.tmp 23) (.const (.bool true)) (.tmp 33),some (some 12,true)⟩,⟨some 35,.pick (.tmp 12) (.tmp 34) (.const (.bool false)),none⟩]) (.cond (.tmp 35) .skip (.exit 0))) (.block 1 (.reg [⟨some 36,.move (.tmp 0),none⟩,⟨some 37,.nilCheck (.tmp 36),none⟩,⟨some 38,.fieldAddr 120 (.tmp 37) 1,none⟩,⟨some 39,.load 3 (.tmp 38),none⟩,⟨some 40,.binOp .add 3 (.tmp 39) (.const (.int .i64 1)) 3,none⟩,⟨some 41,.nilCheck (.tmp 36),none⟩,⟨some 42,.fieldAddr 120 (.tmp 41) 1,none⟩,⟨none,.store 3 (.tmp 42) (.tmp 40),none⟩]))
def x74 : XC:=.bloop 0 x74_L0
@[simp] theorem x74_s {C e s K} : type_of% (@X_at C e s K _ _ x74_L0.eq_1) ∧ type_of% (@X_at C e s K _ _ x74.eq_1):=⟨X_at x74_L0.eq_1,X_at x74.eq_1⟩
def an74 : Ann:=⟨[(0,.mix 30)],[(0,[],[0],[])],[]⟩
@[simp] theorem an74_a : an74.clsOf 0 = .mix 30 ∧ an74.frzOf 0 = [] ∧ an74.loopOf 0 = ([],[0],[]):=⟨rfl,rfl,rfl⟩
theorem fi74 : FI Try.prog 74 (cxA an74) x74 [] Try.f74:=fiA Try.func74 mixed
theorem blanks_first (t : ByteArray) (i : Nat) (hs : t.size ≤ 1000000) (hi : i ≤ t.size) : CallOK Try.prog 74 [.ptr 0 0 0] [rd t i] (.tuple []) [rd t (bl t i)]:=by
 refine fi74.og ?_
 unfold rd
 (refine Sg.h ?_;try repeat' ((with_reducible first|refine brA ?_|refine brE fun _=>?_|refine spl ⟨?_,?_⟩<;>intro _)<;>((try simp -implicitDefEqProofs);(try simp -implicitDefEqProofs(disch:=first|assumption|(try simp only[lens]);omega -splitDisjunctions)))))
 refine W_of fun Q hQ=>?_
 have main : ∀ r k,t.size - k = r → k ≤ t.size → bl t k = bl t i → Q [(0,.ptr 0 0 0)] [.rows 2 [[.str t,.int .i64 (k : Int)]]]:=by
  intro r
  induction r with
  | zero=>
   intro k hi hs he
   obtain rfl : k = t.size:=by omega
   have hb:=bl_end (t:=t) (i:=t.size) (by omega)
   rw [hb] at he
   rw [← he] at hQ
   apply hQ
   clear hQ
   (refine Sg.h ?_;try repeat' ((with_reducible first|refine brA ?_|refine brE fun _=>?_|refine spl ⟨?_,?_⟩<;>intro _)<;>((try simp -implicitDefEqProofs);(try simp -implicitDefEqProofs(disch:=first|assumption|(try simp only[lens]);omega -splitDisjunctions)))))
  | succ r ih=>
   intro k hi hs he
   have hlt : k < t.size:=by omega
   cases hb : isBl t[k] with
   | false=>
    have hst:=bl_stop hlt hb
    rw [hst] at he
    rw [← he] at hQ
    simp only [isBl,Bool.or_eq_false_iff,beq_eq_false_iff_ne] at hb
    clear ih
    apply hQ
    clear hQ
    (refine Sg.h ?_;try repeat' ((with_reducible first|refine brA ?_|refine brE fun _=>?_|refine spl ⟨?_,?_⟩<;>intro _)<;>((try simp -implicitDefEqProofs [hlt]);(try simp -implicitDefEqProofs(disch:=first|assumption|(try simp only[lens]);omega -splitDisjunctions) [hlt]))))
    all_goals omega
   | true=>
    have ih:=ih (k + 1) (by omega) (by omega) (by rw [← bl_step hlt hb,he])
    have ih' : Q [(0,.ptr 0 0 0)] [.rows 2 [[.str t,.int .i64 ((k : Int) + 1)]]]:=at2 ih rfl (by simp)
    clear ih he
    simp only [isBl,Bool.or_eq_true,beq_iff_eq] at hb
    apply hQ
    clear hQ
    (refine Sg.h ?_;try repeat' ((with_reducible first|refine brA ?_|refine brE fun _=>?_|refine spl ⟨?_,?_⟩<;>intro _)<;>((try simp -implicitDefEqProofs [hlt]);(try simp -implicitDefEqProofs(disch:=first|assumption|(try simp only[lens]);omega -splitDisjunctions) [hlt]))))
    all_goals first|exact ih' | omega
 all_goals first|exact main _ i rfl hi rfl|(refine at2 main _ i rfl hi rfl ?_ ?_<;>simp;done)|(exfalso;first|omega|(simp_all;done)|(simp_all;omega))
def x82 : XC:=.seq (.reg [⟨some 4,.assign (.const (.bool false)),none⟩]) (.seq (.reg [⟨some 5,.move (.tmp 0),none⟩,⟨some 6,.call ⟨.value (.func 74),#[.tmp 5],#[118]⟩,none⟩]) (.seq (.seq (.drawn 2 [⟨some 7,.move (.tmp 0),none⟩,⟨some 8,.nilCheck (.tmp 7),none⟩,⟨some 9,.fieldAddr 120 (.tmp 8) 0,none⟩,⟨some 10,.load 9 (.tmp 9),none⟩,⟨some 11,.move (.tmp 0),none⟩,⟨some 12,.nilCheck (.tmp 11),none⟩,⟨some 13,.fieldAddr 120 (.tmp 12) 1,none⟩,⟨some 14,.load 3 (.tmp 13),none⟩,⟨some 15,.slice 9 (.tmp 10) (some (.tmp 14)) none none,none⟩,⟨some 16,.move (.tmp 1),none⟩,⟨some 17,.call ⟨.value (.func 99),#[.tmp 15,.tmp 16],#[9,9]⟩,none⟩]) (.cond (.tmp 17) (.seq (.reg [⟨some 18,.move (.tmp 0),none⟩,⟨some 19,.nilCheck (.tmp 18),none⟩,⟨some 20,.fieldAddr 120 (.tmp 19) 1,none⟩,⟨some 21,.load 3 (.tmp 20),none⟩,⟨some 22,.move (.tmp 1),none⟩,⟨some 23,.call ⟨.builtin .len,#[.tmp 22],#[9]⟩,none⟩,⟨some 24,.binOp .add 3 (.tmp 21) (.tmp 23) 3,none⟩,⟨some 25,.nilCheck (.tmp 18),none⟩,⟨some 26,.fieldAddr 120 (.tmp 25) 1,none⟩,⟨none,.store 3 (.tmp 26) (.tmp 24),none⟩]) (.seq (.reg [⟨some 4,.assign (.const (.bool true)),none⟩]) .ret)) .skip)) (.seq (.reg [⟨some 4,.assign (.const (.bool false)),none⟩]) .ret)))
@[simp] theorem x82_s {C e s K} : type_of% (@X_at C e s K _ _ x82.eq_1):=X_at x82.eq_1
def an82 : Ann:=⟨[],[],[]⟩
@[simp] theorem an82_a : an82.clsOf 2 = .draw ∧ an82.frzOf 2 = []:=⟨rfl,rfl⟩
theorem fi82 : FI Try.prog 82 (cxA an82) x82 [.tmp 4] Try.f82:=fiA Try.func82 mixed
theorem may_first (t : ByteArray) (i : Nat) (w : ByteArray) (hs : t.size ≤ 1000000) (hi : i ≤ t.size) (hw : w.size ≤ 1000) : CallOK Try.prog 82 [.ptr 0 0 0,.str w] [rd t i] (.bool (hp t (bl t i) w)) [rd t (mayN t i w)]:=by
 have h1:=blanks_first t i hs hi
 have h2:=HasPrefix_strings (t.extract (bl t i) t.size) w
 have hb:=bl_le hi
 rw [hp_ext hb] at h2
 refine fi82.og ?_
 unfold mayN
 generalize bl t i = k at *
 unfold rd at *
 cases hh : hp t k w with
 | false=>
  rw [hh] at h2
  (refine Sg.h ?_;try repeat' ((with_reducible first|refine brA ?_|refine brE fun _=>?_|refine spl ⟨?_,?_⟩<;>intro _)<;>((try simp -implicitDefEqProofs);(try simp -implicitDefEqProofs(disch:=first|assumption|(try simp only[lens]);omega -splitDisjunctions)))))
  refine CL.of h1 ?_
  (refine Sg.h ?_;try repeat' ((first|(with_reducible first|refine brA ?_|refine brE fun _=>?_|refine spl ⟨?_,?_⟩<;>intro _)|refine clo h2 ?_)<;>((try simp -implicitDefEqProofs [hb]);(try simp -implicitDefEqProofs(disch:=first|assumption|(try simp only[lens]);omega -splitDisjunctions) [hb]))))
 | true=>
  have h3 : k + w.size ≤ t.size:=by simp [hp] at hh;exact hh.1
  rw [hh] at h2
  (refine Sg.h ?_;try repeat' ((with_reducible first|refine brA ?_|refine brE fun _=>?_|refine spl ⟨?_,?_⟩<;>intro _)<;>((try simp -implicitDefEqProofs);(try simp -implicitDefEqProofs(disch:=first|assumption|(try simp only[lens]);omega -splitDisjunctions)))))
  refine CL.of h1 ?_
  (refine Sg.h ?_;try repeat' ((first|(with_reducible first|refine brA ?_|refine brE fun _=>?_|refine spl ⟨?_,?_⟩<;>intro _)|refine clo h2 ?_)<;>((try simp -implicitDefEqProofs [hb]);(try simp -implicitDefEqProofs(disch:=first|assumption|(try simp only[lens]);omega -splitDisjunctions) [hb]))))
theorem may_firstAt (t : ByteArray) (i : Nat) (w : ByteArray) (hs : t.size ≤ 1000000) (hi : i ≤ t.size) (hb : bl t i = i) (hw : w.size ≤ 1000) (b : Bool) (hh : hp t i w = b) : CallOK Try.prog 82 [.ptr 0 0 0,.str w] [rd t i] (.bool b) [rd t (if b = true then i + w.size else i)]:=by
 have:=may_first t i w hs hi hw
 unfold mayN at this
 rw [hb,hh] at this
 exact this
def x75 : XC:=.reg [⟨some 4,.move (.tmp 1),none⟩,⟨some 5,.call ⟨.value (.func 25),#[.const (.int .i64 1),.tmp 4],#[3,3]⟩,none⟩,⟨some 6,.build 109 #[(0,.tmp 5)],none⟩,⟨some 7,.makeInterface 109 (.tmp 6),none⟩,⟨none,.panic (.tmp 7),none⟩]
@[simp] theorem x75_s {C e s K} : type_of% (@X_at C e s K _ _ x75.eq_1):=X_at x75.eq_1
def an75 : Ann:=⟨[],[],[]⟩
theorem fi75 : FI Try.prog 75 (cxA an75) x75 [] Try.f75:=fiA Try.func75 mixed
theorem fail_first (t : ByteArray) (i p : Nat) : CallPan Try.prog 75 [.ptr 0 0 0,.int .i64 (p : Int)] [rd t i] (stopE 1 p) [rd t i]:=by
 have h1:=fault_first 1 p
 refine fi75.pan [] ?_
 unfold rd
 (refine Sg.h ?_;try repeat' ((first|(with_reducible first|refine brA ?_|refine brE fun _=>?_|refine spl ⟨?_,?_⟩<;>intro _)|refine clo h1 ?_)<;>((try simp -implicitDefEqProofs [pan_fst]);(try simp -implicitDefEqProofs(disch:=first|assumption|(try simp only[lens]);omega -splitDisjunctions) [pan_fst]))))
abbrev RA (α : Type):=Except (Nat × Nat) (α × Nat)
def ToldA {α : Type} (enc : α → PV) (F : FuncId) (az : List PV) (t : ByteArray) (i : Nat) : RA α → Prop
 | .ok (f,j)=>CallOK Try.prog F (.ptr 0 0 0 :: az) [rd t i] (enc f) [rd t j] ∧ i ≤ j ∧ j ≤ t.size
 | .error (p,q)=>CallPan Try.prog F (.ptr 0 0 0 :: az) [rd t i] (stopE 1 p) [rd t q]
def wA {α : Type} (enc : α → PV) (P : Program) (rs : List ResultVar) (m : Nat) (t : ByteArray) (R : RA α) : Exit → AE → Store → Prop:=fun x e s=>match R with
 | .ok (f,j)=>wfin P rs (gsFin m (enc f) [rd t j]) x e s
 | .error (p,q)=>panFin [] m (stopE 1 p) [rd t q] x s
section
variable {α : Type} {enc : α → PV} {P : Program} {rs : List ResultVar} {m : Nat} {t : ByteArray} {f : α} {j p q : Nat} {e : AE} {s : Store} {v : Value}
@[simp] theorem wA_on : wA enc P rs m t (.ok (f,j)) .normal e s = FN (xres P (envOf e) s rs) (gsFin m (enc f) [rd t j]) s:=rfl
@[simp] theorem wA_or : wA enc P rs m t (.ok (f,j)) .ret e s = FN (xres P (envOf e) s rs) (gsFin m (enc f) [rd t j]) s:=rfl
@[simp] theorem wA_ep : wA enc P rs m t (.error (p,q)) (pan1 v) e s = panFin [] m (stopE 1 p) [rd t q] (pan1 v) s:=rfl
end
theorem told_a {α : Type} {enc : α → PV} {az : List PV} {F : FuncId} {C : Program → Nat → WC} {x : XC} {rs : List ResultVar} {fn : Func} (i : FI Try.prog F C x rs fn) {t : ByteArray} {k : Nat} {R : RA α} (h : X (C Try.prog 1) x (argsA 0 (.ptr 0 0 0 :: az)) [rd t k] (.fany (wA enc (C Try.prog 1).P rs 1 t R))) (hR : ∀ f j,R = .ok (f,j) → k ≤ j ∧ j ≤ t.size) (hl : Nat.ble (az.length + 1) fn.ntmps = true:=by exact rfl) : ToldA enc F az t k R:=by
 cases R with
 | ok q=>
  obtain ⟨f,j⟩:=q
  have h' : X (C Try.prog 1) x (argsA 0 (.ptr 0 0 0 :: az)) [rd t k] (.fin rs (gsFin 1 (enc f) [rd t j])):=by unfold X at h ⊢;exact h
  exact ⟨i.ogs (s:=[rd t k]) h' hl,hR f j rfl⟩
 | error q=>
  obtain ⟨p,q⟩:=q
  have h' : X (C Try.prog 1) x (argsA 0 (.ptr 0 0 0 :: az)) [rd t k] (.fpan (panFin [] 1 (stopE 1 p) [rd t q])):=by unfold X at h ⊢;exact h
  exact i.pan (s:=[rd t k]) [] h' hl
def capB (b : UInt8) : Bool:=decide (65 ≤ b.toNat ∧ b.toNat ≤ 90)
def letA (b : UInt8) : Bool:=letterB b || capB b
def isBigB (s : ByteArray) : Bool:=decide (1 ≤ s.size ∧ s.size ≤ 8) && (s.data.toList.head?.map capB).getD false && s.data.toList.all letA
theorem or32 (b : UInt8) : (97 ≤ (b ||| 32).toNat ∧ (b ||| 32).toNat ≤ 122) ↔ letA b = true:=by
 have h : ∀ n,n < 256 → ((97 ≤ (UInt8.ofNat n ||| 32).toNat ∧ (UInt8.ofNat n ||| 32).toNat ≤ 122) ↔ letA (UInt8.ofNat n) = true):=by decide
 have:=h b.toNat b.toNat_lt
 rwa [UInt8.ofNat_toNat] at this
theorem or_u8 (b : UInt8) : orI .u8 (b.toNat : Int) 32 = (((b ||| 32).toNat : Nat) : Int):=by
 have h : ∀ n : Nat,n < 256 → orI .u8 (n : Int) 32 = (((UInt8.ofNat n ||| 32).toNat : Nat) : Int):=by decide +kernel
 have:=h b.toNat b.toNat_lt
 rwa [UInt8.ofNat_toNat] at this
theorem all_at {p : UInt8 → Bool} {s : ByteArray} {i : Nat} (h : i < s.size) : (s.data.toList.drop i).all p = (p s[i] && (s.data.toList.drop (i + 1)).all p):=by
 rw [List.drop_eq_getElem_cons (by exact h)];rfl
theorem all_end {p : UInt8 → Bool} {s : ByteArray} {i : Nat} (h : s.size ≤ i) : (s.data.toList.drop i).all p = true:=by
 rw [List.drop_of_length_le (by exact h)];rfl
theorem head_at {s : ByteArray} (h : 0 < s.size) : s.data.toList.head? = some s[0]:=by
 rw [← List.drop_zero (l:=s.data.toList),List.drop_eq_getElem_cons (by exact h)];rfl
theorem isBig_eq {s : ByteArray} (h : 0 < s.size) : isBigB s = (decide (s.size ≤ 8) && capB s[0] && (s.data.toList.drop 0).all letA):=by
 unfold isBigB
 rw [head_at h,List.drop_zero,show decide (1 ≤ s.size ∧ s.size ≤ 8) = decide (s.size ≤ 8) by rw [decide_eq_decide];omega];rfl
def x47_L0 : XC:=.seq (.reg [⟨some 26,.binOp .lss 3 (.tmp 25) (.tmp 24) 3,none⟩]) (.seq (.cond (.tmp 26) .skip (.exit 0)) (.seq (.block 1 (.seq (.reg [⟨some 27,.move (.tmp 25),none⟩,⟨some 3,.assign (.tmp 27),none⟩]) (.seq (.reg [⟨some 28,.move (.tmp 0),none⟩,⟨some 29,.move (.tmp 3),none⟩,⟨some 30,.index 9 (.tmp 28) (.tmp 29),none⟩,⟨some 31,.binOp .or 5 (.tmp 30) (.const (.int .u8 32)) 5,none⟩,⟨some 4,.assign (.tmp 31),none⟩]) (.seq (.reg [⟨some 32,.move (.tmp 4),none⟩,⟨some 33,.binOp .lss 5 (.tmp 32) (.const (.int .u8 97)) 5,none⟩,⟨some 34,.move (.tmp 33),none⟩,⟨some 35,.move (.tmp 4),some (some 34,false)⟩,⟨some 36,.binOp .gtr 5 (.tmp 35) (.const (.int .u8 122)) 5,some (some 34,false)⟩,⟨some 37,.pick (.tmp 34) (.const (.bool true)) (.tmp 36),none⟩]) (.cond (.tmp 37) (.seq (.reg [⟨some 2,.assign (.const (.bool false)),none⟩]) .ret) .skip))))) (.reg [⟨some 38,.binOp .add 3 (.tmp 25) (.const (.int .i64 1)) 3,none⟩,⟨some 25,.move (.tmp 38),none⟩])))
def x47 : XC:=.seq (.reg [⟨some 2,.assign (.const (.bool false)),none⟩]) (.seq (.seq (.reg [⟨some 5,.move (.tmp 0),none⟩,⟨some 6,.call ⟨.builtin .len,#[.tmp 5],#[9]⟩,none⟩,⟨some 7,.binOp .lss 3 (.tmp 6) (.const (.int .i64 1)) 3,none⟩,⟨some 8,.move (.tmp 7),none⟩,⟨some 9,.move (.tmp 0),some (some 8,false)⟩,⟨some 10,.call ⟨.builtin .len,#[.tmp 9],#[9]⟩,some (some 8,false)⟩,⟨some 11,.binOp .gtr 3 (.tmp 10) (.const (.int .i64 8)) 3,some (some 8,false)⟩,⟨some 12,.pick (.tmp 8) (.const (.bool true)) (.tmp 11),none⟩,⟨some 13,.move (.tmp 12),none⟩,⟨some 14,.move (.tmp 0),some (some 13,false)⟩,⟨some 15,.index 9 (.tmp 14) (.const (.int .i64 0)),some (some 13,false)⟩,⟨some 16,.binOp .lss 5 (.tmp 15) (.const (.int .u8 65)) 5,some (some 13,false)⟩,⟨some 17,.pick (.tmp 13) (.const (.bool true)) (.tmp 16),none⟩,⟨some 18,.move (.tmp 17),none⟩,⟨some 19,.move (.tmp 0),some (some 18,false)⟩,⟨some 20,.index 9 (.tmp 19) (.const (.int .i64 0)),some (some 18,false)⟩,⟨some 21,.binOp .gtr 5 (.tmp 20) (.const (.int .u8 90)) 5,some (some 18,false)⟩,⟨some 22,.pick (.tmp 18) (.const (.bool true)) (.tmp 21),none⟩]) (.cond (.tmp 22) (.seq (.reg [⟨some 2,.assign (.const (.bool false)),none⟩]) .ret) .skip)) (.seq (.seq (.reg [⟨some 23,.move (.tmp 0),none⟩,⟨some 24,.call ⟨.builtin .len,#[.tmp 23],#[9]⟩,none⟩,⟨some 25,.move (.const (.int .i64 0)),none⟩]) (.bloop 0 x47_L0)) (.seq (.reg [⟨some 2,.assign (.const (.bool true)),none⟩]) .ret)))
@[simp] theorem x47_s {C e s K} : type_of% (@X_at C e s K _ _ x47_L0.eq_1) ∧ type_of% (@X_at C e s K _ _ x47.eq_1):=⟨X_at x47_L0.eq_1,X_at x47.eq_1⟩
def an47 : Ann:=⟨[],[(0,[],[0,24,25],[2])],[]⟩
@[simp] theorem an47_a : an47.loopOf 0 = ([],[0,24,25],[2]):=rfl
theorem fi47 : FI Try.prog 47 (cxA an47) x47 [.tmp 2] Try.f47:=fiA Try.func47 mixed
theorem IsBig_first (s : ByteArray) : CallOK Try.prog 47 [.str s] [] (.bool (isBigB s)) []:=by
 refine fi47.op ?_
 by_cases h1 : s.size < 1
 ·have : isBigB s = false := by unfold isBigB; rw [decide_eq_false (by omega)]; rfl
  rw [this]
  have h1' : (s.size : Int) < 1:=by omega
  (refine Sg.h ?_;try repeat' ((with_reducible first|refine brA ?_|refine brE fun _=>?_|refine spl ⟨?_,?_⟩<;>intro _)<;>((try simp -implicitDefEqProofs [h1']);(try simp -implicitDefEqProofs(disch:=first|assumption|(try simp only[lens]);omega -splitDisjunctions) [h1']))))
 by_cases h2 : 8 < s.size
 ·have : isBigB s = false := by unfold isBigB; rw [decide_eq_false (by omega)]; rfl
  rw [this]
  have h1' : ¬ (s.size : Int) < 1:=by omega
  have h2' : (8 : Int) < (s.size : Int):=by omega
  (refine Sg.h ?_;try repeat' ((with_reducible first|refine brA ?_|refine brE fun _=>?_|refine spl ⟨?_,?_⟩<;>intro _)<;>((try simp -implicitDefEqProofs [h1',h2']);(try simp -implicitDefEqProofs(disch:=first|assumption|(try simp only[lens]);omega -splitDisjunctions) [h1',h2']))))
 have h0 : 0 < s.size:=by omega
 have h1' : ¬ (s.size : Int) < 1:=by omega
 have h2' : ¬ (8 : Int) < (s.size : Int):=by omega
 obtain ⟨R,hR⟩ : ∃ R,isBigB s = R:=⟨_,rfl⟩
 rw [hR]
 rw [isBig_eq h0,decide_eq_true (by omega),Bool.true_and] at hR
 cases hc : capB s[0] with
 | false=>
  rw [hc] at hR
  subst hR
  simp only [capB,decide_eq_false_iff_not] at hc
  by_cases h3 : 65 ≤ s[0].toNat
  ·have h4 : ¬ ((s[0].toNat : Int) < 65) := by omega
   have h5 : (90 : Int) < (s[0].toNat : Int):=by omega
   (refine Sg.h ?_;try repeat' ((with_reducible first|refine brA ?_|refine brE fun _=>?_|refine spl ⟨?_,?_⟩<;>intro _)<;>((try simp -implicitDefEqProofs [h1',h2',h0,h4,h5]);(try simp -implicitDefEqProofs(disch:=first|assumption|(try simp only[lens]);omega -splitDisjunctions) [h1',h2',h0,h4,h5]))))
  ·have h4 : ((s[0].toNat : Int) < 65) := by omega
   (refine Sg.h ?_;try repeat' ((with_reducible first|refine brA ?_|refine brE fun _=>?_|refine spl ⟨?_,?_⟩<;>intro _)<;>((try simp -implicitDefEqProofs [h1',h2',h0,h4]);(try simp -implicitDefEqProofs(disch:=first|assumption|(try simp only[lens]);omega -splitDisjunctions) [h1',h2',h0,h4]))))
 | true=>
  rw [hc,Bool.true_and] at hR
  simp only [capB,decide_eq_true_eq] at hc
  have h4 : ¬ ((s[0].toNat : Int) < 65):=by omega
  have h5 : ¬ ((90 : Int) < (s[0].toNat : Int)):=by omega
  (refine Sg.h ?_;try repeat' ((with_reducible first|refine brA ?_|refine brE fun _=>?_|refine spl ⟨?_,?_⟩<;>intro _)<;>((try simp -implicitDefEqProofs [h1',h2',h0,h4,h5]);(try simp -implicitDefEqProofs(disch:=first|assumption|(try simp only[lens]);omega -splitDisjunctions) [h1',h2',h0,h4,h5]))))
  refine W_of fun Q hQ=>?_
  have main : ∀ n i,i + n = s.size → (s.data.toList.drop i).all letA = R → Q [(0,.str s),(24,.int .i64 (s.size : Int)),(25,.int .i64 (i : Int))] []:=by
   intro n
   induction n with
   | zero=>
    intro i hi hR
    rw [all_end (by omega)] at hR
    subst hR
    obtain rfl : i = s.size:=by omega
    apply hQ
    clear hQ
    (refine Sg.h ?_;try repeat' ((with_reducible first|refine brA ?_|refine brE fun _=>?_|refine spl ⟨?_,?_⟩<;>intro _)<;>((try simp -implicitDefEqProofs);(try simp -implicitDefEqProofs(disch:=first|assumption|(try simp only[lens]);omega -splitDisjunctions)))))
   | succ n ih=>
    intro i hi hR
    have hlt : i < s.size:=by omega
    have ih:=ih (i + 1) (by omega)
    clear hc h4 h5
    rw [all_at hlt] at hR
    have ho:=or32 s[i]
    cases hL : letA s[i] with
    | true=>
     rw [hL,Bool.true_and] at hR
     have ih:=ih hR
     rw [hL] at ho
     obtain ⟨g1,g2⟩:=ho.2 rfl
     have hu:=or_u8 s[i]
     generalize (s[i] ||| 32).toNat = u at *
     have g3 : ¬ (u : Int) < 97:=by omega
     have g4 : ¬ (122 : Int) < (u : Int):=by omega
     apply hQ
     clear hQ
     (refine Sg.h ?_;try repeat' ((with_reducible first|refine brA ?_|refine brE fun _=>?_|refine spl ⟨?_,?_⟩<;>intro _)<;>((try simp -implicitDefEqProofs [hlt,hu,g3,g4]);(try simp -implicitDefEqProofs(disch:=first|assumption|(try simp only[lens]);omega -splitDisjunctions) [hlt,hu,g3,g4]))))
     all_goals first|exact ih|(refine at2 ih ?_ ?_<;>simp;done)|(exfalso;first|omega|(simp_all;done)|(simp_all;omega))
    | false=>
     rw [hL] at hR
     subst hR
     rw [hL] at ho
     have hu:=or_u8 s[i]
     generalize (s[i] ||| 32).toNat = u at *
     have g3 : (u : Int) < 97 ∨ ¬ (u : Int) < 97 ∧ (122 : Int) < (u : Int):=by
      have : ¬ (97 ≤ u ∧ u ≤ 122):=fun h=>by simpa using ho.1 h
      omega
     apply hQ
     clear hQ ih
     rcases g3 with g3 | ⟨g3,g4⟩
     ·(refine Sg.h ?_;try repeat' ((with_reducible first|refine brA ?_|refine brE fun _=>?_|refine spl ⟨?_,?_⟩<;>intro _)<;>((try simp -implicitDefEqProofs [hlt,hu,g3]);(try simp -implicitDefEqProofs(disch:=first|assumption|(try simp only[lens]);omega -splitDisjunctions) [hlt,hu,g3]))))
     ·(refine Sg.h ?_;try repeat' ((with_reducible first|refine brA ?_|refine brE fun _=>?_|refine spl ⟨?_,?_⟩<;>intro _)<;>((try simp -implicitDefEqProofs [hlt,hu,g3,g4]);(try simp -implicitDefEqProofs(disch:=first|assumption|(try simp only[lens]);omega -splitDisjunctions) [hlt,hu,g3,g4]))))
  all_goals first|exact main _ 0 (Nat.zero_add _) hR|(refine at2 main _ 0 (Nat.zero_add _) hR ?_ ?_<;>simp;done)|(exfalso;first|omega|(simp_all;done)|(simp_all;omega))
def rnk (t : ByteArray) : Nat → Nat → Nat
 | 0,i=>i
 | n + 1,i=>if h : i < t.size then (if letA t[i] = true then rnk t n (i + 1) else i) else i
def lta (t : ByteArray) (i : Nat) : Nat:=rnk t (t.size - i) i
theorem lta_end {t : ByteArray} {i : Nat} (h : ¬ i < t.size) : lta t i = i:=by
 unfold lta;rw [show t.size - i = 0 by omega];rfl
theorem lta_stop {t : ByteArray} {i : Nat} (h : i < t.size) (hb : letA t[i] = false) : lta t i = i:=by
 unfold lta;rw [show t.size - i = (t.size - (i + 1)) + 1 by omega,rnk,dif_pos h,if_neg (by simp [hb])]
theorem lta_step {t : ByteArray} {i : Nat} (h : i < t.size) (hb : letA t[i] = true) : lta t i = lta t (i + 1):=by
 unfold lta;rw [show t.size - i = (t.size - (i + 1)) + 1 by omega,rnk,dif_pos h,if_pos hb]
theorem rnk_le (t : ByteArray) : ∀ n i,i ≤ rnk t n i ∧ (i ≤ t.size → rnk t n i ≤ t.size)
 | 0,i=>⟨Nat.le_refl _,id⟩
 | n + 1,i=>by
  unfold rnk
  split
  ·split
   ·have:=rnk_le t n (i + 1);exact ⟨by omega,fun _=>this.2 (by omega)⟩
   ·exact ⟨Nat.le_refl _,id⟩
  ·exact ⟨Nat.le_refl _,id⟩
theorem lta_ge (t : ByteArray) (i : Nat) : i ≤ lta t i:=(rnk_le t _ i).1
theorem lta_le {t : ByteArray} {i : Nat} (h : i ≤ t.size) : lta t i ≤ t.size:=(rnk_le t _ i).2 h
def ltr (t : ByteArray) (i : Nat) : ByteArray:=t.extract (bl t i) (lta t (bl t i))
def x118_T1 : XC:=.seq (.drawn 5 [⟨some 54,.move (.tmp 0),none⟩,⟨some 55,.nilCheck (.tmp 54),none⟩,⟨some 56,.fieldAddr 120 (.tmp 55) 0,none⟩,⟨some 57,.load 9 (.tmp 56),none⟩,⟨some 58,.move (.tmp 4),none⟩,⟨some 59,.move (.tmp 0),none⟩,⟨some 60,.nilCheck (.tmp 59),none⟩,⟨some 61,.fieldAddr 120 (.tmp 60) 1,none⟩,⟨some 62,.load 3 (.tmp 61),none⟩,⟨some 63,.slice 9 (.tmp 57) (some (.tmp 58)) (some (.tmp 62)) none,none⟩,⟨some 64,.move (.tmp 4),none⟩,⟨some 2,.assign (.tmp 63),none⟩,⟨some 3,.assign (.tmp 64),none⟩]) .ret
def x118_L0 : XC:=.seq (.seq (.drawn 3 [⟨some 11,.move (.tmp 0),none⟩,⟨some 12,.nilCheck (.tmp 11),none⟩,⟨some 13,.fieldAddr 120 (.tmp 12) 1,none⟩,⟨some 14,.load 3 (.tmp 13),none⟩,⟨some 15,.move (.tmp 0),none⟩,⟨some 16,.nilCheck (.tmp 15),none⟩,⟨some 17,.fieldAddr 120 (.tmp 16) 0,none⟩,⟨some 18,.load 9 (.tmp 17),none⟩,⟨some 19,.call ⟨.builtin .len,#[.tmp 18],#[9]⟩,none⟩,⟨some 20,.binOp .lss 3 (.tmp 14) (.tmp 19) 3,none⟩,⟨some 21,.move (.tmp 20),none⟩,⟨some 22,.move (.tmp 0),some (some 21,true)⟩,⟨some 23,.nilCheck (.tmp 22),some (some 21,true)⟩,⟨some 24,.fieldAddr 120 (.tmp 23) 0,some (some 21,true)⟩,⟨some 25,.load 9 (.tmp 24),some (some 21,true)⟩,⟨some 26,.move (.tmp 0),some (some 21,true)⟩,⟨some 27,.nilCheck (.tmp 26),some (some 21,true)⟩,⟨some 28,.fieldAddr 120 (.tmp 27) 1,some (some 21,true)⟩,⟨some 29,.load 3 (.tmp 28),some (some 21,true)⟩,⟨some 30,.index 9 (.tmp 25) (.tmp 29),some (some 21,true)⟩,⟨some 31,.binOp .or 5 (.tmp 30) (.const (.int .u8 32)) 5,some (some 21,true)⟩,⟨some 32,.binOp .geq 5 (.tmp 31) (.const (.int .u8 97)) 5,some (some 21,true)⟩,⟨some 33,.pick (.tmp 21) (.tmp 32) (.const (.bool false)),none⟩,⟨some 34,.move (.tmp 33),none⟩,⟨some 35,.move (.tmp 0),some (some 34,true)⟩,⟨some 36,.nilCheck (.tmp 35),some (some 34,true)⟩,⟨some 37,.fieldAddr 120 (.tmp 36) 0,some (some 34,true)⟩,⟨some 38,.load 9 (.tmp 37),some (some 34,true)⟩,⟨some 39,.move (.tmp 0),some (some 34,true)⟩,⟨some 40,.nilCheck (.tmp 39),some (some 34,true)⟩,⟨some 41,.fieldAddr 120 (.tmp 40) 1,some (some 34,true)⟩,⟨some 42,.load 3 (.tmp 41),some (some 34,true)⟩,⟨some 43,.index 9 (.tmp 38) (.tmp 42),some (some 34,true)⟩,⟨some 44,.binOp .or 5 (.tmp 43) (.const (.int .u8 32)) 5,some (some 34,true)⟩,⟨some 45,.binOp .leq 5 (.tmp 44) (.const (.int .u8 122)) 5,some (some 34,true)⟩,⟨some 46,.pick (.tmp 34) (.tmp 45) (.const (.bool false)),none⟩]) (.cond (.tmp 46) .skip (.exit 0))) (.block 1 (.reg [⟨some 47,.move (.tmp 0),none⟩,⟨some 48,.nilCheck (.tmp 47),none⟩,⟨some 49,.fieldAddr 120 (.tmp 48) 1,none⟩,⟨some 50,.load 3 (.tmp 49),none⟩,⟨some 51,.binOp .add 3 (.tmp 50) (.const (.int .i64 1)) 3,none⟩,⟨some 52,.nilCheck (.tmp 47),none⟩,⟨some 53,.fieldAddr 120 (.tmp 52) 1,none⟩,⟨none,.store 3 (.tmp 53) (.tmp 51),none⟩]))
def x118 : XC:=.seq (.reg [⟨some 2,.assign (.const (.string ⟨#[]⟩)),none⟩,⟨some 3,.assign (.const (.int .i64 0)),none⟩]) (.seq (.reg [⟨some 5,.move (.tmp 0),none⟩,⟨some 6,.call ⟨.value (.func 74),#[.tmp 5],#[118]⟩,none⟩]) (.seq (.reg [⟨some 7,.move (.tmp 0),none⟩,⟨some 8,.nilCheck (.tmp 7),none⟩,⟨some 9,.fieldAddr 120 (.tmp 8) 1,none⟩,⟨some 10,.load 3 (.tmp 9),none⟩,⟨some 4,.assign (.tmp 10),none⟩]) (.seq (.bloop 0 x118_L0) (x118_T1))))
@[simp] theorem x118_s {C e s K} : type_of% (@X_at C e s K _ _ x118_T1.eq_1) ∧ type_of% (@X_at C e s K _ _ x118_L0.eq_1) ∧ type_of% (@X_at C e s K _ _ x118.eq_1):=⟨X_at x118_T1.eq_1,X_at x118_L0.eq_1,X_at x118.eq_1⟩
def an118 : Ann:=⟨[(3,.mix 32)],[(0,[],[0,4],[0,4])],[]⟩
@[simp] theorem an118_a : an118.clsOf 3 = .mix 32 ∧ an118.clsOf 5 = .draw ∧ an118.frzOf 3 = [] ∧ an118.frzOf 5 = [] ∧ an118.loopOf 0 = ([],[0,4],[0,4]):=⟨rfl,rfl,rfl,rfl,rfl⟩
theorem fi118 : FI Try.prog 118 (cxA an118) x118 [.tmp 2,.tmp 3] Try.f118:=fiA Try.func118 mixed
theorem letters_first (t : ByteArray) (i : Nat) (hs : t.size ≤ 1000000) (hi : i ≤ t.size) : CallOK Try.prog 118 [.ptr 0 0 0] [rd t i] (.tuple [.str (ltr t i),.int .i64 (bl t i : Int)]) [rd t (lta t (bl t i))]:=by
 have h1:=blanks_first t i hs hi
 have hb:=bl_le hi
 refine fi118.og ?_
 unfold ltr
 generalize bl t i = b at *
 unfold rd at *
 (refine Sg.h ?_;try repeat' ((with_reducible first|refine brA ?_|refine brE fun _=>?_|refine spl ⟨?_,?_⟩<;>intro _)<;>((try simp -implicitDefEqProofs);(try simp -implicitDefEqProofs(disch:=first|assumption|(try simp only[lens]);omega -splitDisjunctions)))))
 refine CL.of h1 ?_
 (refine Sg.h ?_;try repeat' ((with_reducible first|refine brA ?_|refine brE fun _=>?_|refine spl ⟨?_,?_⟩<;>intro _)<;>((try simp -implicitDefEqProofs);(try simp -implicitDefEqProofs(disch:=first|assumption|(try simp only[lens]);omega -splitDisjunctions)))))
 refine W_of fun Q hQ=>?_
 have main : ∀ r k,t.size - k = r → b ≤ k → k ≤ t.size → lta t k = lta t b → Q [(0,.ptr 0 0 0),(4,.int .i64 (b : Int))] [.rows 2 [[.str t,.int .i64 (k : Int)]]]:=by
  intro r
  induction r with
  | zero=>
   intro k hi hbk hs he
   obtain rfl : k = t.size:=by omega
   have hb:=lta_end (t:=t) (i:=t.size) (by omega)
   rw [hb] at he
   rw [← he] at hQ
   apply hQ
   clear hQ
   (refine Sg.h ?_;try repeat' ((with_reducible first|refine brA ?_|refine brE fun _=>?_|refine spl ⟨?_,?_⟩<;>intro _)<;>((try simp -implicitDefEqProofs [hbk]);(try simp -implicitDefEqProofs(disch:=first|assumption|(try simp only[lens]);omega -splitDisjunctions) [hbk]))))
  | succ r ih=>
   intro k hi hbk hs he
   have hlt : k < t.size:=by omega
   have ho:=or32 t[k]
   have hu:=or_u8 t[k]
   generalize (t[k] ||| 32).toNat = u at *
   cases hb : letA t[k] with
   | false=>
    have hst:=lta_stop hlt hb
    rw [hst] at he
    rw [← he] at hQ
    rw [hb] at ho
    have g3 : (u : Int) < 97 ∨ (97 : Int) ≤ (u : Int) ∧ ¬ (u : Int) ≤ 122:=by
     have : ¬ (97 ≤ u ∧ u ≤ 122):=fun h=>by simpa using ho.1 h
     omega
    clear ih
    apply hQ
    clear hQ
    rcases g3 with g3 | ⟨g3,g4⟩
    ·have g3' : ¬ (97 : Int) ≤ (u : Int) := by omega
     (refine Sg.h ?_;try repeat' ((with_reducible first|refine brA ?_|refine brE fun _=>?_|refine spl ⟨?_,?_⟩<;>intro _)<;>((try simp -implicitDefEqProofs [hlt,hu,g3,g3',hbk]);(try simp -implicitDefEqProofs(disch:=first|assumption|(try simp only[lens]);omega -splitDisjunctions) [hlt,hu,g3,g3',hbk]))))
     all_goals omega
    ·(refine Sg.h ?_;try repeat' ((with_reducible first|refine brA ?_|refine brE fun _=>?_|refine spl ⟨?_,?_⟩<;>intro _)<;>((try simp -implicitDefEqProofs [hlt,hu,g3,g4,hbk]); (try simp -implicitDefEqProofs(disch:=first|assumption|(try simp only[lens]);omega -splitDisjunctions) [hlt,hu,g3,g4,hbk]))))
     all_goals omega
   | true=>
    rw [hb] at ho
    obtain ⟨g1,g2⟩:=ho.2 rfl
    have g3 : (97 : Int) ≤ (u : Int):=by omega
    have g4 : (u : Int) ≤ 122:=by omega
    have ih:=ih (k + 1) (by omega) (by omega) (by omega) (by rw [← lta_step hlt hb,he])
    clear he
    apply hQ
    clear hQ
    (refine Sg.h ?_;try repeat' ((with_reducible first|refine brA ?_|refine brE fun _=>?_|refine spl ⟨?_,?_⟩<;>intro _)<;>((try simp -implicitDefEqProofs [hlt,hu,g3,g4]);(try simp -implicitDefEqProofs(disch:=first|assumption|(try simp only[lens]);omega -splitDisjunctions) [hlt,hu,g3,g4]))))
    all_goals first|exact ih|(refine at2 ih ?_ ?_<;>simp;done)|(exfalso;first|omega|(simp_all;done)|(simp_all;omega))
 all_goals first|exact main _ b rfl (Nat.le_refl _) hb rfl|(refine at2 main _ b rfl (Nat.le_refl _) hb rfl ?_ ?_<;>simp;done)|(exfalso;first|omega|(simp_all;done)|(simp_all;omega))
def varP (t : ByteArray) (i : Nat) : RA ByteArray:=if isNameB (ltr t i) = true then .ok (ltr t i,lta t (bl t i)) else .error (bl t i,lta t (bl t i))
def x113 : XC:=.seq (.reg [⟨some 2,.assign (.const (.string ⟨#[]⟩)),none⟩]) (.seq (.reg [⟨some 6,.move (.tmp 0),none⟩,⟨some 7,.call ⟨.value (.func 118),#[.tmp 6],#[118]⟩,none⟩,⟨some 5,.move (.tmp 7),none⟩,⟨some 8,.extract (.tmp 5) 0,none⟩,⟨some 9,.extract (.tmp 5) 1,none⟩,⟨some 3,.assign (.tmp 8),none⟩,⟨some 4,.assign (.tmp 9),none⟩]) (.seq (.seq (.reg [⟨some 10,.move (.tmp 3),none⟩,⟨some 11,.call ⟨.value (.func 24),#[.tmp 10],#[9]⟩,none⟩,⟨some 12,.unOp .not 4 (.tmp 11),none⟩]) (.cond (.tmp 12) (.reg [⟨some 13,.move (.tmp 0),none⟩,⟨some 14,.move (.tmp 4),none⟩,⟨some 15,.call ⟨.value (.func 75),#[.tmp 13,.tmp 14],#[118,3]⟩,none⟩]) .skip)) (.seq (.reg [⟨some 16,.move (.tmp 3),none⟩,⟨some 2,.assign (.tmp 16),none⟩]) .ret)))
@[simp] theorem x113_s {C e s K} : type_of% (@X_at C e s K _ _ x113.eq_1):=X_at x113.eq_1
def an113 : Ann:=⟨[],[],[]⟩
theorem fi113 : FI Try.prog 113 (cxA an113) x113 [.tmp 2] Try.f113:=fiA Try.func113 mixed
theorem variable_first (t : ByteArray) (i : Nat) (hs : t.size ≤ 1000000) (hi : i ≤ t.size) : ToldA (fun s=>.str s) 113 [] t i (varP t i):=by
 have h1:=letters_first t i hs hi
 have hb1:=bl_ge t i
 have hb2:=bl_le hi
 have hb3:=lta_ge t (bl t i)
 have hb4:=lta_le hb2
 have h2:=isName_formula (ltr t i) []
 unfold varP
 refine told_a fi113 ?_ (fun f j e=>by
  split at e
  ·cases e;omega
  ·cases e)
 have hf:=fail_first t (lta t (bl t i)) (bl t i)
 generalize ltr t i = w at *
 generalize lta t (bl t i) = k at *
 generalize bl t i = b at *
 cases hn : isNameB w with
 | true=>
  rw [hn] at h2
  rw [if_pos rfl]
  (refine Sg.h ?_;try repeat' ((with_reducible first|refine brA ?_|refine brE fun _=>?_|refine spl ⟨?_,?_⟩<;>intro _)<;>((try simp -implicitDefEqProofs);(try simp -implicitDefEqProofs(disch:=first|assumption|(try simp only[lens]);omega -splitDisjunctions)))))
  refine CL.sub [0] h1 ?_
  (refine Sg.h ?_;try repeat' ((first|(with_reducible first|refine brA ?_|refine brE fun _=>?_|refine spl ⟨?_,?_⟩<;>intro _)|refine clo h2 ?_)<;>((try simp -implicitDefEqProofs);(try simp -implicitDefEqProofs(disch:=first|assumption|(try simp only[lens]);omega -splitDisjunctions)))))
 | false=>
  rw [hn] at h2
  rw [if_neg (by decide)]
  (refine Sg.h ?_;try repeat' ((with_reducible first|refine brA ?_|refine brE fun _=>?_|refine spl ⟨?_,?_⟩<;>intro _)<;>((try simp -implicitDefEqProofs);(try simp -implicitDefEqProofs(disch:=first|assumption|(try simp only[lens]);omega -splitDisjunctions)))))
  refine CL.sub [0] h1 ?_
  (refine Sg.h ?_;try repeat' ((first|(with_reducible first|refine brA ?_|refine brE fun _=>?_|refine spl ⟨?_,?_⟩<;>intro _)|refine clo h2 ?_)<;>((try simp -implicitDefEqProofs);(try simp -implicitDefEqProofs(disch:=first|assumption|(try simp only[lens]);omega -splitDisjunctions)))))
  refine CL.psub [0] hf ?_
  (refine Sg.h ?_;try repeat' ((with_reducible first|refine brA ?_|refine brE fun _=>?_|refine spl ⟨?_,?_⟩<;>intro _)<;>((try simp -implicitDefEqProofs);(try simp -implicitDefEqProofs(disch:=first|assumption|(try simp only[lens]);omega -splitDisjunctions)))))
end Go.Proofs.Ytbimioonhfhflaa
