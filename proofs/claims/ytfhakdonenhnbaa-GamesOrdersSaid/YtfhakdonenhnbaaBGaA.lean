import Derived.Test.YtfhakdonenhnbaaBGaP
set_option linter.unusedVariables false
set_option linter.unusedSimpArgs false
set_option maxRecDepth 100000
set_option maxHeartbeats 4000000
namespace Go.Proofs.Ytfhakdonenhnbaa
open Go Go.Pv
def ci (c : List Int) : List PV:=c.map fun n=>.int .i64 n
section
variable {c : List Int}
theorem ci_flat (c : List Int) : (ci c).all flatV = true:=by simp [ci,flatV]
instance : FlatRow ci:=⟨ci_flat⟩
@[simp] theorem ci_len : (ci c).length = c.length:=by simp [ci]
@[simp] theorem ci_cell : (ci c).all isCell = true:=by simp [ci]
@[simp] theorem ci_isCell : (∀ x ∈ ci c,isCell x = true) = True:=by simp [ci]
theorem ci_get {i : Nat} {v : Int} (h : c[i]? = some v) : (ci c)[i]? = some (.int .i64 v):=by simp [ci,h]
@[simp] theorem ci_set {i : Nat} {v : Int} : (ci c).set i (.int .i64 v) = ci (c.set i v):=by simp [ci,List.map_set]
theorem ci_splice {i : Nat} {v : Int} (h : i < c.length) : (ci c).take i ++ .int .i64 v :: (ci c).drop (i + 1) = ci (c.set i v):=by
 rw [← ci_set,List.set_eq_take_append_cons_drop,if_pos (by simpa using h)]
@[simp] theorem ci_tail : (ci c).tail = ci c.tail:=by cases c <;> rfl
theorem ci_app {d : List Int} : ci c ++ ci d = ci (c ++ d):=by simp [ci]
@[simp] theorem ci_renm {ρ : List Nat} {n : Nat} : (ci c).map (renN ρ n) = ci c:=map_id_of (fun v=>flat_ren) (ci_flat c)
@[simp] theorem ci_derefm {s : Store} {n : Nat} : (ci c).map (deref s n) = ci c:=map_id_of (fun v=>flat_deref) (ci_flat c)
@[simp] theorem ci_frz {F : List Nat} {s : Store} : (ci c).map (frzV F s) = ci c:=map_id_of (fun v=>frzV_flat) (ci_flat c)
@[simp] theorem ci_up {ρ : List Nat} {n : Nat} : (ci c).map (upN ρ n) = ci c:=map_id_of (fun v=>flat_up) (ci_flat c)
@[simp] theorem ci_refs {n : Nat} : (ci c).flatMap (refsN n) = []:=by
 induction c with
 | nil=>rfl
 | cons a r ih=>show refsN n (.int .i64 a) ++ (ci r).flatMap (refsN n) = [];rw [ih];simp
@[simp] theorem ci_soft : (ci c).map soft1 = ci c:=by
 induction c with
 | nil=>rfl
 | cons a r ih=>show soft1 (.int .i64 a) :: (ci r).map soft1 = _;rw [ih];rfl
@[simp] theorem cl_ci : Closed (.agg (ci c)):=closed_agg (by simp)
end
def x27_T1 : XC:=.seq (.reg [⟨some 14,.move (.tmp 3),none⟩,⟨some 2,.assign (.tmp 14),none⟩]) .ret
def x27_L0 : XC:=.seq (.reg [⟨some 7,.binOp .lss 3 (.tmp 6) (.tmp 5) 3,none⟩]) (.seq (.cond (.tmp 7) .skip (.exit 0)) (.seq (.block 1 (.seq (.reg [⟨some 8,.move (.tmp 6),none⟩,⟨some 4,.assign (.tmp 8),none⟩]) (.reg [⟨some 9,.move (.tmp 3),none⟩,⟨some 10,.move (.tmp 4),none⟩,⟨some 11,.buildSlice 58 1 #[(0,.tmp 10)],none⟩,⟨some 12,.call ⟨.builtin .append,#[.tmp 9,.tmp 11],#[58,58]⟩,none⟩,⟨some 3,.assign (.tmp 12),none⟩]))) (.reg [⟨some 13,.binOp .add 3 (.tmp 6) (.const (.int .i64 1)) 3,none⟩,⟨some 6,.move (.tmp 13),none⟩])))
def x27 : XC:=.seq (.reg [⟨some 2,.assign (.const (.slice none 0 0)),none⟩]) (.seq (.reg [⟨some 3,.assign (.const (.slice none 0 0)),none⟩]) (.seq (.seq (.reg [⟨some 5,.move (.tmp 0),none⟩,⟨some 6,.move (.const (.int .i64 0)),none⟩]) (.bloop 0 x27_L0)) (x27_T1)))
@[simp] theorem x27_s {C e s K} : type_of% (@X_at C e s K _ _ x27_T1.eq_1) ∧ type_of% (@X_at C e s K _ _ x27_L0.eq_1) ∧ type_of% (@X_at C e s K _ _ x27.eq_1):=⟨X_at x27_T1.eq_1,X_at x27_L0.eq_1,X_at x27.eq_1⟩
def an27 : Ann:=⟨[],[(0,[(3,none,1)],[3,5,6],[3])],[]⟩
@[simp] theorem an27_a : an27.loopOf 0 = ([(3,none,1)],[3,5,6],[3]):=rfl
theorem fi27 : FI Try.prog 27 (cxA an27) x27 [.tmp 2] Try.f27:=fiA Try.func27 mixed
theorem upTo_games (n : Nat) (hn : n ≤ 1000) : CallOK Try.prog 27 [.int .i64 (n : Int)] [] (.list ((List.range n).map numRow)) []:=by
 refine fi27.op ?_
 (refine Sg.h ?_;try repeat' ((with_reducible first|refine brA ?_|refine brE fun _=>?_|refine spl ⟨?_,?_⟩<;>intro _)<;>((try simp -implicitDefEqProofs);(try simp -implicitDefEqProofs(disch:=first|assumption|(try simp only[lens]);omega -splitDisjunctions)))))
 refine W_of fun Q hQ=>?_
 have main : ∀ k i,i + k = n → Q [(3,.sl 0 0 i),(5,.int .i64 (n : Int)),(6,.int .i64 (i : Int))] [.rows 1 ((List.range i).map numRow)]:=by
  intro k
  induction k with
  | zero=>
   intro i hi
   obtain rfl : i = n:=by omega
   have ht : ((List.range i).map numRow).take i = (List.range i).map numRow:=List.take_of_length_le (by simp)
   apply hQ
   clear hQ
   (refine Sg.h ?_;try repeat' ((with_reducible first|refine brA ?_|refine brE fun _=>?_|refine spl ⟨?_,?_⟩<;>intro _)<;>((try simp -implicitDefEqProofs [ht]);(try simp -implicitDefEqProofs(disch:=first|assumption|(try simp only[lens]);omega -splitDisjunctions) [ht]))))
  | succ k ih=>
   intro i hi
   have ih:=ih (i + 1) (by omega)
   rw [List.range_succ,List.map_append] at ih
   have ht : ((List.range i).map numRow).take i = (List.range i).map numRow:=List.take_of_length_le (by simp)
   have hi' : (i : Int) < (n : Int):=by omega
   apply hQ
   clear hQ
   (refine Sg.h ?_;try repeat' ((with_reducible first|refine brA ?_|refine brE fun _=>?_|refine spl ⟨?_,?_⟩<;>intro _)<;>((try simp -implicitDefEqProofs [hi',ht]);(try simp -implicitDefEqProofs(disch:=first|assumption|(try simp only[lens]);omega -splitDisjunctions) [hi',ht]))))
   all_goals first|exact ih|(refine at2 ih ?_ ?_ <;> simp [numRow];done) | (exfalso;first | omega | (simp_all;done) | (simp_all;omega))
 all_goals first|exact main n 0 (Nat.zero_add _)|(refine at2 main n 0 (Nat.zero_add _) ?_ ?_<;>simp;done)|(exfalso;first|omega|(simp_all;done)|(simp_all;omega))
def addC (c : List Int) (n : Nat) (x y : Int) : List Int:=(((c.set (1 + n) x).set (5 + n) y).set 0 ((n : Int) + 1))
def x29 : XC:=.seq (.reg [⟨some 3,.box 53 (.tmp 0),none⟩,⟨some 6,.alloc 53,none⟩]) (.seq (.reg [⟨some 7,.fieldAddr 53 (.tmp 3) 0,none⟩,⟨some 8,.load 3 (.tmp 7),none⟩,⟨some 9,.fieldAddr 53 (.tmp 3) 0,none⟩,⟨some 10,.load 3 (.tmp 9),none⟩,⟨some 11,.move (.tmp 1),none⟩,⟨some 12,.move (.tmp 2),none⟩,⟨some 13,.fieldAddr 53 (.tmp 3) 1,none⟩,⟨some 14,.indexAddr 51 (.tmp 13) (.tmp 8),none⟩,⟨none,.store 3 (.tmp 14) (.tmp 11),none⟩,⟨some 15,.fieldAddr 53 (.tmp 3) 2,none⟩,⟨some 16,.indexAddr 51 (.tmp 15) (.tmp 10),none⟩,⟨none,.store 3 (.tmp 16) (.tmp 12),none⟩]) (.seq (.reg [⟨some 17,.fieldAddr 53 (.tmp 3) 0,none⟩,⟨some 18,.load 3 (.tmp 17),none⟩,⟨some 19,.binOp .add 3 (.tmp 18) (.const (.int .i64 1)) 3,none⟩,⟨some 20,.fieldAddr 53 (.tmp 3) 0,none⟩,⟨none,.store 3 (.tmp 20) (.tmp 19),none⟩]) (.seq (.reg [⟨some 21,.load 53 (.tmp 3),none⟩,⟨none,.store 53 (.tmp 6) (.tmp 21),none⟩]) .ret)))
@[simp] theorem x29_s {C e s K} : type_of% (@X_at C e s K _ _ x29.eq_1):=X_at x29.eq_1
def an29 : Ann:=⟨[],[],[]⟩
theorem fi29 : FI Try.prog 29 (cxA an29) x29 [.cell 6 53] Try.f29:=fiA Try.func29 mixed
theorem more_games (c : List Int) (hc : c.length = 9) (n : Nat) (h0 : c[0]? = some (n : Int)) (hn : n < 4) (x y : Int) : CallOK Try.prog 29 [.agg (ci c),.int .i64 x,.int .i64 y] [] (.agg (ci (addC c n x y))) []:=by
 have g0 : ∀ h, (ci c)[0]'h = .int .i64 (n : Int):=fun h=>Option.some.inj ((List.getElem?_eq_getElem h).symm.trans (ci_get h0))
 have g1 : ((c.set (1 + n) x).set (5 + n) y)[0]? = some (n : Int):=by rw [List.getElem?_set_ne (by omega),List.getElem?_set_ne (by omega)];exact h0
 have s1:=ci_splice (c:=c) (i:=1 + n) (v:=x) (by omega)
 have s2:=ci_splice (c:=c.set (1 + n) x) (i:=5 + n) (v:=y) (by simp;omega)
 unfold addC
 have hC : ((c.set (1 + n) x).set (5 + n) y).length = 9:=by simp [hc]
 generalize (c.set (1 + n) x).set (5 + n) y = C at *
 have g1 : ∀ h, (ci C)[0]'h = .int .i64 (n : Int):=fun h=>Option.some.inj ((List.getElem?_eq_getElem h).symm.trans (ci_get g1))
 have hset : .int .i64 ((n : Int) + 1) :: ci C.tail = ci (C.set 0 ((n : Int) + 1)):=by
  cases C with
  | nil=>cases hC
  | cons a r=>rfl
 have ht : (ci C.tail).take 8 = ci C.tail:=List.take_of_length_le (by simp [hC])
 refine fi29.op ?_
 have h5 : 5 + n ≤ 8:=by omega
 have h6 : (n : Int) < 4:=by omega
 have h7 : 1 + n ≤ 8:=by omega
 (refine Sg.h ?_;try repeat' ((with_reducible first|refine brA ?_|refine brE fun _=>?_|refine spl ⟨?_,?_⟩<;>intro _)<;>((try simp -implicitDefEqProofs [g0,g1,hc,hC,s1,s2,ht,hset,h5,h6,h7]);(try simp -implicitDefEqProofs(disch:=first|assumption|(try simp only[lens]);omega -splitDisjunctions) [g0,g1,hc,hC,s1,s2,ht,hset,h5,h6,h7]))))
def allFrom (f : Nat → Bool) (i n : Nat) : Bool:=(List.range' i (n - i)).all f
theorem allFrom_zero {f : Nat → Bool} {n : Nat} : (List.range n).all f = allFrom f 0 n:=by unfold allFrom;rw [List.range_eq_range',Nat.sub_zero]
theorem allFrom_end {f : Nat → Bool} {n : Nat} : allFrom f n n = true:=by unfold allFrom;rw [Nat.sub_self];rfl
theorem allFrom_step {f : Nat → Bool} {i n : Nat} (h : i < n) : allFrom f i n = (f i && allFrom f (i + 1) n):=by
 unfold allFrom
 rw [show n - i = (n - (i + 1)) + 1 by omega,List.range'_succ,List.all_cons]
theorem at0_lt {l : List Nat} {A i : Nat} (h : ∀ x ∈ l,x < A) (hi : i < l.length) : at0 l i < A:=by
 unfold at0
 rw [List.getD_eq_getElem?_getD,List.getElem?_eq_getElem hi]
 exact h _ (List.getElem_mem hi)
theorem bitAt_get {p : Pd} {j : Nat} (h : j < p.bits.length) : p.bits[j] = bitAt p j:=by
 unfold bitAt
 rw [List.getD_eq_getElem?_getD,List.getElem?_eq_getElem h];rfl
def brdC (A B : Nat) (P Q : List Pd) (m : PV) : List PV:=[.int .i64 (A : Int),.list [],.list (P.map pdRow),.int .i64 (B : Int),.list [],.list (Q.map pdRow),m]
attribute [simp] brdC
def x25_L11 : XC:=.seq (.reg [⟨some 111,.binOp .lss 3 (.tmp 110) (.tmp 109) 3,none⟩]) (.seq (.cond (.tmp 111) .skip (.exit 11)) (.seq (.block 12 (.seq (.reg [⟨some 112,.move (.tmp 110),none⟩,⟨some 12,.assign (.tmp 112),none⟩]) (.seq (.drawn 33 [⟨some 113,.fieldAddr 64 (.tmp 8) 2,none⟩,⟨some 114,.load 62 (.tmp 113),none⟩,⟨some 115,.move (.tmp 11),none⟩,⟨some 116,.fieldAddr 53 (.tmp 3) 1,none⟩,⟨some 117,.indexAddr 51 (.tmp 116) (.tmp 115),none⟩,⟨some 118,.load 3 (.tmp 117),none⟩,⟨some 119,.move (.tmp 12),none⟩,⟨some 120,.fieldAddr 53 (.tmp 3) 1,none⟩,⟨some 121,.indexAddr 51 (.tmp 120) (.tmp 119),none⟩,⟨some 122,.load 3 (.tmp 121),none⟩,⟨some 123,.move (.tmp 0),none⟩,⟨some 124,.nilCheck (.tmp 123),none⟩,⟨some 125,.fieldAddr 49 (.tmp 124) 0,none⟩,⟨some 126,.fieldAddr 25 (.tmp 125) 0,none⟩,⟨some 127,.load 3 (.tmp 126),none⟩,⟨some 128,.binOp .mul 3 (.tmp 122) (.tmp 127) 3,none⟩,⟨some 129,.binOp .add 3 (.tmp 118) (.tmp 128) 3,none⟩,⟨some 130,.indexAddr 62 (.tmp 114) (.tmp 129),none⟩,⟨some 131,.load 4 (.tmp 130),none⟩,⟨some 132,.fieldAddr 64 (.tmp 9) 2,none⟩,⟨some 133,.load 62 (.tmp 132),none⟩,⟨some 134,.move (.tmp 11),none⟩,⟨some 135,.fieldAddr 53 (.tmp 3) 2,none⟩,⟨some 136,.indexAddr 51 (.tmp 135) (.tmp 134),none⟩,⟨some 137,.load 3 (.tmp 136),none⟩,⟨some 138,.move (.tmp 12),none⟩,⟨some 139,.fieldAddr 53 (.tmp 3) 2,none⟩,⟨some 140,.indexAddr 51 (.tmp 139) (.tmp 138),none⟩,⟨some 141,.load 3 (.tmp 140),none⟩,⟨some 142,.move (.tmp 0),none⟩,⟨some 143,.nilCheck (.tmp 142),none⟩,⟨some 144,.fieldAddr 49 (.tmp 143) 1,none⟩,⟨some 145,.fieldAddr 25 (.tmp 144) 0,none⟩,⟨some 146,.load 3 (.tmp 145),none⟩,⟨some 147,.binOp .mul 3 (.tmp 141) (.tmp 146) 3,none⟩,⟨some 148,.binOp .add 3 (.tmp 137) (.tmp 147) 3,none⟩,⟨some 149,.indexAddr 62 (.tmp 133) (.tmp 148),none⟩,⟨some 150,.load 4 (.tmp 149),none⟩,⟨some 151,.binOp .neq 4 (.tmp 131) (.tmp 150) 4,none⟩]) (.cond (.tmp 151) (.seq (.reg [⟨some 4,.assign (.const (.bool false)),none⟩]) .ret) .skip)))) (.reg [⟨some 152,.binOp .add 3 (.tmp 110) (.const (.int .i64 1)) 3,none⟩,⟨some 110,.move (.tmp 152),none⟩])))
def x25_L9 : XC:=.seq (.reg [⟨some 106,.binOp .lss 3 (.tmp 105) (.tmp 104) 3,none⟩]) (.seq (.cond (.tmp 106) .skip (.exit 9)) (.seq (.block 10 (.seq (.reg [⟨some 107,.move (.tmp 105),none⟩,⟨some 11,.assign (.tmp 107),none⟩]) (.seq (.reg [⟨some 108,.fieldAddr 53 (.tmp 3) 0,none⟩,⟨some 109,.load 3 (.tmp 108),none⟩,⟨some 110,.move (.const (.int .i64 0)),none⟩]) (.bloop 11 x25_L11)))) (.reg [⟨some 153,.binOp .add 3 (.tmp 105) (.const (.int .i64 1)) 3,none⟩,⟨some 105,.move (.tmp 153),none⟩])))
def x25_L7 : XC:=.seq (.reg [⟨some 81,.binOp .lss 3 (.tmp 80) (.tmp 79) 3,none⟩]) (.seq (.cond (.tmp 81) .skip (.exit 7)) (.seq (.block 8 (.seq (.reg [⟨some 82,.move (.tmp 80),none⟩,⟨some 10,.assign (.tmp 82),none⟩]) (.seq (.drawn 23 [⟨some 83,.fieldAddr 64 (.tmp 8) 2,none⟩,⟨some 84,.load 62 (.tmp 83),none⟩,⟨some 85,.move (.tmp 10),none⟩,⟨some 86,.fieldAddr 53 (.tmp 3) 1,none⟩,⟨some 87,.indexAddr 51 (.tmp 86) (.tmp 85),none⟩,⟨some 88,.load 3 (.tmp 87),none⟩,⟨some 89,.indexAddr 62 (.tmp 84) (.tmp 88),none⟩,⟨some 90,.load 4 (.tmp 89),none⟩,⟨some 91,.fieldAddr 64 (.tmp 9) 2,none⟩,⟨some 92,.load 62 (.tmp 91),none⟩,⟨some 93,.move (.tmp 10),none⟩,⟨some 94,.fieldAddr 53 (.tmp 3) 2,none⟩,⟨some 95,.indexAddr 51 (.tmp 94) (.tmp 93),none⟩,⟨some 96,.load 3 (.tmp 95),none⟩,⟨some 97,.indexAddr 62 (.tmp 92) (.tmp 96),none⟩,⟨some 98,.load 4 (.tmp 97),none⟩,⟨some 99,.binOp .neq 4 (.tmp 90) (.tmp 98) 4,none⟩]) (.cond (.tmp 99) (.seq (.reg [⟨some 4,.assign (.const (.bool false)),none⟩]) .ret) .skip)))) (.reg [⟨some 100,.binOp .add 3 (.tmp 80) (.const (.int .i64 1)) 3,none⟩,⟨some 80,.move (.tmp 100),none⟩])))
def x25_L4 : XC:=.seq (.reg [⟨some 51,.binOp .lss 3 (.tmp 50) (.tmp 49) 3,none⟩]) (.seq (.cond (.tmp 51) .skip (.exit 4)) (.seq (.block 5 (.seq (.reg [⟨some 52,.move (.tmp 50),none⟩,⟨some 53,.indexAddr 23 (.tmp 48) (.tmp 50),none⟩,⟨some 54,.load 64 (.tmp 53),none⟩,⟨some 8,.alloc 64,none⟩,⟨some 7,.assign (.tmp 52),none⟩,⟨none,.store 64 (.tmp 8) (.tmp 54),none⟩]) (.seq (.reg [⟨some 55,.move (.tmp 0),none⟩,⟨some 56,.nilCheck (.tmp 55),none⟩,⟨some 57,.fieldAddr 49 (.tmp 56) 1,none⟩,⟨some 58,.fieldAddr 25 (.tmp 57) 2,none⟩,⟨some 59,.load 23 (.tmp 58),none⟩,⟨some 60,.move (.tmp 7),none⟩,⟨some 61,.indexAddr 23 (.tmp 59) (.tmp 60),none⟩,⟨some 62,.load 64 (.tmp 61),none⟩,⟨some 9,.alloc 64,none⟩,⟨none,.store 64 (.tmp 9) (.tmp 62),none⟩]) (.seq (.reg [⟨some 63,.fieldAddr 64 (.tmp 8) 1,none⟩,⟨some 64,.load 3 (.tmp 63),none⟩]) (.block 6 (.seq (.reg [⟨some 66,.binOp .eql 3 (.tmp 64) (.const (.int .i64 0)) 3,none⟩,⟨some 65,.assign (.tmp 66),none⟩]) (.cond (.tmp 65) (.seq (.drawn 17 [⟨some 67,.fieldAddr 64 (.tmp 8) 2,none⟩,⟨some 68,.load 62 (.tmp 67),none⟩,⟨some 69,.indexAddr 62 (.tmp 68) (.const (.int .i64 0)),none⟩,⟨some 70,.load 4 (.tmp 69),none⟩,⟨some 71,.fieldAddr 64 (.tmp 9) 2,none⟩,⟨some 72,.load 62 (.tmp 71),none⟩,⟨some 73,.indexAddr 62 (.tmp 72) (.const (.int .i64 0)),none⟩,⟨some 74,.load 4 (.tmp 73),none⟩,⟨some 75,.binOp .neq 4 (.tmp 70) (.tmp 74) 4,none⟩]) (.cond (.tmp 75) (.seq (.reg [⟨some 4,.assign (.const (.bool false)),none⟩]) .ret) .skip)) (.seq (.reg [⟨some 77,.binOp .eql 3 (.tmp 64) (.const (.int .i64 1)) 3,none⟩,⟨some 76,.assign (.tmp 77),none⟩]) (.cond (.tmp 76) (.seq (.reg [⟨some 78,.fieldAddr 53 (.tmp 3) 0,none⟩,⟨some 79,.load 3 (.tmp 78),none⟩,⟨some 80,.move (.const (.int .i64 0)),none⟩]) (.bloop 7 x25_L7)) (.seq (.reg [⟨some 102,.binOp .eql 3 (.tmp 64) (.const (.int .i64 2)) 3,none⟩,⟨some 101,.assign (.tmp 102),none⟩]) (.cond (.tmp 101) (.seq (.reg [⟨some 103,.fieldAddr 53 (.tmp 3) 0,none⟩,⟨some 104,.load 3 (.tmp 103),none⟩,⟨some 105,.move (.const (.int .i64 0)),none⟩]) (.bloop 9 x25_L9)) .skip))))))))))) (.reg [⟨some 154,.binOp .add 3 (.tmp 50) (.const (.int .i64 1)) 3,none⟩,⟨some 50,.move (.tmp 154),none⟩])))
def x25_T2 : XC:=.seq (.seq (.reg [⟨some 44,.move (.tmp 0),none⟩,⟨some 45,.nilCheck (.tmp 44),none⟩,⟨some 46,.fieldAddr 49 (.tmp 45) 0,none⟩,⟨some 47,.fieldAddr 25 (.tmp 46) 2,none⟩,⟨some 48,.load 23 (.tmp 47),none⟩,⟨some 49,.call ⟨.builtin .len,#[.tmp 48],#[23]⟩,none⟩,⟨some 50,.move (.const (.int .i64 0)),none⟩]) (.bloop 4 x25_L4)) (.seq (.reg [⟨some 4,.assign (.const (.bool true)),none⟩]) .ret)
def x25_L2 : XC:=.seq (.reg [⟨some 21,.binOp .lss 3 (.tmp 20) (.tmp 19) 3,none⟩]) (.seq (.cond (.tmp 21) .skip (.exit 2)) (.seq (.block 3 (.seq (.reg [⟨some 22,.move (.tmp 20),none⟩,⟨some 6,.assign (.tmp 22),none⟩]) (.seq (.drawn 7 [⟨some 23,.move (.tmp 5),none⟩,⟨some 24,.fieldAddr 53 (.tmp 3) 1,none⟩,⟨some 25,.indexAddr 51 (.tmp 24) (.tmp 23),none⟩,⟨some 26,.load 3 (.tmp 25),none⟩,⟨some 27,.move (.tmp 6),none⟩,⟨some 28,.fieldAddr 53 (.tmp 3) 1,none⟩,⟨some 29,.indexAddr 51 (.tmp 28) (.tmp 27),none⟩,⟨some 30,.load 3 (.tmp 29),none⟩,⟨some 31,.binOp .eql 3 (.tmp 26) (.tmp 30) 3,none⟩,⟨some 32,.move (.tmp 5),none⟩,⟨some 33,.fieldAddr 53 (.tmp 3) 2,none⟩,⟨some 34,.indexAddr 51 (.tmp 33) (.tmp 32),none⟩,⟨some 35,.load 3 (.tmp 34),none⟩,⟨some 36,.move (.tmp 6),none⟩,⟨some 37,.fieldAddr 53 (.tmp 3) 2,none⟩,⟨some 38,.indexAddr 51 (.tmp 37) (.tmp 36),none⟩,⟨some 39,.load 3 (.tmp 38),none⟩,⟨some 40,.binOp .eql 3 (.tmp 35) (.tmp 39) 3,none⟩,⟨some 41,.binOp .neq 4 (.tmp 31) (.tmp 40) 4,none⟩]) (.cond (.tmp 41) (.seq (.reg [⟨some 4,.assign (.const (.bool false)),none⟩]) .ret) .skip)))) (.reg [⟨some 42,.binOp .add 3 (.tmp 20) (.const (.int .i64 1)) 3,none⟩,⟨some 20,.move (.tmp 42),none⟩])))
def x25_L0 : XC:=.seq (.reg [⟨some 16,.binOp .lss 3 (.tmp 15) (.tmp 14) 3,none⟩]) (.seq (.cond (.tmp 16) .skip (.exit 0)) (.seq (.block 1 (.seq (.reg [⟨some 17,.move (.tmp 15),none⟩,⟨some 5,.assign (.tmp 17),none⟩]) (.seq (.reg [⟨some 18,.fieldAddr 53 (.tmp 3) 0,none⟩,⟨some 19,.load 3 (.tmp 18),none⟩,⟨some 20,.move (.const (.int .i64 0)),none⟩]) (.bloop 2 x25_L2)))) (.reg [⟨some 43,.binOp .add 3 (.tmp 15) (.const (.int .i64 1)) 3,none⟩,⟨some 15,.move (.tmp 43),none⟩])))
def x25 : XC:=.seq (.reg [⟨some 3,.box 53 (.tmp 1),none⟩,⟨some 4,.assign (.const (.bool false)),none⟩]) (.seq (.seq (.reg [⟨some 13,.fieldAddr 53 (.tmp 3) 0,none⟩,⟨some 14,.load 3 (.tmp 13),none⟩,⟨some 15,.move (.const (.int .i64 0)),none⟩]) (.bloop 0 x25_L0)) (x25_T2))
@[simp] theorem x25_s {C e s K} : type_of% (@X_at C e s K _ _ x25_L11.eq_1) ∧ type_of% (@X_at C e s K _ _ x25_L9.eq_1) ∧ type_of% (@X_at C e s K _ _ x25_L7.eq_1) ∧ type_of% (@X_at C e s K _ _ x25_L4.eq_1) ∧ type_of% (@X_at C e s K _ _ x25_T2.eq_1) ∧ type_of% (@X_at C e s K _ _ x25_L2.eq_1) ∧ type_of% (@X_at C e s K _ _ x25_L0.eq_1) ∧ type_of% (@X_at C e s K _ _ x25.eq_1):=⟨X_at x25_L11.eq_1,X_at x25_L9.eq_1,X_at x25_L7.eq_1,X_at x25_L4.eq_1,X_at x25_T2.eq_1,X_at x25_L2.eq_1,X_at x25_L0.eq_1,X_at x25.eq_1⟩
def an25 : Ann:=⟨[],[(7,[],[0,3,8,9,48,49,50,79,80],[0,3,4,48,49,50]),(11,[],[0,3,8,9,11,48,49,50,104,105,109,110],[0,3,4,8,9,48,49,50,104,105]),(9,[],[0,3,8,9,48,49,50,104,105],[0,3,4,48,49,50]),(4,[],[0,3,48,49,50],[4]),(2,[],[0,3,5,14,15,19,20],[0,3,4,14,15]),(0,[],[0,3,14,15],[0,3,4])],[]⟩
@[simp] theorem an25_a : an25.clsOf 7 = .draw ∧ an25.clsOf 17 = .draw ∧ an25.clsOf 23 = .draw ∧ an25.clsOf 33 = .draw ∧ an25.frzOf 7 = [] ∧ an25.frzOf 17 = [] ∧ an25.frzOf 23 = [] ∧ an25.frzOf 33 = [] ∧ an25.loopOf 7 = ([],[0,3,8,9,48,49,50,79,80],[0,3,4,48,49,50]) ∧ an25.loopOf 11 = ([],[0,3,8,9,11,48,49,50,104,105,109,110],[0,3,4,8,9,48,49,50,104,105]) ∧ an25.loopOf 9 = ([],[0,3,8,9,48,49,50,104,105],[0,3,4,48,49,50]) ∧ an25.loopOf 4 = ([],[0,3,48,49,50],[4]) ∧ an25.loopOf 2 = ([],[0,3,5,14,15,19,20],[0,3,4,14,15]) ∧ an25.loopOf 0 = ([],[0,3,14,15],[0,3,4]):=⟨rfl,rfl,rfl,rfl,rfl,rfl,rfl,rfl,rfl,rfl,rfl,rfl,rfl,rfl⟩
theorem fi25 : FI Try.prog 25 (cxA an25) x25 [.tmp 4] Try.f25:=fiA Try.func25 mixed
theorem fits_games (A B : Nat) (P Q : List Pd) (m : PV) (xs ys : List Nat) (hx : xs.length ≤ 4) (hy : ys.length = xs.length) (hA : ∀ x ∈ xs,x < A) (hB : ∀ y ∈ ys,y < B) (hA8 : A ≤ 8) (hB8 : B ≤ 8)
  (hP : ∀ p ∈ P,0 ≤ p.ar ∧ p.bits.length = A ^ p.ar.toNat) (hQ : ∀ p ∈ Q,0 ≤ p.ar ∧ p.bits.length = B ^ p.ar.toNat) (hPQ : P.map Pd.ar = Q.map Pd.ar) :
  CallOK Try.prog 25 [.iptr (brdC A B P Q m),.agg (ci (posC xs ys))] [] (.bool (fitB A B P Q xs ys)) []:=by
 have hc : (posC xs ys).length = 9:=by simp [posC,padI_len hx,padI_len (l:=ys) (by omega)]
 have g0 : ∀ h, (ci (posC xs ys))[0]'h = .int .i64 (xs.length : Int):=fun h=>Option.some.inj ((List.getElem?_eq_getElem h).symm.trans (ci_get rfl))
 have gx : ∀ i,i < 4 → (ci (posC xs ys))[1 + i]? = some (.int .i64 ((at0 xs i : Nat) : Int)):=fun i hi=>ci_get (by
  unfold posC;rw [Nat.add_comm 1 i,List.getElem?_cons_succ,List.getElem?_append_left (by rw [padI_len hx];exact hi)];exact padI_get hx hi)
 have gy : ∀ i,i < 4 → (ci (posC xs ys))[5 + i]? = some (.int .i64 ((at0 ys i : Nat) : Int)):=fun i hi=>ci_get (by
  unfold posC;rw [show 5 + i = (4 + i) + 1 by omega,List.getElem?_cons_succ,List.getElem?_append_right (by rw [padI_len hx];omega),padI_len hx,Nat.add_sub_cancel_left];exact padI_get (by omega) hi)
 refine fi25.op ?_
 (refine Sg.h ?_;try repeat' ((with_reducible first|refine brA ?_|refine brE fun _=>?_|refine spl ⟨?_,?_⟩<;>intro _)<;>((try simp -implicitDefEqProofs [g0,hc]);(try simp -implicitDefEqProofs(disch:=first|assumption|(try simp only[lens]);omega -splitDisjunctions) [g0,hc]))))
 have key4 : ∀ R,predsB A B P Q xs ys = R → P.length ≤ 9223372036854775807 → W (cxA an25 Try.prog 0) 4 x25_L4 (KS.seq ((XC.reg [⟨some 4,.assign (.const (.bool true)),none⟩]).seq .ret) (KS.fin [ResultVar.tmp 4] fun v1 s1=>deref s1 6 v1 = .bool R)) [(0,.iptr (brdC A B P Q m)),(3,.ptr 0 0 0),(48,.list (P.map pdRow)),(49,.int .i64 (P.length : Int)),(50,.int .i64 0)] [.rows 9 [ci (posC xs ys)]]:=by
  intro R hR hlen
  have hlPQ : P.length = Q.length:=by simpa using congrArg List.length hPQ
  refine W_of fun Q4 hQ4=>?_
  have main : ∀ k i,i + k = P.length → predsB A B (P.drop i) (Q.drop i) xs ys = R → Q4 [(0,.iptr (brdC A B P Q m)),(3,.ptr 0 0 0),(48,.list (P.map pdRow)),(49,.int .i64 (P.length : Int)),(50,.int .i64 (i : Int))] [.rows 9 [ci (posC xs ys)]]:=by
   intro k
   induction k with
   | zero=>
    intro i hi hR
    obtain rfl : i = P.length:=by omega
    rw [List.drop_length] at hR
    obtain rfl : R = true:=hR.symm
    apply hQ4
    clear hQ4
    (refine Sg.h ?_;try repeat' ((with_reducible first|refine brA ?_|refine brE fun _=>?_|refine spl ⟨?_,?_⟩<;>intro _)<;>((try simp -implicitDefEqProofs);(try simp -implicitDefEqProofs(disch:=first|assumption|(try simp only[lens]);omega -splitDisjunctions)))))
   | succ k ih=>
    intro i hi hR
    have hil : i < P.length:=by omega
    have hil2 : i < Q.length:=by omega
    have hp:=hP _ (List.getElem_mem hil)
    have hq:=hQ _ (List.getElem_mem hil2)
    have har : P[i].ar = Q[i].ar:=by
     have e1:=congrArg (fun l=>l[i]?) hPQ
     simpa [List.getElem?_eq_getElem hil,List.getElem?_eq_getElem hil2] using e1
    rw [List.drop_eq_getElem_cons hil,List.drop_eq_getElem_cons hil2,show ∀ (a b : Pd) (c d : List Pd),predsB A B (a :: c) (b :: d) xs ys = (predB A B a b xs ys && predsB A B c d xs ys) from fun _ _ _ _=>rfl] at hR
    have ih:=ih (i + 1) (by omega)
    have hi' : (i : Int) < (P.length : Int):=by omega
    have hi2' : (i : Int) < (Q.length : Int):=by omega
    generalize hx1 : P[i] = p at *
    generalize hx2 : Q[i] = q at *
    generalize hrest : predsB A B (P.drop (i + 1)) (Q.drop (i + 1)) xs ys = rest at *
    rw [← har] at hq
    by_cases k0 : p.ar = 0
    ·rw [predB,if_pos k0] at hR
     rw [k0] at hp hq
     have l1 : 0 < p.bits.length:=by rw [hp.2];simp
     have l2 : 0 < q.bits.length:=by rw [hq.2];simp
     have l1' : (0 : Int) < (p.bits.length : Int):=by omega
     have l2' : (0 : Int) < (q.bits.length : Int):=by omega
     have v1:=bitAt_get l1
     have v2:=bitAt_get l2
     generalize bitAt p 0 = z1 at *
     generalize bitAt q 0 = z2 at *
     apply hQ4
     clear hQ4
     cases z1 <;> cases z2
     ·have ih := ih hR
      (refine Sg.h ?_;try repeat' ((with_reducible first|refine brA ?_|refine brE fun _=>?_|refine spl ⟨?_,?_⟩<;>intro _)<;>((try simp -implicitDefEqProofs [hi',hi2',hil,hil2,hx1,hx2,k0,l1,l2,l1',l2',v1,v2]);(try simp -implicitDefEqProofs(disch:=first|assumption|(try simp only[lens]);omega -splitDisjunctions) [hi',hi2',hil,hil2,hx1,hx2,k0,l1,l2,l1',l2',v1,v2]))))
      all_goals first|exact ih|(refine at2 ih ?_ ?_<;>simp;done)|(exfalso;first|omega|(simp_all;done)|(simp_all;omega))
     ·obtain rfl : R = false := hR.symm
      (refine Sg.h ?_;try repeat' ((with_reducible first|refine brA ?_|refine brE fun _=>?_|refine spl ⟨?_,?_⟩<;>intro _)<;>((try simp -implicitDefEqProofs [hi',hi2',hil,hil2,hx1,hx2,k0,l1,l2,l1',l2',v1,v2]);(try simp -implicitDefEqProofs(disch:=first|assumption|(try simp only[lens]);omega -splitDisjunctions) [hi',hi2',hil,hil2,hx1,hx2,k0,l1,l2,l1',l2',v1,v2]))))
     ·obtain rfl : R = false := hR.symm
      (refine Sg.h ?_;try repeat' ((with_reducible first|refine brA ?_|refine brE fun _=>?_|refine spl ⟨?_,?_⟩<;>intro _)<;>((try simp -implicitDefEqProofs [hi',hi2',hil,hil2,hx1,hx2,k0,l1,l2,l1',l2',v1,v2]);(try simp -implicitDefEqProofs(disch:=first|assumption|(try simp only[lens]);omega -splitDisjunctions) [hi',hi2',hil,hil2,hx1,hx2,k0,l1,l2,l1',l2',v1,v2]))))
     ·have ih := ih hR
      (refine Sg.h ?_;try repeat' ((with_reducible first|refine brA ?_|refine brE fun _=>?_|refine spl ⟨?_,?_⟩<;>intro _)<;>((try simp -implicitDefEqProofs [hi',hi2',hil,hil2,hx1,hx2,k0,l1,l2,l1',l2',v1,v2]);(try simp -implicitDefEqProofs(disch:=first|assumption|(try simp only[lens]);omega -splitDisjunctions) [hi',hi2',hil,hil2,hx1,hx2,k0,l1,l2,l1',l2',v1,v2]))))
      all_goals first|exact ih|(refine at2 ih ?_ ?_<;>simp;done)|(exfalso;first|omega|(simp_all;done)|(simp_all;omega))
    by_cases k1 : p.ar = 1
    ·rw [predB,if_neg k0,if_pos k1,allFrom_zero] at hR
     rw [k1] at hp hq
     apply hQ4
     (refine Sg.h ?_;try repeat' ((with_reducible first|refine brA ?_|refine brE fun _=>?_|refine spl ⟨?_,?_⟩<;>intro _)<;>((try simp -implicitDefEqProofs [hi',hi2',hil,hil2,hx1,hx2,k0,k1,g0,hc]);(try simp -implicitDefEqProofs(disch:=first|assumption|(try simp only[lens]);omega -splitDisjunctions) [hi',hi2',hil,hil2,hx1,hx2,k0,k1,g0,hc]))))
     refine W_of fun Q7 hQ7=>?_
     have main7 : ∀ k j,j + k = xs.length → (allFrom (fun k=>bitAt p (at0 xs k) == bitAt q (at0 ys k)) j xs.length && rest) = R → Q7 [(0,.iptr (brdC A B P Q m)),(3,.ptr 0 0 0),(8,.ptr 1 0 0),(9,.ptr 2 0 0),(48,.list (P.map pdRow)),(49,.int .i64 (P.length : Int)),(50,.int .i64 (i : Int)),(79,.int .i64 (xs.length : Int)),(80,.int .i64 (j : Int))] [.rows 9 [ci (posC xs ys)],.rows 3 [pdRow p],.rows 3 [pdRow q]]:=by
      intro k
      induction k with
      | zero=>
       intro j hj hR
       obtain rfl : j = xs.length:=by omega
       rw [allFrom_end,Bool.true_and] at hR
       have ih:=ih hR
       apply hQ7
       clear hQ7 hQ4
       (refine Sg.h ?_;try repeat' ((with_reducible first|refine brA ?_|refine brE fun _=>?_|refine spl ⟨?_,?_⟩<;>intro _)<;>((try simp -implicitDefEqProofs);(try simp -implicitDefEqProofs(disch:=first|assumption|(try simp only[lens]);omega -splitDisjunctions)))))
       all_goals first|exact ih|(refine at2 ih ?_ ?_<;>simp;done)|(exfalso;first|omega|(simp_all;done)|(simp_all;omega))
      | succ k ih7=>
       intro j hj hR
       have hjl : j < xs.length:=by omega
       rw [allFrom_step hjl,Bool.and_assoc] at hR
       have ih7:=ih7 (j + 1) (by omega)
       have hj' : (j : Int) < (xs.length : Int):=by omega
       have gxj:=gx j (by omega)
       have gyj:=gy j (by omega)
       have h1j : 1 + j ≤ 8:=by omega
       have h5j : 5 + j ≤ 8:=by omega
       have h4j : (j : Int) < 4:=by omega
       have ha:=at0_lt hA hjl
       have hb:=at0_lt hB (show j < ys.length by omega)
       generalize at0 xs j = a at *
       generalize at0 ys j = b at *
       have l1 : a < p.bits.length:=by rw [hp.2];simpa using ha
       have l2 : b < q.bits.length:=by rw [hq.2];simpa using hb
       have l1' : (a : Int) < (p.bits.length : Int):=by omega
       have l2' : (b : Int) < (q.bits.length : Int):=by omega
       have v1:=bitAt_get l1
       have v2:=bitAt_get l2
       generalize bitAt p a = z1 at *
       generalize bitAt q b = z2 at *
       apply hQ7
       clear hQ7 hQ4
       cases z1 <;> cases z2
       ·have ih7 := ih7 hR
        (refine Sg.h ?_;try repeat' ((with_reducible first|refine brA ?_|refine brE fun _=>?_|refine spl ⟨?_,?_⟩<;>intro _)<;>((try simp -implicitDefEqProofs [hj',hc,gxj,gyj,h1j,h5j,h4j,l1,l2,l1',l2',v1,v2]);(try simp -implicitDefEqProofs(disch:=first|assumption|(try simp only[lens]);omega -splitDisjunctions) [hj',hc,gxj,gyj,h1j,h5j,h4j,l1,l2,l1',l2',v1,v2]))))
        all_goals first|exact ih7|(refine at2 ih7 ?_ ?_<;>simp;done)|(exfalso;first|omega|(simp_all;done)|(simp_all;omega))
       ·obtain rfl : R = false := hR.symm
        (refine Sg.h ?_;try repeat' ((with_reducible first|refine brA ?_|refine brE fun _=>?_|refine spl ⟨?_,?_⟩<;>intro _)<;>((try simp -implicitDefEqProofs [hj',hc,gxj,gyj,h1j,h5j,h4j,l1,l2,l1',l2',v1,v2]);(try simp -implicitDefEqProofs(disch:=first|assumption|(try simp only[lens]);omega -splitDisjunctions) [hj',hc,gxj,gyj,h1j,h5j,h4j,l1,l2,l1',l2',v1,v2]))))
       ·obtain rfl : R = false := hR.symm
        (refine Sg.h ?_;try repeat' ((with_reducible first|refine brA ?_|refine brE fun _=>?_|refine spl ⟨?_,?_⟩<;>intro _)<;>((try simp -implicitDefEqProofs [hj',hc,gxj,gyj,h1j,h5j,h4j,l1,l2,l1',l2',v1,v2]);(try simp -implicitDefEqProofs(disch:=first|assumption|(try simp only[lens]);omega -splitDisjunctions) [hj',hc,gxj,gyj,h1j,h5j,h4j,l1,l2,l1',l2',v1,v2]))))
       ·have ih7 := ih7 hR
        (refine Sg.h ?_;try repeat' ((with_reducible first|refine brA ?_|refine brE fun _=>?_|refine spl ⟨?_,?_⟩<;>intro _)<;>((try simp -implicitDefEqProofs [hj',hc,gxj,gyj,h1j,h5j,h4j,l1,l2,l1',l2',v1,v2]);(try simp -implicitDefEqProofs(disch:=first|assumption|(try simp only[lens]);omega -splitDisjunctions) [hj',hc,gxj,gyj,h1j,h5j,h4j,l1,l2,l1',l2',v1,v2]))))
        all_goals first|exact ih7|(refine at2 ih7 ?_ ?_<;>simp;done)|(exfalso;first|omega|(simp_all;done)|(simp_all;omega))
     all_goals first|exact main7 xs.length 0 (Nat.zero_add _) hR|(refine at2 main7 xs.length 0 (Nat.zero_add _) hR ?_ ?_<;>simp;done)|(exfalso;first|omega|(simp_all;done)|(simp_all;omega))
    by_cases k2 : p.ar = 2
    ·rw [predB,if_neg k0,if_neg k1,if_pos k2,allFrom_zero] at hR
     rw [k2] at hp hq
     apply hQ4
     (refine Sg.h ?_;try repeat' ((with_reducible first|refine brA ?_|refine brE fun _=>?_|refine spl ⟨?_,?_⟩<;>intro _)<;>((try simp -implicitDefEqProofs [hi',hi2',hil,hil2,hx1,hx2,k0,k1,k2,g0,hc]);(try simp -implicitDefEqProofs(disch:=first|assumption|(try simp only[lens]);omega -splitDisjunctions) [hi',hi2',hil,hil2,hx1,hx2,k0,k1,k2,g0,hc]))))
     refine W_of fun Q9 hQ9=>?_
     have main9 : ∀ k u,u + k = xs.length → (allFrom (fun k=>(List.range xs.length).all fun m=>bitAt p (at0 xs k + at0 xs m * A) == bitAt q (at0 ys k + at0 ys m * B)) u xs.length && rest) = R → Q9 [(0,.iptr (brdC A B P Q m)),(3,.ptr 0 0 0),(8,.ptr 1 0 0),(9,.ptr 2 0 0),(48,.list (P.map pdRow)),(49,.int .i64 (P.length : Int)),(50,.int .i64 (i : Int)),(104,.int .i64 (xs.length : Int)),(105,.int .i64 (u : Int))] [.rows 9 [ci (posC xs ys)],.rows 3 [pdRow p],.rows 3 [pdRow q]]:=by
      intro k
      induction k with
      | zero=>
       intro u hu hR
       obtain rfl : u = xs.length:=by omega
       rw [allFrom_end,Bool.true_and] at hR
       have ih:=ih hR
       apply hQ9
       clear hQ9 hQ4
       (refine Sg.h ?_;try repeat' ((with_reducible first|refine brA ?_|refine brE fun _=>?_|refine spl ⟨?_,?_⟩<;>intro _)<;>((try simp -implicitDefEqProofs);(try simp -implicitDefEqProofs(disch:=first|assumption|(try simp only[lens]);omega -splitDisjunctions)))))
       all_goals first|exact ih|(refine at2 ih ?_ ?_<;>simp;done)|(exfalso;first|omega|(simp_all;done)|(simp_all;omega))
      | succ k ih9=>
       intro u hu hR
       have hul : u < xs.length:=by omega
       rw [allFrom_step hul,Bool.and_assoc,allFrom_zero] at hR
       have ih9:=ih9 (u + 1) (by omega)
       have hu' : (u : Int) < (xs.length : Int):=by omega
       generalize hrest2 : (allFrom (fun k=>(List.range xs.length).all fun m=>bitAt p (at0 xs k + at0 xs m * A) == bitAt q (at0 ys k + at0 ys m * B)) (u + 1) xs.length && rest) = rest2 at *
       apply hQ9
       (refine Sg.h ?_;try repeat' ((with_reducible first|refine brA ?_|refine brE fun _=>?_|refine spl ⟨?_,?_⟩<;>intro _)<;>((try simp -implicitDefEqProofs [hu',g0,hc]);(try simp -implicitDefEqProofs(disch:=first|assumption|(try simp only[lens]);omega -splitDisjunctions) [hu',g0,hc]))))
       refine W_of fun Q11 hQ11=>?_
       have gxu:=gx u (by omega)
       have gyu:=gy u (by omega)
       have h1u : 1 + u ≤ 8:=by omega
       have h5u : 5 + u ≤ 8:=by omega
       have h4u : (u : Int) < 4:=by omega
       have hau:=at0_lt hA hul
       have hbu:=at0_lt hB (show u < ys.length by omega)
       have main11 : ∀ k j,j + k = xs.length → (allFrom (fun m=>bitAt p (at0 xs u + at0 xs m * A) == bitAt q (at0 ys u + at0 ys m * B)) j xs.length && rest2) = R → Q11 [(0,.iptr (brdC A B P Q m)),(3,.ptr 0 0 0),(8,.ptr 1 0 0),(9,.ptr 2 0 0),(11,.int .i64 (u : Int)),(48,.list (P.map pdRow)),(49,.int .i64 (P.length : Int)),(50,.int .i64 (i : Int)),(104,.int .i64 (xs.length : Int)),(105,.int .i64 (u : Int)),(109,.int .i64 (xs.length : Int)),(110,.int .i64 (j : Int))] [.rows 9 [ci (posC xs ys)],.rows 3 [pdRow p],.rows 3 [pdRow q]]:=by
        intro k
        induction k with
        | zero=>
         intro j hj hR
         obtain rfl : j = xs.length:=by omega
         rw [allFrom_end,Bool.true_and] at hR
         have ih9:=ih9 hR
         apply hQ11
         clear hQ11 hQ9 hQ4
         (refine Sg.h ?_;try repeat' ((with_reducible first|refine brA ?_|refine brE fun _=>?_|refine spl ⟨?_,?_⟩<;>intro _)<;>((try simp -implicitDefEqProofs);(try simp -implicitDefEqProofs(disch:=first|assumption|(try simp only[lens]);omega -splitDisjunctions)))))
         all_goals first|exact ih9|(refine at2 ih9 ?_ ?_<;>simp;done)|(exfalso;first|omega|(simp_all;done)|(simp_all;omega))
        | succ k ih11=>
         intro j hj hR
         have hjl : j < xs.length:=by omega
         rw [allFrom_step hjl,Bool.and_assoc] at hR
         have ih11:=ih11 (j + 1) (by omega)
         have hj' : (j : Int) < (xs.length : Int):=by omega
         have gxj:=gx j (by omega)
         have gyj:=gy j (by omega)
         have h1j : 1 + j ≤ 8:=by omega
         have h5j : 5 + j ≤ 8:=by omega
         have h4j : (j : Int) < 4:=by omega
         have ha:=at0_lt hA hjl
         have hb:=at0_lt hB (show j < ys.length by omega)
         generalize at0 xs j = a at *
         generalize at0 ys j = b at *
         generalize at0 xs u = a1 at *
         generalize at0 ys u = b1 at *
         have e1 : ((a : Int) * (A : Int)) = ((a * A : Nat) : Int):=by rw [Int.natCast_mul]
         have e2 : ((b : Int) * (B : Int)) = ((b * B : Nat) : Int):=by rw [Int.natCast_mul]
         have m1 : a1 + a * A < p.bits.length:=by
          rw [hp.2];show _ < A ^ 2
          have : (a + 1) * A ≤ A * A:=Nat.mul_le_mul_right A ha
          rw [Nat.add_mul,Nat.one_mul] at this
          rw [Nat.pow_two];omega
         have m2 : b1 + b * B < q.bits.length:=by
          rw [hq.2];show _ < B ^ 2
          have : (b + 1) * B ≤ B * B:=Nat.mul_le_mul_right B hb
          rw [Nat.add_mul,Nat.one_mul] at this
          rw [Nat.pow_two];omega
         have m3 : a * A ≤ 64:=Nat.mul_le_mul (show a ≤ 8 by omega) hA8
         have m4 : b * B ≤ 64:=Nat.mul_le_mul (show b ≤ 8 by omega) hB8
         have v1:=bitAt_get m1
         have v2:=bitAt_get m2
         generalize bitAt p (a1 + a * A) = z1 at *
         generalize bitAt q (b1 + b * B) = z2 at *
         generalize a * A = c1 at *
         generalize b * B = c2 at *
         have e3 : (a1 : Int) + (c1 : Int) = ((a1 + c1 : Nat) : Int):=by omega
         have e4 : (b1 : Int) + (c2 : Int) = ((b1 + c2 : Nat) : Int):=by omega
         generalize hd1 : a1 + c1 = d1 at *
         generalize hd2 : b1 + c2 = d2 at *
         have l1' : (d1 : Int) < (p.bits.length : Int):=by omega
         have l2' : (d2 : Int) < (q.bits.length : Int):=by omega
         have w1 : ¬ (c1 : Int) < -9223372036854775808:=by omega
         apply hQ11
         clear hQ11 hQ9 hQ4
         cases z1 <;> cases z2
         ·have ih11 := ih11 hR
          (refine Sg.h ?_;try repeat' ((with_reducible first|refine brA ?_|refine brE fun _=>?_|refine spl ⟨?_,?_⟩<;>intro _)<;>((try simp -implicitDefEqProofs [hj',hc,gxj,gyj,h1j,h5j,h4j,gxu,gyu,h1u,h5u,h4u,e1,e2,e3,e4,m1,m2,l1',l2',v1,v2]);(try simp -implicitDefEqProofs(disch:=first|assumption|(try simp only[lens]);omega -splitDisjunctions) [hj',hc,gxj,gyj,h1j,h5j,h4j,gxu,gyu,h1u,h5u,h4u,e1,e2,e3,e4,m1,m2,l1',l2',v1,v2]))))
          all_goals first|exact ih11|(refine at2 ih11 ?_ ?_<;>simp;done)|(exfalso;first|omega|(simp_all;done)|(simp_all;omega))
         ·obtain rfl : R = false := hR.symm
          (refine Sg.h ?_;try repeat' ((with_reducible first|refine brA ?_|refine brE fun _=>?_|refine spl ⟨?_,?_⟩<;>intro _)<;>((try simp -implicitDefEqProofs [hj',hc,gxj,gyj,h1j,h5j,h4j,gxu,gyu,h1u,h5u,h4u,e1,e2,e3,e4,m1,m2,l1',l2',v1,v2]);(try simp -implicitDefEqProofs(disch:=first|assumption|(try simp only[lens]);omega -splitDisjunctions) [hj',hc,gxj,gyj,h1j,h5j,h4j,gxu,gyu,h1u,h5u,h4u,e1,e2,e3,e4,m1,m2,l1',l2',v1,v2]))))
         ·obtain rfl : R = false := hR.symm
          (refine Sg.h ?_;try repeat' ((with_reducible first|refine brA ?_|refine brE fun _=>?_|refine spl ⟨?_,?_⟩<;>intro _)<;>((try simp -implicitDefEqProofs [hj',hc,gxj,gyj,h1j,h5j,h4j,gxu,gyu,h1u,h5u,h4u,e1,e2,e3,e4,m1,m2,l1',l2',v1,v2]);(try simp -implicitDefEqProofs(disch:=first|assumption|(try simp only[lens]);omega -splitDisjunctions) [hj',hc,gxj,gyj,h1j,h5j,h4j,gxu,gyu,h1u,h5u,h4u,e1,e2,e3,e4,m1,m2,l1',l2',v1,v2]))))
         ·have ih11 := ih11 hR
          (refine Sg.h ?_;try repeat' ((with_reducible first|refine brA ?_|refine brE fun _=>?_|refine spl ⟨?_,?_⟩<;>intro _)<;>((try simp -implicitDefEqProofs [hj',hc,gxj,gyj,h1j,h5j,h4j,gxu,gyu,h1u,h5u,h4u,e1,e2,e3,e4,m1,m2,l1',l2',v1,v2]);(try simp -implicitDefEqProofs(disch:=first|assumption|(try simp only[lens]);omega -splitDisjunctions) [hj',hc,gxj,gyj,h1j,h5j,h4j,gxu,gyu,h1u,h5u,h4u,e1,e2,e3,e4,m1,m2,l1',l2',v1,v2]))))
          all_goals first|exact ih11|(refine at2 ih11 ?_ ?_<;>simp;done)|(exfalso;first|omega|(simp_all;done)|(simp_all;omega))
       all_goals first|exact main11 xs.length 0 (Nat.zero_add _) hR|(refine at2 main11 xs.length 0 (Nat.zero_add _) hR ?_ ?_<;>simp;done)|(exfalso;first|omega|(simp_all;done)|(simp_all;omega))
     all_goals first|exact main9 xs.length 0 (Nat.zero_add _) hR|(refine at2 main9 xs.length 0 (Nat.zero_add _) hR ?_ ?_<;>simp;done)|(exfalso;first|omega|(simp_all;done)|(simp_all;omega))
    rw [predB,if_neg k0,if_neg k1,if_neg k2,Bool.true_and] at hR
    have ih:=ih hR
    apply hQ4
    clear hQ4
    (refine Sg.h ?_;try repeat' ((with_reducible first|refine brA ?_|refine brE fun _=>?_|refine spl ⟨?_,?_⟩<;>intro _)<;>((try simp -implicitDefEqProofs [hi',hi2',hil,hil2,hx1,hx2,k0,k1,k2]);(try simp -implicitDefEqProofs(disch:=first|assumption|(try simp only[lens]);omega -splitDisjunctions) [hi',hi2',hil,hil2,hx1,hx2,k0,k1,k2]))))
    all_goals first|exact ih|(refine at2 ih ?_ ?_<;>simp;done)|(exfalso;first|omega|(simp_all;done)|(simp_all;omega))
  all_goals first|exact main P.length 0 (Nat.zero_add _) hR|(refine at2 main P.length 0 (Nat.zero_add _) hR ?_ ?_<;>simp;done)|(exfalso;first|omega|(simp_all;done)|(simp_all;omega))
 refine W_of fun Q0 hQ=>?_
 have main : ∀ k i R,i + k = xs.length → (allFrom (fun i => (List.range xs.length).all fun k => decide (at0 xs i = at0 xs k) == decide (at0 ys i = at0 ys k)) i xs.length && predsB A B P Q xs ys) = R → fitB A B P Q xs ys = R →
   Q0 [(0,.iptr (brdC A B P Q m)),(3,.ptr 0 0 0),(14,.int .i64 (xs.length : Int)),(15,.int .i64 (i : Int))] [.rows 9 [ci (posC xs ys)]]:=by
  intro k
  induction k with
  | zero=>
   intro i R hi hR hf
   obtain rfl : i = xs.length:=by omega
   rw [allFrom_end,Bool.true_and] at hR
   rw [hf] at hQ
   apply hQ
   clear hQ
   (refine Sg.h ?_;try repeat' ((with_reducible first|refine brA ?_|refine brE fun _=>?_|refine spl ⟨?_,?_⟩<;>intro _)<;>((try simp -implicitDefEqProofs);(try simp -implicitDefEqProofs(disch:=first|assumption|(try simp only[lens]);omega -splitDisjunctions)))))
   exact key4 R hR (by assumption)
  | succ k ih=>
   intro i R hi hR hf
   have hil : i < xs.length:=by omega
   rw [allFrom_step hil,allFrom_zero,Bool.and_assoc] at hR
   have ih:=ih (i + 1)
   have hi' : (i : Int) < (xs.length : Int):=by omega
   have gxi:=gx i (by omega)
   have gyi:=gy i (by omega)
   have h1i : 1 + i ≤ 8:=by omega
   have h5i : 5 + i ≤ 8:=by omega
   have h4i : (i : Int) < 4:=by omega
   rw [hf] at hQ
   apply hQ
   (refine Sg.h ?_;try repeat' ((with_reducible first|refine brA ?_|refine brE fun _=>?_|refine spl ⟨?_,?_⟩<;>intro _)<;>((try simp -implicitDefEqProofs [hi',g0,hc]);(try simp -implicitDefEqProofs(disch:=first|assumption|(try simp only[lens]);omega -splitDisjunctions) [hi',g0,hc]))))
   refine W_of fun Q1 hQ1=>?_
   have main2 : ∀ k j,j + k = xs.length → (allFrom (fun k => decide (at0 xs i = at0 xs k) == decide (at0 ys i = at0 ys k)) j xs.length && (allFrom (fun i => (List.range xs.length).all fun k => decide (at0 xs i = at0 xs k) == decide (at0 ys i = at0 ys k)) (i + 1) xs.length && predsB A B P Q xs ys)) = R →
     Q1 [(0,.iptr (brdC A B P Q m)),(3,.ptr 0 0 0),(5,.int .i64 (i : Int)),(14,.int .i64 (xs.length : Int)),(15,.int .i64 (i : Int)),(19,.int .i64 (xs.length : Int)),(20,.int .i64 (j : Int))] [.rows 9 [ci (posC xs ys)]]:=by
    intro k
    induction k with
    | zero=>
     intro j hj hR
     obtain rfl : j = xs.length:=by omega
     rw [allFrom_end,Bool.true_and] at hR
     have ih:=ih R (by omega) hR hf
     apply hQ1
     clear hQ1 hQ
     (refine Sg.h ?_;try repeat' ((with_reducible first|refine brA ?_|refine brE fun _=>?_|refine spl ⟨?_,?_⟩<;>intro _)<;>((try simp -implicitDefEqProofs);(try simp -implicitDefEqProofs(disch:=first|assumption|(try simp only[lens]);omega -splitDisjunctions)))))
     all_goals first|exact ih|(refine at2 ih ?_ ?_<;>simp;done)|(exfalso;first|omega|(simp_all;done)|(simp_all;omega))
    | succ k ih2=>
     intro j hj hR
     have hjl : j < xs.length:=by omega
     rw [allFrom_step hjl,Bool.and_assoc] at hR
     have ih2:=ih2 (j + 1) (by omega)
     have hj' : (j : Int) < (xs.length : Int):=by omega
     have gxj:=gx j (by omega)
     have gyj:=gy j (by omega)
     have h1j : 1 + j ≤ 8:=by omega
     have h5j : 5 + j ≤ 8:=by omega
     have h4j : (j : Int) < 4:=by omega
     generalize at0 xs i = a at *
     generalize at0 xs j = b at *
     generalize at0 ys i = c at *
     generalize at0 ys j = d at *
     apply hQ1
     clear hQ1 hQ
     by_cases e1 : a = b
     ·have f1 : (a : Int) = (b : Int) := by omega
      by_cases e2 : c = d
      ·have f2 : (c : Int) = (d : Int) := by omega
       rw [decide_eq_true e1,decide_eq_true e2,beq_self_eq_true,Bool.true_and] at hR
       have ih2:=ih2 hR
       (refine Sg.h ?_;try repeat' ((with_reducible first|refine brA ?_|refine brE fun _=>?_|refine spl ⟨?_,?_⟩<;>intro _)<;>((try simp -implicitDefEqProofs [hi',hj',hc,gxi,gyi,gxj,gyj,h1i,h5i,h4i,h1j,h5j,h4j,f1,f2]);(try simp -implicitDefEqProofs(disch:=first|assumption|(try simp only[lens]);omega -splitDisjunctions) [hi',hj',hc,gxi,gyi,gxj,gyj,h1i,h5i,h4i,h1j,h5j,h4j,f1,f2]))))
       all_goals first|exact ih2|(refine at2 ih2 ?_ ?_<;>simp;done)|(exfalso;first|omega|(simp_all;done)|(simp_all;omega))
      ·have f2 : ¬ (c : Int) = (d : Int) := by omega
       rw [decide_eq_true e1,decide_eq_false e2,show (true == false) = false from rfl,Bool.false_and] at hR
       subst hR
       (refine Sg.h ?_;try repeat' ((with_reducible first|refine brA ?_|refine brE fun _=>?_|refine spl ⟨?_,?_⟩<;>intro _)<;>((try simp -implicitDefEqProofs [hi',hj',hc,gxi,gyi,gxj,gyj,h1i,h5i,h4i,h1j,h5j,h4j,f1,f2]);(try simp -implicitDefEqProofs(disch:=first|assumption|(try simp only[lens]);omega -splitDisjunctions) [hi',hj',hc,gxi,gyi,gxj,gyj,h1i,h5i,h4i,h1j,h5j,h4j,f1,f2]))))
     ·have f1 : ¬ (a : Int) = (b : Int) := by omega
      by_cases e2 : c = d
      ·have f2 : (c : Int) = (d : Int) := by omega
       rw [decide_eq_false e1,decide_eq_true e2,show (false == true) = false from rfl,Bool.false_and] at hR
       subst hR
       (refine Sg.h ?_;try repeat' ((with_reducible first|refine brA ?_|refine brE fun _=>?_|refine spl ⟨?_,?_⟩<;>intro _)<;>((try simp -implicitDefEqProofs [hi',hj',hc,gxi,gyi,gxj,gyj,h1i,h5i,h4i,h1j,h5j,h4j,f1,f2]);(try simp -implicitDefEqProofs(disch:=first|assumption|(try simp only[lens]);omega -splitDisjunctions) [hi',hj',hc,gxi,gyi,gxj,gyj,h1i,h5i,h4i,h1j,h5j,h4j,f1,f2]))))
      ·have f2 : ¬ (c : Int) = (d : Int) := by omega
       rw [decide_eq_false e1,decide_eq_false e2,beq_self_eq_true,Bool.true_and] at hR
       have ih2:=ih2 hR
       (refine Sg.h ?_;try repeat' ((with_reducible first|refine brA ?_|refine brE fun _=>?_|refine spl ⟨?_,?_⟩<;>intro _)<;>((try simp -implicitDefEqProofs [hi',hj',hc,gxi,gyi,gxj,gyj,h1i,h5i,h4i,h1j,h5j,h4j,f1,f2]);(try simp -implicitDefEqProofs(disch:=first|assumption|(try simp only[lens]);omega -splitDisjunctions) [hi',hj',hc,gxi,gyi,gxj,gyj,h1i,h5i,h4i,h1j,h5j,h4j,f1,f2]))))
       all_goals first|exact ih2|(refine at2 ih2 ?_ ?_<;>simp;done)|(exfalso;first|omega|(simp_all;done)|(simp_all;omega))
   all_goals first|exact main2 xs.length 0 (Nat.zero_add _) hR|(refine at2 main2 xs.length 0 (Nat.zero_add _) hR ?_ ?_<;>simp;done)|(exfalso;first|omega|(simp_all;done)|(simp_all;omega))
 have hz : eqsB xs ys = allFrom (fun i=>(List.range xs.length).all fun k=>decide (at0 xs i = at0 xs k) == decide (at0 ys i = at0 ys k)) 0 xs.length:=by unfold eqsB;rw [allFrom_zero]
 all_goals first|exact main xs.length 0 _ (Nat.zero_add _) (by rw [← hz];rfl) rfl|(refine at2 main xs.length 0 _ (Nat.zero_add _) (by rw [← hz];rfl) rfl ?_ ?_<;>simp;done)|(exfalso;first|omega|(simp_all;done)|(simp_all;omega))
end Go.Proofs.Ytfhakdonenhnbaa
