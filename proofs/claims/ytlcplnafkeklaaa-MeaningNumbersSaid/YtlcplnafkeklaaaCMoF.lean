import Derived.Test.YtlcplnafkeklaaaCMoE
import Derived.Test.YtlcplnafkeklaaaCMnW
set_option linter.unusedVariables false
set_option linter.unusedSimpArgs false
set_option maxRecDepth 100000
set_option maxHeartbeats 4000000
namespace Go.Proofs.Ytlcplnafkeklaaa
open Go Go.Pv
theorem zerosI (n : Nat) : List.replicate n [PV.int .i64 0] = (List.replicate n (0 : Int)).map intRow:=by simp [intRow]
theorem zerosB (n : Nat) : List.replicate n [PV.bool false] = (List.replicate n false).map boolRow:=by simp [boolRow]
theorem mvN_K {n b : Int} (h0 : 0 < n) (a j : Nat) : mvN n b a (j : Int) = (mvK n b a j : Int):=by
 have:=mvN_range (b:=b) h0 a (j : Int)
 unfold mvK
 omega
def x19_T7 : XC:=.seq (.reg [⟨some 138,.load 25 (.tmp 5),none⟩,⟨none,.store 25 (.tmp 4) (.tmp 138),none⟩]) .ret
def x19_T6 : XC:=.reg [⟨some 132,.fieldAddr 25 (.tmp 5) 2,none⟩,⟨some 133,.load 23 (.tmp 132),none⟩,⟨some 134,.load 55 (.tmp 11),none⟩,⟨some 135,.buildSlice 23 1 #[(0,.tmp 134)],none⟩,⟨some 136,.call ⟨.builtin .append,#[.tmp 133,.tmp 135],#[23,23]⟩,none⟩,⟨some 137,.fieldAddr 25 (.tmp 5) 2,none⟩,⟨none,.store 23 (.tmp 137) (.tmp 136),none⟩]
def x19_L6 : XC:=.seq (.seq (.reg [⟨some 108,.move (.tmp 12),none⟩,⟨some 109,.fieldAddr 55 (.tmp 11) 2,none⟩,⟨some 110,.load 53 (.tmp 109),none⟩,⟨some 111,.call ⟨.builtin .len,#[.tmp 110],#[53]⟩,none⟩,⟨some 112,.binOp .lss 3 (.tmp 108) (.tmp 111) 3,none⟩]) (.cond (.tmp 112) .skip (.exit 6))) (.seq (.block 7 (.drawn 19 [⟨some 115,.fieldAddr 55 (.tmp 11) 2,none⟩,⟨some 116,.load 53 (.tmp 115),none⟩,⟨some 117,.move (.tmp 6),none⟩,⟨some 118,.move (.tmp 12),none⟩,⟨some 119,.fieldAddr 55 (.tmp 11) 1,none⟩,⟨some 120,.load 3 (.tmp 119),none⟩,⟨some 121,.call ⟨.value (.tmp 117),#[.tmp 118,.tmp 120],#[3,3]⟩,none⟩,⟨some 122,.fieldAddr 25 (.tmp 2) 2,none⟩,⟨some 123,.load 23 (.tmp 122),none⟩,⟨some 124,.move (.tmp 10),none⟩,⟨some 125,.indexAddr 23 (.tmp 123) (.tmp 124),none⟩,⟨some 126,.fieldAddr 55 (.tmp 125) 2,none⟩,⟨some 127,.load 53 (.tmp 126),none⟩,⟨some 128,.move (.tmp 12),none⟩,⟨some 129,.indexAddr 53 (.tmp 127) (.tmp 128),none⟩,⟨some 130,.load 4 (.tmp 129),none⟩,⟨some 131,.indexAddr 53 (.tmp 116) (.tmp 121),none⟩,⟨none,.store 4 (.tmp 131) (.tmp 130),none⟩])) (.reg [⟨some 113,.move (.tmp 12),none⟩,⟨some 114,.binOp .add 3 (.tmp 113) (.const (.int .i64 1)) 3,none⟩,⟨some 12,.assign (.tmp 114),none⟩]))
def x19_L4 : XC:=.seq (.seq (.reg [⟨some 80,.move (.tmp 10),none⟩,⟨some 81,.fieldAddr 25 (.tmp 2) 2,none⟩,⟨some 82,.load 23 (.tmp 81),none⟩,⟨some 83,.call ⟨.builtin .len,#[.tmp 82],#[23]⟩,none⟩,⟨some 84,.binOp .lss 3 (.tmp 80) (.tmp 83) 3,none⟩]) (.cond (.tmp 84) .skip (.exit 4))) (.seq (.block 5 (.seq (.drawn 15 [⟨some 87,.fieldAddr 25 (.tmp 2) 2,none⟩,⟨some 88,.load 23 (.tmp 87),none⟩,⟨some 89,.move (.tmp 10),none⟩,⟨some 90,.indexAddr 23 (.tmp 88) (.tmp 89),none⟩,⟨some 91,.fieldAddr 55 (.tmp 90) 0,none⟩,⟨some 92,.load 9 (.tmp 91),none⟩,⟨some 93,.fieldAddr 25 (.tmp 2) 2,none⟩,⟨some 94,.load 23 (.tmp 93),none⟩,⟨some 95,.move (.tmp 10),none⟩,⟨some 96,.indexAddr 23 (.tmp 94) (.tmp 95),none⟩,⟨some 97,.fieldAddr 55 (.tmp 96) 1,none⟩,⟨some 98,.load 3 (.tmp 97),none⟩,⟨some 99,.fieldAddr 25 (.tmp 2) 2,none⟩,⟨some 100,.load 23 (.tmp 99),none⟩,⟨some 101,.move (.tmp 10),none⟩,⟨some 102,.indexAddr 23 (.tmp 100) (.tmp 101),none⟩,⟨some 103,.fieldAddr 55 (.tmp 102) 2,none⟩,⟨some 104,.load 53 (.tmp 103),none⟩,⟨some 105,.call ⟨.builtin .len,#[.tmp 104],#[53]⟩,none⟩,⟨some 106,.makeSlice 53 (.tmp 105) (.tmp 105),none⟩,⟨some 107,.build 55 #[(0,.tmp 92),(1,.tmp 98),(2,.tmp 106)],none⟩,⟨some 11,.alloc 55,none⟩,⟨none,.store 55 (.tmp 11) (.tmp 107),none⟩]) (.seq (.seq (.reg [⟨some 12,.assign (.const (.int .i64 0)),none⟩]) (.bloop 6 x19_L6)) (x19_T6)))) (.reg [⟨some 85,.move (.tmp 10),none⟩,⟨some 86,.binOp .add 3 (.tmp 85) (.const (.int .i64 1)) 3,none⟩,⟨some 10,.assign (.tmp 86),none⟩]))
def x19_T3 : XC:=.seq (.seq (.reg [⟨some 10,.assign (.const (.int .i64 0)),none⟩]) (.bloop 4 x19_L4)) (x19_T7)
def x19_T2 : XC:=.reg [⟨some 74,.fieldAddr 25 (.tmp 5) 1,none⟩,⟨some 75,.load 22 (.tmp 74),none⟩,⟨some 76,.load 52 (.tmp 8),none⟩,⟨some 77,.buildSlice 22 1 #[(0,.tmp 76)],none⟩,⟨some 78,.call ⟨.builtin .append,#[.tmp 75,.tmp 77],#[22,22]⟩,none⟩,⟨some 79,.fieldAddr 25 (.tmp 5) 1,none⟩,⟨none,.store 22 (.tmp 79) (.tmp 78),none⟩]
def x19_L2 : XC:=.seq (.seq (.reg [⟨some 45,.move (.tmp 9),none⟩,⟨some 46,.fieldAddr 52 (.tmp 8) 2,none⟩,⟨some 47,.load 31 (.tmp 46),none⟩,⟨some 48,.call ⟨.builtin .len,#[.tmp 47],#[31]⟩,none⟩,⟨some 49,.binOp .lss 3 (.tmp 45) (.tmp 48) 3,none⟩]) (.cond (.tmp 49) .skip (.exit 2))) (.seq (.block 3 (.drawn 10 [⟨some 52,.fieldAddr 52 (.tmp 8) 2,none⟩,⟨some 53,.load 31 (.tmp 52),none⟩,⟨some 54,.move (.tmp 6),none⟩,⟨some 55,.move (.tmp 9),none⟩,⟨some 56,.fieldAddr 52 (.tmp 8) 1,none⟩,⟨some 57,.load 3 (.tmp 56),none⟩,⟨some 58,.call ⟨.value (.tmp 54),#[.tmp 55,.tmp 57],#[3,3]⟩,none⟩,⟨some 59,.fieldAddr 25 (.tmp 2) 1,none⟩,⟨some 60,.load 22 (.tmp 59),none⟩,⟨some 61,.move (.tmp 7),none⟩,⟨some 62,.indexAddr 22 (.tmp 60) (.tmp 61),none⟩,⟨some 63,.fieldAddr 52 (.tmp 62) 2,none⟩,⟨some 64,.load 31 (.tmp 63),none⟩,⟨some 65,.move (.tmp 9),none⟩,⟨some 66,.indexAddr 31 (.tmp 64) (.tmp 65),none⟩,⟨some 67,.load 3 (.tmp 66),none⟩,⟨some 68,.load 3 (.tmp 3),none⟩,⟨some 69,.binOp .add 3 (.tmp 67) (.tmp 68) 3,none⟩,⟨some 70,.fieldAddr 25 (.tmp 2) 0,none⟩,⟨some 71,.load 3 (.tmp 70),none⟩,⟨some 72,.binOp .rem 3 (.tmp 69) (.tmp 71) 3,none⟩,⟨some 73,.indexAddr 31 (.tmp 53) (.tmp 58),none⟩,⟨none,.store 3 (.tmp 73) (.tmp 72),none⟩])) (.reg [⟨some 50,.move (.tmp 9),none⟩,⟨some 51,.binOp .add 3 (.tmp 50) (.const (.int .i64 1)) 3,none⟩,⟨some 9,.assign (.tmp 51),none⟩]))
def x19_L0 : XC:=.seq (.seq (.reg [⟨some 17,.move (.tmp 7),none⟩,⟨some 18,.fieldAddr 25 (.tmp 2) 1,none⟩,⟨some 19,.load 22 (.tmp 18),none⟩,⟨some 20,.call ⟨.builtin .len,#[.tmp 19],#[22]⟩,none⟩,⟨some 21,.binOp .lss 3 (.tmp 17) (.tmp 20) 3,none⟩]) (.cond (.tmp 21) .skip (.exit 0))) (.seq (.block 1 (.seq (.drawn 6 [⟨some 24,.fieldAddr 25 (.tmp 2) 1,none⟩,⟨some 25,.load 22 (.tmp 24),none⟩,⟨some 26,.move (.tmp 7),none⟩,⟨some 27,.indexAddr 22 (.tmp 25) (.tmp 26),none⟩,⟨some 28,.fieldAddr 52 (.tmp 27) 0,none⟩,⟨some 29,.load 9 (.tmp 28),none⟩,⟨some 30,.fieldAddr 25 (.tmp 2) 1,none⟩,⟨some 31,.load 22 (.tmp 30),none⟩,⟨some 32,.move (.tmp 7),none⟩,⟨some 33,.indexAddr 22 (.tmp 31) (.tmp 32),none⟩,⟨some 34,.fieldAddr 52 (.tmp 33) 1,none⟩,⟨some 35,.load 3 (.tmp 34),none⟩,⟨some 36,.fieldAddr 25 (.tmp 2) 1,none⟩,⟨some 37,.load 22 (.tmp 36),none⟩,⟨some 38,.move (.tmp 7),none⟩,⟨some 39,.indexAddr 22 (.tmp 37) (.tmp 38),none⟩,⟨some 40,.fieldAddr 52 (.tmp 39) 2,none⟩,⟨some 41,.load 31 (.tmp 40),none⟩,⟨some 42,.call ⟨.builtin .len,#[.tmp 41],#[31]⟩,none⟩,⟨some 43,.makeSlice 31 (.tmp 42) (.tmp 42),none⟩,⟨some 44,.build 52 #[(0,.tmp 29),(1,.tmp 35),(2,.tmp 43)],none⟩,⟨some 8,.alloc 52,none⟩,⟨none,.store 52 (.tmp 8) (.tmp 44),none⟩]) (.seq (.seq (.reg [⟨some 9,.assign (.const (.int .i64 0)),none⟩]) (.bloop 2 x19_L2)) (x19_T2)))) (.reg [⟨some 22,.move (.tmp 7),none⟩,⟨some 23,.binOp .add 3 (.tmp 22) (.const (.int .i64 1)) 3,none⟩,⟨some 7,.assign (.tmp 23),none⟩]))
def x19 : XC:=.seq (.reg [⟨some 2,.box 25 (.tmp 0),none⟩,⟨some 3,.box 3 (.tmp 1),none⟩,⟨some 4,.alloc 25,none⟩]) (.seq (.reg [⟨some 13,.fieldAddr 25 (.tmp 2) 0,none⟩,⟨some 14,.load 3 (.tmp 13),none⟩,⟨some 15,.build 25 #[(0,.tmp 14)],none⟩,⟨some 5,.alloc 25,none⟩,⟨none,.store 25 (.tmp 5) (.tmp 15),none⟩]) (.seq (.reg [⟨some 16,.makeFunc (.func 44) #[] #[.tmp 2,.tmp 3],none⟩,⟨some 6,.assign (.tmp 16),none⟩]) (.seq (.seq (.reg [⟨some 7,.assign (.const (.int .i64 0)),none⟩]) (.bloop 0 x19_L0)) (x19_T3))))
@[simp] theorem x19_s {C e s K} : type_of% (@X_at C e s K _ _ x19_T7.eq_1) ∧ type_of% (@X_at C e s K _ _ x19_T6.eq_1) ∧ type_of% (@X_at C e s K _ _ x19_L6.eq_1) ∧ type_of% (@X_at C e s K _ _ x19_L4.eq_1) ∧ type_of% (@X_at C e s K _ _ x19_T3.eq_1) ∧ type_of% (@X_at C e s K _ _ x19_T2.eq_1) ∧ type_of% (@X_at C e s K _ _ x19_L2.eq_1) ∧ type_of% (@X_at C e s K _ _ x19_L0.eq_1) ∧ type_of% (@X_at C e s K _ _ x19.eq_1):=⟨X_at x19_T7.eq_1,X_at x19_T6.eq_1,X_at x19_L6.eq_1,X_at x19_L4.eq_1,X_at x19_T3.eq_1,X_at x19_T2.eq_1,X_at x19_L2.eq_1,X_at x19_L0.eq_1,X_at x19.eq_1⟩
@[simp] def tr19_6 : MT:=.op 0 (.op 1 (.op 2 (.op 3 (.op 4 (.op 5 (.op 6 (.op 7 (.op 8 (.op 9 (.op 10 (.op 11 (.op 12 (.op 13 (.op 14 (.op 15 (.op 16 (.op 17 (.op 18 (.br (.op 19 (.ck 1 (.ck 3 (.ck 5 (.ck 7 (.ck 9 (.ck 11 (.op 20 (.op 21 (.ck 1 (.ck 3 (.ck 5 (.ck 7 (.ck 9 (.ck 11 (.ck 20 (.op 22 .fin))))))))))))))))) (.op 21 (.ck 1 (.ck 3 (.ck 5 (.ck 7 (.ck 9 (.ck 11 (.ck 13 (.ck 15 (.ck 17 (.ck 18 (.op 19 (.ck 1 (.ck 3 (.ck 5 (.ck 7 (.ck 9 (.ck 11 (.op 20 (.op 22 .fin)))))))))))))))))))))))))))))))))))))))
def an19 : Ann:=⟨[(6,.tree tr19_6),(10,.mix 21),(15,.tree tr19_6),(19,.mix 16)],[(6,[],[2,4,5,6,10,11,12],[2,4,5,6,10,11]),(4,[(5,some 2,3)],[2,4,5,6,10],[4,5]),(2,[],[2,3,4,5,6,7,8,9],[2,3,4,5,6,7,8]),(0,[(5,some 1,3)],[2,3,4,5,6,7],[2,4,5,6])],[]⟩
@[simp] theorem an19_a : an19.clsOf 6 = .tree tr19_6 ∧ an19.clsOf 10 = .mix 21 ∧ an19.clsOf 15 = .tree tr19_6 ∧ an19.clsOf 19 = .mix 16 ∧ an19.frzOf 6 = [] ∧ an19.frzOf 10 = [] ∧ an19.frzOf 15 = [] ∧ an19.frzOf 19 = [] ∧ an19.loopOf 6 = ([],[2,4,5,6,10,11,12],[2,4,5,6,10,11]) ∧ an19.loopOf 4 = ([(5,some 2,3)],[2,4,5,6,10],[4,5]) ∧ an19.loopOf 2 = ([],[2,3,4,5,6,7,8,9],[2,3,4,5,6,7,8]) ∧ an19.loopOf 0 = ([(5,some 1,3)],[2,3,4,5,6,7],[2,4,5,6]):=⟨rfl,rfl,rfl,rfl,rfl,rfl,rfl,rfl,rfl,rfl,rfl,rfl⟩
theorem fi19 : FI Try.prog 19 (cxA an19) x19 [.cell 4 25] Try.f19:=fiA Try.func19 mixed
theorem renumbered_gen (n b : Int) (h0 : 0 < n) (h8 : n ≤ 8) (hb0 : 0 ≤ b) (hb : b ≤ 100) (F : List Fn) (hF : FunsOk n F) (hF10 : F.length ≤ 10) (P : List Pd) (hP : PredsOk n P) (hP10 : P.length ≤ 10) (G : List Fn) (hG : G = F.map (renFn n b)) (M : List Pd) (hM : M = P.map (renPd n b)) : CallOK Try.prog 19 [.agg [.int .i64 n,.list (F.map fnRow),.list (P.map pdRow)],.int .i64 b] [] (.agg [.int .i64 n,.list (G.map fnRow),.list (M.map pdRow)]) []:=by
 have hmv:=fun a ha j hp=>mvN_K (n:=n) (b:=b) h0 a j ▸ move_law n b h0 h8 hb0 hb (F.map fnRow) (P.map pdRow) a ha (j : Int) (by omega) hp
 have hGl : G.length = F.length:=by rw [hG,List.length_map]
 have hMl : M.length = P.length:=by rw [hM,List.length_map]
 refine fi19.os ?_
 (refine Sg.h ?_;try repeat' ((with_reducible first|refine brA ?_|refine brE fun _=>?_|refine spl ⟨?_,?_⟩<;>intro _)<;>((try simp -implicitDefEqProofs);(try simp -implicitDefEqProofs(disch:=first|assumption|(try simp only[lens]);omega -splitDisjunctions)))))
 refine W_of fun Q hQ=>?_
 have main : ∀ k i,i + k = F.length → Q [(2,.ptr 0 0 0),(3,.ptr 1 0 0),(4,.ptr 2 0 0),(5,.ptr 3 0 0),(6,.fn (.func 44) [] [.ptr 0 0 0,.ptr 1 0 0]),(7,.int .i64 (i : Int))] [.rows 3 [[.int .i64 n,.list (F.map fnRow),.list (P.map pdRow)]],.rows 1 [[.int .i64 b]],.rows 3 [[.int .i64 0,.nilsl,.nilsl]],.rows 3 [[.int .i64 n,.sl 4 0 (G.take i).length,.nilsl]],.rows 3 ((G.take i).map fnRow)]:=by
  intro k
  induction k with
  | zero=>
   intro i hi
   rw [List.take_of_length_le (by omega)]
   have hi' : ¬ (i : Int) < (F.length : Int):=by omega
   apply hQ
   clear hQ
   (refine Sg.h ?_;try repeat' ((with_reducible first|refine brA ?_|refine brE fun _=>?_|refine spl ⟨?_,?_⟩<;>intro _)<;>((try simp -implicitDefEqProofs [hi']);(try simp -implicitDefEqProofs(disch:=first|assumption|(try simp only[lens]);omega -splitDisjunctions) [hi']))))
   refine W_of fun Q hQ=>?_
   have main : ∀ k i,i + k = P.length → Q [(2,.ptr 0 0 0),(4,.ptr 1 0 0),(5,.ptr 2 0 0),(6,.fn (.func 44) [] [.ptr 0 0 0,.ptr 3 0 0]),(10,.int .i64 (i : Int))] [.rows 3 [[.int .i64 n,.list (F.map fnRow),.list (P.map pdRow)]],.rows 3 [[.int .i64 0,.nilsl,.nilsl]],.rows 3 [[.int .i64 n,.sl 4 0 G.length,.sl 5 0 (M.take i).length]],.rows 1 [[.int .i64 b]],.rows 3 (G.map fnRow),.rows 3 ((M.take i).map pdRow)]:=by
    intro k
    induction k with
    | zero=>
     intro i hi
     rw [List.take_of_length_le (by omega)]
     have hi' : ¬ (i : Int) < (P.length : Int):=by omega
     apply hQ
     clear hQ
     (refine Sg.h ?_;try repeat' ((with_reducible first|refine brA ?_|refine brE fun _=>?_|refine spl ⟨?_,?_⟩<;>intro _)<;>((try simp -implicitDefEqProofs [hi']);(try simp -implicitDefEqProofs(disch:=first|assumption|(try simp only[lens]);omega -splitDisjunctions) [hi']))))
    | succ k ihk=>
     intro i hi
     have hil : i < P.length:=by omega
     have hilG : i < M.length:=by omega
     have hGi : M[i] = renPd n b P[i]:=by subst hM;rw [List.getElem_map]
     have ihk:=ihk (i + 1) (by omega)
     rw [take_snocV hilG,List.map_append,List.map_singleton,hGi] at ihk
     have hlt : (M.take i).length ≤ 10:=by rw [List.length_take];omega
     obtain ⟨t1,t2,t3⟩:=bitF_zero (hP _ (List.getElem_mem hil))
     have hi' : (i : Int) < (P.length : Int):=by omega
     clear hM hGi
     generalize M.take i = T at *
     generalize hx : P[i] = x at *
     obtain ⟨a,hau,hale⟩ : ∃ a : Nat,x.ar = (a : Int) ∧ a ≤ 3:=⟨x.ar.toNat,by omega,by omega⟩
     rw [hau,Int.toNat_natCast] at t3
     have hpw:=pow8 h0 h8 (k:=a) (by omega)
     obtain ⟨tb,htb⟩ : ∃ tb : Nat → List Bool,tb = putAll false (mvK n b a) (fun j=>x.bits.getD j false) x.bits.length:=⟨_,rfl⟩
     have hzz : List.replicate x.bits.length [PV.bool false] = (tb 0).map boolRow:=by rw [htb,zerosB];rfl
     have hlen : ∀ k,(tb k).length = x.bits.length:=fun k=>by rw [htb];exact putAll_len k
     have hsuc : ∀ k,tb (k + 1) = (tb k).set (mvK n b a k) (x.bits.getD k false):=fun k=>by rw [htb];rfl
     have hfin : renPd n b x = ⟨x.name,x.ar,tb x.bits.length⟩:=by unfold renPd renB;rw [htb,hau,Int.toNat_natCast]
     rw [hfin] at ihk
     clear htb hfin
     have hl0:=hlen 0
     apply hQ
     clear hQ
     (refine Sg.h ?_;try repeat' ((with_reducible first|refine brA ?_|refine brE fun _=>?_|refine spl ⟨?_,?_⟩<;>intro _)<;>((try simp -implicitDefEqProofs [hi',hil,hx,hau,hzz,hl0]);(try simp -implicitDefEqProofs(disch:=first|assumption|(try simp only[lens]);omega -splitDisjunctions) [hi',hil,hx,hau,hzz,hl0]))))
     refine W_of fun Q2 hQ2=>?_
     have main2 : ∀ r j,j + r = x.bits.length → Q2 [(2,.ptr 0 0 0),(4,.ptr 1 0 0),(5,.ptr 2 0 0),(6,.fn (.func 44) [] [.ptr 0 0 0,.ptr 3 0 0]),(10,.int .i64 (i : Int)),(11,.ptr 4 0 0),(12,.int .i64 (j : Int))] [.rows 3 [[.int .i64 n,.list (F.map fnRow),.list (P.map pdRow)]],.rows 3 [[.int .i64 0,.nilsl,.nilsl]],.rows 3 [[.int .i64 n,.sl 5 0 G.length,.sl 6 0 T.length]],.rows 1 [[.int .i64 b]],.rows 3 [[.str x.name,.int .i64 (a : Int),.sl 7 0 x.bits.length]],.rows 3 (G.map fnRow),.rows 3 (T.map pdRow),.rows 1 ((tb j).map boolRow)]:=by
      intro r
      induction r with
      | zero=>
       intro j hj
       obtain rfl : j = x.bits.length:=by omega
       have hll:=hlen x.bits.length
       have hrow : pdRow ⟨x.name,x.ar,tb x.bits.length⟩ = [.str x.name,.int .i64 (a : Int),.list ((tb x.bits.length).map boolRow)]:=by rw [hau];rfl
       rw [hrow] at ihk
       have htk : List.take x.bits.length ((tb x.bits.length).map boolRow) = (tb x.bits.length).map boolRow:=List.take_of_length_le (by simp [hll])
       generalize tb x.bits.length = tl at *
       clear hsuc hlen hzz hl0
       apply hQ2
       clear hQ2
       (refine Sg.h ?_;try repeat' ((with_reducible first|refine brA ?_|refine brE fun _=>?_|refine spl ⟨?_,?_⟩<;>intro _)<;>((try simp -implicitDefEqProofs [hi',hil,hx,hau,hll,htk]);(try simp -implicitDefEqProofs(disch:=first|assumption|(try simp only[lens]);omega -splitDisjunctions) [hi',hil,hx,hau,hll,htk]))))
       all_goals first|exact ihk|(refine at2 ihk ?_ ?_<;>simp;done)|(exfalso;first|omega|(simp_all;done)|(simp_all;omega))
      | succ r ihr=>
       intro j hj
       have hjl : j < x.bits.length:=by omega
       have ihr:=ihr (j + 1) (by omega)
       have hc:=hmv a hale j (by omega)
       have hmk:=mvK_lt (b:=b) h0 t3 j
       rw [hsuc,List.getD_eq_getElem?_getD,List.getElem?_eq_getElem hjl,Option.getD_some] at ihr
       have hjt:=hlen j
       have hj' : (j : Int) < (x.bits.length : Int):=by omega
       generalize hy : x.bits[j] = y at *
       generalize mvK n b a j = m at *
       generalize tb j = tj at *
       clear ihk hsuc hlen hzz hl0
       apply hQ2
       clear hQ2
       (refine Sg.h ?_;try repeat' ((with_reducible first|refine brA ?_|refine brE fun _=>?_|refine spl ⟨?_,?_⟩<;>intro _)<;>((try simp -implicitDefEqProofs [hi',hil,hx,hau,hj',hjl,hy]);(try simp -implicitDefEqProofs(disch:=first|assumption|(try simp only[lens]);omega -splitDisjunctions) [hi',hil,hx,hau,hj',hjl,hy]))))
       refine CM.see hc (fun t=>by simp) (flat_int _ _) ?_
       (refine Sg.h ?_;try repeat' ((with_reducible first|refine brA ?_|refine brE fun _=>?_|refine spl ⟨?_,?_⟩<;>intro _)<;>((try simp -implicitDefEqProofs [hi',hil,hx,hau,hj',hjl,hy,hmk]);(try simp -implicitDefEqProofs(disch:=first|assumption|(try simp only[lens]);omega -splitDisjunctions) [hi',hil,hx,hau,hj',hjl,hy,hmk]))))
       all_goals first|exact ihr|(refine at2 ihr ?_ ?_<;>simp;done)|(exfalso;first|omega|(simp_all;done)|(simp_all;omega))
     all_goals first|exact main2 x.bits.length 0 (Nat.zero_add _)|(refine at2 main2 x.bits.length 0 (Nat.zero_add _) ?_ ?_<;>simp;done)|(exfalso;first|omega|(simp_all;done)|(simp_all;omega))
   all_goals first|exact main P.length 0 (Nat.zero_add _)|(refine at2 main P.length 0 (Nat.zero_add _) ?_ ?_<;>simp;done)|(exfalso;first|omega|(simp_all;done)|(simp_all;omega))
  | succ k ihk=>
   intro i hi
   have hil : i < F.length:=by omega
   have hilG : i < G.length:=by omega
   have hGi : G[i] = renFn n b F[i]:=by subst hG;rw [List.getElem_map]
   have ihk:=ihk (i + 1) (by omega)
   rw [take_snocV hilG,List.map_append,List.map_singleton,hGi] at ihk
   have hlt : (G.take i).length ≤ 10:=by rw [List.length_take];omega
   obtain ⟨t1,t2,t3,t4⟩:=tabF_zero (hF _ (List.getElem_mem hil))
   have hi' : (i : Int) < (F.length : Int):=by omega
   clear hG hGi
   generalize G.take i = T at *
   generalize hx : F[i] = x at *
   obtain ⟨a,hau,hale⟩ : ∃ a : Nat,x.ar = (a : Int) ∧ a ≤ 3:=⟨x.ar.toNat,by omega,by omega⟩
   rw [hau,Int.toNat_natCast] at t3
   have hpw:=pow8 h0 h8 (k:=a) (by omega)
   obtain ⟨tb,htb⟩ : ∃ tb : Nat → List Int,tb = putAll 0 (mvK n b a) (fun j=>piV n b (x.tab.getD j 0)) x.tab.length:=⟨_,rfl⟩
   have hzz : List.replicate x.tab.length [PV.int .i64 0] = (tb 0).map intRow:=by rw [htb,zerosI];rfl
   have hlen : ∀ k,(tb k).length = x.tab.length:=fun k=>by rw [htb];exact putAll_len k
   have hsuc : ∀ k,tb (k + 1) = (tb k).set (mvK n b a k) (piV n b (x.tab.getD k 0)):=fun k=>by rw [htb];rfl
   have hfin : renFn n b x = ⟨x.name,x.ar,tb x.tab.length⟩:=by unfold renFn renT;rw [htb,hau,Int.toNat_natCast]
   rw [hfin] at ihk
   clear htb hfin
   have hl0:=hlen 0
   apply hQ
   clear hQ
   (refine Sg.h ?_;try repeat' ((with_reducible first|refine brA ?_|refine brE fun _=>?_|refine spl ⟨?_,?_⟩<;>intro _)<;>((try simp -implicitDefEqProofs [hi',hil,hx,hau,hzz,hl0]);(try simp -implicitDefEqProofs(disch:=first|assumption|(try simp only[lens]);omega -splitDisjunctions) [hi',hil,hx,hau,hzz,hl0]))))
   refine W_of fun Q2 hQ2=>?_
   have main2 : ∀ r j,j + r = x.tab.length → Q2 [(2,.ptr 0 0 0),(3,.ptr 1 0 0),(4,.ptr 2 0 0),(5,.ptr 3 0 0),(6,.fn (.func 44) [] [.ptr 0 0 0,.ptr 1 0 0]),(7,.int .i64 (i : Int)),(8,.ptr 4 0 0),(9,.int .i64 (j : Int))] [.rows 3 [[.int .i64 n,.list (F.map fnRow),.list (P.map pdRow)]],.rows 1 [[.int .i64 b]],.rows 3 [[.int .i64 0,.nilsl,.nilsl]],.rows 3 [[.int .i64 n,.sl 5 0 T.length,.nilsl]],.rows 3 [[.str x.name,.int .i64 (a : Int),.sl 6 0 x.tab.length]],.rows 3 (T.map fnRow),.rows 1 ((tb j).map intRow)]:=by
    intro r
    induction r with
    | zero=>
     intro j hj
     obtain rfl : j = x.tab.length:=by omega
     have hll:=hlen x.tab.length
     have hrow : fnRow ⟨x.name,x.ar,tb x.tab.length⟩ = [.str x.name,.int .i64 (a : Int),.list ((tb x.tab.length).map intRow)]:=by rw [hau];rfl
     rw [hrow] at ihk
     have htk : List.take x.tab.length ((tb x.tab.length).map intRow) = (tb x.tab.length).map intRow:=List.take_of_length_le (by simp [hll])
     generalize tb x.tab.length = tl at *
     clear hsuc hlen hzz hl0
     apply hQ2
     clear hQ2
     (refine Sg.h ?_;try repeat' ((with_reducible first|refine brA ?_|refine brE fun _=>?_|refine spl ⟨?_,?_⟩<;>intro _)<;>((try simp -implicitDefEqProofs [hi',hil,hx,hau,hll,htk]);(try simp -implicitDefEqProofs(disch:=first|assumption|(try simp only[lens]);omega -splitDisjunctions) [hi',hil,hx,hau,hll,htk]))))
     all_goals first|exact ihk|(refine at2 ihk ?_ ?_<;>simp;done)|(exfalso;first|omega|(simp_all;done)|(simp_all;omega))
    | succ r ihr=>
     intro j hj
     have hjl : j < x.tab.length:=by omega
     have ihr:=ihr (j + 1) (by omega)
     have hc:=hmv a hale j (by omega)
     have hxj:=t4 _ (List.getElem_mem hjl)
     have hmk:=mvK_lt (b:=b) h0 t3 j
     rw [hsuc,List.getD_eq_getElem?_getD,List.getElem?_eq_getElem hjl,Option.getD_some] at ihr
     have hjt:=hlen j
     have hj' : (j : Int) < (x.tab.length : Int):=by omega
     generalize hy : x.tab[j] = y at *
     have hrem : (y + b).tmod n = piV n b y:=Int.tmod_eq_emod_of_nonneg (by omega)
     generalize piV n b y = z at *
     generalize mvK n b a j = m at *
     generalize tb j = tj at *
     have hn0 : ¬ n = 0:=by omega
     clear ihk hsuc hlen hzz hl0
     apply hQ2
     clear hQ2
     (refine Sg.h ?_;try repeat' ((with_reducible first|refine brA ?_|refine brE fun _=>?_|refine spl ⟨?_,?_⟩<;>intro _)<;>((try simp -implicitDefEqProofs [hi',hil,hx,hau,hj',hjl,hy,hrem,hn0]);(try simp -implicitDefEqProofs(disch:=first|assumption|(try simp only[lens]);omega -splitDisjunctions) [hi',hil,hx,hau,hj',hjl,hy,hrem,hn0]))))
     refine CM.see hc (fun t=>by simp) (flat_int _ _) ?_
     (refine Sg.h ?_;try repeat' ((with_reducible first|refine brA ?_|refine brE fun _=>?_|refine spl ⟨?_,?_⟩<;>intro _)<;>((try simp -implicitDefEqProofs [hi',hil,hx,hau,hj',hjl,hy,hrem,hn0,hmk]);(try simp -implicitDefEqProofs(disch:=first|assumption|(try simp only[lens]);omega -splitDisjunctions) [hi',hil,hx,hau,hj',hjl,hy,hrem,hn0,hmk]))))
     all_goals first|exact ihr|(refine at2 ihr ?_ ?_<;>simp;done)|(exfalso;first|omega|(simp_all;done)|(simp_all;omega))
   all_goals first|exact main2 x.tab.length 0 (Nat.zero_add _)|(refine at2 main2 x.tab.length 0 (Nat.zero_add _) ?_ ?_<;>simp;done)|(exfalso;first|omega|(simp_all;done)|(simp_all;omega))
 all_goals first|exact main F.length 0 (Nat.zero_add _)|(refine at2 main F.length 0 (Nat.zero_add _) ?_ ?_<;>simp;done)|(exfalso;first|omega|(simp_all;done)|(simp_all;omega))
end Go.Proofs.Ytlcplnafkeklaaa
