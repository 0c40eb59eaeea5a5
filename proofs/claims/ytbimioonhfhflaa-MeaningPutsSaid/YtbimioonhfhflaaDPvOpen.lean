import Derived.Test.YtbimioonhfhflaaDMnJ
import Derived.Test.YtbimioonhfhflaaDFbQ
import Derived.Test.YtbimioonhfhflaaDMnR
import Derived.Test.YtbimioonhfhflaaDFbY
import Derived.Test.YtbimioonhfhflaaDPvData
import Derived.DataReads
import Derived.ChangeShapes
set_option linter.unusedVariables false
set_option linter.unusedSimpArgs false
set_option maxRecDepth 100000
set_option maxHeartbeats 4000000
namespace Go.Proofs.Ytbimioonhfhflaa
open Go Go.Pv
theorem flatBF (b : Bool) (x y : Int) : Flat (.tuple [.bool b,.agg [.int .i64 x,.int .i64 y]]):=flat_tuple fun v hv=>by
 simp only [List.mem_cons,List.not_mem_nil,or_false] at hv
 rcases hv with rfl | rfl
 ·exact flat_bool _
 ·refine flat_agg fun v hv => ?_
  simp only [List.mem_cons,List.not_mem_nil,or_false] at hv
  rcases hv with rfl | rfl <;> exact flat_int _ _
def x3_T1 : XC:=.seq (.reg [⟨some 81,.load 29 (.tmp 7),none⟩,⟨some 82,.move (.tmp 2),none⟩,⟨some 83,.load 31 (.tmp 9),none⟩,⟨some 84,.call ⟨.value (.func 10),#[.tmp 81,.tmp 82,.tmp 83],#[29,9,31]⟩,none⟩,⟨some 80,.move (.tmp 84),none⟩,⟨some 85,.extract (.tmp 80) 0,none⟩,⟨some 86,.extract (.tmp 80) 1,none⟩,⟨some 14,.alloc 29,none⟩,⟨some 15,.alloc 39,none⟩,⟨none,.store 29 (.tmp 14) (.tmp 85),none⟩,⟨none,.store 39 (.tmp 15) (.tmp 86),none⟩]) (.seq (.seq (.reg [⟨some 87,.fieldAddr 39 (.tmp 15) 0,none⟩,⟨some 88,.load 3 (.tmp 87),none⟩,⟨some 89,.binOp .neq 3 (.tmp 88) (.const (.int .i64 0)) 3,none⟩]) (.cond (.tmp 89) (.seq (.reg [⟨some 12,.assign (.const (.bool true)),none⟩]) .ret) .skip)) (.seq (.reg [⟨some 90,.load 25 (.tmp 6),none⟩,⟨some 91,.load 31 (.tmp 9),none⟩,⟨some 92,.move (.tmp 4),none⟩,⟨some 93,.move (.tmp 5),none⟩,⟨some 94,.call ⟨.value (.func 11),#[.tmp 90,.tmp 91,.tmp 92,.tmp 93],#[25,31,32,33]⟩,none⟩,⟨some 16,.assign (.tmp 94),none⟩]) (.seq (.seq (.reg [⟨some 95,.move (.tmp 16),none⟩,⟨some 96,.binOp .lss 3 (.tmp 95) (.const (.int .i64 0)) 3,none⟩]) (.cond (.tmp 96) (.seq (.reg [⟨some 12,.assign (.const (.bool true)),none⟩]) .ret) .skip)) (.seq (.reg [⟨some 98,.load 25 (.tmp 6),none⟩,⟨some 99,.load 29 (.tmp 14),none⟩,⟨some 100,.move (.tmp 4),none⟩,⟨some 101,.move (.tmp 5),none⟩,⟨some 102,.call ⟨.value (.func 12),#[.tmp 98,.tmp 99,.tmp 100,.tmp 101],#[25,29,32,33]⟩,none⟩,⟨some 97,.move (.tmp 102),none⟩,⟨some 103,.extract (.tmp 97) 0,none⟩,⟨some 104,.extract (.tmp 97) 1,none⟩,⟨some 18,.alloc 39,none⟩,⟨some 17,.assign (.tmp 103),none⟩,⟨none,.store 39 (.tmp 18) (.tmp 104),none⟩]) (.seq (.drawn 17 [⟨some 106,.load 25 (.tmp 6),none⟩,⟨some 107,.load 29 (.tmp 7),none⟩,⟨some 108,.move (.tmp 4),none⟩,⟨some 109,.call ⟨.builtin .append,#[.const (.slice none 0 0),.tmp 108],#[32,32]⟩,none⟩,⟨some 110,.move (.tmp 2),none⟩,⟨some 111,.buildSlice 32 1 #[(0,.tmp 110)],none⟩,⟨some 112,.call ⟨.builtin .append,#[.tmp 109,.tmp 111],#[32,32]⟩,none⟩,⟨some 113,.move (.tmp 5),none⟩,⟨some 114,.call ⟨.builtin .append,#[.const (.slice none 0 0),.tmp 113],#[33,33]⟩,none⟩,⟨some 115,.move (.tmp 16),none⟩,⟨some 116,.buildSlice 33 1 #[(0,.tmp 115)],none⟩,⟨some 117,.call ⟨.builtin .append,#[.tmp 114,.tmp 116],#[33,33]⟩,none⟩,⟨some 118,.call ⟨.value (.func 12),#[.tmp 106,.tmp 107,.tmp 112,.tmp 117],#[25,29,32,33]⟩,none⟩,⟨some 105,.move (.tmp 118),none⟩,⟨some 119,.extract (.tmp 105) 0,none⟩,⟨some 120,.extract (.tmp 105) 1,none⟩,⟨some 20,.alloc 39,none⟩,⟨some 19,.assign (.tmp 119),none⟩,⟨none,.store 39 (.tmp 20) (.tmp 120),none⟩]) (.seq (.seq (.reg [⟨some 121,.fieldAddr 39 (.tmp 20) 0,none⟩,⟨some 122,.load 3 (.tmp 121),none⟩,⟨some 123,.binOp .neq 3 (.tmp 122) (.const (.int .i64 0)) 3,none⟩]) (.cond (.tmp 123) (.seq (.reg [⟨some 12,.assign (.const (.bool true)),none⟩]) .ret) .skip)) (.seq (.reg [⟨some 124,.fieldAddr 39 (.tmp 18) 0,none⟩,⟨some 125,.load 3 (.tmp 124),none⟩,⟨some 126,.binOp .eql 3 (.tmp 125) (.const (.int .i64 0)) 3,none⟩,⟨some 127,.move (.tmp 126),none⟩,⟨some 128,.move (.tmp 17),some (some 127,true)⟩,⟨some 129,.move (.tmp 19),some (some 127,true)⟩,⟨some 130,.binOp .eql 4 (.tmp 128) (.tmp 129) 4,some (some 127,true)⟩,⟨some 131,.pick (.tmp 127) (.tmp 130) (.const (.bool false)),none⟩,⟨some 12,.assign (.tmp 131),none⟩]) .ret)))))))
def x3_L0 : XC:=.seq (.seq (.reg [⟨some 52,.move (.tmp 13),none⟩,⟨some 53,.move (.tmp 4),none⟩,⟨some 54,.call ⟨.builtin .len,#[.tmp 53],#[32]⟩,none⟩,⟨some 55,.binOp .lss 3 (.tmp 52) (.tmp 54) 3,none⟩]) (.cond (.tmp 55) .skip (.exit 0))) (.seq (.block 1 (.seq (.drawn 8 [⟨some 58,.move (.tmp 4),none⟩,⟨some 59,.move (.tmp 13),none⟩,⟨some 60,.indexAddr 32 (.tmp 58) (.tmp 59),none⟩,⟨some 61,.load 9 (.tmp 60),none⟩,⟨some 62,.call ⟨.value (.func 8),#[.tmp 61],#[9]⟩,none⟩,⟨some 63,.unOp .not 4 (.tmp 62),none⟩,⟨some 64,.move (.tmp 63),none⟩,⟨some 65,.move (.tmp 5),some (some 64,false)⟩,⟨some 66,.move (.tmp 13),some (some 64,false)⟩,⟨some 67,.indexAddr 33 (.tmp 65) (.tmp 66),some (some 64,false)⟩,⟨some 68,.load 3 (.tmp 67),some (some 64,false)⟩,⟨some 69,.binOp .lss 3 (.tmp 68) (.const (.int .i64 0)) 3,some (some 64,false)⟩,⟨some 70,.pick (.tmp 64) (.const (.bool true)) (.tmp 69),none⟩,⟨some 71,.move (.tmp 70),none⟩,⟨some 72,.move (.tmp 5),some (some 71,false)⟩,⟨some 73,.move (.tmp 13),some (some 71,false)⟩,⟨some 74,.indexAddr 33 (.tmp 72) (.tmp 73),some (some 71,false)⟩,⟨some 75,.load 3 (.tmp 74),some (some 71,false)⟩,⟨some 76,.fieldAddr 25 (.tmp 6) 0,some (some 71,false)⟩,⟨some 77,.load 3 (.tmp 76),some (some 71,false)⟩,⟨some 78,.binOp .geq 3 (.tmp 75) (.tmp 77) 3,some (some 71,false)⟩,⟨some 79,.pick (.tmp 71) (.const (.bool true)) (.tmp 78),none⟩]) (.cond (.tmp 79) (.seq (.reg [⟨some 12,.assign (.const (.bool true)),none⟩]) .ret) .skip))) (.reg [⟨some 56,.move (.tmp 13),none⟩,⟨some 57,.binOp .add 3 (.tmp 56) (.const (.int .i64 1)) 3,none⟩,⟨some 13,.assign (.tmp 57),none⟩]))
def x3 : XC:=.seq (.reg [⟨some 6,.box 25 (.tmp 0),none⟩,⟨some 7,.box 29 (.tmp 1),none⟩,⟨some 9,.box 31 (.tmp 3),none⟩,⟨some 12,.assign (.const (.bool false)),none⟩]) (.seq (.seq (.reg [⟨some 21,.call ⟨.value (.func 5),#[],#[]⟩,none⟩,⟨some 22,.unOp .not 4 (.tmp 21),none⟩]) (.cond (.tmp 22) (.seq (.reg [⟨some 12,.assign (.const (.bool false)),none⟩]) .ret) .skip)) (.seq (.seq (.reg [⟨some 23,.load 29 (.tmp 7),none⟩,⟨some 24,.call ⟨.value (.func 6),#[.tmp 23,.const (.int .i64 0)],#[29,3]⟩,none⟩,⟨some 25,.move (.tmp 24),none⟩,⟨some 26,.load 31 (.tmp 9),some (some 25,false)⟩,⟨some 27,.call ⟨.value (.func 7),#[.tmp 26],#[31]⟩,some (some 25,false)⟩,⟨some 28,.pick (.tmp 25) (.const (.bool true)) (.tmp 27),none⟩,⟨some 29,.move (.tmp 28),none⟩,⟨some 30,.move (.tmp 4),some (some 29,false)⟩,⟨some 31,.call ⟨.builtin .len,#[.tmp 30],#[32]⟩,some (some 29,false)⟩,⟨some 32,.binOp .gtr 3 (.tmp 31) (.const (.int .i64 19)) 3,some (some 29,false)⟩,⟨some 33,.pick (.tmp 29) (.const (.bool true)) (.tmp 32),none⟩,⟨some 34,.move (.tmp 33),none⟩,⟨some 35,.move (.tmp 4),some (some 34,false)⟩,⟨some 36,.call ⟨.builtin .len,#[.tmp 35],#[32]⟩,some (some 34,false)⟩,⟨some 37,.move (.tmp 5),some (some 34,false)⟩,⟨some 38,.call ⟨.builtin .len,#[.tmp 37],#[33]⟩,some (some 34,false)⟩,⟨some 39,.binOp .neq 3 (.tmp 36) (.tmp 38) 3,some (some 34,false)⟩,⟨some 40,.pick (.tmp 34) (.const (.bool true)) (.tmp 39),none⟩,⟨some 41,.move (.tmp 40),none⟩,⟨some 42,.move (.tmp 2),some (some 41,false)⟩,⟨some 43,.call ⟨.value (.func 8),#[.tmp 42],#[9]⟩,some (some 41,false)⟩,⟨some 44,.unOp .not 4 (.tmp 43),some (some 41,false)⟩,⟨some 45,.pick (.tmp 41) (.const (.bool true)) (.tmp 44),none⟩,⟨some 46,.move (.tmp 45),none⟩,⟨some 47,.load 25 (.tmp 6),some (some 46,false)⟩,⟨some 48,.call ⟨.value (.func 9),#[.tmp 47],#[25]⟩,some (some 46,false)⟩,⟨some 49,.field 39 (.tmp 48) 0,some (some 46,false)⟩,⟨some 50,.binOp .neq 3 (.tmp 49) (.const (.int .i64 0)) 3,some (some 46,false)⟩,⟨some 51,.pick (.tmp 46) (.const (.bool true)) (.tmp 50),none⟩]) (.cond (.tmp 51) (.seq (.reg [⟨some 12,.assign (.const (.bool true)),none⟩]) .ret) .skip)) (.seq (.seq (.reg [⟨some 13,.assign (.const (.int .i64 0)),none⟩]) (.bloop 0 x3_L0)) (x3_T1))))
@[simp] theorem x3_s {C e s K} : type_of% (@X_at C e s K _ _ x3_T1.eq_1) ∧ type_of% (@X_at C e s K _ _ x3_L0.eq_1) ∧ type_of% (@X_at C e s K _ _ x3.eq_1):=⟨X_at x3_T1.eq_1,X_at x3_L0.eq_1,X_at x3.eq_1⟩
@[simp] def tr3_17 : MT:=.op 0 (.op 1 (.op 2 (.op 4 (.op 7 (.op 9 (.zp 5 (.zp 10 (.br (.op 3 (.ck 0 (.ck 1 (.br (.op 6 (.ck 0 (.ck 1 (.br (.op 8 (.ck 0 (.ck 1 (.br (.op 11 (.ck 0 (.ck 1 (.br (.op 12 (.op 13 (.op 14 (.op 15 (.op 16 (.op 17 (.op 18 .fin))))))) (.op 16 (.ck 0 (.ck 1 (.op 12 (.op 13 (.op 14 (.op 15 (.op 17 (.op 18 .fin))))))))))))) (.op 16 (.ck 0 (.ck 1 (.op 11 (.ck 0 (.ck 1 (.op 12 (.op 13 (.op 14 (.op 15 (.op 17 (.op 18 .fin)))))))))))))))) (.op 16 (.ck 0 (.ck 1 (.op 8 (.ck 0 (.ck 1 (.op 11 (.ck 0 (.ck 1 (.op 12 (.op 13 (.op 14 (.op 15 (.op 17 (.op 18 .fin))))))))))))))))))) (.op 16 (.ck 0 (.ck 1 (.op 6 (.ck 0 (.ck 1 (.op 8 (.ck 0 (.ck 1 (.op 11 (.ck 0 (.ck 1 (.op 12 (.op 13 (.op 14 (.op 15 (.op 17 (.op 18 .fin)))))))))))))))))))))) (.op 16 (.ck 0 (.ck 1 (.op 3 (.ck 0 (.ck 1 (.op 6 (.ck 0 (.ck 1 (.op 8 (.ck 0 (.ck 1 (.op 11 (.ck 0 (.ck 1 (.op 12 (.op 13 (.op 14 (.op 15 (.op 17 (.op 18 .fin)))))))))))))))))))))))))))))
def an3 : Ann:=⟨[(8,.mix 20),(17,.tree tr3_17)],[(0,[],[2,4,5,6,7,9,13],[2,4,5,6,7,9,12])],[(17,[2,16])]⟩
@[simp] theorem an3_a : an3.clsOf 8 = .mix 20 ∧ an3.clsOf 17 = .tree tr3_17 ∧ an3.frzOf 8 = [] ∧ an3.frzOf 17 = [2,16] ∧ an3.loopOf 0 = ([],[2,4,5,6,7,9,13],[2,4,5,6,7,9,12]):=⟨rfl,rfl,rfl,rfl,rfl⟩
theorem fi3 : FI Try.prog 3 (cxA an3) x3 [.tmp 12] Try.f3:=fiA Try.func3 mixed
theorem meaningPuts_law (S : Stc) (e : Ex) (nm : ByteArray) (w : Wd) (ns : List ByteArray) (vs : List Int) : CallOK Try.prog 3 [.agg (stc S),.agg (exr e),.str nm,.agg (wrd w),.list (ns.map strRow),.list (vs.map intRow)] [] (.bool true) []:=by
 have c0:=meaningBegun_law
 have c1:=VastExpr_ref e 0 (by decide)
 have c2:=VastWord_ref w
 have c3:=IsName_ref nm
 have c4:=StructureFault_ref S
 obtain ⟨n,F,P⟩:=S
 unfold stc at c4 ⊢
 dsimp only at c4 ⊢
 refine fi3.op ?_
 cases h1 : vxF e 0 with
 | true=>
  rw [h1] at c1
  (refine Sg.h ?_;try repeat' ((first|(with_reducible first|refine brA ?_|refine brE fun _=>?_|refine spl ⟨?_,?_⟩<;>intro _)|refine clo c0 ?_|refine clo c1 ?_)<;>((try simp -implicitDefEqProofs);(try simp -implicitDefEqProofs(disch:=first|assumption|(try simp only[lens]);omega -splitDisjunctions)))))
 | false=>
 rw [h1] at c1
 cases h2 : vwF (.mk ⟨#[]⟩ [w]) 0 with
 | true=>
  rw [h2] at c2
  (refine Sg.h ?_;try repeat' ((first|(with_reducible first|refine brA ?_|refine brE fun _=>?_|refine spl ⟨?_,?_⟩<;>intro _)|refine clo c0 ?_|refine clo c1 ?_|refine clo c2 ?_)<;>((try simp -implicitDefEqProofs);(try simp -implicitDefEqProofs(disch:=first|assumption|(try simp only[lens]);omega -splitDisjunctions)))))
 | false=>
 rw [h2] at c2
 by_cases h3 : 19 < ns.length
 ·have h3' : (19 : Int) < (ns.length : Int) := by omega
  (refine Sg.h ?_;try repeat' ((first|(with_reducible first|refine brA ?_|refine brE fun _=>?_|refine spl ⟨?_,?_⟩<;>intro _)|refine clo c0 ?_|refine clo c1 ?_|refine clo c2 ?_)<;>((try simp -implicitDefEqProofs [h3']);(try simp -implicitDefEqProofs(disch:=first|assumption|(try simp only[lens]);omega -splitDisjunctions) [h3']))))
 have h3' : ¬ (19 : Int) < (ns.length : Int):=by omega
 by_cases h4 : ns.length = vs.length
 rotate_left
 ·have h4' : ¬ (ns.length : Int) = (vs.length : Int) := by omega
  (refine Sg.h ?_;try repeat' ((first|(with_reducible first|refine brA ?_|refine brE fun _=>?_|refine spl ⟨?_,?_⟩<;>intro _)|refine clo c0 ?_|refine clo c1 ?_|refine clo c2 ?_)<;>((try simp -implicitDefEqProofs [h3',h4']);(try simp -implicitDefEqProofs(disch:=first|assumption|(try simp only[lens]);omega -splitDisjunctions) [h3',h4']))))
 have h4' : (ns.length : Int) = (vs.length : Int):=by omega
 have h3'' : ¬ (19 : Int) < (vs.length : Int):=by omega
 cases h5 : isNameB nm with
 | false=>
  rw [h5] at c3
  (refine Sg.h ?_;try repeat' ((first|(with_reducible first|refine brA ?_|refine brE fun _=>?_|refine spl ⟨?_,?_⟩<;>intro _)|refine clo c0 ?_|refine clo c1 ?_|refine clo c2 ?_|refine clo c3 ?_)<;>((try simp -implicitDefEqProofs [h3',h3'',h4']);(try simp -implicitDefEqProofs(disch:=first|assumption|(try simp only[lens]);omega -splitDisjunctions) [h3',h3'',h4']))))
 | true=>
 rw [h5] at c3
 by_cases h6 : (stcF ⟨n,F,P⟩).1 = 0
 rotate_left
 ·generalize stcF ⟨n,F,P⟩ = q at *
  (refine Sg.h ?_;try repeat' ((first|(with_reducible first|refine brA ?_|refine brE fun _=>?_|refine spl ⟨?_,?_⟩<;>intro _)|refine clo c0 ?_|refine clo c1 ?_|refine clo c2 ?_|refine clo c3 ?_|refine clo c4 ?_)<;>((try simp -implicitDefEqProofs [h3',h3'',h4',h6]);(try simp -implicitDefEqProofs(disch:=first|assumption|(try simp only[lens]);omega -splitDisjunctions) [h3',h3'',h4',h6]))))
 obtain ⟨s0,s8,sF,sP,snF,snP,sOF,sOP,sz⟩:=stcF_zero h6
 dsimp only at s0 s8 sF sP snF snP sOF sOP
 rw [sz] at c4
 (refine Sg.h ?_;try repeat' ((first|(with_reducible first|refine brA ?_|refine brE fun _=>?_|refine spl ⟨?_,?_⟩<;>intro _)|refine clo c0 ?_|refine clo c1 ?_|refine clo c2 ?_|refine clo c3 ?_|refine clo c4 ?_)<;>((try simp -implicitDefEqProofs [h3',h3'',h4']);(try simp -implicitDefEqProofs(disch:=first|assumption|(try simp only[lens]);omega -splitDisjunctions) [h3',h3'',h4']))))
 refine W_of fun Q hQ=>?_
 have main : ∀ k i,i + k = vs.length → namF n ns vs 0 = namF n (ns.drop i) (vs.drop i) i → Q [(2,.str nm),(4,.list (ns.map strRow)),(5,.list (vs.map intRow)),(6,.ptr 0 0 0),(7,.ptr 1 0 0),(9,.ptr 2 0 0),(13,.int .i64 (i : Int))] [.rows 3 [[.int .i64 n,.list (F.map fnRow),.list (P.map pdRow)]],.rows 4 [exr e],.rows 2 [wrd w]]:=by
  intro k
  induction k with
  | zero=>
   intro i hi hnf
   obtain rfl : i = vs.length:=by omega
   have hz : namF n ns vs 0 = (0,0):=by
    rw [hnf,List.drop_of_length_le (by omega),namF]
    simp
   have hrg:=namF_zero h4 (i:=0) (by rw [hz])
   have hp:=Put_first e nm w
   have hwv:=WordValue_ref n s0 s8 F sOF snF sF P ns vs h4 (by omega) hrg w
   have hws:=wordR_spec s0 s8 sOF snF h4 hrg w
   have hv1:=Value_meaning ⟨n,F,P⟩ (putO e nm w) ns vs
   have hv2:=Value_meaning ⟨n,F,P⟩ e (ns ++ [nm]) (vs ++ [wordR n F ns vs w])
   unfold stc at hv1 hv2
   dsimp only at hv1 hv2
   rw [List.map_append,List.map_append] at hv2
   have hpz:=fun h=>putF_zero (e:=e) (nm:=nm) (w:=w) h
   have hl' : ¬ (vs.length : Int) < (ns.length : Int):=by omega
   have hputs:=fun (hc : (checkX (putO e nm w)).1 = 0) (hv : kwF F [] ns w = true) hz'=>puts (sc:=scL) (fr:=freshN) (fun l=>(comp_ok l).2) freshN_new (S:=⟨n,F,P⟩) (e:=e) (nm:=nm) (v:=w) (ns:=ns) (vs:=vs) h5 hc h4 (by omega) (by rw [hz]) hv hz'
   change ∀ hc hv hz',valF ⟨n,F,P⟩ (putO e nm w) ns vs = (0,0) ∧ valB ⟨n,F,P⟩ (putO e nm w) ns vs = _ at hputs
   have b1 : ns.length * 16 ≤ 140737488355328:=by omega
   have b2 : (ns.length + 1) * 16 ≤ 140737488355328:=by omega
   have b3 : vs.length * 8 ≤ 140737488355328:=by omega
   have b4 : (vs.length + 1) * 8 ≤ 140737488355328:=by omega
   apply hQ
   clear hQ
   by_cases p1 : (putF e nm w).1 = 0
   rotate_left
   ·clear hpz hputs hv1 hv2 hws
    generalize putF e nm w = q at *
    generalize putR e nm w = o at *
    (refine Sg.h ?_;try repeat' ((first|(with_reducible first|refine brA ?_|refine brE fun _=>?_|refine spl ⟨?_,?_⟩<;>intro _)|refine clo hp ?_)<;>((try simp -implicitDefEqProofs [hl',p1]);(try simp -implicitDefEqProofs(disch:=first|assumption|(try simp only[lens]);omega -splitDisjunctions) [hl',p1]))))
   obtain ⟨z1,z2,z3,z4,z5,z6⟩:=hpz p1
   rw [z5,z6] at hp
   have hputs:=hputs z4
   clear hpz z1 z2 z3 z4 z5 z6 p1
   generalize putO e nm w = o at *
   cases hkw : kwF F [] ns w with
   | false=>
    rw [hkw,if_neg (by simp)] at hws
    rw [hws] at hwv
    (refine Sg.h ?_;try repeat' ((first|(with_reducible first|refine brA ?_|refine brE fun _=>?_|refine spl ⟨?_,?_⟩<;>intro _)|refine clo hp ?_|refine clo hwv ?_)<;>((try simp -implicitDefEqProofs [hl']);(try simp -implicitDefEqProofs(disch:=first|assumption|(try simp only[lens]);omega -splitDisjunctions) [hl']))))
   | true=>
   rw [hkw,if_pos rfl] at hws
   have hputs:=hputs hkw
   obtain ⟨w1,w2,w3⟩:=hws
   rw [← w1] at hputs
   generalize wordR n F ns vs w = x at *
   have w2' : ¬ x < 0:=by omega
   by_cases q1 : (valF ⟨n,F,P⟩ e (ns ++ [nm]) (vs ++ [x])).1 = 0
   rotate_left
   ·clear hputs
    generalize valF ⟨n,F,P⟩ e (ns ++ [nm]) (vs ++ [x]) = y1 at *
    generalize valB ⟨n,F,P⟩ e (ns ++ [nm]) (vs ++ [x]) = y2 at *
    generalize valF ⟨n,F,P⟩ o ns vs = y3 at *
    generalize valB ⟨n,F,P⟩ o ns vs = y4 at *
    (refine Sg.h ?_;try repeat' ((first|(with_reducible first|refine brA ?_|refine brE fun _=>?_|refine spl ⟨?_,?_⟩<;>intro _)|refine clo hp ?_|refine clo hwv ?_|refine clo hv1 ?_)<;>((try simp -implicitDefEqProofs [hl',w2',q1,b1,b2,b3,b4]);(try simp -implicitDefEqProofs(disch:=first|assumption|(try simp only[lens]);omega -splitDisjunctions) [hl',w2',q1,b1,b2,b3,b4]))))
    repeat' (first | (refine And.intro ?_ ?_) | (refine CT.see (vs':=[.agg [.int .i64 n,.list (F.map fnRow),.list (P.map pdRow)],.agg (exr e),.list (ns.map strRow ++ [[.str nm]]),.list (vs.map intRow ++ [[.int .i64 x]])]) (by simpa using hv2) (by simp [List.take_of_length_le]) (flatBF _ _ _) ?_))
    all_goals (refine Sg.h ?_;try repeat' ((with_reducible first|refine brA ?_|refine brE fun _=>?_|refine spl ⟨?_,?_⟩<;>intro _)<;>((try simp -implicitDefEqProofs [q1]);(try simp -implicitDefEqProofs(disch:=first|assumption|(try simp only[lens]);omega -splitDisjunctions) [q1]))))
   obtain ⟨r1,r2⟩:=hputs q1
   rw [r1,r2] at hv1
   clear hputs r1 r2
   generalize valF ⟨n,F,P⟩ e (ns ++ [nm]) (vs ++ [x]) = y1 at *
   generalize valB ⟨n,F,P⟩ e (ns ++ [nm]) (vs ++ [x]) = y2 at *
   (refine Sg.h ?_;try repeat' ((first|(with_reducible first|refine brA ?_|refine brE fun _=>?_|refine spl ⟨?_,?_⟩<;>intro _)|refine clo hp ?_|refine clo hwv ?_|refine clo hv1 ?_)<;>((try simp -implicitDefEqProofs [hl',w2',q1,b1,b2,b3,b4]);(try simp -implicitDefEqProofs(disch:=first|assumption|(try simp only[lens]);omega -splitDisjunctions) [hl',w2',q1,b1,b2,b3,b4]))))
   repeat' (first | (refine And.intro ?_ ?_) | (refine CT.see (vs':=[.agg [.int .i64 n,.list (F.map fnRow),.list (P.map pdRow)],.agg (exr e),.list (ns.map strRow ++ [[.str nm]]),.list (vs.map intRow ++ [[.int .i64 x]])]) (by simpa using hv2) (by simp [List.take_of_length_le]) (flatBF _ _ _) ?_))
   all_goals (refine Sg.h ?_;try repeat' ((with_reducible first|refine brA ?_|refine brE fun _=>?_|refine spl ⟨?_,?_⟩<;>intro _)<;>((try simp -implicitDefEqProofs [q1]);(try simp -implicitDefEqProofs(disch:=first|assumption|(try simp only[lens]);omega -splitDisjunctions) [q1]))))
  | succ k ih=>
   intro i hi hnf
   have hi1 : i < ns.length:=by omega
   have hi2 : i < vs.length:=by omega
   have hnm:=IsName_ref ns[i]
   have ih:=ih (i + 1) (by omega)
   rw [namF_step hi1 hi2] at hnf
   generalize hx1 : ns[i] = x at *
   generalize hx2 : vs[i] = y at *
   have hi' : (i : Int) < (vs.length : Int):=by omega
   have hi1' : (i : Int) < (ns.length : Int):=by omega
   apply hQ
   clear hQ
   cases hn : isNameB x with
   | false=>
    rw [hn] at hnm
    (refine Sg.h ?_;try repeat' ((first|(with_reducible first|refine brA ?_|refine brE fun _=>?_|refine spl ⟨?_,?_⟩<;>intro _)|refine clo hnm ?_)<;>((try simp -implicitDefEqProofs [hi',hi1',hi1,hi2,hx1,hx2]);(try simp -implicitDefEqProofs(disch:=first|assumption|(try simp only[lens]);omega -splitDisjunctions) [hi',hi1',hi1,hi2,hx1,hx2]))))
   | true=>
    rw [if_neg (by simp [hn])] at hnf
    rw [hn] at hnm
    by_cases hy : y < 0
    ·(refine Sg.h ?_;try repeat' ((first|(with_reducible first|refine brA ?_|refine brE fun _=>?_|refine spl ⟨?_,?_⟩<;>intro _)|refine clo hnm ?_)<;>((try simp -implicitDefEqProofs [hi',hi1',hi1,hi2,hx1,hx2,hy]);(try simp -implicitDefEqProofs(disch:=first|assumption|(try simp only[lens]);omega -splitDisjunctions) [hi',hi1',hi1,hi2,hx1,hx2,hy]))))
    by_cases hy2 : n ≤ y
    ·(refine Sg.h ?_;try repeat' ((first|(with_reducible first|refine brA ?_|refine brE fun _=>?_|refine spl ⟨?_,?_⟩<;>intro _)|refine clo hnm ?_)<;>((try simp -implicitDefEqProofs [hi',hi1',hi1,hi2,hx1,hx2,hy,hy2]);(try simp -implicitDefEqProofs(disch:=first|assumption|(try simp only[lens]);omega -splitDisjunctions) [hi',hi1',hi1,hi2,hx1,hx2,hy,hy2]))))
    rw [if_neg (fun g=>g.elim hy hy2)] at hnf
    have ih:=ih hnf
    (refine Sg.h ?_;try repeat' ((first|(with_reducible first|refine brA ?_|refine brE fun _=>?_|refine spl ⟨?_,?_⟩<;>intro _)|refine clo hnm ?_)<;>((try simp -implicitDefEqProofs [hi',hi1',hi1,hi2,hx1,hx2,hy,hy2]);(try simp -implicitDefEqProofs(disch:=first|assumption|(try simp only[lens]);omega -splitDisjunctions) [hi',hi1',hi1,hi2,hx1,hx2,hy,hy2]))))
    all_goals first|exact ih|(refine at2 ih ?_ ?_<;>simp;done)|(exfalso;first|omega|(simp_all;done)|(simp_all;omega))
 all_goals first|exact main vs.length 0 (Nat.zero_add _) rfl|(refine at2 main vs.length 0 (Nat.zero_add _) rfl ?_ ?_<;>simp;done)|(exfalso;first|omega|(simp_all;done)|(simp_all;omega))
end Go.Proofs.Ytbimioonhfhflaa
namespace Go.Pv
open Go
inductive HasTy (P : Program) : TypeId → List PV → Prop where
 | bool {t b} (h : P.underlying t = some .bool) : HasTy P t [.bool b]
 | int {t k n} (h : P.underlying t = some (.int k)) (wf : (Lit.int k n).wf = true) : HasTy P t [.int k n]
 | str {t s} (h : P.underlying t = some .string) (hs : s.size ≤ maxLen) (hb : s.size ≤ reachBytes) : HasTy P t [.str s]
 | slice {t e rows} (h : P.underlying t = some (.slice e)) (hr : ∀ row ∈ rows,HasTy P e row) (hb : rows.length * P.bytesOf e ≤ reachBytes) : HasTy P t [.list rows]
 | struct {t} {fs : Array Field} {parts : List (List PV)} (h : P.underlying t = some (.struct fs)) (hl : parts.length = fs.size)
   (hp : ∀ (i : Nat) (f : Field) (row : List PV),fs[i]? = some f → parts[i]? = some row → HasTy P f.type row) : HasTy P t parts.flatten
 | array {t n e} {parts : List (List PV)} (h : P.underlying t = some (.array n e)) (hl : parts.length = n) (hp : ∀ row ∈ parts,HasTy P e row) : HasTy P t parts.flatten
def RowRel (pub : PHeap) (row : List PV) (cs : List Value) : Prop:=row.length = cs.length ∧ ∀ (j : Nat) (v : PV) (c : Value),row[j]? = some v → cs[j]? = some c → Rel pub noSig v c
theorem RowRel.nil {pub : PHeap} : RowRel pub [] []:=⟨rfl,fun j v c h=>by simp at h⟩
theorem RowRel.one {pub : PHeap} {v : PV} {c : Value} (h : Rel pub noSig v c) : RowRel pub [v] [c]:=⟨rfl,fun j x y hx hy=>by
 cases j with
 | zero=>simp at hx hy;subst hx hy;exact h
 | succ j=>simp at hx⟩
theorem RowRel.append {pub : PHeap} {r r' : List PV} {cs cs' : List Value} (h : RowRel pub r cs) (g : RowRel pub r' cs') : RowRel pub (r ++ r') (cs ++ cs'):=by
 refine ⟨by simp [h.1,g.1],fun j v c hv hc=>?_⟩
 rw [List.getElem?_append] at hv hc
 split at hv
 ·rename_i hlt;rw [if_pos (by rw [← h.1];exact hlt)] at hc;exact h.2 j v c hv hc
 ·rename_i hge;rw [if_neg (by rw [← h.1];exact hge),← h.1] at hc;exact g.2 _ v c hv hc
def contig (P : Program) (total : Nat) : List Field → Nat → Bool
 | [],o=>o == total
 | f :: r,o=>f.offset == o && contig P total r (o + P.cellsOf f.type)
def tyOK (P : Program) (S : List TypeId) (t : TypeId) : Bool:=match P.underlying t with
 | some .bool | some (.int _) | some .string=>true
 | some (.slice e)=>S.contains e && decide (0 < P.cellsOf e)
 | some (.struct fs)=>contig P (P.cellsOf t) fs.toList 0 && fs.toList.all fun f=>S.contains f.type
 | some (.array n e)=>S.contains e && n * P.cellsOf e == P.cellsOf t
 | _=>false
theorem rows_of {α : Type} (p : Nat → α → Prop) : ∀ n,(∀ i,i < n → ∃ x,p i x) → ∃ l : List α,l.length = n ∧ ∀ i x,l[i]? = some x → p i x:=by
 intro n
 induction n with
 | zero=>intro _;exact ⟨[],rfl,fun i x h=>by simp at h⟩
 | succ n ih=>
  intro h
  obtain ⟨l,hl,hp⟩:=ih fun i hi=>h i (by omega)
  obtain ⟨x,hx⟩:=h n (by omega)
  refine ⟨l ++ [x],by simp [hl],fun i y hy=>?_⟩
  rw [List.getElem?_append] at hy
  split at hy
  ·exact hp i y hy
  ·rename_i hge
   have hi:=lt_of_getElem? hy
   simp only [List.length_cons,List.length_nil] at hi
   have hin : i = n:=by omega
   subst hin
   rw [show i - l.length = 0 by omega] at hy
   simp at hy;subst hy;exact hx
section
variable {H : Type} {enc : TypeId × Value → H} {P : Program} {S : List TypeId} {w : World} {spare : Nat → Bool} {held : Bool}
theorem fields_rel {fuel total : Nat} {cs : List Value} {pub : PHeap} (hcs : cs.length = total)
  (ih : ∀ (t : TypeId) (cs : List Value) (x : DataW H × List MemPlace),S.contains t = true → DataW.trod enc P w 0 spare held fuel t cs = some x → (∀ n ∈ DataW.weights P t x.1,n ≤ reachBytes) → ∃ row,HasTy P t row ∧ RowRel pub row cs) :
  ∀ (fs : List Field) (o : Nat) (xs : List (DataW H × List MemPlace)),contig P total fs o = true → (fs.all fun f=>S.contains f.type) = true →
   (fs.mapM fun f=>DataW.trod enc P w 0 spare held fuel f.type ((cs.drop f.offset).take (P.cellsOf f.type))) = some xs → (∀ n ∈ DataW.weightsEach P (fs.map (·.type)) (xs.map (·.1)),n ≤ reachBytes) →
   o ≤ total ∧ ∃ parts : List (List PV),parts.length = fs.length ∧ (∀ (i : Nat) (f : Field) (row : List PV),fs[i]? = some f → parts[i]? = some row → HasTy P f.type row) ∧ RowRel pub parts.flatten (cs.drop o):=by
 intro fs
 induction fs with
 | nil=>
  intro o xs hc _ _ _
  simp only [contig,beq_iff_eq] at hc
  refine ⟨by omega,[],rfl,fun i f row h=>by simp at h,?_⟩
  rw [List.drop_eq_nil_of_le (by omega)];exact .nil
 | cons f r ih2=>
  intro o xs hc ha hm hw
  simp only [contig,Bool.and_eq_true,beq_iff_eq] at hc
  simp only [List.all_cons,Bool.and_eq_true] at ha
  obtain ⟨ho,hc⟩:=hc
  rw [List.mapM_cons] at hm
  cases hx : DataW.trod enc P w 0 spare held fuel f.type ((cs.drop f.offset).take (P.cellsOf f.type)) with
  | none=>rw [hx] at hm;simp at hm
  | some x=>
   cases hxs : (r.mapM fun f=>DataW.trod enc P w 0 spare held fuel f.type ((cs.drop f.offset).take (P.cellsOf f.type))) with
   | none=>rw [hx,hxs] at hm;simp at hm
   | some ys=>
    rw [hx,hxs] at hm
    obtain rfl : x :: ys = xs:=by simpa using hm
    simp only [List.map_cons,DataW.weightsEach,List.mem_append] at hw
    obtain ⟨h1,parts,h2,h3,h4⟩:=ih2 _ ys hc ha.2 hxs fun n hn=>hw n (.inr hn)
    obtain ⟨row,g1,g2⟩:=ih _ _ _ ha.1 hx fun n hn=>hw n (.inl hn)
    refine ⟨by omega,row :: parts,by simp [h2],fun i f' row' hf hr=>?_,?_⟩
    ·cases i with
     | zero=>simp at hf hr;subst hf hr;exact g1
     | succ i=>exact h3 i f' row' (by simpa using hf) (by simpa using hr)
    ·rw [List.flatten_cons]
     have hsplit : cs.drop o = (cs.drop o).take (P.cellsOf f.type) ++ cs.drop (o + P.cellsOf f.type):=by
      rw [← List.drop_drop,List.take_append_drop]
     rw [hsplit,← ho]
     rw [← ho] at h4
     exact g2.append h4
theorem elems_rel {fuel : Nat} {cs : List Value} {pub : PHeap} {e : TypeId} (hin : S.contains e = true)
  (ih : ∀ (t : TypeId) (cs : List Value) (x : DataW H × List MemPlace),S.contains t = true → DataW.trod enc P w 0 spare held fuel t cs = some x → (∀ n ∈ DataW.weights P t x.1,n ≤ reachBytes) → ∃ row,HasTy P t row ∧ RowRel pub row cs) :
  ∀ (k i : Nat) (xs : List (DataW H × List MemPlace)),cs.length = (i + k) * P.cellsOf e →
   ((List.range' i k).mapM fun i=>DataW.trod enc P w 0 spare held fuel e ((cs.drop (i * P.cellsOf e)).take (P.cellsOf e))) = some xs → (∀ n ∈ DataW.weightsAll P e (xs.map (·.1)),n ≤ reachBytes) →
   ∃ parts : List (List PV),parts.length = k ∧ (∀ row ∈ parts,HasTy P e row) ∧ RowRel pub parts.flatten (cs.drop (i * P.cellsOf e)):=by
 intro k
 induction k with
 | zero=>
  intro i xs hc _ _
  refine ⟨[],rfl,by simp,?_⟩
  rw [List.drop_eq_nil_of_le (by rw [hc];exact Nat.le_refl _)];exact .nil
 | succ k ih2=>
  intro i xs hc hm hw
  rw [List.range'_succ,List.mapM_cons] at hm
  cases hx : DataW.trod enc P w 0 spare held fuel e ((cs.drop (i * P.cellsOf e)).take (P.cellsOf e)) with
  | none=>rw [hx] at hm;simp at hm
  | some x=>
   cases hxs : ((List.range' (i + 1) k).mapM fun i=>DataW.trod enc P w 0 spare held fuel e ((cs.drop (i * P.cellsOf e)).take (P.cellsOf e))) with
   | none=>rw [hx,hxs] at hm;simp at hm
   | some ys=>
    rw [hx,hxs] at hm
    obtain rfl : x :: ys = xs:=by simpa using hm
    simp only [List.map_cons,DataW.weightsAll,List.mem_append] at hw
    obtain ⟨parts,h2,h3,h4⟩:=ih2 (i + 1) ys (by rw [hc];congr 1;omega) hxs fun n hn=>hw n (.inr hn)
    obtain ⟨row,g1,g2⟩:=ih _ _ _ hin hx fun n hn=>hw n (.inl hn)
    refine ⟨row :: parts,by simp [h2],fun row' hr=>?_,?_⟩
    ·rcases List.mem_cons.1 hr with rfl | hr
     ·exact g1
     ·exact h3 _ hr
    ·rw [List.flatten_cons]
     have hsplit : cs.drop (i * P.cellsOf e) = (cs.drop (i * P.cellsOf e)).take (P.cellsOf e) ++ cs.drop ((i + 1) * P.cellsOf e):=by
      rw [Nat.add_mul,Nat.one_mul,← List.drop_drop,List.take_append_drop]
     rw [hsplit]
     exact g2.append h4
def heapOf (w : World) : PHeap:=fun b=>w.heap[b]?
theorem cell_block {w : World} {a : Addr} {c : Value} (h : w.cell? a = some c) : a.spot = none ∧ ∃ cs ty fr,w.heap[a.block]? = some (.cells cs ty fr) ∧ cs[a.off]? = some c:=by
 unfold World.cell? at h
 split at h
 ·rename_i cs ty fr hh
  split at h
  ·cases h
  ·rename_i hs;exact ⟨by simpa using hs,cs,ty,fr,hh,h⟩
 ·cases h
theorem weightsAll_mem {H : Type} {P : Program} {e : TypeId} : ∀ {l : List (DataW H)} {d : DataW H} {n : Nat},d ∈ l → n ∈ DataW.weights P e d → n ∈ DataW.weightsAll P e l
 | a :: r,d,n,h,hn=>by
  simp only [DataW.weightsAll,List.mem_append]
  rcases List.mem_cons.1 h with rfl | h
  ·exact .inl hn
  ·exact .inr (weightsAll_mem h hn)
theorem trod_rel (hS : ∀ t,S.contains t = true → tyOK P S t = true) : ∀ (fuel : Nat) (t : TypeId) (cs : List Value) (x : DataW H × List MemPlace),S.contains t = true →
  DataW.trod enc P w 0 spare held fuel t cs = some x → (∀ n ∈ DataW.weights P t x.1,n ≤ reachBytes) → ∃ row,HasTy P t row ∧ RowRel (heapOf w) row cs:=by
 intro fuel
 induction fuel with
 | zero=>intro t cs x _ h;simp [DataW.trod] at h
 | succ fuel ih=>
  intro t cs x hin h hw
  have hok:=hS t hin
  unfold tyOK at hok
  unfold DataW.trod at h
  split at hok
  ·rename_i hu
   rw [hu] at h
   split at h <;> first | (cases h;done) | skip
   all_goals first | (rename_i heq;cases heq;done) | skip
   exact ⟨_,.bool hu,.one .bool⟩
  ·rename_i k hu
   rw [hu] at h
   split at h <;> first | (cases h;done) | skip
   all_goals first | (rename_i heq;cases heq;done) | skip
   rename_i heq;cases heq
   split at h
   ·rename_i hk;obtain ⟨rfl,hwf⟩:=hk;exact ⟨_,.int hu hwf,.one .int⟩
   ·cases h
  ·rename_i hu
   rw [hu] at h
   split at h <;> first | (cases h;done) | skip
   all_goals first | (rename_i heq;cases heq;done) | skip
   split at h
   ·rename_i s hs
    cases h
    exact ⟨_,.str hu hs (by simpa [DataW.weights] using hw),.one (.str hs)⟩
   ·cases h
  ·rename_i e hu
   rw [hu] at h
   simp only [Bool.and_eq_true,decide_eq_true_eq] at hok
   split at h <;> first | (cases h;done) | skip
   all_goals first | (rename_i heq;cases heq;done) | skip
   ·exact ⟨[.list []],.slice hu (fun row hr=>by cases hr) (by simp),.one (.list0 (Nat.zero_le _))⟩
   ·rename_i e' a len cap heq
    cases heq
    simp only at h
    split at h
    ·rename_i hc
     obtain ⟨_,hlc,hcm⟩:=hc
     obtain ⟨elems,hm,h⟩:=Option.bind_eq_some_iff.1 h
     obtain ⟨rest,hrest,rfl⟩:=Option.map_eq_some_iff.1 h
     simp only [DataW.weights,hu,List.mem_cons,List.mem_append] at hw
     by_cases h0 : len = 0
     ·subst h0
      exact ⟨[.list []],.slice hu (fun row hr=>by cases hr) (by simp),.one (.list0 hcm)⟩
     ·have hel : ∀ i,i < len → ∃ row : List PV,HasTy P e row ∧ ∃ ec : List Value,ec.length = P.cellsOf e ∧ (∀ j,j < P.cellsOf e → w.cell? ((a.add (i * P.cellsOf e)).add j) = ec[j]?) ∧ RowRel (heapOf w) row ec := by
       intro i hi
       have hx:=mapM_some_get hm i i (by simp [hi])
       have hl:=mapM_some_length hm
       simp only [List.length_range] at hl
       rw [List.getElem?_eq_getElem (by omega)] at hx
       obtain ⟨ec,h1,h2⟩:=Option.bind_eq_some_iff.1 hx
       obtain ⟨_,h3,h4⟩:=World.cells?_some h1
       obtain ⟨row,g1,g2⟩:=ih e ec _ hok.1 h2 fun n hn=>hw n (.inr (.inl (weightsAll_mem (List.mem_map.2 ⟨_,List.getElem_mem _,rfl⟩) hn)))
       exact ⟨row,g1,ec,h3,h4,g2⟩
      obtain ⟨rows,hrl,hrp⟩:=rows_of _ len hel
      -- the block
      have h00 : w.cell? ((a.add (0 * P.cellsOf e)).add 0) = w.cell? a:=by simp [Addr.add]
      obtain ⟨_,_,ec0,hec0,hcell0,_⟩:=hel 0 (by omega)
      have hc0 : w.cell? a = some (ec0[0]'(by omega)):=by
       rw [← h00,hcell0 0 hok.2];exact List.getElem?_eq_getElem _
      obtain ⟨hsp,arr,ty,fr,hblk,_⟩:=cell_block hc0
      obtain ⟨b,o,sp⟩:=a
      simp only at hsp hblk
      subst hsp
      have hcellat : ∀ i,i < len → ∀ j,j < P.cellsOf e → w.cell? (((⟨b,o,none⟩ : Addr).add (i * P.cellsOf e)).add j) = arr[o + i * P.cellsOf e + j]?:=by
       intro i _ j _
       rw [Addr.add_at,Addr.add_at,cell_at hblk]
      have hsz : o + rows.length * P.cellsOf e ≤ arr.size:=by
       obtain ⟨_,_,ec,hec,hcell,_⟩:=hel (len - 1) (by omega)
       have h1:=hcell (P.cellsOf e - 1) (by omega)
       rw [hcellat (len - 1) (by omega) _ (by omega),List.getElem?_eq_getElem (by omega)] at h1
       have h2 : o + (len - 1) * P.cellsOf e + (P.cellsOf e - 1) < arr.size:=by
        rcases Nat.lt_or_ge (o + (len - 1) * P.cellsOf e + (P.cellsOf e - 1)) arr.size with h | h
        ·exact h
        ·rw [Array.getElem?_eq_none h] at h1;cases h1
       rw [hrl]
       have h3 : len * P.cellsOf e = (len - 1) * P.cellsOf e + P.cellsOf e:=by
        rw [← Nat.succ_mul];congr 1;omega
       omega
      refine ⟨[.list rows],.slice hu (fun row hr=>?_) ?_,.one ?_⟩
      rotate_left
      ·have h1 := hw _ (.inl rfl)
       have hl:=mapM_some_length hm
       simp only [List.length_map,List.length_range] at h1 hl
       rw [hrl,← hl]
       exact Nat.le_trans (Nat.mul_le_mul_right _ (Nat.le_add_right _ _)) h1
      rotate_left
      ·obtain ⟨i,hi⟩ := List.mem_iff_getElem?.1 hr
       exact (hrp i row hi).1
      ·have key : Rel (heapOf w) noSig (.list rows) (.slice (some ⟨b,o,none⟩) rows.length cap) := by
        refine .list (esz:=P.cellsOf e) hblk (by omega) hcm ?_ hsz ?_
        ·intro r row hr
         obtain ⟨_,ec,h1,_,h3⟩:=hrp r row hr
         rw [h3.1,h1]
        ·intro r row j v c hr hj hcc
         have hrlt:=lt_of_getElem? hr
         obtain ⟨_,ec,h1,h2,h3⟩:=hrp r row hr
         have hjl:=lt_of_getElem? hj
         have h4:=h3.1
         have h5:=h2 j (by omega)
         rw [hcellat r (by omega) j (by omega),hcc] at h5
         exact h3.2 j v c hj h5.symm
       rw [hrl] at key
       exact key
    ·cases h
  ·rename_i fs hu
   rw [hu] at h
   simp only [Bool.and_eq_true] at hok
   have h' : (if cs.length = P.cellsOf t then (fs.toList.mapM fun f=>DataW.trod enc P w 0 spare held fuel f.type ((cs.drop f.offset).take (P.cellsOf f.type))).map fun xs=>((DataW.agg (xs.map (·.1)) : DataW H),xs.flatMap (·.2)) else none) = some x:=by
    split at h
    all_goals first | (rename_i heq;cases heq;exact h) | (rename_i heq;cases heq;done) | (exfalso;simp only [Option.some.injEq,reduceCtorEq] at *;done) | (simp_all;done)
   split at h'
   ·rename_i hlen
    obtain ⟨xs,hm,rfl⟩:=Option.map_eq_some_iff.1 h'
    simp only [DataW.weights,hu] at hw
    obtain ⟨_,parts,h1,h2,h3⟩:=fields_rel hlen ih fs.toList 0 xs hok.1 hok.2 hm hw
    refine ⟨parts.flatten,.struct hu (by simpa using h1) (fun i f row hf hr=>h2 i f row (by simpa using hf) hr),by simpa using h3⟩
   ·cases h'
  ·rename_i n e hu
   rw [hu] at h
   simp only [Bool.and_eq_true,beq_iff_eq] at hok
   have h' : (if cs.length = P.cellsOf t then ((List.range n).mapM fun i=>DataW.trod enc P w 0 spare held fuel e ((cs.drop (i * P.cellsOf e)).take (P.cellsOf e))).map fun xs=>((DataW.agg (xs.map (·.1)) : DataW H),xs.flatMap (·.2)) else none) = some x:=by
    split at h
    all_goals first | (rename_i heq;cases heq;exact h) | (rename_i heq;cases heq;done) | (exfalso;simp only [Option.some.injEq,reduceCtorEq] at *;done) | (simp_all;done)
   split at h'
   ·rename_i hlen
    obtain ⟨xs,hm,rfl⟩:=Option.map_eq_some_iff.1 h'
    rw [List.range_eq_range'] at hm
    simp only [DataW.weights,hu] at hw
    obtain ⟨parts,h1,h2,h3⟩:=elems_rel hok.1 ih n 0 xs (by rw [hlen,← hok.2];congr 1;omega) hm hw
    refine ⟨parts.flatten,.array hu h1 h2,by simpa using h3⟩
   ·cases h'
  ·cases hok
end
section
variable {P : Program} {t : TypeId} {row : List PV}
theorem HasTy.int' {k : IntKind} (hu : P.underlying t = some (.int k)) (h : HasTy P t row) : ∃ n,row = [.int k n] ∧ (Lit.int k n).wf = true:=by
 cases h with
 | bool h1=>rw [h1] at hu;cases hu
 | int h1 wf=>rw [h1] at hu;cases hu;exact ⟨_,rfl,wf⟩
 | str h1 hs hb=>rw [h1] at hu;cases hu
 | slice h1 hr hb=>rw [h1] at hu;cases hu
 | struct h1 hl hp=>rw [h1] at hu;cases hu
 | array h1 hl hp=>rw [h1] at hu;cases hu
theorem HasTy.str' (hu : P.underlying t = some .string) (h : HasTy P t row) : ∃ s,row = [.str s] ∧ s.size ≤ maxLen:=by
 cases h with
 | bool h1=>rw [h1] at hu;cases hu
 | int h1 wf=>rw [h1] at hu;cases hu
 | str h1 hs hb=>rw [h1] at hu;cases hu;exact ⟨_,rfl,hs⟩
 | slice h1 hr hb=>rw [h1] at hu;cases hu
 | struct h1 hl hp=>rw [h1] at hu;cases hu
 | array h1 hl hp=>rw [h1] at hu;cases hu
theorem HasTy.bool' (hu : P.underlying t = some .bool) (h : HasTy P t row) : ∃ b,row = [.bool b]:=by
 cases h with
 | bool h1=>rw [h1] at hu;cases hu;exact ⟨_,rfl⟩
 | int h1 wf=>rw [h1] at hu;cases hu
 | str h1 hs hb=>rw [h1] at hu;cases hu
 | slice h1 hr hb=>rw [h1] at hu;cases hu
 | struct h1 hl hp=>rw [h1] at hu;cases hu
 | array h1 hl hp=>rw [h1] at hu;cases hu
theorem HasTy.slice' {e : TypeId} (hu : P.underlying t = some (.slice e)) (h : HasTy P t row) : ∃ rows,row = [.list rows] ∧ ∀ r ∈ rows,HasTy P e r:=by
 cases h with
 | bool h1=>rw [h1] at hu;cases hu
 | int h1 wf=>rw [h1] at hu;cases hu
 | str h1 hs hb=>rw [h1] at hu;cases hu
 | slice h1 hr hb=>rw [h1] at hu;cases hu;exact ⟨_,rfl,hr⟩
 | struct h1 hl hp=>rw [h1] at hu;cases hu
 | array h1 hl hp=>rw [h1] at hu;cases hu
theorem HasTy.sliceB {e : TypeId} (hu : P.underlying t = some (.slice e)) (h : HasTy P t row) : ∃ rows,row = [.list rows] ∧ (∀ r ∈ rows,HasTy P e r) ∧ rows.length * P.bytesOf e ≤ reachBytes:=by
 cases h with
 | slice h1 hr hb=>rw [h1] at hu;cases hu;exact ⟨_,rfl,hr,hb⟩
 | bool h1=>rw [h1] at hu;cases hu
 | int h1 wf=>rw [h1] at hu;cases hu
 | str h1 hs hb=>rw [h1] at hu;cases hu
 | struct h1 hl hp=>rw [h1] at hu;cases hu
 | array h1 hl hp=>rw [h1] at hu;cases hu
theorem HasTy.struct' {ti : TI} {l : List (Nat × Nat × Nat × Bool)} (ht : tinfo P t = some ti) (hk : ti.kind = .struct l) (h : HasTy P t row) : ∃ parts : List (List PV),row = parts.flatten ∧ parts.length = l.length ∧
  ∀ (i : Nat) (x : Nat × Nat × Nat × Bool) (r : List PV),l[i]? = some x → parts[i]? = some r → HasTy P x.2.1 r:=by
 obtain ⟨i,d,h1,h2,rfl⟩:=tinfo_some ht
 obtain ⟨fields,rfl,rfl,_⟩:=tkOf_struct hk
 cases h with
 | bool g=>rw [g] at h2;cases h2
 | int g wf=>rw [g] at h2;cases h2
 | str g hs hb=>rw [g] at h2;cases h2
 | slice g hr hb=>rw [g] at h2;cases h2
 | array g hl hp=>rw [g] at h2;cases h2
 | struct g hl hp=>
  rw [g] at h2;cases h2
  refine ⟨_,rfl,by simpa using hl,fun i x r hx hr=>?_⟩
  rw [List.getElem?_map,Option.map_eq_some_iff] at hx
  obtain ⟨f,hf,rfl⟩:=hx
  exact hp i f r (by simpa using hf) hr
end
end Go.Pv
