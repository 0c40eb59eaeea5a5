import Derived.Test.YtbimioonhfhflaaAFbW
import Derived.Test.YtbimioonhfhflaaAFbU
import Derived.Test.YtbimioonhfhflaaAPvMov
set_option linter.unusedVariables false
set_option linter.unusedSimpArgs false
set_option maxRecDepth 100000
set_option maxHeartbeats 4000000
namespace Go.Proofs.Ytbimioonhfhflaa
open Go Go.Pv
def x7 : XC:=.seq (.reg [⟨some 1,.box 31 (.tmp 0),none⟩,⟨some 2,.assign (.const (.bool false)),none⟩]) (.seq (.reg [⟨some 3,.load 31 (.tmp 1),none⟩,⟨some 4,.buildSlice 26 1 #[(0,.tmp 3)],none⟩,⟨some 5,.call ⟨.value (.func 19),#[.tmp 4,.const (.int .i64 0)],#[26,3]⟩,none⟩,⟨some 2,.assign (.tmp 5),none⟩]) .ret)
@[simp] theorem x7_s {C e s K} : type_of% (@X_at C e s K _ _ x7.eq_1):=X_at x7.eq_1
def an7 : Ann:=⟨[],[],[]⟩
theorem fi7 : FI Try.prog 7 (cxA an7) x7 [.tmp 2] Try.f7:=fiA Try.func7 mixed
theorem VastWord_ref (w : Wd) : CallOK Try.prog 7 [.agg (wrd w)] [] (.bool (vwF (.mk ⟨#[]⟩ [w]) 0)) []:=by
 have hc:=vastWords_ref (.mk ⟨#[]⟩ [w]) 0 (by decide)
 refine fi7.op ?_
 (refine Sg.h ?_;try repeat' ((with_reducible first|refine brA ?_|refine brE fun _=>?_|refine spl ⟨?_,?_⟩<;>intro _)<;>((try simp -implicitDefEqProofs);(try simp -implicitDefEqProofs(disch:=first|assumption|(try simp only[lens]);omega -splitDisjunctions)))))
 refine CL.see hc (by simp) (flat_bool _) ?_
 (refine Sg.h ?_;try repeat' ((with_reducible first|refine brA ?_|refine brE fun _=>?_|refine spl ⟨?_,?_⟩<;>intro _)<;>((try simp -implicitDefEqProofs);(try simp -implicitDefEqProofs(disch:=first|assumption|(try simp only[lens]);omega -splitDisjunctions)))))
def x14_T1 : XC:=.seq (.reg [⟨some 24,.load 29 (.tmp 2),none⟩,⟨some 25,.load 29 (.tmp 3),none⟩,⟨some 26,.call ⟨.value (.func 38),#[.tmp 24,.tmp 25,.const (.slice none 0 0),.const (.slice none 0 0)],#[29,29,32,32]⟩,none⟩,⟨some 27,.build 39 #[],none⟩,⟨some 4,.assign (.tmp 26),none⟩,⟨none,.store 39 (.tmp 5) (.tmp 27),none⟩]) .ret
def x14_L0 : XC:=.seq (.reg [⟨some 14,.binOp .lss 3 (.tmp 13) (.tmp 12) 3,none⟩]) (.seq (.cond (.tmp 14) .skip (.exit 0)) (.seq (.block 1 (.seq (.reg [⟨some 15,.indexAddr 27 (.tmp 11) (.tmp 13),none⟩,⟨some 16,.load 29 (.tmp 15),none⟩,⟨some 7,.alloc 29,none⟩,⟨none,.store 29 (.tmp 7) (.tmp 16),none⟩]) (.seq (.reg [⟨some 17,.load 29 (.tmp 7),none⟩,⟨some 18,.call ⟨.value (.func 23),#[.tmp 17],#[29]⟩,none⟩,⟨some 8,.alloc 39,none⟩,⟨none,.store 39 (.tmp 8) (.tmp 18),none⟩]) (.seq (.reg [⟨some 19,.fieldAddr 39 (.tmp 8) 0,none⟩,⟨some 20,.load 3 (.tmp 19),none⟩,⟨some 21,.binOp .neq 3 (.tmp 20) (.const (.int .i64 0)) 3,none⟩]) (.cond (.tmp 21) (.seq (.drawn 6 [⟨some 22,.load 39 (.tmp 8),none⟩,⟨some 4,.assign (.const (.bool false)),none⟩,⟨none,.store 39 (.tmp 5) (.tmp 22),none⟩]) .ret) .skip))))) (.reg [⟨some 23,.binOp .add 3 (.tmp 13) (.const (.int .i64 1)) 3,none⟩,⟨some 13,.move (.tmp 23),none⟩])))
def x14 : XC:=.seq (.reg [⟨some 2,.box 29 (.tmp 0),none⟩,⟨some 3,.box 29 (.tmp 1),none⟩,⟨some 4,.assign (.const (.bool false)),none⟩,⟨some 5,.alloc 39,none⟩]) (.seq (.seq (.reg [⟨some 9,.load 29 (.tmp 2),none⟩,⟨some 10,.load 29 (.tmp 3),none⟩,⟨some 11,.buildSlice 27 2 #[(0,.tmp 9),(1,.tmp 10)],none⟩,⟨some 12,.call ⟨.builtin .len,#[.tmp 11],#[27]⟩,none⟩,⟨some 13,.move (.const (.int .i64 0)),none⟩]) (.bloop 0 x14_L0)) (x14_T1))
@[simp] theorem x14_s {C e s K} : type_of% (@X_at C e s K _ _ x14_T1.eq_1) ∧ type_of% (@X_at C e s K _ _ x14_L0.eq_1) ∧ type_of% (@X_at C e s K _ _ x14.eq_1):=⟨X_at x14_T1.eq_1,X_at x14_L0.eq_1,X_at x14.eq_1⟩
def an14 : Ann:=⟨[],[(0,[],[2,3,5,11,12,13],[2,3,4,5])],[]⟩
@[simp] theorem an14_a : an14.clsOf 6 = .draw ∧ an14.frzOf 6 = [] ∧ an14.loopOf 0 = ([],[2,3,5,11,12,13],[2,3,4,5]):=⟨rfl,rfl,rfl⟩
theorem fi14 : FI Try.prog 14 (cxA an14) x14 [.tmp 4,.cell 5 39] Try.f14:=fiA Try.func14 mixed
theorem Alike_self (e : Ex) (h : (checkX e).1 = 0) : CallOK Try.prog 14 [.agg (exr e),.agg (exr e)] [] (.tuple [.bool true,.agg [.int .i64 0,.int .i64 0]]) []:=by
 have c1:=Check_first e
 have en:=(checkM_ok h).1
 rw [checkX_zero h] at c1
 have ha:=CallOK.soft (args':=[.agg (exr e),.agg (exr e),.nilsl,.nilsl]) (alike_self e [] (by rw [szE_nd,List.length_nil];omega)) (.cons .refl (.cons .refl (.cons .nil (.cons .nil .nil))))
 refine fi14.op ?_
 (refine Sg.h ?_;try repeat' ((with_reducible first|refine brA ?_|refine brE fun _=>?_|refine spl ⟨?_,?_⟩<;>intro _)<;>((try simp -implicitDefEqProofs);(try simp -implicitDefEqProofs(disch:=first|assumption|(try simp only[lens]);omega -splitDisjunctions)))))
 refine W_of fun Q hQ=>?_
 apply hQ
 (refine Sg.h ?_;try repeat' ((first|(with_reducible first|refine brA ?_|refine brE fun _=>?_|refine spl ⟨?_,?_⟩<;>intro _)|refine clo c1 ?_)<;>((try simp -implicitDefEqProofs);(try simp -implicitDefEqProofs(disch:=first|assumption|(try simp only[lens]);omega -splitDisjunctions)))))
 apply hQ
 (refine Sg.h ?_;try repeat' ((first|(with_reducible first|refine brA ?_|refine brE fun _=>?_|refine spl ⟨?_,?_⟩<;>intro _)|refine clo c1 ?_)<;>((try simp -implicitDefEqProofs);(try simp -implicitDefEqProofs(disch:=first|assumption|(try simp only[lens]);omega -splitDisjunctions)))))
 apply hQ
 clear hQ
 (refine Sg.h ?_;try repeat' ((first|(with_reducible first|refine brA ?_|refine brE fun _=>?_|refine spl ⟨?_,?_⟩<;>intro _)|refine clo ha ?_)<;>((try simp -implicitDefEqProofs);(try simp -implicitDefEqProofs(disch:=first|assumption|(try simp only[lens]);omega -splitDisjunctions)))))
def x4_L2 : XC:=.seq (.seq (.reg [⟨some 115,.move (.tmp 18),none⟩,⟨some 116,.move (.tmp 12),none⟩,⟨some 117,.call ⟨.builtin .len,#[.tmp 116],#[32]⟩,none⟩,⟨some 118,.binOp .lss 3 (.tmp 115) (.tmp 117) 3,none⟩]) (.cond (.tmp 118) .skip (.exit 2))) (.seq (.block 3 (.seq (.reg [⟨some 121,.move (.tmp 12),none⟩,⟨some 122,.move (.tmp 18),none⟩,⟨some 123,.indexAddr 32 (.tmp 121) (.tmp 122),none⟩,⟨some 124,.load 9 (.tmp 123),none⟩,⟨some 125,.move (.tmp 1),none⟩,⟨some 126,.binOp .neq 9 (.tmp 124) (.tmp 125) 9,none⟩,⟨some 127,.move (.tmp 126),none⟩,⟨some 128,.move (.tmp 14),some (some 127,true)⟩,⟨some 129,.move (.tmp 12),some (some 127,true)⟩,⟨some 130,.move (.tmp 18),some (some 127,true)⟩,⟨some 131,.indexAddr 32 (.tmp 129) (.tmp 130),some (some 127,true)⟩,⟨some 132,.load 9 (.tmp 131),some (some 127,true)⟩,⟨some 133,.call ⟨.value (.func 16),#[.tmp 128,.tmp 132],#[32,9]⟩,some (some 127,true)⟩,⟨some 134,.unOp .not 4 (.tmp 133),some (some 127,true)⟩,⟨some 135,.pick (.tmp 127) (.tmp 134) (.const (.bool false)),none⟩]) (.cond (.tmp 135) (.seq (.reg [⟨some 6,.assign (.const (.bool false)),none⟩]) .ret) .skip))) (.reg [⟨some 119,.move (.tmp 18),none⟩,⟨some 120,.binOp .add 3 (.tmp 119) (.const (.int .i64 1)) 3,none⟩,⟨some 18,.assign (.tmp 120),none⟩]))
def x4_T1 : XC:=.seq (.seq (.reg [⟨some 18,.assign (.const (.int .i64 0)),none⟩]) (.bloop 2 x4_L2)) (.seq (.reg [⟨some 6,.assign (.const (.bool true)),none⟩]) .ret)
def x4_L0 : XC:=.seq (.seq (.reg [⟨some 82,.move (.tmp 17),none⟩,⟨some 83,.move (.tmp 14),none⟩,⟨some 84,.call ⟨.builtin .len,#[.tmp 83],#[32]⟩,none⟩,⟨some 85,.binOp .lss 3 (.tmp 82) (.tmp 84) 3,none⟩]) (.cond (.tmp 85) .skip (.exit 0))) (.seq (.block 1 (.seq (.drawn 21 [⟨some 88,.move (.tmp 12),none⟩,⟨some 89,.move (.tmp 14),none⟩,⟨some 90,.move (.tmp 17),none⟩,⟨some 91,.indexAddr 32 (.tmp 89) (.tmp 90),none⟩,⟨some 92,.load 9 (.tmp 91),none⟩,⟨some 93,.call ⟨.value (.func 16),#[.tmp 88,.tmp 92],#[32,9]⟩,none⟩,⟨some 94,.move (.tmp 93),none⟩,⟨some 95,.move (.tmp 14),some (some 94,true)⟩,⟨some 96,.move (.tmp 17),some (some 94,true)⟩,⟨some 97,.indexAddr 32 (.tmp 95) (.tmp 96),some (some 94,true)⟩,⟨some 98,.load 9 (.tmp 97),some (some 94,true)⟩,⟨some 99,.move (.tmp 1),some (some 94,true)⟩,⟨some 100,.binOp .neq 9 (.tmp 98) (.tmp 99) 9,some (some 94,true)⟩,⟨some 101,.pick (.tmp 94) (.tmp 100) (.const (.bool false)),none⟩,⟨some 102,.unOp .not 4 (.tmp 101),none⟩,⟨some 103,.move (.tmp 102),none⟩,⟨some 104,.move (.tmp 16),some (some 103,true)⟩,⟨some 105,.move (.tmp 104),some (some 103,true)⟩,⟨some 106,.load 31 (.tmp 5),some (some 105,true)⟩,⟨some 107,.move (.tmp 14),some (some 105,true)⟩,⟨some 108,.move (.tmp 17),some (some 105,true)⟩,⟨some 109,.indexAddr 32 (.tmp 107) (.tmp 108),some (some 105,true)⟩,⟨some 110,.load 9 (.tmp 109),some (some 105,true)⟩,⟨some 111,.call ⟨.value (.func 17),#[.tmp 106,.tmp 110],#[31,9]⟩,some (some 105,true)⟩,⟨some 112,.pick (.tmp 105) (.tmp 111) (.const (.bool false)),some (some 103,true)⟩,⟨some 113,.unOp .not 4 (.tmp 112),some (some 103,true)⟩,⟨some 114,.pick (.tmp 103) (.tmp 113) (.const (.bool false)),none⟩]) (.cond (.tmp 114) (.seq (.reg [⟨some 6,.assign (.const (.bool false)),none⟩]) .ret) .skip))) (.reg [⟨some 86,.move (.tmp 17),none⟩,⟨some 87,.binOp .add 3 (.tmp 86) (.const (.int .i64 1)) 3,none⟩,⟨some 17,.assign (.tmp 87),none⟩]))
def x4 : XC:=.seq (.reg [⟨some 3,.box 29 (.tmp 0),none⟩,⟨some 5,.box 31 (.tmp 2),none⟩,⟨some 6,.assign (.const (.bool false)),none⟩]) (.seq (.seq (.reg [⟨some 19,.call ⟨.value (.func 13),#[],#[]⟩,none⟩,⟨some 20,.unOp .not 4 (.tmp 19),none⟩]) (.cond (.tmp 20) (.seq (.reg [⟨some 6,.assign (.const (.bool false)),none⟩]) .ret) .skip)) (.seq (.seq (.reg [⟨some 21,.load 29 (.tmp 3),none⟩,⟨some 22,.call ⟨.value (.func 6),#[.tmp 21,.const (.int .i64 0)],#[29,3]⟩,none⟩,⟨some 23,.move (.tmp 22),none⟩,⟨some 24,.load 31 (.tmp 5),some (some 23,false)⟩,⟨some 25,.call ⟨.value (.func 7),#[.tmp 24],#[31]⟩,some (some 23,false)⟩,⟨some 26,.pick (.tmp 23) (.const (.bool true)) (.tmp 25),none⟩]) (.cond (.tmp 26) (.seq (.reg [⟨some 6,.assign (.const (.bool true)),none⟩]) .ret) .skip)) (.seq (.reg [⟨some 28,.load 29 (.tmp 3),none⟩,⟨some 29,.move (.tmp 1),none⟩,⟨some 30,.move (.tmp 1),none⟩,⟨some 31,.build 31 #[(0,.tmp 30)],none⟩,⟨some 32,.call ⟨.value (.func 10),#[.tmp 28,.tmp 29,.tmp 31],#[29,9,31]⟩,none⟩,⟨some 27,.move (.tmp 32),none⟩,⟨some 33,.extract (.tmp 27) 0,none⟩,⟨some 34,.extract (.tmp 27) 1,none⟩,⟨some 7,.alloc 29,none⟩,⟨some 8,.alloc 39,none⟩,⟨none,.store 29 (.tmp 7) (.tmp 33),none⟩,⟨none,.store 39 (.tmp 8) (.tmp 34),none⟩]) (.seq (.seq (.reg [⟨some 35,.fieldAddr 39 (.tmp 8) 0,none⟩,⟨some 36,.load 3 (.tmp 35),none⟩,⟨some 37,.binOp .eql 3 (.tmp 36) (.const (.int .i64 0)) 3,none⟩]) (.cond (.tmp 37) (.seq (.reg [⟨some 39,.load 29 (.tmp 3),none⟩,⟨some 40,.load 29 (.tmp 7),none⟩,⟨some 41,.call ⟨.value (.func 14),#[.tmp 39,.tmp 40],#[29,29]⟩,none⟩,⟨some 38,.move (.tmp 41),none⟩,⟨some 42,.extract (.tmp 38) 0,none⟩,⟨some 43,.extract (.tmp 38) 1,none⟩,⟨some 10,.alloc 39,none⟩,⟨some 9,.assign (.tmp 42),none⟩,⟨none,.store 39 (.tmp 10) (.tmp 43),none⟩]) (.seq (.reg [⟨some 44,.fieldAddr 39 (.tmp 10) 0,none⟩,⟨some 45,.load 3 (.tmp 44),none⟩,⟨some 46,.binOp .neq 3 (.tmp 45) (.const (.int .i64 0)) 3,none⟩,⟨some 47,.move (.tmp 46),none⟩,⟨some 48,.move (.tmp 9),some (some 47,false)⟩,⟨some 49,.unOp .not 4 (.tmp 48),some (some 47,false)⟩,⟨some 50,.pick (.tmp 47) (.const (.bool true)) (.tmp 49),none⟩]) (.cond (.tmp 50) (.seq (.reg [⟨some 6,.assign (.const (.bool false)),none⟩]) .ret) .skip))) .skip)) (.seq (.reg [⟨some 52,.load 29 (.tmp 3),none⟩,⟨some 53,.move (.tmp 1),none⟩,⟨some 54,.load 31 (.tmp 5),none⟩,⟨some 55,.call ⟨.value (.func 10),#[.tmp 52,.tmp 53,.tmp 54],#[29,9,31]⟩,none⟩,⟨some 51,.move (.tmp 55),none⟩,⟨some 56,.extract (.tmp 51) 0,none⟩,⟨some 57,.extract (.tmp 51) 1,none⟩,⟨some 11,.alloc 29,none⟩,⟨none,.store 29 (.tmp 11) (.tmp 56),none⟩,⟨none,.store 39 (.tmp 8) (.tmp 57),none⟩]) (.seq (.seq (.reg [⟨some 58,.fieldAddr 39 (.tmp 8) 0,none⟩,⟨some 59,.load 3 (.tmp 58),none⟩,⟨some 60,.binOp .neq 3 (.tmp 59) (.const (.int .i64 0)) 3,none⟩]) (.cond (.tmp 60) (.seq (.reg [⟨some 6,.assign (.const (.bool true)),none⟩]) .ret) .skip)) (.seq (.reg [⟨some 62,.load 29 (.tmp 3),none⟩,⟨some 63,.call ⟨.value (.func 15),#[.tmp 62],#[29]⟩,none⟩,⟨some 61,.move (.tmp 63),none⟩,⟨some 64,.extract (.tmp 61) 0,none⟩,⟨some 65,.extract (.tmp 61) 1,none⟩,⟨some 13,.alloc 39,none⟩,⟨some 12,.assign (.tmp 64),none⟩,⟨none,.store 39 (.tmp 13) (.tmp 65),none⟩]) (.seq (.reg [⟨some 67,.load 29 (.tmp 11),none⟩,⟨some 68,.call ⟨.value (.func 15),#[.tmp 67],#[29]⟩,none⟩,⟨some 66,.move (.tmp 68),none⟩,⟨some 69,.extract (.tmp 66) 0,none⟩,⟨some 70,.extract (.tmp 66) 1,none⟩,⟨some 15,.alloc 39,none⟩,⟨some 14,.assign (.tmp 69),none⟩,⟨none,.store 39 (.tmp 15) (.tmp 70),none⟩]) (.seq (.seq (.reg [⟨some 71,.fieldAddr 39 (.tmp 13) 0,none⟩,⟨some 72,.load 3 (.tmp 71),none⟩,⟨some 73,.binOp .neq 3 (.tmp 72) (.const (.int .i64 0)) 3,none⟩,⟨some 74,.move (.tmp 73),none⟩,⟨some 75,.fieldAddr 39 (.tmp 15) 0,some (some 74,false)⟩,⟨some 76,.load 3 (.tmp 75),some (some 74,false)⟩,⟨some 77,.binOp .neq 3 (.tmp 76) (.const (.int .i64 0)) 3,some (some 74,false)⟩,⟨some 78,.pick (.tmp 74) (.const (.bool true)) (.tmp 77),none⟩]) (.cond (.tmp 78) (.seq (.reg [⟨some 6,.assign (.const (.bool false)),none⟩]) .ret) .skip)) (.seq (.reg [⟨some 79,.move (.tmp 12),none⟩,⟨some 80,.move (.tmp 1),none⟩,⟨some 81,.call ⟨.value (.func 16),#[.tmp 79,.tmp 80],#[32,9]⟩,none⟩,⟨some 16,.assign (.tmp 81),none⟩]) (.seq (.seq (.reg [⟨some 17,.assign (.const (.int .i64 0)),none⟩]) (.bloop 0 x4_L0)) (x4_T1))))))))))))
@[simp] theorem x4_s {C e s K} : type_of% (@X_at C e s K _ _ x4_L2.eq_1) ∧ type_of% (@X_at C e s K _ _ x4_T1.eq_1) ∧ type_of% (@X_at C e s K _ _ x4_L0.eq_1) ∧ type_of% (@X_at C e s K _ _ x4.eq_1):=⟨X_at x4_L2.eq_1,X_at x4_T1.eq_1,X_at x4_L0.eq_1,X_at x4.eq_1⟩
def an4 : Ann:=⟨[(21,.mix 23)],[(2,[],[1,12,14,18],[6]),(0,[],[1,5,12,14,16,17],[1,6,12,14])],[]⟩
@[simp] theorem an4_a : an4.clsOf 21 = .mix 23 ∧ an4.frzOf 21 = [] ∧ an4.loopOf 2 = ([],[1,12,14,18],[6]) ∧ an4.loopOf 0 = ([],[1,5,12,14,16,17],[1,6,12,14]):=⟨rfl,rfl,rfl,rfl⟩
theorem fi4 : FI Try.prog 4 (cxA an4) x4 [.tmp 6] Try.f4:=fiA Try.func4 mixed
theorem firstSwaps_law (e : Ex) (nm : ByteArray) (w : Wd) : CallOK Try.prog 4 [.agg (exr e),.str nm,.agg (wrd w)] [] (.bool true) []:=by
 have c0:=firstBegun_law
 have c1:=VastExpr_ref e 0 (by decide)
 have c2:=VastWord_ref w
 have p1:=CallOK.soft (args':=[.agg (exr e),.str nm,.agg [.str nm,.nilsl]]) (Put_first e nm (.mk nm [])) (.cons .refl (.cons .refl (.cons (.agg (.cons .refl (.cons (by rw [show wrds [] = [] by rw [wrds]];exact .nil) .nil))) .nil)))
 have p2:=Put_first e nm w
 refine fi4.op ?_
 cases h1 : vxF e 0 with
 | true=>
  rw [h1] at c1
  (refine Sg.h ?_;try repeat' ((first|(with_reducible first|refine brA ?_|refine brE fun _=>?_|refine spl ⟨?_,?_⟩<;>intro _)|refine clo c0 ?_|refine clo c1 ?_)<;>((try simp -implicitDefEqProofs);(try simp -implicitDefEqProofs(disch:=first|assumption|(try simp only[lens]);omega -splitDisjunctions)))))
 | false=>
 rw [h1] at c1
 cases h2 : vwF (.mk ⟨#[]⟩ [w]) 0 with
 | true=>
  rw [h2] at c2
  (refine Sg.h ?_;try repeat' ((first|(with_reducible first|refine brA ?_|refine brE fun _=>?_|refine spl ⟨?_,?_⟩<;>intro _)|refine clo c0 ?_|refine clo c1 ?_|refine clo c2 ?_)<;>((try simp -implicitDefEqProofs);(try simp -implicitDefEqProofs(disch:=first|assumption|(try simp only[lens]);omega -splitDisjunctions)))))
 | false=>
 rw [h2] at c2
 by_cases q2 : (putF e nm w).1 = 0
 rotate_left
 ·by_cases q1 : (putF e nm (.mk nm [])).1 = 0
  rotate_left
  ·generalize putF e nm (.mk nm []) = x1 at *
   generalize putF e nm w = x2 at *
   generalize putR e nm (.mk nm []) = x3 at *
   generalize putR e nm w = x4 at *
   (refine Sg.h ?_;try repeat' ((first|(with_reducible first|refine brA ?_|refine brE fun _=>?_|refine spl ⟨?_,?_⟩<;>intro _)|refine clo c0 ?_|refine clo c1 ?_|refine clo c2 ?_|refine clo p1 ?_|refine clo p2 ?_)<;>((try simp -implicitDefEqProofs [q1,q2]);(try simp -implicitDefEqProofs(disch:=first|assumption|(try simp only[lens]);omega -splitDisjunctions) [q1,q2]))))
  ·obtain ⟨z1,z2,z3,z4,z5,z6⟩ := putF_zero q1
   rw [z5,z6,put_itself q1] at p1
   have ha:=Alike_self e z1
   generalize putF e nm w = x2 at *
   generalize putR e nm w = x4 at *
   (refine Sg.h ?_;try repeat' ((first|(with_reducible first|refine brA ?_|refine brE fun _=>?_|refine spl ⟨?_,?_⟩<;>intro _)|refine clo c0 ?_|refine clo c1 ?_|refine clo c2 ?_|refine clo p1 ?_|refine clo ha ?_|refine clo p2 ?_)<;>((try simp -implicitDefEqProofs [q2]);(try simp -implicitDefEqProofs(disch:=first|assumption|(try simp only[lens]);omega -splitDisjunctions) [q2]))))
 obtain ⟨z1,z2,z3,z4,z5,z6⟩:=putF_zero q2
 rw [z5,z6] at p2
 have f1:=Free_first e z1
 have f2:=Free_first (putO e nm w) z4
 obtain ⟨s1,s2⟩:=swaps q2
 have ht:=fun l u=>HasText_has l u
 have hv:=fun n=>HasVariable_ref n w
 have t0:=ht (freeX scL e) nm
 have hAl:=freeX_sz scL_len e
 have hCl:=freeX_sz scL_len (putO e nm w)
 rw [szE_nd] at hAl hCl
 have hAl:=Nat.le_trans hAl (checkM_ok z1).1
 have hCl:=Nat.le_trans hCl (checkM_ok z4).1
 generalize hA : freeX scL e = A at *
 generalize hC : freeX scL (putO e nm w) = C at *
 generalize putO e nm w = o at *
 have hbA : ∀ x,hasB A x = true ↔ x ∈ A:=fun x=>hasB_iff
 have hbC : ∀ x,hasB C x = true ↔ x ∈ C:=fun x=>hasB_iff
 have key : W (cxA an4 Try.prog 0) 0 x4_L0 (KS.seq x4_T1 (KS.fin [ResultVar.tmp 6] fun v1 s1=>deref s1 6 v1 = .bool true)) [(1,.str nm),(5,.ptr 0 0 0),(12,.list (A.map strRow)),(14,.list (C.map strRow)),(16,.bool (hasB A nm)),(17,.int .i64 0)] [.rows 2 [wrd w]]:=by
  refine W_of fun Q hQ=>?_
  have main : ∀ k i,i + k = C.length → Q [(1,.str nm),(5,.ptr 0 0 0),(12,.list (A.map strRow)),(14,.list (C.map strRow)),(16,.bool (hasB A nm)),(17,.int .i64 (i : Int))] [.rows 2 [wrd w]]:=by
   intro k
   induction k with
   | zero=>
    intro i hi
    obtain rfl : i = C.length:=by omega
    generalize hasB A nm = b0 at *
    apply hQ
    clear hQ
    (refine Sg.h ?_;try repeat' ((with_reducible first|refine brA ?_|refine brE fun _=>?_|refine spl ⟨?_,?_⟩<;>intro _)<;>((try simp -implicitDefEqProofs);(try simp -implicitDefEqProofs(disch:=first|assumption|(try simp only[lens]);omega -splitDisjunctions)))))
    refine W_of fun Q2 hQ2=>?_
    have main2 : ∀ k i,i + k = A.length → Q2 [(1,.str nm),(12,.list (A.map strRow)),(14,.list (C.map strRow)),(18,.int .i64 (i : Int))] []:=by
     intro k
     induction k with
     | zero=>
      intro i hi
      obtain rfl : i = A.length:=by omega
      apply hQ2
      clear hQ2
      (refine Sg.h ?_;try repeat' ((with_reducible first|refine brA ?_|refine brE fun _=>?_|refine spl ⟨?_,?_⟩<;>intro _)<;>((try simp -implicitDefEqProofs);(try simp -implicitDefEqProofs(disch:=first|assumption|(try simp only[lens]);omega -splitDisjunctions)))))
     | succ k ih=>
      intro i hi
      have hil : i < A.length:=by omega
      have hi' : (i : Int) < (A.length : Int):=by omega
      have ih:=ih (i + 1) (by omega)
      have hs:=s2 _ (List.getElem_mem hil)
      have h3:=ht C A[i]
      generalize hx : A[i] = x at *
      have hbx:=hbC x
      generalize hasB C x = b1 at *
      clear s1 s2 hbA hbC ht hv t0
      apply hQ2
      clear hQ2
      by_cases hxn : x = nm
      ·(refine Sg.h ?_;try repeat' ((with_reducible first|refine brA ?_|refine brE fun _=>?_|refine spl ⟨?_,?_⟩<;>intro _)<;>((try simp -implicitDefEqProofs [hi',hil,hx,hxn]); (try simp -implicitDefEqProofs(disch:=first|assumption|(try simp only[lens]);omega -splitDisjunctions) [hi',hil,hx,hxn]))))
       all_goals first|exact ih|(refine at2 ih ?_ ?_<;>simp;done)|(exfalso;first|omega|(simp_all;done)|(simp_all;omega))
      ·obtain rfl : b1 = true := hbx.2 (hs hxn)
       (refine Sg.h ?_;try repeat' ((first|(with_reducible first|refine brA ?_|refine brE fun _=>?_|refine spl ⟨?_,?_⟩<;>intro _)|refine clo h3 ?_)<;>((try simp -implicitDefEqProofs [hi',hil,hx,hxn]);(try simp -implicitDefEqProofs(disch:=first|assumption|(try simp only[lens]);omega -splitDisjunctions) [hi',hil,hx,hxn]))))
       all_goals first|exact ih|(refine at2 ih ?_ ?_<;>simp;done)|(exfalso;first|omega|(simp_all;done)|(simp_all;omega))
    all_goals first|exact main2 A.length 0 (Nat.zero_add _)|(refine at2 main2 A.length 0 (Nat.zero_add _) ?_ ?_<;>simp;done)|(exfalso;first|omega|(simp_all;done)|(simp_all;omega))
   | succ k ih=>
    intro i hi
    have hil : i < C.length:=by omega
    have hi' : (i : Int) < (C.length : Int):=by omega
    have ih:=ih (i + 1) (by omega)
    have hs:=s1 _ (List.getElem_mem hil)
    have h3:=ht A C[i]
    have h4:=hv C[i]
    generalize hx : C[i] = x at *
    have hbx:=hbA x
    have hbn:=hbA nm
    generalize hasB A nm = b0 at *
    generalize hasB A x = b1 at *
    generalize hasW x w = b2 at *
    clear s1 s2 hbA hbC ht hv t0
    apply hQ
    clear hQ
    by_cases hxn : x = nm
    ·obtain ⟨g1,g2⟩ : b0 = true ∧ b2 = true := hs.elim (fun g => absurd hxn g.2) (fun g => ⟨hbn.2 g.1,g.2⟩)
     subst g1 g2 hxn
     cases b1
     ·(refine Sg.h ?_;try repeat' ((first|(with_reducible first|refine brA ?_|refine brE fun _=>?_|refine spl ⟨?_,?_⟩<;>intro _)|refine clo h3 ?_|refine clo h4 ?_)<;>((try simp -implicitDefEqProofs [hi',hil,hx]); (try simp -implicitDefEqProofs(disch:=first|assumption|(try simp only[lens]);omega -splitDisjunctions) [hi',hil,hx]))))
      all_goals first|exact ih|(refine at2 ih ?_ ?_<;>simp;done)|(exfalso;first|omega|(simp_all;done)|(simp_all;omega))
     ·(refine Sg.h ?_;try repeat' ((first|(with_reducible first|refine brA ?_|refine brE fun _=>?_|refine spl ⟨?_,?_⟩<;>intro _)|refine clo h3 ?_|refine clo h4 ?_)<;>((try simp -implicitDefEqProofs [hi',hil,hx]); (try simp -implicitDefEqProofs(disch:=first|assumption|(try simp only[lens]);omega -splitDisjunctions) [hi',hil,hx]))))
      all_goals first|exact ih|(refine at2 ih ?_ ?_<;>simp;done)|(exfalso;first|omega|(simp_all;done)|(simp_all;omega))
    ·cases b1
     ·obtain ⟨g1,g2⟩ : b0 = true ∧ b2 = true := hs.elim (fun g => by have := hbx.2 g.1; cases this) (fun g => ⟨hbn.2 g.1,g.2⟩)
      subst g1 g2
      (refine Sg.h ?_;try repeat' ((first|(with_reducible first|refine brA ?_|refine brE fun _=>?_|refine spl ⟨?_,?_⟩<;>intro _)|refine clo h3 ?_|refine clo h4 ?_)<;>((try simp -implicitDefEqProofs [hi',hil,hx,hxn]);(try simp -implicitDefEqProofs(disch:=first|assumption|(try simp only[lens]);omega -splitDisjunctions) [hi',hil,hx,hxn]))))
      all_goals first|exact ih|(refine at2 ih ?_ ?_<;>simp;done)|(exfalso;first|omega|(simp_all;done)|(simp_all;omega))
     ·(refine Sg.h ?_;try repeat' ((first|(with_reducible first|refine brA ?_|refine brE fun _=>?_|refine spl ⟨?_,?_⟩<;>intro _)|refine clo h3 ?_|refine clo h4 ?_)<;>((try simp -implicitDefEqProofs [hi',hil,hx,hxn]); (try simp -implicitDefEqProofs(disch:=first|assumption|(try simp only[lens]);omega -splitDisjunctions) [hi',hil,hx,hxn]))))
      all_goals first|exact ih|(refine at2 ih ?_ ?_<;>simp;done)|(exfalso;first|omega|(simp_all;done)|(simp_all;omega))
  all_goals first|exact main C.length 0 (Nat.zero_add _)|(refine at2 main C.length 0 (Nat.zero_add _) ?_ ?_<;>simp;done)|(exfalso;first|omega|(simp_all;done)|(simp_all;omega))
 by_cases q1 : (putF e nm (.mk nm [])).1 = 0
 rotate_left
 ·generalize putF e nm (.mk nm []) = x1 at *
  generalize putR e nm (.mk nm []) = x3 at *
  (refine Sg.h ?_;try repeat' ((first|(with_reducible first|refine brA ?_|refine brE fun _=>?_|refine spl ⟨?_,?_⟩<;>intro _)|refine clo c0 ?_|refine clo c1 ?_|refine clo c2 ?_|refine clo p1 ?_|refine clo p2 ?_|refine clo f1 ?_|refine clo f2 ?_|refine clo t0 ?_)<;>((try simp -implicitDefEqProofs [q1]);(try simp -implicitDefEqProofs(disch:=first|assumption|(try simp only[lens]);omega -splitDisjunctions) [q1]))))
  exact key
 ·obtain ⟨_,_,_,_,z5,z6⟩ := putF_zero q1
  rw [z5,z6,put_itself q1] at p1
  have ha:=Alike_self e z1
  (refine Sg.h ?_;try repeat' ((first|(with_reducible first|refine brA ?_|refine brE fun _=>?_|refine spl ⟨?_,?_⟩<;>intro _)|refine clo c0 ?_|refine clo c1 ?_|refine clo c2 ?_|refine clo p1 ?_|refine clo ha ?_|refine clo p2 ?_|refine clo f1 ?_|refine clo f2 ?_|refine clo t0 ?_)<;>((try simp -implicitDefEqProofs);(try simp -implicitDefEqProofs(disch:=first|assumption|(try simp only[lens]);omega -splitDisjunctions)))))
  exact key
end Go.Proofs.Ytbimioonhfhflaa
