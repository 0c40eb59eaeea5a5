import Derived.Test.YtfhakdonenhnbaaAGaE
import Derived.Test.YtfhakdonenhnbaaAMnU
import Derived.Test.YtfhakdonenhnbaaAMnA
import Derived.Test.YtfhakdonenhnbaaAGaP
set_option linter.unusedVariables false
set_option linter.unusedSimpArgs false
set_option maxRecDepth 100000
set_option maxHeartbeats 4000000
namespace Go.Proofs.Ytfhakdonenhnbaa
open Go Go.Pv
theorem callOK_softG {P : Program} {f : FuncId} {args args' : List PV} {v : PV} {s s' : Store} (h : CallOK P f args' s v s') (hs : SoftL args' args) : CallOK P f args s v s':=by
 intro pub σ w cargs hb ha
 have hg:=hs.get (pub:=pub)
 refine h pub σ w cargs hb ⟨by rw [ha.1,hg.1],fun j x y hx hy=>?_⟩
 have hjl:=lt_of_getElem? hx
 have hyj : args[j]? = some (args[j]'(by have:=hg.1;omega)):=List.getElem?_eq_getElem _
 exact hg.2 j x _ hx hyj σ y (ha.2 j _ y hyj hy)
theorem begun1 : gameF ⟨1,[],[]⟩ ⟨2,[],[]⟩ 1 = (0,0) ∧ winB ⟨1,[],[]⟩ ⟨2,[],[]⟩ 1 = true:=⟨by kernel_rfl,by kernel_rfl⟩
theorem begun2 : gameF ⟨1,[],[]⟩ ⟨2,[],[]⟩ 2 = (0,0) ∧ winB ⟨1,[],[]⟩ ⟨2,[],[]⟩ 2 = false:=⟨by kernel_rfl,by kernel_rfl⟩
def x6 : XC:=.seq (.reg [⟨some 0,.assign (.const (.bool false)),none⟩]) (.seq (.reg [⟨some 6,.build 25 #[(0,.const (.int .i64 1))],none⟩,⟨some 7,.build 25 #[(0,.const (.int .i64 2))],none⟩,⟨some 8,.call ⟨.value (.func 8),#[.tmp 6,.tmp 7,.const (.int .i64 1)],#[25,25,3]⟩,none⟩,⟨some 5,.move (.tmp 8),none⟩,⟨some 9,.extract (.tmp 5) 0,none⟩,⟨some 10,.extract (.tmp 5) 1,none⟩,⟨some 2,.alloc 33,none⟩,⟨some 1,.assign (.tmp 9),none⟩,⟨none,.store 33 (.tmp 2) (.tmp 10),none⟩]) (.seq (.reg [⟨some 12,.build 25 #[(0,.const (.int .i64 1))],none⟩,⟨some 13,.build 25 #[(0,.const (.int .i64 2))],none⟩,⟨some 14,.call ⟨.value (.func 8),#[.tmp 12,.tmp 13,.const (.int .i64 2)],#[25,25,3]⟩,none⟩,⟨some 11,.move (.tmp 14),none⟩,⟨some 15,.extract (.tmp 11) 0,none⟩,⟨some 16,.extract (.tmp 11) 1,none⟩,⟨some 4,.alloc 33,none⟩,⟨some 3,.assign (.tmp 15),none⟩,⟨none,.store 33 (.tmp 4) (.tmp 16),none⟩]) (.seq (.reg [⟨some 17,.fieldAddr 33 (.tmp 2) 0,none⟩,⟨some 18,.load 3 (.tmp 17),none⟩,⟨some 19,.binOp .eql 3 (.tmp 18) (.const (.int .i64 0)) 3,none⟩,⟨some 20,.move (.tmp 19),none⟩,⟨some 21,.fieldAddr 33 (.tmp 4) 0,some (some 20,true)⟩,⟨some 22,.load 3 (.tmp 21),some (some 20,true)⟩,⟨some 23,.binOp .eql 3 (.tmp 22) (.const (.int .i64 0)) 3,some (some 20,true)⟩,⟨some 24,.pick (.tmp 20) (.tmp 23) (.const (.bool false)),none⟩,⟨some 25,.move (.tmp 24),none⟩,⟨some 26,.move (.tmp 1),some (some 25,true)⟩,⟨some 27,.pick (.tmp 25) (.tmp 26) (.const (.bool false)),none⟩,⟨some 28,.move (.tmp 27),none⟩,⟨some 29,.move (.tmp 3),some (some 28,true)⟩,⟨some 30,.unOp .not 4 (.tmp 29),some (some 28,true)⟩,⟨some 31,.pick (.tmp 28) (.tmp 30) (.const (.bool false)),none⟩,⟨some 0,.assign (.tmp 31),none⟩]) .ret)))
@[simp] theorem x6_s {C e s K} : type_of% (@X_at C e s K _ _ x6.eq_1):=X_at x6.eq_1
def an6 : Ann:=⟨[],[],[]⟩
theorem fi6 : FI Try.prog 6 (cxA an6) x6 [.tmp 0] Try.f6:=fiA Try.func6 mixed
theorem gamesBegun_law : CallOK Try.prog 6 [] [] (.bool true) []:=by
 have h1:=Wins_games ⟨1,[],[]⟩ ⟨2,[],[]⟩ 1
 have h2:=Wins_games ⟨1,[],[]⟩ ⟨2,[],[]⟩ 2
 rw [begun1.1,begun1.2] at h1
 rw [begun2.1,begun2.2] at h2
 have h1:=callOK_softG (args:=[.agg [.int .i64 1,.nilsl,.nilsl],.agg [.int .i64 2,.nilsl,.nilsl],.int .i64 1]) h1 (.cons (.agg (.cons .refl (.cons .nil (.cons .nil .nil)))) (.cons (.agg (.cons .refl (.cons .nil (.cons .nil .nil)))) (.cons .refl .nil)))
 have h2:=callOK_softG (args:=[.agg [.int .i64 1,.nilsl,.nilsl],.agg [.int .i64 2,.nilsl,.nilsl],.int .i64 2]) h2 (.cons (.agg (.cons .refl (.cons .nil (.cons .nil .nil)))) (.cons (.agg (.cons .refl (.cons .nil (.cons .nil .nil)))) (.cons .refl .nil)))
 refine fi6.op ?_
 (refine Sg.h ?_;try repeat' ((first|(with_reducible first|refine brA ?_|refine brE fun _=>?_|refine spl ⟨?_,?_⟩<;>intro _)|refine clo h1 ?_|refine clo h2 ?_)<;>((try simp -implicitDefEqProofs);(try simp -implicitDefEqProofs(disch:=first|assumption|(try simp only[lens]);omega -splitDisjunctions)))))
def x14_T4 : XC:=.seq (.seq (.reg [⟨some 121,.fieldAddr 33 (.tmp 7) 0,none⟩,⟨some 122,.load 3 (.tmp 121),none⟩,⟨some 123,.binOp .eql 3 (.tmp 122) (.const (.int .i64 0)) 3,none⟩,⟨some 124,.move (.tmp 123),none⟩,⟨some 125,.move (.tmp 2),some (some 124,true)⟩,⟨some 126,.binOp .lss 3 (.tmp 125) (.const (.int .i64 0)) 3,some (some 124,true)⟩,⟨some 127,.move (.tmp 126),some (some 124,true)⟩,⟨some 128,.move (.tmp 2),some (some 127,false)⟩,⟨some 129,.binOp .gtr 3 (.tmp 128) (.const (.int .i64 4)) 3,some (some 127,false)⟩,⟨some 130,.pick (.tmp 127) (.const (.bool true)) (.tmp 129),some (some 124,true)⟩,⟨some 131,.pick (.tmp 124) (.tmp 130) (.const (.bool false)),none⟩]) (.cond (.tmp 131) (.reg [⟨some 132,.call ⟨.value (.func 22),#[.const (.int .i64 3),.const (.int .i64 0)],#[3,3]⟩,none⟩,⟨none,.store 33 (.tmp 7) (.tmp 132),none⟩]) .skip)) (.seq (.reg [⟨some 133,.load 33 (.tmp 7),none⟩,⟨none,.store 33 (.tmp 6) (.tmp 133),none⟩]) .ret)
def x14_L4 : XC:=.seq (.seq (.reg [⟨some 79,.move (.tmp 11),none⟩,⟨some 80,.fieldAddr 25 (.tmp 3) 2,none⟩,⟨some 81,.load 23 (.tmp 80),none⟩,⟨some 82,.call ⟨.builtin .len,#[.tmp 81],#[23]⟩,none⟩,⟨some 83,.binOp .lss 3 (.tmp 79) (.tmp 82) 3,none⟩,⟨some 84,.move (.tmp 83),none⟩,⟨some 85,.fieldAddr 33 (.tmp 7) 0,some (some 84,true)⟩,⟨some 86,.load 3 (.tmp 85),some (some 84,true)⟩,⟨some 87,.binOp .eql 3 (.tmp 86) (.const (.int .i64 0)) 3,some (some 84,true)⟩,⟨some 88,.pick (.tmp 84) (.tmp 87) (.const (.bool false)),none⟩]) (.cond (.tmp 88) .skip (.exit 4))) (.seq (.block 5 (.seq (.drawn 20 [⟨some 91,.fieldAddr 25 (.tmp 3) 2,none⟩,⟨some 92,.load 23 (.tmp 91),none⟩,⟨some 93,.move (.tmp 11),none⟩,⟨some 94,.indexAddr 23 (.tmp 92) (.tmp 93),none⟩,⟨some 95,.fieldAddr 64 (.tmp 94) 0,none⟩,⟨some 96,.load 9 (.tmp 95),none⟩,⟨some 97,.fieldAddr 25 (.tmp 4) 2,none⟩,⟨some 98,.load 23 (.tmp 97),none⟩,⟨some 99,.move (.tmp 11),none⟩,⟨some 100,.indexAddr 23 (.tmp 98) (.tmp 99),none⟩,⟨some 101,.fieldAddr 64 (.tmp 100) 0,none⟩,⟨some 102,.load 9 (.tmp 101),none⟩,⟨some 103,.binOp .neq 9 (.tmp 96) (.tmp 102) 9,none⟩,⟨some 104,.move (.tmp 103),none⟩,⟨some 105,.fieldAddr 25 (.tmp 3) 2,some (some 104,false)⟩,⟨some 106,.load 23 (.tmp 105),some (some 104,false)⟩,⟨some 107,.move (.tmp 11),some (some 104,false)⟩,⟨some 108,.indexAddr 23 (.tmp 106) (.tmp 107),some (some 104,false)⟩,⟨some 109,.fieldAddr 64 (.tmp 108) 1,some (some 104,false)⟩,⟨some 110,.load 3 (.tmp 109),some (some 104,false)⟩,⟨some 111,.fieldAddr 25 (.tmp 4) 2,some (some 104,false)⟩,⟨some 112,.load 23 (.tmp 111),some (some 104,false)⟩,⟨some 113,.move (.tmp 11),some (some 104,false)⟩,⟨some 114,.indexAddr 23 (.tmp 112) (.tmp 113),some (some 104,false)⟩,⟨some 115,.fieldAddr 64 (.tmp 114) 1,some (some 104,false)⟩,⟨some 116,.load 3 (.tmp 115),some (some 104,false)⟩,⟨some 117,.binOp .neq 3 (.tmp 110) (.tmp 116) 3,some (some 104,false)⟩,⟨some 118,.pick (.tmp 104) (.const (.bool true)) (.tmp 117),none⟩]) (.cond (.tmp 118) (.reg [⟨some 119,.move (.tmp 11),none⟩,⟨some 120,.call ⟨.value (.func 22),#[.const (.int .i64 9),.tmp 119],#[3,3]⟩,none⟩,⟨none,.store 33 (.tmp 7) (.tmp 120),none⟩]) .skip))) (.reg [⟨some 89,.move (.tmp 11),none⟩,⟨some 90,.binOp .add 3 (.tmp 89) (.const (.int .i64 1)) 3,none⟩,⟨some 11,.assign (.tmp 90),none⟩]))
def x14_T2 : XC:=.seq (.seq (.reg [⟨some 66,.fieldAddr 33 (.tmp 7) 0,none⟩,⟨some 67,.load 3 (.tmp 66),none⟩,⟨some 68,.binOp .eql 3 (.tmp 67) (.const (.int .i64 0)) 3,none⟩,⟨some 69,.move (.tmp 68),none⟩,⟨some 70,.fieldAddr 25 (.tmp 3) 2,some (some 69,true)⟩,⟨some 71,.load 23 (.tmp 70),some (some 69,true)⟩,⟨some 72,.call ⟨.builtin .len,#[.tmp 71],#[23]⟩,some (some 69,true)⟩,⟨some 73,.fieldAddr 25 (.tmp 4) 2,some (some 69,true)⟩,⟨some 74,.load 23 (.tmp 73),some (some 69,true)⟩,⟨some 75,.call ⟨.builtin .len,#[.tmp 74],#[23]⟩,some (some 69,true)⟩,⟨some 76,.binOp .neq 3 (.tmp 72) (.tmp 75) 3,some (some 69,true)⟩,⟨some 77,.pick (.tmp 69) (.tmp 76) (.const (.bool false)),none⟩]) (.cond (.tmp 77) (.reg [⟨some 78,.call ⟨.value (.func 22),#[.const (.int .i64 9),.const (.int .i64 0)],#[3,3]⟩,none⟩,⟨none,.store 33 (.tmp 7) (.tmp 78),none⟩]) .skip)) (.seq (.seq (.reg [⟨some 11,.assign (.const (.int .i64 0)),none⟩]) (.bloop 4 x14_L4)) (x14_T4))
def x14_L2 : XC:=.seq (.seq (.reg [⟨some 39,.move (.tmp 10),none⟩,⟨some 40,.move (.tmp 8),none⟩,⟨some 41,.move (.tmp 9),none⟩,⟨some 42,.indexAddr 66 (.tmp 40) (.tmp 41),none⟩,⟨some 43,.fieldAddr 25 (.tmp 42) 2,none⟩,⟨some 44,.load 23 (.tmp 43),none⟩,⟨some 45,.call ⟨.builtin .len,#[.tmp 44],#[23]⟩,none⟩,⟨some 46,.binOp .lss 3 (.tmp 39) (.tmp 45) 3,none⟩,⟨some 47,.move (.tmp 46),none⟩,⟨some 48,.fieldAddr 33 (.tmp 7) 0,some (some 47,true)⟩,⟨some 49,.load 3 (.tmp 48),some (some 47,true)⟩,⟨some 50,.binOp .eql 3 (.tmp 49) (.const (.int .i64 0)) 3,some (some 47,true)⟩,⟨some 51,.pick (.tmp 47) (.tmp 50) (.const (.bool false)),none⟩]) (.cond (.tmp 51) .skip (.exit 2))) (.seq (.block 3 (.seq (.reg [⟨some 54,.move (.tmp 8),none⟩,⟨some 55,.move (.tmp 9),none⟩,⟨some 56,.indexAddr 66 (.tmp 54) (.tmp 55),none⟩,⟨some 57,.fieldAddr 25 (.tmp 56) 2,none⟩,⟨some 58,.load 23 (.tmp 57),none⟩,⟨some 59,.move (.tmp 10),none⟩,⟨some 60,.indexAddr 23 (.tmp 58) (.tmp 59),none⟩,⟨some 61,.fieldAddr 64 (.tmp 60) 1,none⟩,⟨some 62,.load 3 (.tmp 61),none⟩,⟨some 63,.binOp .gtr 3 (.tmp 62) (.const (.int .i64 2)) 3,none⟩]) (.cond (.tmp 63) (.reg [⟨some 64,.move (.tmp 10),none⟩,⟨some 65,.call ⟨.value (.func 22),#[.const (.int .i64 4),.tmp 64],#[3,3]⟩,none⟩,⟨none,.store 33 (.tmp 7) (.tmp 65),none⟩]) .skip))) (.reg [⟨some 52,.move (.tmp 10),none⟩,⟨some 53,.binOp .add 3 (.tmp 52) (.const (.int .i64 1)) 3,none⟩,⟨some 10,.assign (.tmp 53),none⟩]))
def x14_L0 : XC:=.seq (.seq (.reg [⟨some 22,.move (.tmp 9),none⟩,⟨some 23,.binOp .lss 3 (.tmp 22) (.const (.int .i64 2)) 3,none⟩,⟨some 24,.move (.tmp 23),none⟩,⟨some 25,.fieldAddr 33 (.tmp 7) 0,some (some 24,true)⟩,⟨some 26,.load 3 (.tmp 25),some (some 24,true)⟩,⟨some 27,.binOp .eql 3 (.tmp 26) (.const (.int .i64 0)) 3,some (some 24,true)⟩,⟨some 28,.pick (.tmp 24) (.tmp 27) (.const (.bool false)),none⟩]) (.cond (.tmp 28) .skip (.exit 0))) (.seq (.block 1 (.seq (.seq (.reg [⟨some 31,.move (.tmp 8),none⟩,⟨some 32,.move (.tmp 9),none⟩,⟨some 33,.indexAddr 66 (.tmp 31) (.tmp 32),none⟩,⟨some 34,.fieldAddr 25 (.tmp 33) 1,none⟩,⟨some 35,.load 22 (.tmp 34),none⟩,⟨some 36,.call ⟨.builtin .len,#[.tmp 35],#[22]⟩,none⟩,⟨some 37,.binOp .gtr 3 (.tmp 36) (.const (.int .i64 0)) 3,none⟩]) (.cond (.tmp 37) (.reg [⟨some 38,.call ⟨.value (.func 22),#[.const (.int .i64 4),.const (.int .i64 0)],#[3,3]⟩,none⟩,⟨none,.store 33 (.tmp 7) (.tmp 38),none⟩]) .skip)) (.seq (.reg [⟨some 10,.assign (.const (.int .i64 0)),none⟩]) (.bloop 2 x14_L2)))) (.reg [⟨some 29,.move (.tmp 9),none⟩,⟨some 30,.binOp .add 3 (.tmp 29) (.const (.int .i64 1)) 3,none⟩,⟨some 9,.assign (.tmp 30),none⟩]))
def x14 : XC:=.seq (.reg [⟨some 3,.box 25 (.tmp 0),none⟩,⟨some 4,.box 25 (.tmp 1),none⟩,⟨some 6,.alloc 33,none⟩]) (.seq (.reg [⟨some 12,.load 25 (.tmp 3),none⟩,⟨some 13,.call ⟨.value (.func 21),#[.tmp 12],#[25]⟩,none⟩,⟨some 7,.alloc 33,none⟩,⟨none,.store 33 (.tmp 7) (.tmp 13),none⟩]) (.seq (.seq (.reg [⟨some 14,.fieldAddr 33 (.tmp 7) 0,none⟩,⟨some 15,.load 3 (.tmp 14),none⟩,⟨some 16,.binOp .eql 3 (.tmp 15) (.const (.int .i64 0)) 3,none⟩]) (.cond (.tmp 16) (.reg [⟨some 17,.load 25 (.tmp 4),none⟩,⟨some 18,.call ⟨.value (.func 21),#[.tmp 17],#[25]⟩,none⟩,⟨none,.store 33 (.tmp 7) (.tmp 18),none⟩]) .skip)) (.seq (.reg [⟨some 19,.load 25 (.tmp 3),none⟩,⟨some 20,.load 25 (.tmp 4),none⟩,⟨some 21,.buildSlice 66 2 #[(0,.tmp 19),(1,.tmp 20)],none⟩,⟨some 8,.assign (.tmp 21),none⟩]) (.seq (.seq (.reg [⟨some 9,.assign (.const (.int .i64 0)),none⟩]) (.bloop 0 x14_L0)) (x14_T2)))))
@[simp] theorem x14_s {C e s K} : type_of% (@X_at C e s K _ _ x14_T4.eq_1) ∧ type_of% (@X_at C e s K _ _ x14_L4.eq_1) ∧ type_of% (@X_at C e s K _ _ x14_T2.eq_1) ∧ type_of% (@X_at C e s K _ _ x14_L2.eq_1) ∧ type_of% (@X_at C e s K _ _ x14_L0.eq_1) ∧ type_of% (@X_at C e s K _ _ x14.eq_1):=⟨X_at x14_T4.eq_1,X_at x14_L4.eq_1,X_at x14_T2.eq_1,X_at x14_L2.eq_1,X_at x14_L0.eq_1,X_at x14.eq_1⟩
def an14 : Ann:=⟨[(20,.mix 26)],[(4,[],[2,3,4,6,7,11],[2,6,7]),(2,[],[2,3,4,6,7,8,9,10],[2,3,4,6,7,8,9]),(0,[],[2,3,4,6,7,8,9],[2,3,4,6,7])],[]⟩
@[simp] theorem an14_a : an14.clsOf 20 = .mix 26 ∧ an14.frzOf 20 = [] ∧ an14.loopOf 4 = ([],[2,3,4,6,7,11],[2,6,7]) ∧ an14.loopOf 2 = ([],[2,3,4,6,7,8,9,10],[2,3,4,6,7,8,9]) ∧ an14.loopOf 0 = ([],[2,3,4,6,7,8,9],[2,3,4,6,7]):=⟨rfl,rfl,rfl,rfl,rfl⟩
theorem fi14 : FI Try.prog 14 (cxA an14) x14 [.cell 6 33] Try.f14:=fiA Try.func14 mixed
theorem GameFault_ref (a b : Stc) (n : Int) : CallOK Try.prog 14 [.agg (stc a),.agg (stc b),.int .i64 n] [] (.agg [.int .i64 (gameF a b n).1,.int .i64 (gameF a b n).2]) []:=by
 have ca:=StructureFault_ref a
 have cb:=StructureFault_ref b
 have hf:=F_ref
 obtain ⟨R,hR⟩ : ∃ R,gameF a b n = R:=⟨_,rfl⟩
 rw [hR]
 unfold gameF at hR
 obtain ⟨na,Fa,Pa⟩:=a
 obtain ⟨nb,Fb,Pb⟩:=b
 unfold stc at ca cb ⊢
 dsimp only at ca cb ⊢
 refine fi14.op ?_
 by_cases h1 : (stcF ⟨na,Fa,Pa⟩).1 = 0
 rotate_left
 ·rw [if_pos h1] at hR
  rw [hR] at ca h1
  (refine Sg.h ?_;try repeat' ((first|(with_reducible first|refine brA ?_|refine brE fun _=>?_|refine spl ⟨?_,?_⟩<;>intro _)|refine clo ca ?_)<;>((try simp -implicitDefEqProofs [h1]);(try simp -implicitDefEqProofs(disch:=first|assumption|(try simp only[lens]);omega -splitDisjunctions) [h1]))))
  refine W_of fun Q0 hQ0=>?_
  apply hQ0
  (refine Sg.h ?_;try repeat' ((with_reducible first|refine brA ?_|refine brE fun _=>?_|refine spl ⟨?_,?_⟩<;>intro _)<;>((try simp -implicitDefEqProofs [h1]);(try simp -implicitDefEqProofs(disch:=first|assumption|(try simp only[lens]);omega -splitDisjunctions) [h1]))))
  refine W_of fun Q4 hQ4=>?_
  apply hQ4
  clear hQ0 hQ4
  by_cases hl : (0 : Int) < (Pa.length : Int)
  ·(refine Sg.h ?_;try repeat' ((with_reducible first|refine brA ?_|refine brE fun _=>?_|refine spl ⟨?_,?_⟩<;>intro _)<;>((try simp -implicitDefEqProofs [h1,hl]);(try simp -implicitDefEqProofs(disch:=first|assumption|(try simp only[lens]);omega -splitDisjunctions) [h1,hl]))))
  ·(refine Sg.h ?_;try repeat' ((with_reducible first|refine brA ?_|refine brE fun _=>?_|refine spl ⟨?_,?_⟩<;>intro _)<;>((try simp -implicitDefEqProofs [h1,hl]);(try simp -implicitDefEqProofs(disch:=first|assumption|(try simp only[lens]);omega -splitDisjunctions) [h1,hl]))))
 rw [if_neg (fun g=>g h1)] at hR
 by_cases h2 : (stcF ⟨nb,Fb,Pb⟩).1 = 0
 rotate_left
 ·rw [if_pos h2] at hR
  rw [hR] at cb h2
  generalize stcF ⟨na,Fa,Pa⟩ = q at *
  (refine Sg.h ?_;try repeat' ((first|(with_reducible first|refine brA ?_|refine brE fun _=>?_|refine spl ⟨?_,?_⟩<;>intro _)|refine clo ca ?_|refine clo cb ?_)<;>((try simp -implicitDefEqProofs [h1,h2]);(try simp -implicitDefEqProofs(disch:=first|assumption|(try simp only[lens]);omega -splitDisjunctions) [h1,h2]))))
  refine W_of fun Q0 hQ0=>?_
  apply hQ0
  (refine Sg.h ?_;try repeat' ((with_reducible first|refine brA ?_|refine brE fun _=>?_|refine spl ⟨?_,?_⟩<;>intro _)<;>((try simp -implicitDefEqProofs [h2]);(try simp -implicitDefEqProofs(disch:=first|assumption|(try simp only[lens]);omega -splitDisjunctions) [h2]))))
  refine W_of fun Q4 hQ4=>?_
  apply hQ4
  clear hQ0 hQ4
  by_cases hl : (0 : Int) < (Pa.length : Int)
  ·(refine Sg.h ?_;try repeat' ((with_reducible first|refine brA ?_|refine brE fun _=>?_|refine spl ⟨?_,?_⟩<;>intro _)<;>((try simp -implicitDefEqProofs [h2,hl]);(try simp -implicitDefEqProofs(disch:=first|assumption|(try simp only[lens]);omega -splitDisjunctions) [h2,hl]))))
  ·(refine Sg.h ?_;try repeat' ((with_reducible first|refine brA ?_|refine brE fun _=>?_|refine spl ⟨?_,?_⟩<;>intro _)<;>((try simp -implicitDefEqProofs [h2,hl]);(try simp -implicitDefEqProofs(disch:=first|assumption|(try simp only[lens]);omega -splitDisjunctions) [h2,hl]))))
 rw [if_neg (fun g=>g h2)] at hR
 obtain ⟨_,_,_,_,_,_,_,_,z1⟩:=stcF_zero h1
 obtain ⟨_,_,_,_,_,_,_,_,z2⟩:=stcF_zero h2
 rw [z1] at ca
 rw [z2] at cb
 (refine Sg.h ?_;try repeat' ((first|(with_reducible first|refine brA ?_|refine brE fun _=>?_|refine spl ⟨?_,?_⟩<;>intro _)|refine clo ca ?_|refine clo cb ?_)<;>((try simp -implicitDefEqProofs);(try simp -implicitDefEqProofs(disch:=first|assumption|(try simp only[lens]);omega -splitDisjunctions)))))
 clear ca cb h1 h2 z1 z2
 refine W_of fun Q0 hQ0=>?_
 have badQ : ∀ (c d i : Int),c ≠ 0 → R = (c,d) → Q0 [(2,.int .i64 n),(3,.ptr 0 0 0),(4,.ptr 1 0 0),(6,.ptr 2 0 0),(7,.ptr 3 0 0),(8,.sl 4 0 2),(9,.int .i64 i)] [PObj.rows 3 [[.int .i64 na,.list (Fa.map fnRow),.list (Pa.map pdRow)]],.rows 3 [[.int .i64 nb,.list (Fb.map fnRow),.list (Pb.map pdRow)]],.rows 2 [[.int .i64 0,.int .i64 0]],.rows 2 [[.int .i64 c,.int .i64 d]],.rows 3 [[.int .i64 na,.list (Fa.map fnRow),.list (Pa.map pdRow)],[.int .i64 nb,.list (Fb.map fnRow),.list (Pb.map pdRow)]]]:=by
  intro c d i hc hRc
  subst hRc
  apply hQ0
  clear hR
  by_cases hi : i < 2
  all_goals
   (refine Sg.h ?_;try repeat' ((with_reducible first|refine brA ?_|refine brE fun _=>?_|refine spl ⟨?_,?_⟩<;>intro _)<;>((try simp -implicitDefEqProofs [hi,hc]);(try simp -implicitDefEqProofs(disch:=first|assumption|(try simp only[lens]);omega -splitDisjunctions) [hi,hc]))))
   refine W_of fun Q4 hQ4=>?_
   apply hQ4
   clear hQ0 hQ4
   by_cases hl : (0 : Int) < (Pa.length : Int)
   ·(refine Sg.h ?_;try repeat' ((with_reducible first|refine brA ?_|refine brE fun _=>?_|refine spl ⟨?_,?_⟩<;>intro _)<;>((try simp -implicitDefEqProofs [hc,hl]);(try simp -implicitDefEqProofs(disch:=first|assumption|(try simp only[lens]);omega -splitDisjunctions) [hc,hl]))))
   ·(refine Sg.h ?_;try repeat' ((with_reducible first|refine brA ?_|refine brE fun _=>?_|refine spl ⟨?_,?_⟩<;>intro _)<;>((try simp -implicitDefEqProofs [hc,hl]);(try simp -implicitDefEqProofs(disch:=first|assumption|(try simp only[lens]);omega -splitDisjunctions) [hc,hl]))))
 have round : ∀ (i : Nat) (N : Int) (F : List Fn) (P : List Pd),i < 2 → [[PV.int .i64 na,PV.list (Fa.map fnRow),PV.list (Pa.map pdRow)],[PV.int .i64 nb,PV.list (Fb.map fnRow),PV.list (Pb.map pdRow)]][i]? = some [PV.int .i64 N,PV.list (F.map fnRow),PV.list (P.map pdRow)] →
   (match kndF ⟨N,F,P⟩ with | some k=>R = (4,(k : Int)) | none=>Q0 [(2,.int .i64 n),(3,.ptr 0 0 0),(4,.ptr 1 0 0),(6,.ptr 2 0 0),(7,.ptr 3 0 0),(8,.sl 4 0 2),(9,.int .i64 ((i : Int) + 1))] [PObj.rows 3 [[.int .i64 na,.list (Fa.map fnRow),.list (Pa.map pdRow)]],.rows 3 [[.int .i64 nb,.list (Fb.map fnRow),.list (Pb.map pdRow)]],.rows 2 [[.int .i64 0,.int .i64 0]],.rows 2 [[.int .i64 0,.int .i64 0]],.rows 3 [[.int .i64 na,.list (Fa.map fnRow),.list (Pa.map pdRow)],[.int .i64 nb,.list (Fb.map fnRow),.list (Pb.map pdRow)]]]) → Q0 [(2,.int .i64 n),(3,.ptr 0 0 0),(4,.ptr 1 0 0),(6,.ptr 2 0 0),(7,.ptr 3 0 0),(8,.sl 4 0 2),(9,.int .i64 (i : Int))] [PObj.rows 3 [[.int .i64 na,.list (Fa.map fnRow),.list (Pa.map pdRow)]],.rows 3 [[.int .i64 nb,.list (Fb.map fnRow),.list (Pb.map pdRow)]],.rows 2 [[.int .i64 0,.int .i64 0]],.rows 2 [[.int .i64 0,.int .i64 0]],.rows 3 [[.int .i64 na,.list (Fa.map fnRow),.list (Pa.map pdRow)],[.int .i64 nb,.list (Fb.map fnRow),.list (Pb.map pdRow)]]]:=by
  intro i N F P hi hrow hnext
  have hi' : (i : Int) < 2:=by omega
  have hlt : i ≤ 1:=by omega
  have hrow:=fun h=>Option.some.inj ((List.getElem?_eq_getElem (i:=i) h).symm.trans hrow)
  have bad:=fun (c d : Int) h1 h2=>badQ c d ((i : Int) + 1) h1 h2
  unfold kndF at hnext
  dsimp only at hnext
  apply hQ0
  clear hQ0 badQ
  by_cases hF : 0 < F.length
  ·rw [if_pos hF] at hnext
   have hF' : (0 : Int) < (F.length : Int):=by omega
   have l0:=hf 4 0
   have bad:=bad 4 0 (by decide) hnext
   (refine Sg.h ?_;try repeat' ((first|(with_reducible first|refine brA ?_|refine brE fun _=>?_|refine spl ⟨?_,?_⟩<;>intro _)|refine clo l0 ?_)<;>((try simp -implicitDefEqProofs [hi',hlt,hi,hrow,hF']);(try simp -implicitDefEqProofs(disch:=first|assumption|(try simp only[lens]);omega -splitDisjunctions) [hi',hlt,hi,hrow,hF']))))
   refine W_of fun Q2 hQ2=>?_
   apply hQ2
   clear hQ2
   by_cases hl : (0 : Int) < (P.length : Int)
   ·(refine Sg.h ?_;try repeat' ((with_reducible first|refine brA ?_|refine brE fun _=>?_|refine spl ⟨?_,?_⟩<;>intro _)<;>((try simp -implicitDefEqProofs [hi',hlt,hi,hrow,hl]); (try simp -implicitDefEqProofs(disch:=first|assumption|(try simp only[lens]);omega -splitDisjunctions) [hi',hlt,hi,hrow,hl]))))
    all_goals first|exact bad|(refine at2 bad ?_ ?_<;>simp;done)|(exfalso;first|omega|(simp_all;done)|(simp_all;omega))
   ·(refine Sg.h ?_;try repeat' ((with_reducible first|refine brA ?_|refine brE fun _=>?_|refine spl ⟨?_,?_⟩<;>intro _)<;>((try simp -implicitDefEqProofs [hi',hlt,hi,hrow,hl]); (try simp -implicitDefEqProofs(disch:=first|assumption|(try simp only[lens]);omega -splitDisjunctions) [hi',hlt,hi,hrow,hl]))))
    all_goals first|exact bad|(refine at2 bad ?_ ?_<;>simp;done)|(exfalso;first|omega|(simp_all;done)|(simp_all;omega))
  rw [if_neg hF] at hnext
  have hF' : ¬ (0 : Int) < (F.length : Int):=by omega
  (refine Sg.h ?_;try repeat' ((with_reducible first|refine brA ?_|refine brE fun _=>?_|refine spl ⟨?_,?_⟩<;>intro _)<;>((try simp -implicitDefEqProofs [hi',hlt,hi,hrow,hF']);(try simp -implicitDefEqProofs(disch:=first|assumption|(try simp only[lens]);omega -splitDisjunctions) [hi',hlt,hi,hrow,hF']))))
  refine W_of fun Q2 hQ2=>?_
  have main : ∀ k j,j + k = P.length → (match arF (P.drop j) j with | some k=>R = (4,(k : Int)) | none=>Q0 [(2,.int .i64 n),(3,.ptr 0 0 0),(4,.ptr 1 0 0),(6,.ptr 2 0 0),(7,.ptr 3 0 0),(8,.sl 4 0 2),(9,.int .i64 ((i : Int) + 1))] [PObj.rows 3 [[.int .i64 na,.list (Fa.map fnRow),.list (Pa.map pdRow)]],.rows 3 [[.int .i64 nb,.list (Fb.map fnRow),.list (Pb.map pdRow)]],.rows 2 [[.int .i64 0,.int .i64 0]],.rows 2 [[.int .i64 0,.int .i64 0]],.rows 3 [[.int .i64 na,.list (Fa.map fnRow),.list (Pa.map pdRow)],[.int .i64 nb,.list (Fb.map fnRow),.list (Pb.map pdRow)]]]) → Q2 [(2,.int .i64 n),(3,.ptr 0 0 0),(4,.ptr 1 0 0),(6,.ptr 2 0 0),(7,.ptr 3 0 0),(8,.sl 4 0 2),(9,.int .i64 (i : Int)),(10,.int .i64 (j : Int))] [PObj.rows 3 [[.int .i64 na,.list (Fa.map fnRow),.list (Pa.map pdRow)]],.rows 3 [[.int .i64 nb,.list (Fb.map fnRow),.list (Pb.map pdRow)]],.rows 2 [[.int .i64 0,.int .i64 0]],.rows 2 [[.int .i64 0,.int .i64 0]],.rows 3 [[.int .i64 na,.list (Fa.map fnRow),.list (Pa.map pdRow)],[.int .i64 nb,.list (Fb.map fnRow),.list (Pb.map pdRow)]]]:=by
   intro k
   induction k with
   | zero=>
    intro j hj hnext
    obtain rfl : j = P.length:=by omega
    rw [List.drop_length] at hnext
    have hnext : Q0 _ _:=hnext
    apply hQ2
    clear hQ2
    (refine Sg.h ?_;try repeat' ((with_reducible first|refine brA ?_|refine brE fun _=>?_|refine spl ⟨?_,?_⟩<;>intro _)<;>((try simp -implicitDefEqProofs [hi',hlt,hi,hrow]);(try simp -implicitDefEqProofs(disch:=first|assumption|(try simp only[lens]);omega -splitDisjunctions) [hi',hlt,hi,hrow]))))
    all_goals first|exact hnext|(refine at2 hnext ?_ ?_<;>simp;done)|(exfalso;first|omega|(simp_all;done)|(simp_all;omega))
   | succ k ih=>
    intro j hj hnext
    have hjl : j < P.length:=by omega
    have hj' : (j : Int) < (P.length : Int):=by omega
    have ih:=ih (j + 1) (by omega)
    rw [List.drop_eq_getElem_cons hjl,arF] at hnext
    generalize hx : P[j] = p at *
    apply hQ2
    by_cases h2 : 2 < p.ar
    ·rw [if_pos h2] at hnext
     have bad:=bad 4 (j : Int) (by decide) hnext
     have lj:=hf 4 j
     (refine Sg.h ?_;try repeat' ((first|(with_reducible first|refine brA ?_|refine brE fun _=>?_|refine spl ⟨?_,?_⟩<;>intro _)|refine clo lj ?_)<;>((try simp -implicitDefEqProofs [hi',hlt,hi,hrow,hj',hjl,hx,h2]);(try simp -implicitDefEqProofs(disch:=first|assumption|(try simp only[lens]);omega -splitDisjunctions) [hi',hlt,hi,hrow,hj',hjl,hx,h2]))))
     apply hQ2
     clear hQ2
     by_cases hl : (j : Int) + 1 < (P.length : Int)
     ·(refine Sg.h ?_;try repeat' ((with_reducible first|refine brA ?_|refine brE fun _=>?_|refine spl ⟨?_,?_⟩<;>intro _)<;>((try simp -implicitDefEqProofs [hi',hlt,hi,hrow,hl]); (try simp -implicitDefEqProofs(disch:=first|assumption|(try simp only[lens]);omega -splitDisjunctions) [hi',hlt,hi,hrow,hl]))))
      all_goals first|exact bad|(refine at2 bad ?_ ?_<;>simp;done)|(exfalso;first|omega|(simp_all;done)|(simp_all;omega))
     ·(refine Sg.h ?_;try repeat' ((with_reducible first|refine brA ?_|refine brE fun _=>?_|refine spl ⟨?_,?_⟩<;>intro _)<;>((try simp -implicitDefEqProofs [hi',hlt,hi,hrow,hl]); (try simp -implicitDefEqProofs(disch:=first|assumption|(try simp only[lens]);omega -splitDisjunctions) [hi',hlt,hi,hrow,hl]))))
      all_goals first|exact bad|(refine at2 bad ?_ ?_<;>simp;done)|(exfalso;first|omega|(simp_all;done)|(simp_all;omega))
    ·clear hQ2
     rw [if_neg h2] at hnext
     have ih:=ih hnext
     (refine Sg.h ?_;try repeat' ((with_reducible first|refine brA ?_|refine brE fun _=>?_|refine spl ⟨?_,?_⟩<;>intro _)<;>((try simp -implicitDefEqProofs [hi',hlt,hi,hrow,hj',hjl,hx,h2]);(try simp -implicitDefEqProofs(disch:=first|assumption|(try simp only[lens]);omega -splitDisjunctions) [hi',hlt,hi,hrow,hj',hjl,hx,h2]))))
     all_goals first|exact ih|(refine at2 ih ?_ ?_<;>simp;done)|(exfalso;first|omega|(simp_all;done)|(simp_all;omega))
  all_goals first|exact main P.length 0 (Nat.zero_add _) hnext|(refine at2 main P.length 0 (Nat.zero_add _) hnext ?_ ?_<;>simp;done)|(exfalso;first|omega|(simp_all;done)|(simp_all;omega))
 refine round 0 na Fa Pa (by omega) rfl ?_
 cases k1 : kndF ⟨na,Fa,Pa⟩ with
 | some k=>rw [k1] at hR;exact hR.symm
 | none=>
 rw [k1] at hR
 dsimp only at hR ⊢
 refine round 1 nb Fb Pb (by omega) rfl ?_
 cases k2 : kndF ⟨nb,Fb,Pb⟩ with
 | some k=>rw [k2] at hR;exact hR.symm
 | none=>
 rw [k2] at hR
 dsimp only at hR ⊢
 clear round badQ k1 k2
 apply hQ0
 clear hQ0
 by_cases hl : Pa.length = Pb.length
 rotate_left
 ·rw [if_pos hl] at hR
  subst hR
  have l0:=hf 9 0
  have hl' : ¬ (Pa.length : Int) = (Pb.length : Int):=by omega
  (refine Sg.h ?_;try repeat' ((first|(with_reducible first|refine brA ?_|refine brE fun _=>?_|refine spl ⟨?_,?_⟩<;>intro _)|refine clo l0 ?_)<;>((try simp -implicitDefEqProofs [hl']);(try simp -implicitDefEqProofs(disch:=first|assumption|(try simp only[lens]);omega -splitDisjunctions) [hl']))))
  refine W_of fun Q4 hQ4=>?_
  apply hQ4
  clear hQ4
  by_cases hp : (0 : Int) < (Pa.length : Int)
  ·(refine Sg.h ?_;try repeat' ((with_reducible first|refine brA ?_|refine brE fun _=>?_|refine spl ⟨?_,?_⟩<;>intro _)<;>((try simp -implicitDefEqProofs [hp]);(try simp -implicitDefEqProofs(disch:=first|assumption|(try simp only[lens]);omega -splitDisjunctions) [hp]))))
  ·(refine Sg.h ?_;try repeat' ((with_reducible first|refine brA ?_|refine brE fun _=>?_|refine spl ⟨?_,?_⟩<;>intro _)<;>((try simp -implicitDefEqProofs [hp]);(try simp -implicitDefEqProofs(disch:=first|assumption|(try simp only[lens]);omega -splitDisjunctions) [hp]))))
 rw [if_neg (fun g=>g hl)] at hR
 have hl' : (Pa.length : Int) = (Pb.length : Int):=by omega
 (refine Sg.h ?_;try repeat' ((with_reducible first|refine brA ?_|refine brE fun _=>?_|refine spl ⟨?_,?_⟩<;>intro _)<;>((try simp -implicitDefEqProofs [hl']);(try simp -implicitDefEqProofs(disch:=first|assumption|(try simp only[lens]);omega -splitDisjunctions) [hl']))))
 refine W_of fun Q4 hQ4=>?_
 have main : ∀ k i,i + k = Pa.length → (match nmF (Pa.drop i) (Pb.drop i) i with | some i=>(9,(i : Int)) | none=>if n < 0 ∨ 4 < n then (3,0) else (0,0)) = R → Q4 [(2,.int .i64 n),(3,.ptr 0 0 0),(4,.ptr 1 0 0),(6,.ptr 2 0 0),(7,.ptr 3 0 0),(11,.int .i64 (i : Int))] [PObj.rows 3 [[.int .i64 na,.list (Fa.map fnRow),.list (Pa.map pdRow)]],.rows 3 [[.int .i64 nb,.list (Fb.map fnRow),.list (Pb.map pdRow)]],.rows 2 [[.int .i64 0,.int .i64 0]],.rows 2 [[.int .i64 0,.int .i64 0]]]:=by
  intro k
  induction k with
  | zero=>
   intro i hi hR
   obtain rfl : i = Pa.length:=by omega
   rw [List.drop_length,show ∀ l i,nmF [] l i = none from fun l i=>by cases l <;> rfl] at hR
   dsimp only at hR
   apply hQ4
   clear hQ4
   have h3:=hf 3 0
   by_cases n1 : n < 0
   ·rw [if_pos (.inl n1)] at hR
    subst hR
    (refine Sg.h ?_;try repeat' ((first|(with_reducible first|refine brA ?_|refine brE fun _=>?_|refine spl ⟨?_,?_⟩<;>intro _)|refine clo h3 ?_)<;>((try simp -implicitDefEqProofs [n1]);(try simp -implicitDefEqProofs(disch:=first|assumption|(try simp only[lens]);omega -splitDisjunctions) [n1]))))
   by_cases n2 : 4 < n
   ·rw [if_pos (.inr n2)] at hR
    subst hR
    (refine Sg.h ?_;try repeat' ((first|(with_reducible first|refine brA ?_|refine brE fun _=>?_|refine spl ⟨?_,?_⟩<;>intro _)|refine clo h3 ?_)<;>((try simp -implicitDefEqProofs [n1,n2]);(try simp -implicitDefEqProofs(disch:=first|assumption|(try simp only[lens]);omega -splitDisjunctions) [n1,n2]))))
   ·rw [if_neg (fun g => g.elim n1 n2)] at hR
    subst hR
    (refine Sg.h ?_;try repeat' ((with_reducible first|refine brA ?_|refine brE fun _=>?_|refine spl ⟨?_,?_⟩<;>intro _)<;>((try simp -implicitDefEqProofs [n1,n2]);(try simp -implicitDefEqProofs(disch:=first|assumption|(try simp only[lens]);omega -splitDisjunctions) [n1,n2]))))
  | succ k ih=>
   intro i hi hR
   have hil : i < Pa.length:=by omega
   have hil2 : i < Pb.length:=by omega
   have hi' : (i : Int) < (Pa.length : Int):=by omega
   have hi2' : (i : Int) < (Pb.length : Int):=by omega
   have ih:=ih (i + 1) (by omega)
   rw [List.drop_eq_getElem_cons hil,List.drop_eq_getElem_cons hil2,nmF] at hR
   generalize hx1 : Pa[i] = p at *
   generalize hx2 : Pb[i] = q at *
   apply hQ4
   have l:=hf 9 i
   by_cases e1 : p.name = q.name
   ·by_cases e2 : p.ar = q.ar
    ·clear hQ4
     rw [if_neg (fun g=>g.elim (fun g=>g e1) (fun g=>g e2))] at hR
     have ih:=ih hR
     (refine Sg.h ?_;try repeat' ((with_reducible first|refine brA ?_|refine brE fun _=>?_|refine spl ⟨?_,?_⟩<;>intro _)<;>((try simp -implicitDefEqProofs [hi',hi2',hil,hil2,hx1,hx2,e1,e2]);(try simp -implicitDefEqProofs(disch:=first|assumption|(try simp only[lens]);omega -splitDisjunctions) [hi',hi2',hil,hil2,hx1,hx2,e1,e2]))))
     all_goals first|exact ih|(refine at2 ih ?_ ?_<;>simp;done)|(exfalso;first|omega|(simp_all;done)|(simp_all;omega))
    ·rw [if_pos (.inr e2)] at hR
     subst hR
     (refine Sg.h ?_;try repeat' ((first|(with_reducible first|refine brA ?_|refine brE fun _=>?_|refine spl ⟨?_,?_⟩<;>intro _)|refine clo l ?_)<;>((try simp -implicitDefEqProofs [hi',hi2',hil,hil2,hx1,hx2,e1,e2]);(try simp -implicitDefEqProofs(disch:=first|assumption|(try simp only[lens]);omega -splitDisjunctions) [hi',hi2',hil,hil2,hx1,hx2,e1,e2]))))
     apply hQ4
     clear hQ4
     by_cases hp : (i : Int) + 1 < (Pa.length : Int)
     ·(refine Sg.h ?_;try repeat' ((with_reducible first|refine brA ?_|refine brE fun _=>?_|refine spl ⟨?_,?_⟩<;>intro _)<;>((try simp -implicitDefEqProofs [hp]);(try simp -implicitDefEqProofs(disch:=first|assumption|(try simp only[lens]);omega -splitDisjunctions) [hp]))))
     ·(refine Sg.h ?_;try repeat' ((with_reducible first|refine brA ?_|refine brE fun _=>?_|refine spl ⟨?_,?_⟩<;>intro _)<;>((try simp -implicitDefEqProofs [hp]);(try simp -implicitDefEqProofs(disch:=first|assumption|(try simp only[lens]);omega -splitDisjunctions) [hp]))))
   ·rw [if_pos (.inl e1)] at hR
    subst hR
    (refine Sg.h ?_;try repeat' ((first|(with_reducible first|refine brA ?_|refine brE fun _=>?_|refine spl ⟨?_,?_⟩<;>intro _)|refine clo l ?_)<;>((try simp -implicitDefEqProofs [hi',hi2',hil,hil2,hx1,hx2,e1]);(try simp -implicitDefEqProofs(disch:=first|assumption|(try simp only[lens]);omega -splitDisjunctions) [hi',hi2',hil,hil2,hx1,hx2,e1]))))
    apply hQ4
    clear hQ4
    by_cases hp : (i : Int) + 1 < (Pa.length : Int)
    ·(refine Sg.h ?_;try repeat' ((with_reducible first|refine brA ?_|refine brE fun _=>?_|refine spl ⟨?_,?_⟩<;>intro _)<;>((try simp -implicitDefEqProofs [hp]);(try simp -implicitDefEqProofs(disch:=first|assumption|(try simp only[lens]);omega -splitDisjunctions) [hp]))))
    ·(refine Sg.h ?_;try repeat' ((with_reducible first|refine brA ?_|refine brE fun _=>?_|refine spl ⟨?_,?_⟩<;>intro _)<;>((try simp -implicitDefEqProofs [hp]);(try simp -implicitDefEqProofs(disch:=first|assumption|(try simp only[lens]);omega -splitDisjunctions) [hp]))))
 all_goals first|exact main Pa.length 0 (Nat.zero_add _) hR|(refine at2 main Pa.length 0 (Nat.zero_add _) hR ?_ ?_<;>simp;done)|(exfalso;first|omega|(simp_all;done)|(simp_all;omega))
end Go.Proofs.Ytfhakdonenhnbaa
namespace Go.Proofs.Ytfhakdonenhnbaa
open Go Go.Pv
def SameAr (P Q : List Pd) : Prop:=P.map Pd.ar = Q.map Pd.ar
section
variable {A B C : Nat} {P Q R : List Pd}
theorem predsB_cons {p q : Pd} {xs ys : List Nat} : predsB A B (p :: P) (q :: Q) xs ys = (predB A B p q xs ys && predsB A B P Q xs ys):=rfl
theorem eqsB_iff {xs ys : List Nat} : eqsB xs ys = true ↔ ∀ i k,i < xs.length → k < xs.length → (at0 xs i = at0 xs k ↔ at0 ys i = at0 ys k):=by
 unfold eqsB
 simp only [List.all_eq_true,List.mem_range,beq_iff_eq,decide_eq_decide]
 exact ⟨fun h i k hi hk=>h i hi k hk,fun h i hi k hk=>h i k hi hk⟩
theorem predB_iff {p q : Pd} {xs ys : List Nat} : predB A B p q xs ys = true ↔ (p.ar = 0 → bitAt p 0 = bitAt q 0) ∧ (p.ar = 1 → ∀ k,k < xs.length → bitAt p (at0 xs k) = bitAt q (at0 ys k)) ∧
  (p.ar = 2 → ∀ k m,k < xs.length → m < xs.length → bitAt p (at0 xs k + at0 xs m * A) = bitAt q (at0 ys k + at0 ys m * B)):=by
 unfold predB
 by_cases h0 : p.ar = 0
 ·simp [h0]
 by_cases h1 : p.ar = 1
 ·simp [h1]
 by_cases h2 : p.ar = 2
 ·simp only [h2,List.all_eq_true,List.mem_range,beq_iff_eq]
  simp
  exact ⟨fun h i k hi hk=>h i hi k hk,fun h i hi k hk=>h i k hi hk⟩
 simp [h0,h1,h2]
theorem predsB_symm : ∀ {P Q : List Pd} {xs ys : List Nat},ys.length = xs.length → SameAr P Q → predsB A B P Q xs ys = true → predsB B A Q P ys xs = true
 | [],[],_,_,_,_,_=>rfl
 | [],_ :: _,_,_,_,h,_=>by cases h
 | _ :: _,[],_,_,_,h,_=>by cases h
 | p :: P,q :: Q,xs,ys,hl,ha,h=>by
  rw [predsB_cons,Bool.and_eq_true] at h ⊢
  simp only [SameAr,List.map_cons,List.cons.injEq] at ha
  refine ⟨?_,predsB_symm hl ha.2 h.2⟩
  have h:=predB_iff.1 h.1
  refine predB_iff.2 ⟨fun e=>(h.1 (by rw [ha.1,e])).symm,fun e k hk=>(h.2.1 (by rw [ha.1,e]) k (by omega)).symm,fun e k m hk hm=>(h.2.2 (by rw [ha.1,e]) k m (by omega) (by omega)).symm⟩
theorem predsB_refl : ∀ {P : List Pd} {xs : List Nat},predsB A A P P xs xs = true
 | [],_=>rfl
 | p :: P,xs=>by
  rw [predsB_cons,Bool.and_eq_true]
  exact ⟨predB_iff.2 ⟨fun _=>rfl,fun _ _ _=>rfl,fun _ _ _ _ _=>rfl⟩,predsB_refl⟩
theorem predsB_trans : ∀ {P Q R : List Pd} {xs ys zs : List Nat},ys.length = xs.length → SameAr P Q → predsB A B P Q xs ys = true → SameAr Q R → predsB B C Q R ys zs = true → predsB A C P R xs zs = true
 | [],[],[],_,_,_,_,_,_,_,_=>rfl
 | [],_ :: _,_,_,_,_,_,h,_,_,_=>by cases h
 | _ :: _,[],_,_,_,_,_,h,_,_,_=>by cases h
 | _,[],_ :: _,_,_,_,_,_,_,h,_=>by cases h
 | _,_ :: _,[],_,_,_,_,_,_,h,_=>by cases h
 | p :: P,q :: Q,r :: R,xs,ys,zs,hl,ha,h,hb,g=>by
  rw [predsB_cons,Bool.and_eq_true] at h g ⊢
  simp only [SameAr,List.map_cons,List.cons.injEq] at ha hb
  refine ⟨?_,predsB_trans hl ha.2 h.2 hb.2 g.2⟩
  have h:=predB_iff.1 h.1
  have g:=predB_iff.1 g.1
  refine predB_iff.2 ⟨fun e=>(h.1 e).trans (g.1 (by rw [← ha.1,e])),fun e k hk=>(h.2.1 e k hk).trans (g.2.1 (by rw [← ha.1,e]) k (by omega)),fun e k m hk hm=>(h.2.2 e k m hk hm).trans (g.2.2 (by rw [← ha.1,e]) k m (by omega) (by omega))⟩
theorem fitB_iff {xs ys : List Nat} : fitB A B P Q xs ys = true ↔ eqsB xs ys = true ∧ predsB A B P Q xs ys = true:=by rw [fitB,Bool.and_eq_true]
theorem fitB_symm {xs ys : List Nat} (hl : ys.length = xs.length) (ha : SameAr P Q) (h : fitB A B P Q xs ys = true) : fitB B A Q P ys xs = true:=by
 obtain ⟨h1,h2⟩:=fitB_iff.1 h
 exact fitB_iff.2 ⟨eqsB_iff.2 fun i k hi hk=>(eqsB_iff.1 h1 i k (by omega) (by omega)).symm,predsB_symm hl ha h2⟩
theorem fitB_refl {xs : List Nat} : fitB A A P P xs xs = true:=fitB_iff.2 ⟨eqsB_iff.2 fun _ _ _ _=>Iff.rfl,predsB_refl⟩
theorem fitB_trans {xs ys zs : List Nat} (hl : ys.length = xs.length) (ha : SameAr P Q) (h : fitB A B P Q xs ys = true) (hb : SameAr Q R) (g : fitB B C Q R ys zs = true) : fitB A C P R xs zs = true:=by
 obtain ⟨h1,h2⟩:=fitB_iff.1 h
 obtain ⟨g1,g2⟩:=fitB_iff.1 g
 exact fitB_iff.2 ⟨eqsB_iff.2 fun i k hi hk=>(eqsB_iff.1 h1 i k hi hk).trans (eqsB_iff.1 g1 i k (by omega) (by omega)),predsB_trans hl ha h2 hb g2⟩
theorem winF_fit {r : Nat} {xs ys : List Nat} (h : winF A B P Q r xs ys = true) : fitB A B P Q xs ys = true:=by
 cases r with
 | zero=>exact h
 | succ r=>rw [winF,Bool.and_eq_true] at h;exact h.1
theorem winF_iff {r : Nat} {xs ys : List Nat} : winF A B P Q (r + 1) xs ys = true ↔ fitB A B P Q xs ys = true ∧ (∀ x < A,∃ y < B,winF A B P Q r (xs ++ [x]) (ys ++ [y]) = true) ∧ ∀ y < B,∃ x < A,winF A B P Q r (xs ++ [x]) (ys ++ [y]) = true:=by
 rw [winF,Bool.and_eq_true,Bool.and_eq_true]
 simp only [List.all_eq_true,List.any_eq_true,List.mem_range]
theorem winF_symm : ∀ {r : Nat} {xs ys : List Nat},ys.length = xs.length → SameAr P Q → winF A B P Q r xs ys = true → winF B A Q P r ys xs = true
 | 0,xs,ys,hl,ha,h=>fitB_symm hl ha h
 | r + 1,xs,ys,hl,ha,h=>by
  obtain ⟨h1,h2,h3⟩:=winF_iff.1 h
  have ih : ∀ x y,winF A B P Q r (xs ++ [x]) (ys ++ [y]) = true → winF B A Q P r (ys ++ [y]) (xs ++ [x]) = true:=fun x y h=>winF_symm (by simp [hl]) ha h
  refine winF_iff.2 ⟨fitB_symm hl ha h1,fun y hy=>?_,fun x hx=>?_⟩
  ·obtain ⟨x,hx,h⟩:=h3 y hy;exact ⟨x,hx,ih x y h⟩
  ·obtain ⟨y,hy,h⟩:=h2 x hx;exact ⟨y,hy,ih x y h⟩
theorem winF_refl : ∀ {r : Nat} {xs : List Nat},winF A A P P r xs xs = true
 | 0,xs=>fitB_refl
 | r + 1,xs=>winF_iff.2 ⟨fitB_refl,fun x hx=>⟨x,hx,winF_refl⟩,fun x hx=>⟨x,hx,winF_refl⟩⟩
theorem winF_trans : ∀ {r : Nat} {xs ys zs : List Nat},ys.length = xs.length → SameAr P Q → SameAr Q R → winF A B P Q r xs ys = true → winF B C Q R r ys zs = true → winF A C P R r xs zs = true
 | 0,xs,ys,zs,hl,ha,hb,h,g=>fitB_trans hl ha h hb g
 | r + 1,xs,ys,zs,hl,ha,hb,h,g=>by
  obtain ⟨h1,h2,h3⟩:=winF_iff.1 h
  obtain ⟨g1,g2,g3⟩:=winF_iff.1 g
  refine winF_iff.2 ⟨fitB_trans hl ha h1 hb g1,fun x hx=>?_,fun z hz=>?_⟩
  ·obtain ⟨y,hy,h⟩ := h2 x hx
   obtain ⟨z,hz,g⟩:=g2 y hy
   exact ⟨z,hz,winF_trans (by simp [hl]) ha hb h g⟩
  ·obtain ⟨y,hy,g⟩ := g3 z hz
   obtain ⟨x,hx,h⟩:=h3 y hy
   exact ⟨x,hx,winF_trans (by simp [hl]) ha hb h g⟩
theorem winF_less : ∀ {r : Nat} {xs ys : List Nat},winF A B P Q (r + 1) xs ys = true → winF A B P Q r xs ys = true
 | 0,xs,ys,h=>winF_fit h
 | r + 1,xs,ys,h=>by
  obtain ⟨h1,h2,h3⟩:=winF_iff.1 h
  refine winF_iff.2 ⟨h1,fun x hx=>?_,fun y hy=>?_⟩
  ·obtain ⟨y,hy,h⟩:=h2 x hx;exact ⟨y,hy,winF_less h⟩
  ·obtain ⟨x,hx,h⟩:=h3 y hy;exact ⟨x,hx,winF_less h⟩
end
end Go.Proofs.Ytfhakdonenhnbaa
