import Derived.Test.YtbimioonhfhflaaAFbW
import Derived.Test.YtbimioonhfhflaaAMnD
set_option linter.unusedVariables false
set_option linter.unusedSimpArgs false
set_option maxRecDepth 100000
set_option maxHeartbeats 4000000
namespace Go.Proofs.Ytbimioonhfhflaa
open Go Go.Pv
def x76 : XC:=.seq (.reg [⟨some 2,.box 29 (.tmp 0),none⟩,⟨some 4,.assign (.const (.string ⟨#[]⟩)),none⟩]) (.seq (.reg [⟨some 5,.assign (.const (.string ⟨#[]⟩)),none⟩]) (.seq (.seq (.reg [⟨some 6,.fieldAddr 29 (.tmp 2) 0,none⟩,⟨some 7,.load 3 (.tmp 6),none⟩]) (.block 0 (.seq (.reg [⟨some 9,.binOp .eql 3 (.tmp 7) (.const (.int .i64 1)) 3,none⟩,⟨some 8,.assign (.tmp 9),none⟩]) (.cond (.tmp 8) (.seq (.reg [⟨some 10,.fieldAddr 29 (.tmp 2) 1,none⟩,⟨some 11,.load 9 (.tmp 10),none⟩,⟨some 5,.assign (.tmp 11),none⟩]) (.seq (.reg [⟨some 12,.fieldAddr 29 (.tmp 2) 2,none⟩,⟨some 13,.load 26 (.tmp 12),none⟩,⟨some 14,.call ⟨.builtin .len,#[.tmp 13],#[26]⟩,none⟩,⟨some 15,.binOp .gtr 3 (.tmp 14) (.const (.int .i64 0)) 3,none⟩]) (.cond (.tmp 15) (.reg [⟨some 16,.move (.tmp 5),none⟩,⟨some 17,.fieldAddr 29 (.tmp 2) 2,none⟩,⟨some 18,.load 26 (.tmp 17),none⟩,⟨some 19,.call ⟨.value (.func 84),#[.tmp 18],#[26]⟩,none⟩,⟨some 20,.binOp .add 9 (.const (.string ⟨#[40]⟩)) (.tmp 19) 9,none⟩,⟨some 21,.binOp .add 9 (.tmp 20) (.const (.string ⟨#[41]⟩)) 9,none⟩,⟨some 22,.binOp .add 9 (.tmp 16) (.tmp 21) 9,none⟩,⟨some 5,.assign (.tmp 22),none⟩]) .skip))) (.seq (.reg [⟨some 24,.binOp .eql 3 (.tmp 7) (.const (.int .i64 2)) 3,none⟩,⟨some 23,.assign (.tmp 24),none⟩]) (.cond (.tmp 23) (.drawn 8 [⟨some 25,.fieldAddr 29 (.tmp 2) 2,none⟩,⟨some 26,.load 26 (.tmp 25),none⟩,⟨some 27,.indexAddr 26 (.tmp 26) (.const (.int .i64 0)),none⟩,⟨some 28,.load 31 (.tmp 27),none⟩,⟨some 29,.call ⟨.value (.func 85),#[.tmp 28],#[31]⟩,none⟩,⟨some 30,.binOp .add 9 (.tmp 29) (.const (.string ⟨#[32,61,32]⟩)) 9,none⟩,⟨some 31,.fieldAddr 29 (.tmp 2) 2,none⟩,⟨some 32,.load 26 (.tmp 31),none⟩,⟨some 33,.indexAddr 26 (.tmp 32) (.const (.int .i64 1)),none⟩,⟨some 34,.load 31 (.tmp 33),none⟩,⟨some 35,.call ⟨.value (.func 85),#[.tmp 34],#[31]⟩,none⟩,⟨some 36,.binOp .add 9 (.tmp 30) (.tmp 35) 9,none⟩,⟨some 5,.assign (.tmp 36),none⟩]) (.seq (.reg [⟨some 38,.binOp .eql 3 (.tmp 7) (.const (.int .i64 3)) 3,none⟩,⟨some 37,.assign (.tmp 38),none⟩]) (.cond (.tmp 37) (.reg [⟨some 5,.assign (.const (.string ⟨#[49]⟩)),none⟩]) (.seq (.reg [⟨some 40,.binOp .eql 3 (.tmp 7) (.const (.int .i64 4)) 3,none⟩,⟨some 39,.assign (.tmp 40),none⟩]) (.cond (.tmp 39) (.reg [⟨some 5,.assign (.const (.string ⟨#[48]⟩)),none⟩]) (.seq (.reg [⟨some 42,.binOp .eql 3 (.tmp 7) (.const (.int .i64 5)) 3,none⟩,⟨some 41,.assign (.tmp 42),none⟩]) (.cond (.tmp 41) (.reg [⟨some 43,.fieldAddr 29 (.tmp 2) 3,none⟩,⟨some 44,.load 27 (.tmp 43),none⟩,⟨some 45,.indexAddr 27 (.tmp 44) (.const (.int .i64 0)),none⟩,⟨some 46,.load 29 (.tmp 45),none⟩,⟨some 47,.call ⟨.value (.func 76),#[.tmp 46,.const (.int .i64 4)],#[29,3]⟩,none⟩,⟨some 48,.binOp .add 9 (.const (.string ⟨#[126]⟩)) (.tmp 47) 9,none⟩,⟨some 5,.assign (.tmp 48),none⟩]) (.seq (.reg [⟨some 50,.binOp .eql 3 (.tmp 7) (.const (.int .i64 9)) 3,none⟩,⟨some 49,.assign (.tmp 50),none⟩]) (.cond (.tmp 49) (.drawn 16 [⟨some 51,.fieldAddr 29 (.tmp 2) 1,none⟩,⟨some 52,.load 9 (.tmp 51),none⟩,⟨some 53,.binOp .add 9 (.const (.string ⟨#[33]⟩)) (.tmp 52) 9,none⟩,⟨some 54,.binOp .add 9 (.tmp 53) (.const (.string ⟨#[32]⟩)) 9,none⟩,⟨some 55,.fieldAddr 29 (.tmp 2) 3,none⟩,⟨some 56,.load 27 (.tmp 55),none⟩,⟨some 57,.indexAddr 27 (.tmp 56) (.const (.int .i64 0)),none⟩,⟨some 58,.load 29 (.tmp 57),none⟩,⟨some 59,.call ⟨.value (.func 76),#[.tmp 58,.const (.int .i64 4)],#[29,3]⟩,none⟩,⟨some 60,.binOp .add 9 (.tmp 54) (.tmp 59) 9,none⟩,⟨some 5,.assign (.tmp 60),none⟩]) (.seq (.reg [⟨some 62,.binOp .eql 3 (.tmp 7) (.const (.int .i64 10)) 3,none⟩,⟨some 61,.assign (.tmp 62),none⟩]) (.cond (.tmp 61) (.drawn 18 [⟨some 63,.fieldAddr 29 (.tmp 2) 1,none⟩,⟨some 64,.load 9 (.tmp 63),none⟩,⟨some 65,.binOp .add 9 (.const (.string ⟨#[63]⟩)) (.tmp 64) 9,none⟩,⟨some 66,.binOp .add 9 (.tmp 65) (.const (.string ⟨#[32]⟩)) 9,none⟩,⟨some 67,.fieldAddr 29 (.tmp 2) 3,none⟩,⟨some 68,.load 27 (.tmp 67),none⟩,⟨some 69,.indexAddr 27 (.tmp 68) (.const (.int .i64 0)),none⟩,⟨some 70,.load 29 (.tmp 69),none⟩,⟨some 71,.call ⟨.value (.func 76),#[.tmp 70,.const (.int .i64 4)],#[29,3]⟩,none⟩,⟨some 72,.binOp .add 9 (.tmp 66) (.tmp 71) 9,none⟩,⟨some 5,.assign (.tmp 72),none⟩]) (.seq (.reg [⟨some 74,.binOp .eql 3 (.tmp 7) (.const (.int .i64 6)) 3,none⟩,⟨some 73,.assign (.tmp 74),none⟩]) (.cond (.tmp 73) (.drawn 20 [⟨some 75,.fieldAddr 29 (.tmp 2) 3,none⟩,⟨some 76,.load 27 (.tmp 75),none⟩,⟨some 77,.indexAddr 27 (.tmp 76) (.const (.int .i64 0)),none⟩,⟨some 78,.load 29 (.tmp 77),none⟩,⟨some 79,.call ⟨.value (.func 76),#[.tmp 78,.const (.int .i64 3)],#[29,3]⟩,none⟩,⟨some 80,.binOp .add 9 (.tmp 79) (.const (.string ⟨#[32,38,32]⟩)) 9,none⟩,⟨some 81,.fieldAddr 29 (.tmp 2) 3,none⟩,⟨some 82,.load 27 (.tmp 81),none⟩,⟨some 83,.indexAddr 27 (.tmp 82) (.const (.int .i64 1)),none⟩,⟨some 84,.load 29 (.tmp 83),none⟩,⟨some 85,.call ⟨.value (.func 76),#[.tmp 84,.const (.int .i64 4)],#[29,3]⟩,none⟩,⟨some 86,.binOp .add 9 (.tmp 80) (.tmp 85) 9,none⟩,⟨some 5,.assign (.tmp 86),none⟩]) (.seq (.reg [⟨some 88,.binOp .eql 3 (.tmp 7) (.const (.int .i64 7)) 3,none⟩,⟨some 87,.assign (.tmp 88),none⟩]) (.cond (.tmp 87) (.drawn 22 [⟨some 89,.fieldAddr 29 (.tmp 2) 3,none⟩,⟨some 90,.load 27 (.tmp 89),none⟩,⟨some 91,.indexAddr 27 (.tmp 90) (.const (.int .i64 0)),none⟩,⟨some 92,.load 29 (.tmp 91),none⟩,⟨some 93,.call ⟨.value (.func 76),#[.tmp 92,.const (.int .i64 2)],#[29,3]⟩,none⟩,⟨some 94,.binOp .add 9 (.tmp 93) (.const (.string ⟨#[32,124,32]⟩)) 9,none⟩,⟨some 95,.fieldAddr 29 (.tmp 2) 3,none⟩,⟨some 96,.load 27 (.tmp 95),none⟩,⟨some 97,.indexAddr 27 (.tmp 96) (.const (.int .i64 1)),none⟩,⟨some 98,.load 29 (.tmp 97),none⟩,⟨some 99,.call ⟨.value (.func 76),#[.tmp 98,.const (.int .i64 3)],#[29,3]⟩,none⟩,⟨some 100,.binOp .add 9 (.tmp 94) (.tmp 99) 9,none⟩,⟨some 5,.assign (.tmp 100),none⟩]) (.seq (.reg [⟨some 102,.binOp .eql 3 (.tmp 7) (.const (.int .i64 8)) 3,none⟩,⟨some 101,.assign (.tmp 102),none⟩]) (.cond (.tmp 101) (.drawn 24 [⟨some 103,.fieldAddr 29 (.tmp 2) 3,none⟩,⟨some 104,.load 27 (.tmp 103),none⟩,⟨some 105,.indexAddr 27 (.tmp 104) (.const (.int .i64 0)),none⟩,⟨some 106,.load 29 (.tmp 105),none⟩,⟨some 107,.call ⟨.value (.func 76),#[.tmp 106,.const (.int .i64 2)],#[29,3]⟩,none⟩,⟨some 108,.binOp .add 9 (.tmp 107) (.const (.string ⟨#[32,45,62,32]⟩)) 9,none⟩,⟨some 109,.fieldAddr 29 (.tmp 2) 3,none⟩,⟨some 110,.load 27 (.tmp 109),none⟩,⟨some 111,.indexAddr 27 (.tmp 110) (.const (.int .i64 1)),none⟩,⟨some 112,.load 29 (.tmp 111),none⟩,⟨some 113,.call ⟨.value (.func 76),#[.tmp 112,.const (.int .i64 1)],#[29,3]⟩,none⟩,⟨some 114,.binOp .add 9 (.tmp 108) (.tmp 113) 9,none⟩,⟨some 5,.assign (.tmp 114),none⟩]) .skip)))))))))))))))))))))) (.seq (.seq (.reg [⟨some 115,.fieldAddr 29 (.tmp 2) 0,none⟩,⟨some 116,.load 3 (.tmp 115),none⟩,⟨some 117,.call ⟨.value (.func 86),#[.tmp 116],#[3]⟩,none⟩,⟨some 118,.move (.tmp 1),none⟩,⟨some 119,.binOp .lss 3 (.tmp 117) (.tmp 118) 3,none⟩]) (.cond (.tmp 119) (.seq (.reg [⟨some 120,.move (.tmp 5),none⟩,⟨some 121,.binOp .add 9 (.const (.string ⟨#[40]⟩)) (.tmp 120) 9,none⟩,⟨some 122,.binOp .add 9 (.tmp 121) (.const (.string ⟨#[41]⟩)) 9,none⟩,⟨some 4,.assign (.tmp 122),none⟩]) .ret) .skip)) (.seq (.reg [⟨some 123,.move (.tmp 5),none⟩,⟨some 4,.assign (.tmp 123),none⟩]) .ret))))
@[simp] theorem x76_s {C e s K} : type_of% (@X_at C e s K _ _ x76.eq_1):=X_at x76.eq_1
def an76 : Ann:=⟨[(8,.mix 11),(16,.mix 9),(18,.mix 9),(20,.mix 11),(22,.mix 11),(24,.mix 11)],[],[]⟩
@[simp] theorem an76_a : an76.clsOf 8 = .mix 11 ∧ an76.clsOf 16 = .mix 9 ∧ an76.clsOf 18 = .mix 9 ∧ an76.clsOf 20 = .mix 11 ∧ an76.clsOf 22 = .mix 11 ∧ an76.clsOf 24 = .mix 11 ∧ an76.frzOf 8 = [] ∧ an76.frzOf 16 = [] ∧ an76.frzOf 18 = [] ∧ an76.frzOf 20 = [] ∧ an76.frzOf 22 = [] ∧ an76.frzOf 24 = []:=⟨rfl,rfl,rfl,rfl,rfl,rfl,rfl,rfl,rfl,rfl,rfl,rfl⟩
theorem fi76 : FI Try.prog 76 (cxA an76) x76 [.tmp 4] Try.f76:=fiA Try.func76 mixed
theorem said_first (e : Ex) (he : ExOk e) : (ndE e).length ≤ 1000 → ∀ least : Int,CallOK Try.prog 76 [.agg (exr e),.int .i64 least] [] (.str (sdX e least)) []:=by
 induction he with
 | pred nm l h hl=>
  intro hn least
  rw [ndE_len0] at hn
  have hli:=list_firstOk l hl (by omega)
  have h1:=ndWs_le l
  have h2:=lsB_len l fun v hv=>wtB_len v (hl v hv).short
  have h3:=bigX_size h
  rw [show sdX (.mk 1 nm l []) least = parX (predB nm l) 1 least by rw [sdX];rfl]
  unfold predB
  generalize lsB l = S at *
  refine fi76.op ?_
  by_cases ha : l = []
  ·rw [if_pos ha]
   (refine Sg.h ?_;try repeat' ((first|(with_reducible first|refine brA ?_|refine brE fun _=>?_|refine spl ⟨?_,?_⟩<;>intro _)|refine clo (level_first _) ?_)<;>((try simp -implicitDefEqProofs [ha]);(try simp -implicitDefEqProofs(disch:=first|assumption|(try simp only[lens]);omega -splitDisjunctions) [ha]))))
   all_goals simp_all [parX]
   all_goals (intros;omega)
  ·rw [if_neg ha]
   (refine Sg.h ?_;try repeat' ((first|(with_reducible first|refine brA ?_|refine brE fun _=>?_|refine spl ⟨?_,?_⟩<;>intro _)|refine clo hli ?_|refine clo (level_first _) ?_)<;>((try simp -implicitDefEqProofs [ha]);(try simp -implicitDefEqProofs(disch:=first|assumption|(try simp only[lens]);omega -splitDisjunctions) [ha]))))
   all_goals simp_all [parX]
   all_goals (intros;omega)
 | same a b ha hb=>
  intro hn least
  rw [ndE_len0,ndWs_two] at hn
  have h1:=WordText_first a ha (by omega)
  have h2:=WordText_first b hb (by omega)
  have s1:=wtB_len a ha.short
  have s2:=wtB_len b hb.short
  rw [show sdX (.mk 2 ⟨#[]⟩ [a,b] []) least = parX (wtB a ++ (⟨#[32,61,32]⟩ : ByteArray) ++ wtB b) 2 least by rw [sdX];rfl]
  generalize wtB a = A at *
  generalize wtB b = B at *
  refine fi76.op ?_
  (refine Sg.h ?_;try repeat' ((first|(with_reducible first|refine brA ?_|refine brE fun _=>?_|refine spl ⟨?_,?_⟩<;>intro _)|refine clo h1 ?_|refine clo h2 ?_|refine clo (level_first _) ?_)<;>((try simp -implicitDefEqProofs);(try simp -implicitDefEqProofs(disch:=first|assumption|(try simp only[lens]);omega -splitDisjunctions)))))
  all_goals simp_all [parX]
  all_goals (intros;omega)
 | tru=>
  intro hn least
  refine fi76.op ?_
  (refine Sg.h ?_;try repeat' ((first|(with_reducible first|refine brA ?_|refine brE fun _=>?_|refine spl ⟨?_,?_⟩<;>intro _)|refine clo (level_first _) ?_)<;>((try simp -implicitDefEqProofs);(try simp -implicitDefEqProofs(disch:=first|assumption|(try simp only[lens]);omega -splitDisjunctions)))))
  all_goals simp_all [sdX,parX]
  all_goals (intros;omega)
 | fal=>
  intro hn least
  refine fi76.op ?_
  (refine Sg.h ?_;try repeat' ((first|(with_reducible first|refine brA ?_|refine brE fun _=>?_|refine spl ⟨?_,?_⟩<;>intro _)|refine clo (level_first _) ?_)<;>((try simp -implicitDefEqProofs);(try simp -implicitDefEqProofs(disch:=first|assumption|(try simp only[lens]);omega -splitDisjunctions)))))
  all_goals simp_all [sdX,parX]
  all_goals (intros;omega)
 | not a ha ih=>
  intro hn least
  rw [ndE_len1] at hn
  have s1:=sdX_size a ha 4
  have h1:=ih (by omega) 4
  refine fi76.op ?_
  (refine Sg.h ?_;try repeat' ((first|(with_reducible first|refine brA ?_|refine brE fun _=>?_|refine spl ⟨?_,?_⟩<;>intro _)|refine clo h1 ?_|refine clo (level_first _) ?_)<;>((try simp -implicitDefEqProofs);(try simp -implicitDefEqProofs(disch:=first|assumption|(try simp only[lens]);omega -splitDisjunctions)))))
  all_goals simp_all [sdX,sdXs,parX]
  all_goals (intros;omega)
 | and a b ha hb iha ihb=>
  intro hn least
  rw [ndE_len2] at hn
  have s1:=sdX_size a ha 3
  have s2:=sdX_size b hb 4
  have h1:=iha (by omega) 3
  have h2:=ihb (by omega) 4
  refine fi76.op ?_
  (refine Sg.h ?_;try repeat' ((first|(with_reducible first|refine brA ?_|refine brE fun _=>?_|refine spl ⟨?_,?_⟩<;>intro _)|refine clo h1 ?_|refine clo h2 ?_|refine clo (level_first _) ?_)<;>((try simp -implicitDefEqProofs);(try simp -implicitDefEqProofs(disch:=first|assumption|(try simp only[lens]);omega -splitDisjunctions)))))
  all_goals simp_all [sdX,sdXs,parX]
  all_goals (intros;omega)
 | or a b ha hb iha ihb=>
  intro hn least
  rw [ndE_len2] at hn
  have s1:=sdX_size a ha 2
  have s2:=sdX_size b hb 3
  have h1:=iha (by omega) 2
  have h2:=ihb (by omega) 3
  refine fi76.op ?_
  (refine Sg.h ?_;try repeat' ((first|(with_reducible first|refine brA ?_|refine brE fun _=>?_|refine spl ⟨?_,?_⟩<;>intro _)|refine clo h1 ?_|refine clo h2 ?_|refine clo (level_first _) ?_)<;>((try simp -implicitDefEqProofs);(try simp -implicitDefEqProofs(disch:=first|assumption|(try simp only[lens]);omega -splitDisjunctions)))))
  all_goals simp_all [sdX,sdXs,parX]
  all_goals (intros;omega)
 | «then» a b ha hb iha ihb=>
  intro hn least
  rw [ndE_len2] at hn
  have s1:=sdX_size a ha 2
  have s2:=sdX_size b hb 1
  have h1:=iha (by omega) 2
  have h2:=ihb (by omega) 1
  refine fi76.op ?_
  (refine Sg.h ?_;try repeat' ((first|(with_reducible first|refine brA ?_|refine brE fun _=>?_|refine spl ⟨?_,?_⟩<;>intro _)|refine clo h1 ?_|refine clo h2 ?_|refine clo (level_first _) ?_)<;>((try simp -implicitDefEqProofs);(try simp -implicitDefEqProofs(disch:=first|assumption|(try simp only[lens]);omega -splitDisjunctions)))))
  all_goals simp_all [sdX,sdXs,parX]
  all_goals (intros;omega)
 | all nm a hnm ha ih=>
  intro hn least
  rw [ndE_len1] at hn
  have s0:=nameX_size hnm
  have s1:=sdX_size a ha 4
  have h1:=ih (by omega) 4
  refine fi76.op ?_
  (refine Sg.h ?_;try repeat' ((first|(with_reducible first|refine brA ?_|refine brE fun _=>?_|refine spl ⟨?_,?_⟩<;>intro _)|refine clo h1 ?_|refine clo (level_first _) ?_)<;>((try simp -implicitDefEqProofs);(try simp -implicitDefEqProofs(disch:=first|assumption|(try simp only[lens]);omega -splitDisjunctions)))))
  all_goals simp_all [sdX,sdXs,parX]
  all_goals (intros;omega)
 | some nm a hnm ha ih=>
  intro hn least
  rw [ndE_len1] at hn
  have s0:=nameX_size hnm
  have s1:=sdX_size a ha 4
  have h1:=ih (by omega) 4
  refine fi76.op ?_
  (refine Sg.h ?_;try repeat' ((first|(with_reducible first|refine brA ?_|refine brE fun _=>?_|refine spl ⟨?_,?_⟩<;>intro _)|refine clo h1 ?_|refine clo (level_first _) ?_)<;>((try simp -implicitDefEqProofs);(try simp -implicitDefEqProofs(disch:=first|assumption|(try simp only[lens]);omega -splitDisjunctions)))))
  all_goals simp_all [sdX,sdXs,parX]
  all_goals (intros;omega)
def x60 : XC:=.seq (.reg [⟨some 1,.box 29 (.tmp 0),none⟩,⟨some 2,.assign (.const (.string ⟨#[]⟩)),none⟩]) (.seq (.reg [⟨some 3,.load 29 (.tmp 1),none⟩,⟨some 4,.call ⟨.value (.func 76),#[.tmp 3,.const (.int .i64 1)],#[29,3]⟩,none⟩,⟨some 2,.assign (.tmp 4),none⟩]) .ret)
@[simp] theorem x60_s {C e s K} : type_of% (@X_at C e s K _ _ x60.eq_1):=X_at x60.eq_1
def an60 : Ann:=⟨[],[],[]⟩
theorem fi60 : FI Try.prog 60 (cxA an60) x60 [.tmp 2] Try.f60:=fiA Try.func60 mixed
theorem Said_first (e : Ex) (he : ExOk e) (hn : (ndE e).length ≤ 1000) : CallOK Try.prog 60 [.agg (exr e)] [] (.str (sdX e 1)) []:=by
 have h1:=said_first e he hn 1
 refine fi60.op ?_
 (refine Sg.h ?_;try repeat' ((first|(with_reducible first|refine brA ?_|refine brE fun _=>?_|refine spl ⟨?_,?_⟩<;>intro _)|refine clo h1 ?_)<;>((try simp -implicitDefEqProofs);(try simp -implicitDefEqProofs(disch:=first|assumption|(try simp only[lens]);omega -splitDisjunctions)))))
def x37 : XC:=.seq (.reg [⟨some 1,.box 29 (.tmp 0),none⟩,⟨some 2,.assign (.const (.string ⟨#[]⟩)),none⟩,⟨some 3,.alloc 39,none⟩]) (.seq (.seq (.reg [⟨some 5,.load 29 (.tmp 1),none⟩,⟨some 6,.call ⟨.value (.func 23),#[.tmp 5],#[29]⟩,none⟩,⟨some 4,.alloc 39,none⟩,⟨none,.store 39 (.tmp 4) (.tmp 6),none⟩]) (.seq (.reg [⟨some 7,.fieldAddr 39 (.tmp 4) 0,none⟩,⟨some 8,.load 3 (.tmp 7),none⟩,⟨some 9,.binOp .neq 3 (.tmp 8) (.const (.int .i64 0)) 3,none⟩]) (.cond (.tmp 9) (.seq (.drawn 3 [⟨some 10,.load 39 (.tmp 4),none⟩,⟨some 2,.assign (.const (.string ⟨#[]⟩)),none⟩,⟨none,.store 39 (.tmp 3) (.tmp 10),none⟩]) .ret) .skip))) (.seq (.reg [⟨some 11,.load 29 (.tmp 1),none⟩,⟨some 12,.call ⟨.value (.func 60),#[.tmp 11],#[29]⟩,none⟩,⟨some 13,.build 39 #[],none⟩,⟨some 2,.assign (.tmp 12),none⟩,⟨none,.store 39 (.tmp 3) (.tmp 13),none⟩]) .ret))
@[simp] theorem x37_s {C e s K} : type_of% (@X_at C e s K _ _ x37.eq_1):=X_at x37.eq_1
def an37 : Ann:=⟨[],[],[]⟩
@[simp] theorem an37_a : an37.clsOf 3 = .draw ∧ an37.frzOf 3 = []:=⟨rfl,rfl⟩
theorem fi37 : FI Try.prog 37 (cxA an37) x37 [.tmp 2,.cell 3 39] Try.f37:=fiA Try.func37 mixed
theorem Print_first (e : Ex) (h : checkX e = (0,0)) (he : ExOk e) (hn : (ndE e).length ≤ 1000) : CallOK Try.prog 37 [.agg (exr e)] [] (.tuple [.str (sdX e 1),.agg [.int .i64 0,.int .i64 0]]) []:=by
 have h1:=Check_first e
 rw [h] at h1
 have h2:=Said_first e he hn
 generalize sdX e 1 = s at *
 refine fi37.op ?_
 (refine Sg.h ?_;try repeat' ((first|(with_reducible first|refine brA ?_|refine brE fun _=>?_|refine spl ⟨?_,?_⟩<;>intro _)|refine clo h1 ?_|refine clo h2 ?_)<;>((try simp -implicitDefEqProofs);(try simp -implicitDefEqProofs(disch:=first|assumption|(try simp only[lens]);omega -splitDisjunctions)))))
end Go.Proofs.Ytbimioonhfhflaa
namespace Go.Proofs.Ytbimioonhfhflaa
open Go Go.Pv
def tX : ByteArray:=⟨#[33,120,32,80,40,120,41,32,38,32,81,32,45,62,32,63,121,32,70,40,121,44,32,67,41,32,61,32,120]⟩
def vX (c : UInt8) : Wd:=.mk ⟨#[c]⟩ []
def fX : Ex:=.mk 8 ⟨#[]⟩ [] [.mk 6 ⟨#[]⟩ [] [.mk 9 ⟨#[120]⟩ [] [.mk 1 ⟨#[80]⟩ [vX 120] []],.mk 1 ⟨#[81]⟩ [] []],.mk 10 ⟨#[121]⟩ [] [.mk 2 ⟨#[]⟩ [.mk ⟨#[70]⟩ [vX 121,vX 67],vX 120] []]]
theorem parse_tX : parseX tX = (fX,0,0):=by kernel_rfl
theorem check_fX : checkX fX = (0,0):=by kernel_rfl
theorem said_fX : sdX fX 1 = tX:=by kernel_rfl
theorem len_fX : (ndE fX).length = 12:=by kernel_rfl
theorem wd_x : WdOk (vX 120):=.mk _ _ (.inr ⟨by kernel_rfl,rfl⟩) (fun w h=>nomatch h)
theorem wd_y : WdOk (vX 121):=.mk _ _ (.inr ⟨by kernel_rfl,rfl⟩) (fun w h=>nomatch h)
theorem wd_c : WdOk (vX 67):=.mk _ _ (.inl (by kernel_rfl)) (fun w h=>nomatch h)
theorem ok_fX : ExOk fX:=by
 unfold fX
 refine .then _ _ (.and _ _ (.all _ _ (by kernel_rfl) (.pred _ _ (by kernel_rfl) fun w h=>?_)) (.pred _ _ (by kernel_rfl) fun w h=>nomatch h)) (.some _ _ (by kernel_rfl) (.same _ _ (.mk _ _ (.inl (by kernel_rfl)) fun w h=>?_) wd_x))
 ·rw [List.mem_singleton.1 h];exact wd_x
 ·rcases List.mem_cons.1 h with rfl | h
  ·exact wd_y
  ·rw [List.mem_singleton.1 h];exact wd_c
def x13 : XC:=.seq (.reg [⟨some 0,.assign (.const (.bool false)),none⟩]) (.seq (.reg [⟨some 6,.call ⟨.value (.func 36),#[.const (.string ⟨#[33,120,32,80,40,120,41,32,38,32,81,32,45,62,32,63,121,32,70,40,121,44,32,67,41,32,61,32,120]⟩)],#[9]⟩,none⟩,⟨some 5,.move (.tmp 6),none⟩,⟨some 7,.extract (.tmp 5) 0,none⟩,⟨some 8,.extract (.tmp 5) 1,none⟩,⟨some 1,.alloc 29,none⟩,⟨some 2,.alloc 39,none⟩,⟨none,.store 29 (.tmp 1) (.tmp 7),none⟩,⟨none,.store 39 (.tmp 2) (.tmp 8),none⟩]) (.seq (.reg [⟨some 10,.load 29 (.tmp 1),none⟩,⟨some 11,.call ⟨.value (.func 37),#[.tmp 10],#[29]⟩,none⟩,⟨some 9,.move (.tmp 11),none⟩,⟨some 12,.extract (.tmp 9) 0,none⟩,⟨some 13,.extract (.tmp 9) 1,none⟩,⟨some 4,.alloc 39,none⟩,⟨some 3,.assign (.tmp 12),none⟩,⟨none,.store 39 (.tmp 4) (.tmp 13),none⟩]) (.seq (.reg [⟨some 14,.fieldAddr 39 (.tmp 2) 0,none⟩,⟨some 15,.load 3 (.tmp 14),none⟩,⟨some 16,.binOp .eql 3 (.tmp 15) (.const (.int .i64 0)) 3,none⟩,⟨some 17,.move (.tmp 16),none⟩,⟨some 18,.fieldAddr 39 (.tmp 4) 0,some (some 17,true)⟩,⟨some 19,.load 3 (.tmp 18),some (some 17,true)⟩,⟨some 20,.binOp .eql 3 (.tmp 19) (.const (.int .i64 0)) 3,some (some 17,true)⟩,⟨some 21,.pick (.tmp 17) (.tmp 20) (.const (.bool false)),none⟩,⟨some 22,.move (.tmp 21),none⟩,⟨some 23,.move (.tmp 3),some (some 22,true)⟩,⟨some 24,.binOp .eql 9 (.tmp 23) (.const (.string ⟨#[33,120,32,80,40,120,41,32,38,32,81,32,45,62,32,63,121,32,70,40,121,44,32,67,41,32,61,32,120]⟩)) 9,some (some 22,true)⟩,⟨some 25,.pick (.tmp 22) (.tmp 24) (.const (.bool false)),none⟩,⟨some 0,.assign (.tmp 25),none⟩]) .ret)))
@[simp] theorem x13_s {C e s K} : type_of% (@X_at C e s K _ _ x13.eq_1):=X_at x13.eq_1
def an13 : Ann:=⟨[],[],[]⟩
theorem fi13 : FI Try.prog 13 (cxA an13) x13 [.tmp 0] Try.f13:=fiA Try.func13 mixed
theorem firstBegun_law : CallOK Try.prog 13 [] [] (.bool true) []:=by
 have h1:=Parse_first tX
 rw [parse_tX] at h1
 have h2:=Print_first fX check_fX ok_fX (by rw [len_fX];decide)
 rw [said_fX] at h2
 unfold tX at h1 h2
 generalize fX = f at *
 refine fi13.op ?_
 (refine Sg.h ?_;try repeat' ((first|(with_reducible first|refine brA ?_|refine brE fun _=>?_|refine spl ⟨?_,?_⟩<;>intro _)|refine clo h1 ?_|refine clo h2 ?_)<;>((try simp -implicitDefEqProofs);(try simp -implicitDefEqProofs(disch:=first|assumption|(try simp only[lens]);omega -splitDisjunctions)))))
end Go.Proofs.Ytbimioonhfhflaa
