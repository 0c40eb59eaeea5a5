import Derived.Test.YtlcplnafkeklaaaBMnT
import Derived.Test.YtlcplnafkeklaaaBMnU
import Derived.Test.YtlcplnafkeklaaaBMnW
set_option linter.unusedVariables false
set_option linter.unusedSimpArgs false
set_option maxRecDepth 100000
set_option maxHeartbeats 4000000
namespace Go.Proofs.Ytlcplnafkeklaaa
open Go Go.Pv
theorem pow_up {n : Int} (h0 : 0 < n) {i d : Nat} (h : i ≤ d) : n ^ i ≤ n ^ d:=by
 obtain ⟨k,rfl⟩:=Nat.le.dest h
 rw [Int.pow_add]
 have h1 : 0 < n ^ i:=Int.pow_pos h0
 have h2 : 0 < n ^ k:=Int.pow_pos h0
 have:=Int.mul_le_mul_of_nonneg_left (show (1 : Int) ≤ n ^ k by omega) (show 0 ≤ n ^ i by omega)
 rw [Int.mul_one] at this
 exact this
def x12_T4 : XC:=.seq (.reg [⟨some 108,.load 36 (.tmp 9),none⟩,⟨none,.store 36 (.tmp 8) (.tmp 108),none⟩]) .ret
def x12_T3 : XC:=.seq (.reg [⟨some 101,.move (.tmp 11),none⟩,⟨some 102,.binOp .gtr 3 (.tmp 101) (.const (.int .i64 6)) 3,none⟩,⟨some 103,.move (.tmp 102),none⟩,⟨some 104,.move (.tmp 12),some (some 103,false)⟩,⟨some 105,.binOp .gtr 3 (.tmp 104) (.const (.int .i64 5000)) 3,some (some 103,false)⟩,⟨some 106,.pick (.tmp 103) (.const (.bool true)) (.tmp 105),none⟩]) (.cond (.tmp 106) (.reg [⟨some 107,.call ⟨.value (.func 37),#[.const (.int .i64 2),.const (.int .i64 0)],#[3,3]⟩,none⟩,⟨none,.store 36 (.tmp 9) (.tmp 107),none⟩]) .skip)
def x12_L2 : XC:=.seq (.seq (.reg [⟨some 88,.move (.tmp 13),none⟩,⟨some 89,.move (.tmp 11),none⟩,⟨some 90,.binOp .lss 3 (.tmp 88) (.tmp 89) 3,none⟩,⟨some 91,.move (.tmp 90),none⟩,⟨some 92,.move (.tmp 12),some (some 91,true)⟩,⟨some 93,.binOp .leq 3 (.tmp 92) (.const (.int .i64 5000)) 3,some (some 91,true)⟩,⟨some 94,.pick (.tmp 91) (.tmp 93) (.const (.bool false)),none⟩]) (.cond (.tmp 94) .skip (.exit 2))) (.seq (.block 3 (.reg [⟨some 97,.move (.tmp 12),none⟩,⟨some 98,.fieldAddr 25 (.tmp 4) 0,none⟩,⟨some 99,.load 3 (.tmp 98),none⟩,⟨some 100,.binOp .mul 3 (.tmp 97) (.tmp 99) 3,none⟩,⟨some 12,.assign (.tmp 100),none⟩])) (.reg [⟨some 95,.move (.tmp 13),none⟩,⟨some 96,.binOp .add 3 (.tmp 95) (.const (.int .i64 1)) 3,none⟩,⟨some 13,.assign (.tmp 96),none⟩]))
def x12_T1 : XC:=.seq (.seq (.reg [⟨some 72,.fieldAddr 36 (.tmp 9) 0,none⟩,⟨some 73,.load 3 (.tmp 72),none⟩,⟨some 74,.binOp .eql 3 (.tmp 73) (.const (.int .i64 0)) 3,none⟩,⟨some 75,.move (.tmp 74),none⟩,⟨some 76,.load 25 (.tmp 4),some (some 75,true)⟩,⟨some 77,.load 29 (.tmp 5),some (some 75,true)⟩,⟨some 78,.move (.tmp 2),some (some 75,true)⟩,⟨some 79,.call ⟨.value (.func 38),#[.tmp 76,.tmp 77,.tmp 78],#[25,29,30]⟩,some (some 75,true)⟩,⟨some 80,.unOp .not 4 (.tmp 79),some (some 75,true)⟩,⟨some 81,.pick (.tmp 75) (.tmp 80) (.const (.bool false)),none⟩]) (.cond (.tmp 81) (.reg [⟨some 82,.call ⟨.value (.func 37),#[.const (.int .i64 6),.const (.int .i64 0)],#[3,3]⟩,none⟩,⟨none,.store 36 (.tmp 9) (.tmp 82),none⟩]) .skip)) (.seq (.seq (.reg [⟨some 83,.fieldAddr 36 (.tmp 9) 0,none⟩,⟨some 84,.load 3 (.tmp 83),none⟩,⟨some 85,.binOp .eql 3 (.tmp 84) (.const (.int .i64 0)) 3,none⟩]) (.cond (.tmp 85) (.seq (.reg [⟨some 86,.load 29 (.tmp 5),none⟩,⟨some 87,.call ⟨.value (.func 39),#[.tmp 86],#[29]⟩,none⟩,⟨some 11,.assign (.tmp 87),none⟩]) (.seq (.reg [⟨some 12,.assign (.const (.int .i64 1)),none⟩]) (.seq (.seq (.reg [⟨some 13,.assign (.const (.int .i64 0)),none⟩]) (.bloop 2 x12_L2)) (x12_T3)))) .skip)) (x12_T4))
def x12_L0 : XC:=.seq (.seq (.reg [⟨some 37,.move (.tmp 10),none⟩,⟨some 38,.move (.tmp 2),none⟩,⟨some 39,.call ⟨.builtin .len,#[.tmp 38],#[30]⟩,none⟩,⟨some 40,.binOp .lss 3 (.tmp 37) (.tmp 39) 3,none⟩,⟨some 41,.move (.tmp 40),none⟩,⟨some 42,.fieldAddr 36 (.tmp 9) 0,some (some 41,true)⟩,⟨some 43,.load 3 (.tmp 42),some (some 41,true)⟩,⟨some 44,.binOp .eql 3 (.tmp 43) (.const (.int .i64 0)) 3,some (some 41,true)⟩,⟨some 45,.pick (.tmp 41) (.tmp 44) (.const (.bool false)),none⟩]) (.cond (.tmp 45) .skip (.exit 0))) (.seq (.block 1 (.seq (.reg [⟨some 48,.move (.tmp 2),none⟩,⟨some 49,.move (.tmp 10),none⟩,⟨some 50,.indexAddr 30 (.tmp 48) (.tmp 49),none⟩,⟨some 51,.load 9 (.tmp 50),none⟩,⟨some 52,.call ⟨.value (.func 16),#[.tmp 51],#[9]⟩,none⟩,⟨some 53,.unOp .not 4 (.tmp 52),none⟩]) (.cond (.tmp 53) (.reg [⟨some 54,.move (.tmp 10),none⟩,⟨some 55,.call ⟨.value (.func 37),#[.const (.int .i64 8),.tmp 54],#[3,3]⟩,none⟩,⟨none,.store 36 (.tmp 9) (.tmp 55),none⟩]) (.seq (.drawn 11 [⟨some 56,.move (.tmp 3),none⟩,⟨some 57,.move (.tmp 10),none⟩,⟨some 58,.indexAddr 31 (.tmp 56) (.tmp 57),none⟩,⟨some 59,.load 3 (.tmp 58),none⟩,⟨some 60,.binOp .lss 3 (.tmp 59) (.const (.int .i64 0)) 3,none⟩,⟨some 61,.move (.tmp 60),none⟩,⟨some 62,.move (.tmp 3),some (some 61,false)⟩,⟨some 63,.move (.tmp 10),some (some 61,false)⟩,⟨some 64,.indexAddr 31 (.tmp 62) (.tmp 63),some (some 61,false)⟩,⟨some 65,.load 3 (.tmp 64),some (some 61,false)⟩,⟨some 66,.fieldAddr 25 (.tmp 4) 0,some (some 61,false)⟩,⟨some 67,.load 3 (.tmp 66),some (some 61,false)⟩,⟨some 68,.binOp .geq 3 (.tmp 65) (.tmp 67) 3,some (some 61,false)⟩,⟨some 69,.pick (.tmp 61) (.const (.bool true)) (.tmp 68),none⟩]) (.cond (.tmp 69) (.reg [⟨some 70,.move (.tmp 10),none⟩,⟨some 71,.call ⟨.value (.func 37),#[.const (.int .i64 3),.tmp 70],#[3,3]⟩,none⟩,⟨none,.store 36 (.tmp 9) (.tmp 71),none⟩]) .skip))))) (.reg [⟨some 46,.move (.tmp 10),none⟩,⟨some 47,.binOp .add 3 (.tmp 46) (.const (.int .i64 1)) 3,none⟩,⟨some 10,.assign (.tmp 47),none⟩]))
def x12 : XC:=.seq (.reg [⟨some 4,.box 25 (.tmp 0),none⟩,⟨some 5,.box 29 (.tmp 1),none⟩,⟨some 8,.alloc 36,none⟩]) (.seq (.reg [⟨some 14,.load 25 (.tmp 4),none⟩,⟨some 15,.call ⟨.value (.func 13),#[.tmp 14],#[25]⟩,none⟩,⟨some 9,.alloc 36,none⟩,⟨none,.store 36 (.tmp 9) (.tmp 15),none⟩]) (.seq (.seq (.reg [⟨some 16,.fieldAddr 36 (.tmp 9) 0,none⟩,⟨some 17,.load 3 (.tmp 16),none⟩,⟨some 18,.binOp .eql 3 (.tmp 17) (.const (.int .i64 0)) 3,none⟩]) (.cond (.tmp 18) (.reg [⟨some 19,.load 29 (.tmp 5),none⟩,⟨some 20,.call ⟨.value (.func 36),#[.tmp 19],#[29]⟩,none⟩,⟨none,.store 36 (.tmp 9) (.tmp 20),none⟩]) .skip)) (.seq (.seq (.reg [⟨some 21,.fieldAddr 36 (.tmp 9) 0,none⟩,⟨some 22,.load 3 (.tmp 21),none⟩,⟨some 23,.binOp .eql 3 (.tmp 22) (.const (.int .i64 0)) 3,none⟩,⟨some 24,.move (.tmp 23),none⟩,⟨some 25,.move (.tmp 2),some (some 24,true)⟩,⟨some 26,.call ⟨.builtin .len,#[.tmp 25],#[30]⟩,some (some 24,true)⟩,⟨some 27,.move (.tmp 3),some (some 24,true)⟩,⟨some 28,.call ⟨.builtin .len,#[.tmp 27],#[31]⟩,some (some 24,true)⟩,⟨some 29,.binOp .neq 3 (.tmp 26) (.tmp 28) 3,some (some 24,true)⟩,⟨some 30,.move (.tmp 29),some (some 24,true)⟩,⟨some 31,.move (.tmp 2),some (some 30,false)⟩,⟨some 32,.call ⟨.builtin .len,#[.tmp 31],#[30]⟩,some (some 30,false)⟩,⟨some 33,.binOp .gtr 3 (.tmp 32) (.const (.int .i64 20)) 3,some (some 30,false)⟩,⟨some 34,.pick (.tmp 30) (.const (.bool true)) (.tmp 33),some (some 24,true)⟩,⟨some 35,.pick (.tmp 24) (.tmp 34) (.const (.bool false)),none⟩]) (.cond (.tmp 35) (.reg [⟨some 36,.call ⟨.value (.func 37),#[.const (.int .i64 9),.const (.int .i64 0)],#[3,3]⟩,none⟩,⟨none,.store 36 (.tmp 9) (.tmp 36),none⟩]) .skip)) (.seq (.seq (.reg [⟨some 10,.assign (.const (.int .i64 0)),none⟩]) (.bloop 0 x12_L0)) (x12_T1)))))
@[simp] theorem x12_s {C e s K} : type_of% (@X_at C e s K _ _ x12_T4.eq_1) ∧ type_of% (@X_at C e s K _ _ x12_T3.eq_1) ∧ type_of% (@X_at C e s K _ _ x12_L2.eq_1) ∧ type_of% (@X_at C e s K _ _ x12_T1.eq_1) ∧ type_of% (@X_at C e s K _ _ x12_L0.eq_1) ∧ type_of% (@X_at C e s K _ _ x12.eq_1):=⟨X_at x12_T4.eq_1,X_at x12_T3.eq_1,X_at x12_L2.eq_1,X_at x12_T1.eq_1,X_at x12_L0.eq_1,X_at x12.eq_1⟩
def an12 : Ann:=⟨[(11,.mix 12)],[(2,[],[4,8,9,11,12,13],[8,9,11,12]),(0,[],[2,3,4,5,8,9,10],[2,4,5,8,9])],[]⟩
@[simp] theorem an12_a : an12.clsOf 11 = .mix 12 ∧ an12.frzOf 11 = [] ∧ an12.loopOf 2 = ([],[4,8,9,11,12,13],[8,9,11,12]) ∧ an12.loopOf 0 = ([],[2,3,4,5,8,9,10],[2,4,5,8,9]):=⟨rfl,rfl,rfl,rfl⟩
theorem fi12 : FI Try.prog 12 (cxA an12) x12 [.cell 8 36] Try.f12:=fiA Try.func12 mixed
theorem valueFault_law (n : Int) (F : List Fn) (P : List Pd) (e : Ex) (ns : List ByteArray) (vs : List Int) : CallOK Try.prog 12 [.agg [.int .i64 n,.list (F.map fnRow),.list (P.map pdRow)],.agg (exr e),.list (ns.map strRow),.list (vs.map intRow)] [] (.agg [.int .i64 (valF ⟨n,F,P⟩ e ns vs).1,.int .i64 (valF ⟨n,F,P⟩ e ns vs).2]) []:=by
 have hsf:=StructureFault_ref ⟨n,F,P⟩
 unfold stc at hsf
 dsimp only at hsf
 have hef:=ExprFault_ref e
 have hf:=fun c a=>F_ref c a
 -- a fault goes on to the end
 have keyBad : ∀ c a i : Int,c ≠ 0 → W (cxA an12 Try.prog 0) 0 x12_L0 (KS.seq x12_T1 (KS.fin [ResultVar.cell 8 36] fun v1 s1=>deref s1 6 v1 = .agg [.int .i64 c,.int .i64 a])) [(2,.list (ns.map strRow)),(3,.list (vs.map intRow)),(4,.ptr 0 0 0),(5,.ptr 1 0 0),(8,.ptr 2 0 0),(9,.ptr 3 0 0),(10,.int .i64 i)] [.rows 3 [[.int .i64 n,.list (F.map fnRow),.list (P.map pdRow)]],.rows 4 [exr e],.rows 2 [[.int .i64 0,.int .i64 0]],.rows 2 [[.int .i64 c,.int .i64 a]]]:=by
  intro c a i hc
  refine W_of fun Q hQ=>?_
  apply hQ
  clear hQ
  by_cases hi : i < (ns.length : Int)
  ·(refine Sg.h ?_;try repeat' ((with_reducible first|refine brA ?_|refine brE fun _=>?_|refine spl ⟨?_,?_⟩<;>intro _)<;>((try simp -implicitDefEqProofs [hi,hc]);(try simp -implicitDefEqProofs(disch:=first|assumption|(try simp only[lens]);omega -splitDisjunctions) [hi,hc]))))
  ·(refine Sg.h ?_;try repeat' ((with_reducible first|refine brA ?_|refine brE fun _=>?_|refine spl ⟨?_,?_⟩<;>intro _)<;>((try simp -implicitDefEqProofs [hi,hc]);(try simp -implicitDefEqProofs(disch:=first|assumption|(try simp only[lens]);omega -splitDisjunctions) [hi,hc]))))
 have hv1 : valF ⟨n,F,P⟩ e ns vs = if (stcF ⟨n,F,P⟩).1 ≠ 0 then stcF ⟨n,F,P⟩ else if (checkX e).1 ≠ 0 then checkX e else if ns.length ≠ vs.length ∨ 20 < ns.length then (9,0)
  else if (namF n ns vs 0).1 ≠ 0 then namF n ns vs 0 else if exK F P [] e ns = false then (6,0) else if hugeF n (deepF e) = true then (2,0) else (0,0):=rfl
 refine fi12.op ?_
 by_cases h1 : (stcF ⟨n,F,P⟩).1 = 0
 rotate_left
 ·rw [if_pos h1] at hv1
  rw [hv1]
  generalize stcF ⟨n,F,P⟩ = q at *
  (refine Sg.h ?_;try repeat' ((first|(with_reducible first|refine brA ?_|refine brE fun _=>?_|refine spl ⟨?_,?_⟩<;>intro _)|refine clo hsf ?_)<;>((try simp -implicitDefEqProofs [h1]);(try simp -implicitDefEqProofs(disch:=first|assumption|(try simp only[lens]);omega -splitDisjunctions) [h1]))))
  exact keyBad _ _ _ (by assumption)
 rw [if_neg (fun g=>g h1)] at hv1
 obtain ⟨s0,s8,sF,sP,snF,snP,sOF,sOP,sz⟩:=stcF_zero h1
 rw [sz] at hsf
 dsimp only at s0 s8 sF sP snF snP sOF sOP
 by_cases h2 : (checkX e).1 = 0
 rotate_left
 ·rw [if_pos h2] at hv1
  rw [hv1]
  generalize checkX e = q at *
  (refine Sg.h ?_;try repeat' ((first|(with_reducible first|refine brA ?_|refine brE fun _=>?_|refine spl ⟨?_,?_⟩<;>intro _)|refine clo hsf ?_|refine clo hef ?_)<;>((try simp -implicitDefEqProofs [h2]);(try simp -implicitDefEqProofs(disch:=first|assumption|(try simp only[lens]);omega -splitDisjunctions) [h2]))))
  exact keyBad _ _ _ (by assumption)
 rw [if_neg (fun g=>g h2)] at hv1
 obtain ⟨en,eo⟩:=checkM_ok h2
 rw [checkX_zero h2] at hef
 by_cases h3 : ns.length ≠ vs.length ∨ 20 < ns.length
 ·rw [if_pos h3] at hv1
  rw [hv1]
  have hf9:=hf 9 0
  by_cases h4 : ns.length = vs.length
  ·have h5 : (20 : Int) < (ns.length : Int) := by omega
   have h6 : (20 : Int) < (vs.length : Int):=by omega
   (refine Sg.h ?_;try repeat' ((first|(with_reducible first|refine brA ?_|refine brE fun _=>?_|refine spl ⟨?_,?_⟩<;>intro _)|refine clo hsf ?_|refine clo hef ?_|refine clo hf9 ?_)<;>((try simp -implicitDefEqProofs [h4,h5,h6]);(try simp -implicitDefEqProofs(disch:=first|assumption|(try simp only[lens]);omega -splitDisjunctions) [h4,h5,h6]))))
   exact keyBad _ _ _ (by decide)
  ·have h5 : ¬ (ns.length : Int) = (vs.length : Int) := by omega
   (refine Sg.h ?_;try repeat' ((first|(with_reducible first|refine brA ?_|refine brE fun _=>?_|refine spl ⟨?_,?_⟩<;>intro _)|refine clo hsf ?_|refine clo hef ?_|refine clo hf9 ?_)<;>((try simp -implicitDefEqProofs [h5]);(try simp -implicitDefEqProofs(disch:=first|assumption|(try simp only[lens]);omega -splitDisjunctions) [h5]))))
   exact keyBad _ _ _ (by decide)
 rw [if_neg h3] at hv1
 have hlen : ns.length = vs.length:=by omega
 have h20 : ¬ (20 : Int) < (ns.length : Int):=by omega
 have h20' : ¬ (20 : Int) < (vs.length : Int):=by omega
 obtain ⟨v,hv⟩ : ∃ v,valF ⟨n,F,P⟩ e ns vs = v:=⟨_,rfl⟩
 rw [hv] at hv1
 rw [hv]
 have hmt:=Meant_ref n s0 s8 F sOF snF sF P snP sP e ns (by omega)
 have hdp:=DeepIn_ref e (by have:=deepF_nd e;omega)
 have hdn:=deepF_nd e
 (refine Sg.h ?_;try repeat' ((first|(with_reducible first|refine brA ?_|refine brE fun _=>?_|refine spl ⟨?_,?_⟩<;>intro _)|refine clo hsf ?_|refine clo hef ?_)<;>((try simp -implicitDefEqProofs [hlen,h20,h20']);(try simp -implicitDefEqProofs(disch:=first|assumption|(try simp only[lens]);omega -splitDisjunctions) [hlen,h20,h20']))))
 refine W_of fun Q hQ=>?_
 have bad : ∀ c a i : Int,c ≠ 0 → v = (c,a) → Q [(2,.list (ns.map strRow)),(3,.list (vs.map intRow)),(4,.ptr 0 0 0),(5,.ptr 1 0 0),(8,.ptr 2 0 0),(9,.ptr 3 0 0),(10,.int .i64 i)] [.rows 3 [[.int .i64 n,.list (F.map fnRow),.list (P.map pdRow)]],.rows 4 [exr e],.rows 2 [[.int .i64 0,.int .i64 0]],.rows 2 [[.int .i64 c,.int .i64 a]]]:=by
  intro c a i hc hva
  subst hva
  apply hQ
  clear hQ
  by_cases hi : i < (ns.length : Int)
  ·(refine Sg.h ?_;try repeat' ((with_reducible first|refine brA ?_|refine brE fun _=>?_|refine spl ⟨?_,?_⟩<;>intro _)<;>((try simp -implicitDefEqProofs [hi,hc]);(try simp -implicitDefEqProofs(disch:=first|assumption|(try simp only[lens]);omega -splitDisjunctions) [hi,hc]))))
  ·(refine Sg.h ?_;try repeat' ((with_reducible first|refine brA ?_|refine brE fun _=>?_|refine spl ⟨?_,?_⟩<;>intro _)<;>((try simp -implicitDefEqProofs [hi,hc]);(try simp -implicitDefEqProofs(disch:=first|assumption|(try simp only[lens]);omega -splitDisjunctions) [hi,hc]))))
 have main : ∀ k i,i + k = ns.length → namF n ns vs 0 = namF n (ns.drop i) (vs.drop i) i → Q [(2,.list (ns.map strRow)),(3,.list (vs.map intRow)),(4,.ptr 0 0 0),(5,.ptr 1 0 0),(8,.ptr 2 0 0),(9,.ptr 3 0 0),(10,.int .i64 (i : Int))] [.rows 3 [[.int .i64 n,.list (F.map fnRow),.list (P.map pdRow)]],.rows 4 [exr e],.rows 2 [[.int .i64 0,.int .i64 0]],.rows 2 [[.int .i64 0,.int .i64 0]]]:=by
  intro k
  induction k with
  | zero=>
   intro i hi hnf
   have hz : namF n ns vs 0 = (0,0):=by
    rw [hnf,List.drop_of_length_le (by omega),namF]
    simp
   rw [hz] at hv1
   rw [if_neg (fun g=>g rfl)] at hv1
   obtain rfl : i = ns.length:=by omega
   clear bad
   apply hQ
   clear hQ
   have hf6:=hf 6 0
   have hf2:=hf 2 0
   cases hx : exK F P [] e ns with
   | false=>
    rw [if_pos hx] at hv1
    subst hv1
    rw [hx] at hmt
    (refine Sg.h ?_;try repeat' ((first|(with_reducible first|refine brA ?_|refine brE fun _=>?_|refine spl ⟨?_,?_⟩<;>intro _)|refine clo hmt ?_|refine clo hf6 ?_)<;>((try simp -implicitDefEqProofs);(try simp -implicitDefEqProofs(disch:=first|assumption|(try simp only[lens]);omega -splitDisjunctions)))))
   | true=>
    rw [if_neg (by simp [hx])] at hv1
    rw [hx] at hmt
    have hhu : hugeF n (deepF e) = (decide (5000 < n ^ (min (deepF e) 6)) || decide (6 < deepF e)):=rfl
    generalize deepF e = d at *
    (refine Sg.h ?_;try repeat' ((first|(with_reducible first|refine brA ?_|refine brE fun _=>?_|refine spl ⟨?_,?_⟩<;>intro _)|refine clo hmt ?_|refine clo hdp ?_)<;>((try simp -implicitDefEqProofs);(try simp -implicitDefEqProofs(disch:=first|assumption|(try simp only[lens]);omega -splitDisjunctions)))))
    refine W_of fun Q hQ=>?_
    have main : ∀ k i,i + k = d → n ^ i ≤ 40000 → Q [(4,.ptr 0 0 0),(8,.ptr 1 0 0),(9,.ptr 2 0 0),(11,.int .i64 (d : Int)),(12,.int .i64 (n ^ i)),(13,.int .i64 (i : Int))] [.rows 3 [[.int .i64 n,.list (F.map fnRow),.list (P.map pdRow)]],.rows 2 [[.int .i64 0,.int .i64 0]],.rows 2 [[.int .i64 0,.int .i64 0]]]:=by
     intro k
     induction k with
     | zero=>
      intro i hi hni
      obtain rfl : i = d:=by omega
      apply hQ
      clear hQ
      by_cases h6 : 6 < i
      ·rw [hhu,decide_eq_true h6,Bool.or_true,if_pos rfl] at hv1
       subst hv1
       have h6' : (6 : Int) < (i : Int):=by omega
       generalize n ^ i = q at *
       (refine Sg.h ?_;try repeat' ((first|(with_reducible first|refine brA ?_|refine brE fun _=>?_|refine spl ⟨?_,?_⟩<;>intro _)|refine clo hf2 ?_)<;>((try simp -implicitDefEqProofs [h6']);(try simp -implicitDefEqProofs(disch:=first|assumption|(try simp only[lens]);omega -splitDisjunctions) [h6']))))
      ·rw [hhu,decide_eq_false h6,Bool.or_false,Nat.min_eq_left (by omega)] at hv1
       have h6' : ¬ (6 : Int) < (i : Int):=by omega
       generalize n ^ i = q at *
       by_cases h5 : 5000 < q
       ·rw [if_pos (decide_eq_true h5)] at hv1
        subst hv1
        (refine Sg.h ?_;try repeat' ((first|(with_reducible first|refine brA ?_|refine brE fun _=>?_|refine spl ⟨?_,?_⟩<;>intro _)|refine clo hf2 ?_)<;>((try simp -implicitDefEqProofs [h6',h5]);(try simp -implicitDefEqProofs(disch:=first|assumption|(try simp only[lens]);omega -splitDisjunctions) [h6',h5]))))
       ·rw [if_neg (by simpa using h5)] at hv1
        subst hv1
        (refine Sg.h ?_;try repeat' ((with_reducible first|refine brA ?_|refine brE fun _=>?_|refine spl ⟨?_,?_⟩<;>intro _)<;>((try simp -implicitDefEqProofs [h6',h5]);(try simp -implicitDefEqProofs(disch:=first|assumption|(try simp only[lens]);omega -splitDisjunctions) [h6',h5]))))
     | succ k ihk=>
      intro i hi hni
      have hid : (i : Int) < (d : Int):=by omega
      by_cases h5 : 5000 < n ^ i
      ·have hh : hugeF n d = true := by
        rw [hhu]
        by_cases h6 : 6 < d
        ·rw [decide_eq_true h6,Bool.or_true]
        ·have := pow_up s0 (show i ≤ min d 6 by omega)
         rw [decide_eq_true (show 5000 < n ^ (min d 6) by omega),Bool.true_or]
       rw [hh,if_pos rfl] at hv1
       subst hv1
       have h5' : ¬ n ^ i ≤ 5000:=by omega
       clear ihk
       apply hQ
       clear hQ
       generalize n ^ i = q at *
       by_cases h6 : (6 : Int) < (d : Int)
       ·(refine Sg.h ?_;try repeat' ((first|(with_reducible first|refine brA ?_|refine brE fun _=>?_|refine spl ⟨?_,?_⟩<;>intro _)|refine clo hf2 ?_)<;>((try simp -implicitDefEqProofs [hid,h5,h5',h6]);(try simp -implicitDefEqProofs(disch:=first|assumption|(try simp only[lens]);omega -splitDisjunctions) [hid,h5,h5',h6]))))
       ·(refine Sg.h ?_;try repeat' ((first|(with_reducible first|refine brA ?_|refine brE fun _=>?_|refine spl ⟨?_,?_⟩<;>intro _)|refine clo hf2 ?_)<;>((try simp -implicitDefEqProofs [hid,h5,h5',h6]);(try simp -implicitDefEqProofs(disch:=first|assumption|(try simp only[lens]);omega -splitDisjunctions) [hid,h5,h5',h6]))))
      ·have h5' : n ^ i ≤ 5000 := by omega
       have hp0 : 0 < n ^ i:=Int.pow_pos s0
       have hm : n ^ i * n ≤ 5000 * 8:=Int.mul_le_mul h5' s8 (by omega) (by omega)
       have hm0 : 0 ≤ n ^ i * n:=Int.mul_nonneg (by omega) (by omega)
       have ihk:=ihk (i + 1) (by omega) (by rw [Int.pow_succ];omega)
       rw [Int.pow_succ] at ihk
       obtain ⟨r,hr⟩ : ∃ r,n ^ i * n = r:=⟨_,rfl⟩
       rw [hr] at ihk hm hm0
       generalize n ^ i = q at *
       apply hQ
       clear hQ
       (refine Sg.h ?_;try repeat' ((with_reducible first|refine brA ?_|refine brE fun _=>?_|refine spl ⟨?_,?_⟩<;>intro _)<;>((try simp -implicitDefEqProofs [hid,h5',hr]);(try simp -implicitDefEqProofs(disch:=first|assumption|(try simp only[lens]);omega -splitDisjunctions) [hid,h5',hr]))))
       all_goals first|exact ihk|(refine at2 ihk ?_ ?_<;>simp;done)|(exfalso;first|omega|(simp_all;done)|(simp_all;omega))
    refine at2 (main d 0 (Nat.zero_add _) (by simp)) ?_ ?_
    ·simp
    ·rfl
  | succ k ih=>
   intro i hi hnf
   have hi1 : i < ns.length:=by omega
   have hi2 : i < vs.length:=by omega
   have hnm:=IsName_ref ns[i]
   have ih:=ih (i + 1) (by omega)
   rw [namF_step hi1 hi2] at hnf
   have hf8:=hf 8 i
   have hf3:=hf 3 i
   have bad:=fun c a=>bad c a ((i : Int) + 1)
   generalize hx1 : ns[i] = x at *
   generalize hx2 : vs[i] = y at *
   have hi' : (i : Int) < (ns.length : Int):=by omega
   have hi'' : (i : Int) < (vs.length : Int):=by omega
   apply hQ
   clear hQ
   cases hn : isNameB x with
   | false=>
    rw [if_pos hn] at hnf
    rw [hnf,if_pos (fun g=>by cases g)] at hv1
    have bad:=bad 8 i (by decide) hv1
    rw [hn] at hnm
    clear ih
    (refine Sg.h ?_;try repeat' ((first|(with_reducible first|refine brA ?_|refine brE fun _=>?_|refine spl ⟨?_,?_⟩<;>intro _)|refine clo hnm ?_|refine clo hf8 ?_)<;>((try simp -implicitDefEqProofs [hi',hi'',hi1,hi2,hx1,hx2]);(try simp -implicitDefEqProofs(disch:=first|assumption|(try simp only[lens]);omega -splitDisjunctions) [hi',hi'',hi1,hi2,hx1,hx2]))))
    all_goals first|exact bad|(refine at2 bad ?_ ?_<;>simp;done)|(exfalso;first|omega|(simp_all;done)|(simp_all;omega))
   | true=>
    rw [if_neg (by simp [hn])] at hnf
    rw [hn] at hnm
    by_cases hrr : y < 0 ∨ n ≤ y
    ·rw [if_pos hrr] at hnf
     rw [hnf,if_pos (fun g=>by cases g)] at hv1
     have bad:=bad 3 i (by decide) hv1
     clear ih
     by_cases hy : y < 0
     ·(refine Sg.h ?_;try repeat' ((first|(with_reducible first|refine brA ?_|refine brE fun _=>?_|refine spl ⟨?_,?_⟩<;>intro _)|refine clo hnm ?_|refine clo hf3 ?_)<;>((try simp -implicitDefEqProofs [hi',hi'',hi1,hi2,hx1,hx2,hy]); (try simp -implicitDefEqProofs(disch:=first|assumption|(try simp only[lens]);omega -splitDisjunctions) [hi',hi'',hi1,hi2,hx1,hx2,hy]))))
      all_goals first|exact bad|(refine at2 bad ?_ ?_<;>simp;done)|(exfalso;first|omega|(simp_all;done)|(simp_all;omega))
     ·have hy2 : n ≤ y := by omega
      (refine Sg.h ?_;try repeat' ((first|(with_reducible first|refine brA ?_|refine brE fun _=>?_|refine spl ⟨?_,?_⟩<;>intro _)|refine clo hnm ?_|refine clo hf3 ?_)<;>((try simp -implicitDefEqProofs [hi',hi'',hi1,hi2,hx1,hx2,hy,hy2]);(try simp -implicitDefEqProofs(disch:=first|assumption|(try simp only[lens]);omega -splitDisjunctions) [hi',hi'',hi1,hi2,hx1,hx2,hy,hy2]))))
      all_goals first|exact bad|(refine at2 bad ?_ ?_<;>simp;done)|(exfalso;first|omega|(simp_all;done)|(simp_all;omega))
    ·rw [if_neg hrr] at hnf
     have ih:=ih hnf
     have hy : ¬ y < 0:=fun g=>hrr (.inl g)
     have hy2 : ¬ n ≤ y:=fun g=>hrr (.inr g)
     clear bad
     (refine Sg.h ?_;try repeat' ((first|(with_reducible first|refine brA ?_|refine brE fun _=>?_|refine spl ⟨?_,?_⟩<;>intro _)|refine clo hnm ?_)<;>((try simp -implicitDefEqProofs [hi',hi'',hi1,hi2,hx1,hx2,hy,hy2]);(try simp -implicitDefEqProofs(disch:=first|assumption|(try simp only[lens]);omega -splitDisjunctions) [hi',hi'',hi1,hi2,hx1,hx2,hy,hy2]))))
     all_goals first|exact ih|(refine at2 ih ?_ ?_<;>simp;done)|(exfalso;first|omega|(simp_all;done)|(simp_all;omega))
 all_goals first|exact main ns.length 0 (Nat.zero_add _) rfl|(refine at2 main ns.length 0 (Nat.zero_add _) rfl ?_ ?_<;>simp;done)|(exfalso;first|omega|(simp_all;done)|(simp_all;omega))
end Go.Proofs.Ytlcplnafkeklaaa
