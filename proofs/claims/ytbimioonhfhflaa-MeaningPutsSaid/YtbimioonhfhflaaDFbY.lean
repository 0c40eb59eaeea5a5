import Derived.Test.YtbimioonhfhflaaDMnC
import Derived.Test.YtbimioonhfhflaaDFaO
import Derived.Test.YtbimioonhfhflaaDMnV
set_option linter.unusedVariables false
set_option linter.unusedSimpArgs false
set_option maxRecDepth 100000
set_option maxHeartbeats 4000000
namespace Go.Proofs.Ytbimioonhfhflaa
open Go Go.Pv
def x22_T1 : XC:=.seq (.reg [⟨some 15,.move (.tmp 5),none⟩,⟨some 4,.assign (.tmp 15),none⟩]) .ret
def x22_L0 : XC:=.seq (.seq (.reg [⟨some 7,.move (.tmp 6),none⟩,⟨some 8,.move (.tmp 1),none⟩,⟨some 9,.binOp .lss 3 (.tmp 7) (.tmp 8) 3,none⟩]) (.cond (.tmp 9) .skip (.exit 0))) (.seq (.block 1 (.reg [⟨some 12,.move (.tmp 5),none⟩,⟨some 13,.move (.tmp 0),none⟩,⟨some 14,.binOp .mul 3 (.tmp 12) (.tmp 13) 3,none⟩,⟨some 5,.assign (.tmp 14),none⟩])) (.reg [⟨some 10,.move (.tmp 6),none⟩,⟨some 11,.binOp .add 3 (.tmp 10) (.const (.int .i64 1)) 3,none⟩,⟨some 6,.assign (.tmp 11),none⟩]))
def x22 : XC:=.seq (.reg [⟨some 4,.assign (.const (.int .i64 0)),none⟩]) (.seq (.reg [⟨some 5,.assign (.const (.int .i64 1)),none⟩]) (.seq (.seq (.reg [⟨some 6,.assign (.const (.int .i64 0)),none⟩]) (.bloop 0 x22_L0)) (x22_T1)))
@[simp] theorem x22_s {C e s K} : type_of% (@X_at C e s K _ _ x22_T1.eq_1) ∧ type_of% (@X_at C e s K _ _ x22_L0.eq_1) ∧ type_of% (@X_at C e s K _ _ x22.eq_1):=⟨X_at x22_T1.eq_1,X_at x22_L0.eq_1,X_at x22.eq_1⟩
def an22 : Ann:=⟨[],[(0,[],[0,1,5,6],[5])],[]⟩
@[simp] theorem an22_a : an22.loopOf 0 = ([],[0,1,5,6],[5]):=rfl
theorem fi22 : FI Try.prog 22 (cxA an22) x22 [.tmp 4] Try.f22:=fiA Try.func22 mixed
theorem powerOf_ref (n : Int) (k : Nat) (h0 : 0 ≤ n) (h8 : n ≤ 8) (hk : k ≤ 6) : CallOK Try.prog 22 [.int .i64 n,.int .i64 (k : Int)] [] (.int .i64 (n ^ k)) []:=by
 refine fi22.op ?_
 (refine Sg.h ?_;try repeat' ((with_reducible first|refine brA ?_|refine brE fun _=>?_|refine spl ⟨?_,?_⟩<;>intro _)<;>((try simp -implicitDefEqProofs(disch:=first|assumption|(try simp only[lens]);omega -splitDisjunctions)))))
 refine W_of fun Q hQ=>?_
 have main : ∀ r i,i + r = k → Q [(0,.int .i64 n),(1,.int .i64 (k : Int)),(5,.int .i64 (n ^ i)),(6,.int .i64 (i : Int))] []:=by
  intro r
  induction r with
  | zero=>
   intro i hi
   obtain rfl : i = k:=by omega
   generalize n ^ i = p at *
   apply hQ
   (refine Sg.h ?_;try repeat' ((with_reducible first|refine brA ?_|refine brE fun _=>?_|refine spl ⟨?_,?_⟩<;>intro _)<;>((try simp -implicitDefEqProofs(disch:=first|assumption|(try simp only[lens]);omega -splitDisjunctions)))))
  | succ r ih=>
   intro i hi
   have ih:=ih (i + 1) (by omega)
   have hp:=pow_le8 h0 h8 (i + 1) (by omega)
   rw [Int.pow_succ] at ih hp
   obtain ⟨q,hq⟩ : ∃ q,n ^ i * n = q:=⟨_,rfl⟩
   rw [hq] at ih hp
   have hik : (i : Int) < (k : Int):=by omega
   apply hQ
   clear hQ
   (refine Sg.h ?_;try repeat' ((with_reducible first|refine brA ?_|refine brE fun _=>?_|refine spl ⟨?_,?_⟩<;>intro _)<;>((try simp -implicitDefEqProofs(disch:=first|assumption|(try simp only[lens]);omega -splitDisjunctions) [hik,hq]))))
   all_goals first|exact ih|(refine at2 ih ?_ ?_<;>simp;done)|(exfalso;first|omega|(simp_all;done)|(simp_all;omega))
 refine at2 (main k 0 (Nat.zero_add _)) ?_ ?_
 ·simp
 ·rfl
def x9_T8 : XC:=.seq (.reg [⟨some 178,.build 39 #[],none⟩,⟨none,.store 39 (.tmp 2) (.tmp 178),none⟩]) .ret
def x9_T7 : XC:=.seq (.seq (.reg [⟨some 154,.move (.tmp 11),none⟩]) (.cond (.tmp 154) (.seq (.reg [⟨some 155,.move (.tmp 10),none⟩,⟨some 156,.call ⟨.value (.func 20),#[.const (.int .i64 8),.tmp 155],#[3,3]⟩,none⟩,⟨none,.store 39 (.tmp 2) (.tmp 156),none⟩]) .ret) .skip)) (.seq (.seq (.reg [⟨some 157,.fieldAddr 61 (.tmp 9) 1,none⟩,⟨some 158,.load 3 (.tmp 157),none⟩,⟨some 159,.binOp .lss 3 (.tmp 158) (.const (.int .i64 0)) 3,none⟩,⟨some 160,.move (.tmp 159),none⟩,⟨some 161,.fieldAddr 61 (.tmp 9) 1,some (some 160,false)⟩,⟨some 162,.load 3 (.tmp 161),some (some 160,false)⟩,⟨some 163,.binOp .gtr 3 (.tmp 162) (.const (.int .i64 3)) 3,some (some 160,false)⟩,⟨some 164,.pick (.tmp 160) (.const (.bool true)) (.tmp 163),none⟩]) (.cond (.tmp 164) (.seq (.reg [⟨some 165,.move (.tmp 10),none⟩,⟨some 166,.call ⟨.value (.func 20),#[.const (.int .i64 3),.tmp 165],#[3,3]⟩,none⟩,⟨none,.store 39 (.tmp 2) (.tmp 166),none⟩]) .ret) .skip)) (.seq (.drawn 37 [⟨some 167,.fieldAddr 61 (.tmp 9) 2,none⟩,⟨some 168,.load 59 (.tmp 167),none⟩,⟨some 169,.call ⟨.builtin .len,#[.tmp 168],#[59]⟩,none⟩,⟨some 170,.fieldAddr 25 (.tmp 1) 0,none⟩,⟨some 171,.load 3 (.tmp 170),none⟩,⟨some 172,.fieldAddr 61 (.tmp 9) 1,none⟩,⟨some 173,.load 3 (.tmp 172),none⟩,⟨some 174,.call ⟨.value (.func 22),#[.tmp 171,.tmp 173],#[3,3]⟩,none⟩,⟨some 175,.binOp .neq 3 (.tmp 169) (.tmp 174) 3,none⟩]) (.cond (.tmp 175) (.seq (.reg [⟨some 176,.move (.tmp 10),none⟩,⟨some 177,.call ⟨.value (.func 20),#[.const (.int .i64 9),.tmp 176],#[3,3]⟩,none⟩,⟨none,.store 39 (.tmp 2) (.tmp 177),none⟩]) .ret) .skip)))
def x9_L8 : XC:=.seq (.seq (.reg [⟨some 137,.move (.tmp 12),none⟩,⟨some 138,.move (.tmp 8),none⟩,⟨some 139,.binOp .lss 3 (.tmp 137) (.tmp 138) 3,none⟩]) (.cond (.tmp 139) .skip (.exit 8))) (.seq (.block 9 (.drawn 32 [⟨some 142,.move (.tmp 11),none⟩,⟨some 143,.move (.tmp 142),none⟩,⟨some 144,.fieldAddr 25 (.tmp 1) 2,some (some 143,false)⟩,⟨some 145,.load 23 (.tmp 144),some (some 143,false)⟩,⟨some 146,.move (.tmp 12),some (some 143,false)⟩,⟨some 147,.indexAddr 23 (.tmp 145) (.tmp 146),some (some 143,false)⟩,⟨some 148,.fieldAddr 61 (.tmp 147) 0,some (some 143,false)⟩,⟨some 149,.load 9 (.tmp 148),some (some 143,false)⟩,⟨some 150,.fieldAddr 61 (.tmp 9) 0,some (some 143,false)⟩,⟨some 151,.load 9 (.tmp 150),some (some 143,false)⟩,⟨some 152,.binOp .eql 9 (.tmp 149) (.tmp 151) 9,some (some 143,false)⟩,⟨some 153,.pick (.tmp 143) (.const (.bool true)) (.tmp 152),none⟩,⟨some 11,.assign (.tmp 153),none⟩])) (.reg [⟨some 140,.move (.tmp 12),none⟩,⟨some 141,.binOp .add 3 (.tmp 140) (.const (.int .i64 1)) 3,none⟩,⟨some 12,.assign (.tmp 141),none⟩]))
def x9_L6 : XC:=.seq (.seq (.reg [⟨some 116,.move (.tmp 8),none⟩,⟨some 117,.fieldAddr 25 (.tmp 1) 2,none⟩,⟨some 118,.load 23 (.tmp 117),none⟩,⟨some 119,.call ⟨.builtin .len,#[.tmp 118],#[23]⟩,none⟩,⟨some 120,.binOp .lss 3 (.tmp 116) (.tmp 119) 3,none⟩]) (.cond (.tmp 120) .skip (.exit 6))) (.seq (.block 7 (.seq (.reg [⟨some 123,.fieldAddr 25 (.tmp 1) 2,none⟩,⟨some 124,.load 23 (.tmp 123),none⟩,⟨some 125,.move (.tmp 8),none⟩,⟨some 126,.indexAddr 23 (.tmp 124) (.tmp 125),none⟩,⟨some 127,.load 61 (.tmp 126),none⟩,⟨some 9,.alloc 61,none⟩,⟨none,.store 61 (.tmp 9) (.tmp 127),none⟩]) (.seq (.reg [⟨some 128,.fieldAddr 25 (.tmp 1) 1,none⟩,⟨some 129,.load 22 (.tmp 128),none⟩,⟨some 130,.call ⟨.builtin .len,#[.tmp 129],#[22]⟩,none⟩,⟨some 131,.move (.tmp 8),none⟩,⟨some 132,.binOp .add 3 (.tmp 130) (.tmp 131) 3,none⟩,⟨some 10,.assign (.tmp 132),none⟩]) (.seq (.reg [⟨some 133,.fieldAddr 61 (.tmp 9) 0,none⟩,⟨some 134,.load 9 (.tmp 133),none⟩,⟨some 135,.call ⟨.value (.func 21),#[.tmp 134],#[9]⟩,none⟩,⟨some 136,.unOp .not 4 (.tmp 135),none⟩,⟨some 11,.assign (.tmp 136),none⟩]) (.seq (.seq (.reg [⟨some 12,.assign (.const (.int .i64 0)),none⟩]) (.bloop 8 x9_L8)) (x9_T7)))))) (.reg [⟨some 121,.move (.tmp 8),none⟩,⟨some 122,.binOp .add 3 (.tmp 121) (.const (.int .i64 1)) 3,none⟩,⟨some 8,.assign (.tmp 122),none⟩]))
def x9_T4 : XC:=.seq (.seq (.reg [⟨some 8,.assign (.const (.int .i64 0)),none⟩]) (.bloop 6 x9_L6)) (x9_T8)
def x9_L4 : XC:=.seq (.seq (.reg [⟨some 91,.move (.tmp 7),none⟩,⟨some 92,.fieldAddr 57 (.tmp 4) 2,none⟩,⟨some 93,.load 33 (.tmp 92),none⟩,⟨some 94,.call ⟨.builtin .len,#[.tmp 93],#[33]⟩,none⟩,⟨some 95,.binOp .lss 3 (.tmp 91) (.tmp 94) 3,none⟩]) (.cond (.tmp 95) .skip (.exit 4))) (.seq (.block 5 (.seq (.drawn 21 [⟨some 98,.fieldAddr 57 (.tmp 4) 2,none⟩,⟨some 99,.load 33 (.tmp 98),none⟩,⟨some 100,.move (.tmp 7),none⟩,⟨some 101,.indexAddr 33 (.tmp 99) (.tmp 100),none⟩,⟨some 102,.load 3 (.tmp 101),none⟩,⟨some 103,.binOp .lss 3 (.tmp 102) (.const (.int .i64 0)) 3,none⟩,⟨some 104,.move (.tmp 103),none⟩,⟨some 105,.fieldAddr 57 (.tmp 4) 2,some (some 104,false)⟩,⟨some 106,.load 33 (.tmp 105),some (some 104,false)⟩,⟨some 107,.move (.tmp 7),some (some 104,false)⟩,⟨some 108,.indexAddr 33 (.tmp 106) (.tmp 107),some (some 104,false)⟩,⟨some 109,.load 3 (.tmp 108),some (some 104,false)⟩,⟨some 110,.fieldAddr 25 (.tmp 1) 0,some (some 104,false)⟩,⟨some 111,.load 3 (.tmp 110),some (some 104,false)⟩,⟨some 112,.binOp .geq 3 (.tmp 109) (.tmp 111) 3,some (some 104,false)⟩,⟨some 113,.pick (.tmp 104) (.const (.bool true)) (.tmp 112),none⟩]) (.cond (.tmp 113) (.seq (.reg [⟨some 114,.move (.tmp 3),none⟩,⟨some 115,.call ⟨.value (.func 20),#[.const (.int .i64 5),.tmp 114],#[3,3]⟩,none⟩,⟨none,.store 39 (.tmp 2) (.tmp 115),none⟩]) .ret) .skip))) (.reg [⟨some 96,.move (.tmp 7),none⟩,⟨some 97,.binOp .add 3 (.tmp 96) (.const (.int .i64 1)) 3,none⟩,⟨some 7,.assign (.tmp 97),none⟩]))
def x9_T2 : XC:=.seq (.seq (.reg [⟨some 67,.move (.tmp 5),none⟩]) (.cond (.tmp 67) (.seq (.reg [⟨some 68,.move (.tmp 3),none⟩,⟨some 69,.call ⟨.value (.func 20),#[.const (.int .i64 8),.tmp 68],#[3,3]⟩,none⟩,⟨none,.store 39 (.tmp 2) (.tmp 69),none⟩]) .ret) .skip)) (.seq (.seq (.reg [⟨some 70,.fieldAddr 57 (.tmp 4) 1,none⟩,⟨some 71,.load 3 (.tmp 70),none⟩,⟨some 72,.binOp .lss 3 (.tmp 71) (.const (.int .i64 0)) 3,none⟩,⟨some 73,.move (.tmp 72),none⟩,⟨some 74,.fieldAddr 57 (.tmp 4) 1,some (some 73,false)⟩,⟨some 75,.load 3 (.tmp 74),some (some 73,false)⟩,⟨some 76,.binOp .gtr 3 (.tmp 75) (.const (.int .i64 3)) 3,some (some 73,false)⟩,⟨some 77,.pick (.tmp 73) (.const (.bool true)) (.tmp 76),none⟩]) (.cond (.tmp 77) (.seq (.reg [⟨some 78,.move (.tmp 3),none⟩,⟨some 79,.call ⟨.value (.func 20),#[.const (.int .i64 3),.tmp 78],#[3,3]⟩,none⟩,⟨none,.store 39 (.tmp 2) (.tmp 79),none⟩]) .ret) .skip)) (.seq (.seq (.drawn 16 [⟨some 80,.fieldAddr 57 (.tmp 4) 2,none⟩,⟨some 81,.load 33 (.tmp 80),none⟩,⟨some 82,.call ⟨.builtin .len,#[.tmp 81],#[33]⟩,none⟩,⟨some 83,.fieldAddr 25 (.tmp 1) 0,none⟩,⟨some 84,.load 3 (.tmp 83),none⟩,⟨some 85,.fieldAddr 57 (.tmp 4) 1,none⟩,⟨some 86,.load 3 (.tmp 85),none⟩,⟨some 87,.call ⟨.value (.func 22),#[.tmp 84,.tmp 86],#[3,3]⟩,none⟩,⟨some 88,.binOp .neq 3 (.tmp 82) (.tmp 87) 3,none⟩]) (.cond (.tmp 88) (.seq (.reg [⟨some 89,.move (.tmp 3),none⟩,⟨some 90,.call ⟨.value (.func 20),#[.const (.int .i64 9),.tmp 89],#[3,3]⟩,none⟩,⟨none,.store 39 (.tmp 2) (.tmp 90),none⟩]) .ret) .skip)) (.seq (.reg [⟨some 7,.assign (.const (.int .i64 0)),none⟩]) (.bloop 4 x9_L4))))
def x9_L2 : XC:=.seq (.seq (.reg [⟨some 50,.move (.tmp 6),none⟩,⟨some 51,.move (.tmp 3),none⟩,⟨some 52,.binOp .lss 3 (.tmp 50) (.tmp 51) 3,none⟩]) (.cond (.tmp 52) .skip (.exit 2))) (.seq (.block 3 (.drawn 11 [⟨some 55,.move (.tmp 5),none⟩,⟨some 56,.move (.tmp 55),none⟩,⟨some 57,.fieldAddr 25 (.tmp 1) 1,some (some 56,false)⟩,⟨some 58,.load 22 (.tmp 57),some (some 56,false)⟩,⟨some 59,.move (.tmp 6),some (some 56,false)⟩,⟨some 60,.indexAddr 22 (.tmp 58) (.tmp 59),some (some 56,false)⟩,⟨some 61,.fieldAddr 57 (.tmp 60) 0,some (some 56,false)⟩,⟨some 62,.load 9 (.tmp 61),some (some 56,false)⟩,⟨some 63,.fieldAddr 57 (.tmp 4) 0,some (some 56,false)⟩,⟨some 64,.load 9 (.tmp 63),some (some 56,false)⟩,⟨some 65,.binOp .eql 9 (.tmp 62) (.tmp 64) 9,some (some 56,false)⟩,⟨some 66,.pick (.tmp 56) (.const (.bool true)) (.tmp 65),none⟩,⟨some 5,.assign (.tmp 66),none⟩])) (.reg [⟨some 53,.move (.tmp 6),none⟩,⟨some 54,.binOp .add 3 (.tmp 53) (.const (.int .i64 1)) 3,none⟩,⟨some 6,.assign (.tmp 54),none⟩]))
def x9_L0 : XC:=.seq (.seq (.reg [⟨some 34,.move (.tmp 3),none⟩,⟨some 35,.fieldAddr 25 (.tmp 1) 1,none⟩,⟨some 36,.load 22 (.tmp 35),none⟩,⟨some 37,.call ⟨.builtin .len,#[.tmp 36],#[22]⟩,none⟩,⟨some 38,.binOp .lss 3 (.tmp 34) (.tmp 37) 3,none⟩]) (.cond (.tmp 38) .skip (.exit 0))) (.seq (.block 1 (.seq (.reg [⟨some 41,.fieldAddr 25 (.tmp 1) 1,none⟩,⟨some 42,.load 22 (.tmp 41),none⟩,⟨some 43,.move (.tmp 3),none⟩,⟨some 44,.indexAddr 22 (.tmp 42) (.tmp 43),none⟩,⟨some 45,.load 57 (.tmp 44),none⟩,⟨some 4,.alloc 57,none⟩,⟨none,.store 57 (.tmp 4) (.tmp 45),none⟩]) (.seq (.reg [⟨some 46,.fieldAddr 57 (.tmp 4) 0,none⟩,⟨some 47,.load 9 (.tmp 46),none⟩,⟨some 48,.call ⟨.value (.func 21),#[.tmp 47],#[9]⟩,none⟩,⟨some 49,.unOp .not 4 (.tmp 48),none⟩,⟨some 5,.assign (.tmp 49),none⟩]) (.seq (.seq (.reg [⟨some 6,.assign (.const (.int .i64 0)),none⟩]) (.bloop 2 x9_L2)) (x9_T2))))) (.reg [⟨some 39,.move (.tmp 3),none⟩,⟨some 40,.binOp .add 3 (.tmp 39) (.const (.int .i64 1)) 3,none⟩,⟨some 3,.assign (.tmp 40),none⟩]))
def x9 : XC:=.seq (.reg [⟨some 1,.box 25 (.tmp 0),none⟩,⟨some 2,.alloc 39,none⟩]) (.seq (.seq (.reg [⟨some 13,.fieldAddr 25 (.tmp 1) 0,none⟩,⟨some 14,.load 3 (.tmp 13),none⟩,⟨some 15,.binOp .lss 3 (.tmp 14) (.const (.int .i64 1)) 3,none⟩,⟨some 16,.move (.tmp 15),none⟩,⟨some 17,.fieldAddr 25 (.tmp 1) 0,some (some 16,false)⟩,⟨some 18,.load 3 (.tmp 17),some (some 16,false)⟩,⟨some 19,.binOp .gtr 3 (.tmp 18) (.const (.int .i64 8)) 3,some (some 16,false)⟩,⟨some 20,.pick (.tmp 16) (.const (.bool true)) (.tmp 19),none⟩,⟨some 21,.move (.tmp 20),none⟩,⟨some 22,.fieldAddr 25 (.tmp 1) 1,some (some 21,false)⟩,⟨some 23,.load 22 (.tmp 22),some (some 21,false)⟩,⟨some 24,.call ⟨.builtin .len,#[.tmp 23],#[22]⟩,some (some 21,false)⟩,⟨some 25,.binOp .gtr 3 (.tmp 24) (.const (.int .i64 10)) 3,some (some 21,false)⟩,⟨some 26,.pick (.tmp 21) (.const (.bool true)) (.tmp 25),none⟩,⟨some 27,.move (.tmp 26),none⟩,⟨some 28,.fieldAddr 25 (.tmp 1) 2,some (some 27,false)⟩,⟨some 29,.load 23 (.tmp 28),some (some 27,false)⟩,⟨some 30,.call ⟨.builtin .len,#[.tmp 29],#[23]⟩,some (some 27,false)⟩,⟨some 31,.binOp .gtr 3 (.tmp 30) (.const (.int .i64 10)) 3,some (some 27,false)⟩,⟨some 32,.pick (.tmp 27) (.const (.bool true)) (.tmp 31),none⟩]) (.cond (.tmp 32) (.seq (.reg [⟨some 33,.call ⟨.value (.func 20),#[.const (.int .i64 2),.const (.int .i64 0)],#[3,3]⟩,none⟩,⟨none,.store 39 (.tmp 2) (.tmp 33),none⟩]) .ret) .skip)) (.seq (.seq (.reg [⟨some 3,.assign (.const (.int .i64 0)),none⟩]) (.bloop 0 x9_L0)) (x9_T4)))
@[simp] theorem x9_s {C e s K} : type_of% (@X_at C e s K _ _ x9_T8.eq_1) ∧ type_of% (@X_at C e s K _ _ x9_T7.eq_1) ∧ type_of% (@X_at C e s K _ _ x9_L8.eq_1) ∧ type_of% (@X_at C e s K _ _ x9_L6.eq_1) ∧ type_of% (@X_at C e s K _ _ x9_T4.eq_1) ∧ type_of% (@X_at C e s K _ _ x9_L4.eq_1) ∧ type_of% (@X_at C e s K _ _ x9_T2.eq_1) ∧ type_of% (@X_at C e s K _ _ x9_L2.eq_1) ∧ type_of% (@X_at C e s K _ _ x9_L0.eq_1) ∧ type_of% (@X_at C e s K _ _ x9.eq_1):=⟨X_at x9_T8.eq_1,X_at x9_T7.eq_1,X_at x9_L8.eq_1,X_at x9_L6.eq_1,X_at x9_T4.eq_1,X_at x9_L4.eq_1,X_at x9_T2.eq_1,X_at x9_L2.eq_1,X_at x9_L0.eq_1,X_at x9.eq_1⟩
def an9 : Ann:=⟨[(11,.mix 10),(16,.mix 8),(21,.mix 14),(32,.mix 10),(37,.mix 8)],[(8,[],[1,2,8,9,10,11,12],[1,2,8,9,10,11]),(6,[],[1,2,8],[2]),(4,[],[1,2,3,4,7],[1,2,3]),(2,[],[1,2,3,4,5,6],[1,2,3,4,5]),(0,[],[1,2,3],[1,2])],[]⟩
@[simp] theorem an9_a : an9.clsOf 11 = .mix 10 ∧ an9.clsOf 16 = .mix 8 ∧ an9.clsOf 21 = .mix 14 ∧ an9.clsOf 32 = .mix 10 ∧ an9.clsOf 37 = .mix 8 ∧ an9.frzOf 11 = [] ∧ an9.frzOf 16 = [] ∧ an9.frzOf 21 = [] ∧ an9.frzOf 32 = [] ∧ an9.frzOf 37 = [] ∧ an9.loopOf 8 = ([],[1,2,8,9,10,11,12],[1,2,8,9,10,11]) ∧ an9.loopOf 6 = ([],[1,2,8],[2]) ∧ an9.loopOf 4 = ([],[1,2,3,4,7],[1,2,3]) ∧ an9.loopOf 2 = ([],[1,2,3,4,5,6],[1,2,3,4,5]) ∧ an9.loopOf 0 = ([],[1,2,3],[1,2]):=⟨rfl,rfl,rfl,rfl,rfl,rfl,rfl,rfl,rfl,rfl,rfl,rfl,rfl,rfl,rfl⟩
theorem fi9 : FI Try.prog 9 (cxA an9) x9 [.cell 2 39] Try.f9:=fiA Try.func9 mixed
theorem StructureFault_few (S : Stc) (h : S.n < 1 ∨ 8 < S.n ∨ 10 < S.funs.length ∨ 10 < S.preds.length) : CallOK Try.prog 9 [.agg (stc S)] [] (.agg [.int .i64 2,.int .i64 0]) []:=by
 have hf:=F_ref 2 0
 obtain ⟨n,F,P⟩:=S
 unfold stc
 dsimp only at h ⊢
 refine fi9.op ?_
 by_cases h1 : n < 1
 ·(refine Sg.h ?_;try repeat' ((first|(with_reducible first|refine brA ?_|refine brE fun _=>?_|refine spl ⟨?_,?_⟩<;>intro _)|refine clo hf ?_)<;>((try simp -implicitDefEqProofs(disch:=first|assumption|(try simp only[lens]);omega -splitDisjunctions) [h1]))))
 by_cases h2 : 8 < n
 ·(refine Sg.h ?_;try repeat' ((first|(with_reducible first|refine brA ?_|refine brE fun _=>?_|refine spl ⟨?_,?_⟩<;>intro _)|refine clo hf ?_)<;>((try simp -implicitDefEqProofs(disch:=first|assumption|(try simp only[lens]);omega -splitDisjunctions) [h1,h2]))))
 by_cases h3 : 10 < F.length
 ·have h3' : (10 : Int) < (F.length : Int) := by omega
  (refine Sg.h ?_;try repeat' ((first|(with_reducible first|refine brA ?_|refine brE fun _=>?_|refine spl ⟨?_,?_⟩<;>intro _)|refine clo hf ?_)<;>((try simp -implicitDefEqProofs(disch:=first|assumption|(try simp only[lens]);omega -splitDisjunctions) [h1,h2,h3']))))
 have h4 : 10 < P.length:=by omega
 have h3' : ¬ (10 : Int) < (F.length : Int):=by omega
 have h4' : (10 : Int) < (P.length : Int):=by omega
 (refine Sg.h ?_;try repeat' ((first|(with_reducible first|refine brA ?_|refine brE fun _=>?_|refine spl ⟨?_,?_⟩<;>intro _)|refine clo hf ?_)<;>((try simp -implicitDefEqProofs(disch:=first|assumption|(try simp only[lens]);omega -splitDisjunctions) [h1,h2,h3',h4']))))
theorem StructureFault_ref (S : Stc) : CallOK Try.prog 9 [.agg (stc S)] [] (.agg [.int .i64 (stcF S).1,.int .i64 (stcF S).2]) []:=by
 by_cases h : S.n < 1 ∨ 8 < S.n ∨ 10 < S.funs.length ∨ 10 < S.preds.length
 ·have := StructureFault_few S h
  unfold stcF
  rw [if_pos h]
  exact this
 obtain ⟨n,F,P⟩:=S
 dsimp only at h
 have e : stcF ⟨n,F,P⟩ = thenF n P F.length (funsF n [] F 0):=by
  unfold stcF thenF
  rw [if_neg h]
 rw [e]
 obtain ⟨R,hR⟩ : ∃ R,thenF n P F.length (funsF n [] F 0) = R:=⟨_,rfl⟩
 rw [hR]
 have h1 : ¬ n < 1:=fun g=>h (.inl g)
 have h2 : ¬ 8 < n:=fun g=>h (.inr (.inl g))
 have h3 : ¬ (10 : Int) < (F.length : Int):=fun g=>h (.inr (.inr (.inl (by omega))))
 have h4 : ¬ (10 : Int) < (P.length : Int):=fun g=>h (.inr (.inr (.inr (by omega))))
 have hf:=fun c a=>F_ref c a
 unfold stc
 dsimp only
 refine fi9.op ?_
 (refine Sg.h ?_;try repeat' ((with_reducible first|refine brA ?_|refine brE fun _=>?_|refine spl ⟨?_,?_⟩<;>intro _)<;>((try simp -implicitDefEqProofs(disch:=first|assumption|(try simp only[lens]);omega -splitDisjunctions) [h1,h2,h3,h4]))))
 refine W_of fun Q hQ=>?_
 have main : ∀ k i,i + k = F.length → thenF n P F.length (funsF n (F.take i) (F.drop i) i) = R → Q [(1,.ptr 0 0 0),(2,.ptr 1 0 0),(3,.int .i64 (i : Int))] [.rows 3 [[.int .i64 n,.list (F.map fnRow),.list (P.map pdRow)]],.rows 2 [[.int .i64 0,.int .i64 0]]]:=by
  intro k
  induction k with
  | zero=>
   intro i hi hR
   obtain rfl : i = F.length:=by omega
   rw [List.drop_length,funsF,thenF,if_neg (by decide)] at hR
   apply hQ
   clear hQ
   (refine Sg.h ?_;try repeat' ((with_reducible first|refine brA ?_|refine brE fun _=>?_|refine spl ⟨?_,?_⟩<;>intro _)<;>((try simp -implicitDefEqProofs(disch:=first|assumption|(try simp only[lens]);omega -splitDisjunctions)))))
   refine W_of fun Q hQ=>?_
   have main : ∀ k i,i + k = P.length → predsF n (P.take i) (P.drop i) (F.length + i) = R → Q [(1,.ptr 0 0 0),(2,.ptr 1 0 0),(8,.int .i64 (i : Int))] [.rows 3 [[.int .i64 n,.list (F.map fnRow),.list (P.map pdRow)]],.rows 2 [[.int .i64 0,.int .i64 0]]]:=by
    intro k
    induction k with
    | zero=>
     intro i hi hR
     rw [List.drop_of_length_le (by omega),predsF] at hR
     subst hR
     obtain rfl : i = P.length:=by omega
     apply hQ
     clear hQ
     (refine Sg.h ?_;try repeat' ((with_reducible first|refine brA ?_|refine brE fun _=>?_|refine spl ⟨?_,?_⟩<;>intro _)<;>((try simp -implicitDefEqProofs(disch:=first|assumption|(try simp only[lens]);omega -splitDisjunctions)))))
    | succ k ih=>
     intro i hi hR
     have hil : i < P.length:=by omega
     have ih:=ih (i + 1) (by omega)
     rw [List.drop_eq_getElem_cons hil,predsF] at hR
     rw [take_snocM hil,← Nat.add_assoc] at ih
     have hbg:=IsBig_ref P[i].name
     generalize hx : P[i] = f at *
     have hi' : (i : Int) < (P.length : Int):=by omega
     obtain ⟨b0,hb0⟩ : ∃ b0,(!isBigB f.name) = b0:=⟨_,rfl⟩
     obtain ⟨d,hd⟩ : ∃ d,(b0 || (P.take i).any fun g=>decide (g.name = f.name)) = d:=⟨_,rfl⟩
     have hbig : isBigB f.name = !b0:=by rw [← hb0,Bool.not_not]
     rw [hbig] at hbg
     have hif : (isBigB f.name = false ∨ ((P.take i).any fun g=>decide (g.name = f.name)) = true) ↔ d = true:=by
      rw [← hd,hbig];cases b0 <;> simp
     apply hQ
     clear hQ
     (refine Sg.h ?_;try repeat' ((first|(with_reducible first|refine brA ?_|refine brE fun _=>?_|refine spl ⟨?_,?_⟩<;>intro _)|refine clo hbg ?_)<;>((try simp -implicitDefEqProofs(disch:=first|assumption|(try simp only[lens]);omega -splitDisjunctions) [hi',hil,hx]))))
     refine W_of fun Q2 hQ2=>?_
     have main2 : ∀ r j b,j + r = i → (b || ((P.take i).drop j).any fun g=>decide (g.name = f.name)) = d → Q2 [(1,.ptr 0 0 0),(2,.ptr 1 0 0),(8,.int .i64 (i : Int)),(9,.ptr 2 0 0),(10,.int .i64 ((F.length : Int) + (i : Int))),(11,.bool b),(12,.int .i64 (j : Int))] [.rows 3 [[.int .i64 n,.list (F.map fnRow),.list (P.map pdRow)]],.rows 2 [[.int .i64 0,.int .i64 0]],.rows 3 [pdRow f]]:=by
      intro r
      induction r with
      | zero=>
       intro j b hj hd
       obtain rfl : i = j:=by omega
       rw [List.drop_of_length_le (by rw [List.length_take];omega),List.any_nil,Bool.or_false] at hd
       subst hd
       apply hQ2
       clear hQ2
       cases b with
       | true=>
        rw [if_pos (hif.2 rfl)] at hR
        have hRe : R = (8,(F.length : Int) + (i : Int)):=by rw [← hR,Int.natCast_add]
        subst hRe
        have hfc:=hf 8 ((F.length : Int) + (i : Int))
        clear ih
        (refine Sg.h ?_;try repeat' ((first|(with_reducible first|refine brA ?_|refine brE fun _=>?_|refine spl ⟨?_,?_⟩<;>intro _)|refine clo hfc ?_)<;>((try simp -implicitDefEqProofs(disch:=first|assumption|(try simp only[lens]);omega -splitDisjunctions)))))
       | false=>
        rw [if_neg (fun g=>Bool.noConfusion (hif.1 g))] at hR
        by_cases ha : f.ar < 0
        ·have ht : bitF n f = 3 := by unfold bitF; rw [if_pos (.inl ha)]
         rw [ht,if_pos (by decide)] at hR
         have hRe : R = (3,(F.length : Int) + (i : Int)):=by rw [← hR,Int.natCast_add]
         subst hRe
         have hfc:=hf 3 ((F.length : Int) + (i : Int))
         clear ih
         (refine Sg.h ?_;try repeat' ((first|(with_reducible first|refine brA ?_|refine brE fun _=>?_|refine spl ⟨?_,?_⟩<;>intro _)|refine clo hfc ?_)<;>((try simp -implicitDefEqProofs(disch:=first|assumption|(try simp only[lens]);omega -splitDisjunctions) [ha]))))
        by_cases ha3 : 3 < f.ar
        ·have ht : bitF n f = 3 := by unfold bitF; rw [if_pos (.inr ha3)]
         rw [ht,if_pos (by decide)] at hR
         have hRe : R = (3,(F.length : Int) + (i : Int)):=by rw [← hR,Int.natCast_add]
         subst hRe
         have hfc:=hf 3 ((F.length : Int) + (i : Int))
         clear ih
         (refine Sg.h ?_;try repeat' ((first|(with_reducible first|refine brA ?_|refine brE fun _=>?_|refine spl ⟨?_,?_⟩<;>intro _)|refine clo hfc ?_)<;>((try simp -implicitDefEqProofs(disch:=first|assumption|(try simp only[lens]);omega -splitDisjunctions) [ha,ha3]))))
        obtain ⟨a,hau,hale⟩ : ∃ a : Nat,f.ar = (a : Int) ∧ a ≤ 3:=⟨f.ar.toNat,by omega,by omega⟩
        have hpw:=powerOf_ref n a (by omega) (by omega) (by omega)
        have hpb:=pow_le8 (n:=n) (by omega) (by omega) a (by omega)
        rw [hau] at ha ha3
        by_cases hs : (f.bits.length : Int) = n ^ a
        rotate_left
        ·have ht : bitF n f = 9 := by unfold bitF; rw [if_neg (by omega),if_pos (by rw [hau,Int.toNat_natCast]; exact hs)]
         rw [ht,if_pos (by decide)] at hR
         have hRe : R = (9,(F.length : Int) + (i : Int)):=by rw [← hR,Int.natCast_add]
         subst hRe
         have hfc:=hf 9 ((F.length : Int) + (i : Int))
         clear ih
         generalize n ^ a = q at *
         (refine Sg.h ?_;try repeat' ((first|(with_reducible first|refine brA ?_|refine brE fun _=>?_|refine spl ⟨?_,?_⟩<;>intro _)|refine clo hpw ?_|refine clo hfc ?_)<;>((try simp -implicitDefEqProofs(disch:=first|assumption|(try simp only[lens]);omega -splitDisjunctions) [ha,ha3,hau,hs]))))
        have ht : bitF n f = 0:=by unfold bitF;rw [if_neg (by omega),if_neg (by rw [hau,Int.toNat_natCast];exact fun g=>g hs)]
        rw [ht,if_neg (by decide)] at hR
        have ih:=ih hR
        generalize n ^ a = q at *
        (refine Sg.h ?_;try repeat' ((first|(with_reducible first|refine brA ?_|refine brE fun _=>?_|refine spl ⟨?_,?_⟩<;>intro _)|refine clo hpw ?_)<;>((try simp -implicitDefEqProofs(disch:=first|assumption|(try simp only[lens]);omega -splitDisjunctions) [ha,ha3,hau,hs]))))
        all_goals first|exact ih|(refine at2 ih ?_ ?_<;>simp;done)|(exfalso;first|omega|(simp_all;done)|(simp_all;omega))
      | succ r ih2=>
       intro j b hj hd
       have hjl : j < P.length:=by omega
       have hjt : j < (P.take i).length:=by rw [List.length_take];omega
       rw [List.drop_eq_getElem_cons hjt,List.any_cons,List.getElem_take] at hd
       have ih2:=fun b=>ih2 (j + 1) b (by omega)
       have hj' : (j : Int) < (i : Int):=by omega
       generalize hy : P[j] = g at *
       clear ih hif
       apply hQ2
       clear hQ2
       cases b with
       | true=>
        have ih2:=ih2 true (by simpa using hd)
        (refine Sg.h ?_;try repeat' ((with_reducible first|refine brA ?_|refine brE fun _=>?_|refine spl ⟨?_,?_⟩<;>intro _)<;>((try simp -implicitDefEqProofs(disch:=first|assumption|(try simp only[lens]);omega -splitDisjunctions) [hj',hjl,hy]))))
        all_goals first|exact ih2|(refine at2 ih2 ?_ ?_<;>simp;done)|(exfalso;first|omega|(simp_all;done)|(simp_all;omega))
       | false=>
        by_cases hg : g.name = f.name
        ·have ih2 := ih2 true (by simpa [hg] using hd)
         (refine Sg.h ?_;try repeat' ((with_reducible first|refine brA ?_|refine brE fun _=>?_|refine spl ⟨?_,?_⟩<;>intro _)<;>((try simp -implicitDefEqProofs(disch:=first|assumption|(try simp only[lens]);omega -splitDisjunctions) [hj',hjl,hy,hg]))))
         all_goals first|exact ih2|(refine at2 ih2 ?_ ?_<;>simp;done)|(exfalso;first|omega|(simp_all;done)|(simp_all;omega))
        ·have ih2 := ih2 false (by simpa [hg] using hd)
         (refine Sg.h ?_;try repeat' ((with_reducible first|refine brA ?_|refine brE fun _=>?_|refine spl ⟨?_,?_⟩<;>intro _)<;>((try simp -implicitDefEqProofs(disch:=first|assumption|(try simp only[lens]);omega -splitDisjunctions) [hj',hjl,hy,hg]))))
         all_goals first|exact ih2|(refine at2 ih2 ?_ ?_<;>simp;done)|(exfalso;first|omega|(simp_all;done)|(simp_all;omega))
     all_goals first|exact main2 i 0 b0 (Nat.zero_add _) hd|(refine at2 main2 i 0 b0 (Nat.zero_add _) hd ?_ ?_<;>simp;done)|(exfalso;first|omega|(simp_all;done)|(simp_all;omega))
   all_goals first|exact main P.length 0 (Nat.zero_add _) hR|(refine at2 main P.length 0 (Nat.zero_add _) hR ?_ ?_<;>simp;done)|(exfalso;first|omega|(simp_all;done)|(simp_all;omega))
  | succ k ih=>
   intro i hi hR
   have hil : i < F.length:=by omega
   have ih:=ih (i + 1) (by omega)
   rw [List.drop_eq_getElem_cons hil,funsF] at hR
   rw [take_snocM hil] at ih
   have hbg:=IsBig_ref F[i].name
   generalize hx : F[i] = f at *
   have hi' : (i : Int) < (F.length : Int):=by omega
   obtain ⟨b0,hb0⟩ : ∃ b0,(!isBigB f.name) = b0:=⟨_,rfl⟩
   obtain ⟨d,hd⟩ : ∃ d,(b0 || (F.take i).any fun g=>decide (g.name = f.name)) = d:=⟨_,rfl⟩
   have hbig : isBigB f.name = !b0:=by rw [← hb0,Bool.not_not]
   rw [hbig] at hbg
   have hif : (isBigB f.name = false ∨ ((F.take i).any fun g=>decide (g.name = f.name)) = true) ↔ d = true:=by
    rw [← hd,hbig];cases b0 <;> simp
   apply hQ
   clear hQ
   (refine Sg.h ?_;try repeat' ((first|(with_reducible first|refine brA ?_|refine brE fun _=>?_|refine spl ⟨?_,?_⟩<;>intro _)|refine clo hbg ?_)<;>((try simp -implicitDefEqProofs(disch:=first|assumption|(try simp only[lens]);omega -splitDisjunctions) [hi',hil,hx]))))
   refine W_of fun Q2 hQ2=>?_
   have main2 : ∀ r j b,j + r = i → (b || ((F.take i).drop j).any fun g=>decide (g.name = f.name)) = d → Q2 [(1,.ptr 0 0 0),(2,.ptr 1 0 0),(3,.int .i64 (i : Int)),(4,.ptr 2 0 0),(5,.bool b),(6,.int .i64 (j : Int))] [.rows 3 [[.int .i64 n,.list (F.map fnRow),.list (P.map pdRow)]],.rows 2 [[.int .i64 0,.int .i64 0]],.rows 3 [fnRow f]]:=by
    intro r
    induction r with
    | zero=>
     intro j b hj hd
     obtain rfl : i = j:=by omega
     rw [List.drop_of_length_le (by rw [List.length_take];omega),List.any_nil,Bool.or_false] at hd
     subst hd
     apply hQ2
     clear hQ2
     cases b with
     | true=>
      rw [if_pos (hif.2 rfl)] at hR
      have hRe : R = (8,(i : Int)):=by rw [← hR];rfl
      subst hRe
      have hfc:=hf 8 ((i : Int))
      clear ih
      (refine Sg.h ?_;try repeat' ((first|(with_reducible first|refine brA ?_|refine brE fun _=>?_|refine spl ⟨?_,?_⟩<;>intro _)|refine clo hfc ?_)<;>((try simp -implicitDefEqProofs(disch:=first|assumption|(try simp only[lens]);omega -splitDisjunctions)))))
     | false=>
      rw [if_neg (fun g=>Bool.noConfusion (hif.1 g))] at hR
      by_cases ha : f.ar < 0
      ·have ht : tabF n f = 3 := by unfold tabF; rw [if_pos (.inl ha)]
       rw [ht,if_pos (by decide)] at hR
       have hRe : R = (3,(i : Int)):=by rw [← hR];rfl
       subst hRe
       have hfc:=hf 3 ((i : Int))
       clear ih
       (refine Sg.h ?_;try repeat' ((first|(with_reducible first|refine brA ?_|refine brE fun _=>?_|refine spl ⟨?_,?_⟩<;>intro _)|refine clo hfc ?_)<;>((try simp -implicitDefEqProofs(disch:=first|assumption|(try simp only[lens]);omega -splitDisjunctions) [ha]))))
      by_cases ha3 : 3 < f.ar
      ·have ht : tabF n f = 3 := by unfold tabF; rw [if_pos (.inr ha3)]
       rw [ht,if_pos (by decide)] at hR
       have hRe : R = (3,(i : Int)):=by rw [← hR];rfl
       subst hRe
       have hfc:=hf 3 ((i : Int))
       clear ih
       (refine Sg.h ?_;try repeat' ((first|(with_reducible first|refine brA ?_|refine brE fun _=>?_|refine spl ⟨?_,?_⟩<;>intro _)|refine clo hfc ?_)<;>((try simp -implicitDefEqProofs(disch:=first|assumption|(try simp only[lens]);omega -splitDisjunctions) [ha,ha3]))))
      obtain ⟨a,hau,hale⟩ : ∃ a : Nat,f.ar = (a : Int) ∧ a ≤ 3:=⟨f.ar.toNat,by omega,by omega⟩
      have hpw:=powerOf_ref n a (by omega) (by omega) (by omega)
      have hpb:=pow_le8 (n:=n) (by omega) (by omega) a (by omega)
      rw [hau] at ha ha3
      by_cases hs : (f.tab.length : Int) = n ^ a
      rotate_left
      ·have ht : tabF n f = 9 := by unfold tabF; rw [if_neg (by omega),if_pos (by rw [hau,Int.toNat_natCast]; exact hs)]
       rw [ht,if_pos (by decide)] at hR
       have hRe : R = (9,(i : Int)):=by rw [← hR];rfl
       subst hRe
       have hfc:=hf 9 ((i : Int))
       clear ih
       generalize n ^ a = q at *
       (refine Sg.h ?_;try repeat' ((first|(with_reducible first|refine brA ?_|refine brE fun _=>?_|refine spl ⟨?_,?_⟩<;>intro _)|refine clo hpw ?_|refine clo hfc ?_)<;>((try simp -implicitDefEqProofs(disch:=first|assumption|(try simp only[lens]);omega -splitDisjunctions) [ha,ha3,hau,hs]))))
      have ht : tabF n f = if f.tab.any (fun x=>decide (x < 0 ∨ n ≤ x)) = true then 5 else 0:=by unfold tabF;rw [if_neg (by omega),if_neg (by rw [hau,Int.toNat_natCast];exact fun g=>g hs)]
      rw [ht] at hR
      generalize n ^ a = q at *
      (refine Sg.h ?_;try repeat' ((first|(with_reducible first|refine brA ?_|refine brE fun _=>?_|refine spl ⟨?_,?_⟩<;>intro _)|refine clo hpw ?_)<;>((try simp -implicitDefEqProofs(disch:=first|assumption|(try simp only[lens]);omega -splitDisjunctions) [ha,ha3,hau,hs]))))
      refine W_of fun Q4 hQ4=>?_
      obtain ⟨c,hc⟩ : ∃ c,(f.tab.any fun x=>decide (x < 0 ∨ n ≤ x)) = c:=⟨_,rfl⟩
      rw [hc] at hR ht
      have main4 : ∀ r j,j + r = f.tab.length → ((f.tab.drop j).any fun x=>decide (x < 0 ∨ n ≤ x)) = c → Q4 [(1,.ptr 0 0 0),(2,.ptr 1 0 0),(3,.int .i64 (i : Int)),(4,.ptr 2 0 0),(7,.int .i64 (j : Int))] [.rows 3 [[.int .i64 n,.list (F.map fnRow),.list (P.map pdRow)]],.rows 2 [[.int .i64 0,.int .i64 0]],.rows 3 [fnRow f]]:=by
       intro r
       induction r with
       | zero=>
        intro j hj hc
        rw [List.drop_of_length_le (by omega),List.any_nil] at hc
        subst hc
        rw [if_neg (by simp)] at hR
        have ih:=ih hR
        obtain rfl : j = f.tab.length:=by omega
        apply hQ4
        clear hQ4
        (refine Sg.h ?_;try repeat' ((with_reducible first|refine brA ?_|refine brE fun _=>?_|refine spl ⟨?_,?_⟩<;>intro _)<;>((try simp -implicitDefEqProofs(disch:=first|assumption|(try simp only[lens]);omega -splitDisjunctions)))))
        all_goals first|exact ih|(refine at2 ih ?_ ?_<;>simp;done)|(exfalso;first|omega|(simp_all;done)|(simp_all;omega))
       | succ r ih4=>
        intro j hj hc
        have hjl : j < f.tab.length:=by omega
        rw [List.drop_eq_getElem_cons hjl,List.any_cons] at hc
        have ih4:=ih4 (j + 1) (by omega)
        have hj' : (j : Int) < (f.tab.length : Int):=by omega
        generalize hy : f.tab[j] = y at *
        apply hQ4
        clear hQ4
        by_cases hy0 : y < 0
        ·rw [decide_eq_true (.inl hy0),Bool.true_or] at hc
         subst hc
         rw [if_pos (by simp),if_pos rfl] at hR
         have hRe : R = (5,(i : Int)):=by rw [← hR];rfl
         subst hRe
         have hfc:=hf 5 (i : Int)
         clear ih ih4
         (refine Sg.h ?_;try repeat' ((first|(with_reducible first|refine brA ?_|refine brE fun _=>?_|refine spl ⟨?_,?_⟩<;>intro _)|refine clo hfc ?_)<;>((try simp -implicitDefEqProofs(disch:=first|assumption|(try simp only[lens]);omega -splitDisjunctions) [hj',hjl,hy,hy0]))))
        by_cases hyn : n ≤ y
        ·rw [decide_eq_true (.inr hyn),Bool.true_or] at hc
         subst hc
         rw [if_pos (by simp),if_pos rfl] at hR
         have hRe : R = (5,(i : Int)):=by rw [← hR];rfl
         subst hRe
         have hfc:=hf 5 (i : Int)
         clear ih ih4
         (refine Sg.h ?_;try repeat' ((first|(with_reducible first|refine brA ?_|refine brE fun _=>?_|refine spl ⟨?_,?_⟩<;>intro _)|refine clo hfc ?_)<;>((try simp -implicitDefEqProofs(disch:=first|assumption|(try simp only[lens]);omega -splitDisjunctions) [hj',hjl,hy,hy0,hyn]))))
        rw [decide_eq_false (fun g=>g.elim hy0 hyn),Bool.false_or] at hc
        have ih4:=ih4 hc
        clear ih
        (refine Sg.h ?_;try repeat' ((with_reducible first|refine brA ?_|refine brE fun _=>?_|refine spl ⟨?_,?_⟩<;>intro _)<;>((try simp -implicitDefEqProofs(disch:=first|assumption|(try simp only[lens]);omega -splitDisjunctions) [hj',hjl,hy,hy0,hyn]))))
        all_goals first|exact ih4|(refine at2 ih4 ?_ ?_<;>simp;done)|(exfalso;first|omega|(simp_all;done)|(simp_all;omega))
      all_goals first|exact main4 f.tab.length 0 (Nat.zero_add _) hc|(refine at2 main4 f.tab.length 0 (Nat.zero_add _) hc ?_ ?_<;>simp;done)|(exfalso;first|omega|(simp_all;done)|(simp_all;omega))
    | succ r ih2=>
     intro j b hj hd
     have hjl : j < F.length:=by omega
     have hjt : j < (F.take i).length:=by rw [List.length_take];omega
     rw [List.drop_eq_getElem_cons hjt,List.any_cons,List.getElem_take] at hd
     have ih2:=fun b=>ih2 (j + 1) b (by omega)
     have hj' : (j : Int) < (i : Int):=by omega
     generalize hy : F[j] = g at *
     clear ih hif
     apply hQ2
     clear hQ2
     cases b with
     | true=>
      have ih2:=ih2 true (by simpa using hd)
      (refine Sg.h ?_;try repeat' ((with_reducible first|refine brA ?_|refine brE fun _=>?_|refine spl ⟨?_,?_⟩<;>intro _)<;>((try simp -implicitDefEqProofs(disch:=first|assumption|(try simp only[lens]);omega -splitDisjunctions) [hj',hjl,hy]))))
      all_goals first|exact ih2|(refine at2 ih2 ?_ ?_<;>simp;done)|(exfalso;first|omega|(simp_all;done)|(simp_all;omega))
     | false=>
      by_cases hg : g.name = f.name
      ·have ih2 := ih2 true (by simpa [hg] using hd)
       (refine Sg.h ?_;try repeat' ((with_reducible first|refine brA ?_|refine brE fun _=>?_|refine spl ⟨?_,?_⟩<;>intro _)<;>((try simp -implicitDefEqProofs(disch:=first|assumption|(try simp only[lens]);omega -splitDisjunctions) [hj',hjl,hy,hg]))))
       all_goals first|exact ih2|(refine at2 ih2 ?_ ?_<;>simp;done)|(exfalso;first|omega|(simp_all;done)|(simp_all;omega))
      ·have ih2 := ih2 false (by simpa [hg] using hd)
       (refine Sg.h ?_;try repeat' ((with_reducible first|refine brA ?_|refine brE fun _=>?_|refine spl ⟨?_,?_⟩<;>intro _)<;>((try simp -implicitDefEqProofs(disch:=first|assumption|(try simp only[lens]);omega -splitDisjunctions) [hj',hjl,hy,hg]))))
       all_goals first|exact ih2|(refine at2 ih2 ?_ ?_<;>simp;done)|(exfalso;first|omega|(simp_all;done)|(simp_all;omega))
   all_goals first|exact main2 i 0 b0 (Nat.zero_add _) hd|(refine at2 main2 i 0 b0 (Nat.zero_add _) hd ?_ ?_<;>simp;done)|(exfalso;first|omega|(simp_all;done)|(simp_all;omega))
 all_goals first|exact main F.length 0 (Nat.zero_add _) hR|(refine at2 main F.length 0 (Nat.zero_add _) hR ?_ ?_<;>simp;done)|(exfalso;first|omega|(simp_all;done)|(simp_all;omega))
end Go.Proofs.Ytbimioonhfhflaa
namespace Go.Proofs.Ytbimioonhfhflaa
open Go Go.Pv
def x7 : XC:=.seq (.reg [⟨some 1,.box 31 (.tmp 0),none⟩,⟨some 2,.assign (.const (.bool false)),none⟩]) (.seq (.reg [⟨some 3,.load 31 (.tmp 1),none⟩,⟨some 4,.buildSlice 26 1 #[(0,.tmp 3)],none⟩,⟨some 5,.call ⟨.value (.func 19),#[.tmp 4,.const (.int .i64 0)],#[26,3]⟩,none⟩,⟨some 2,.assign (.tmp 5),none⟩]) .ret)
@[simp] theorem x7_s {C e s K} : type_of% (@X_at C e s K _ _ x7.eq_1):=X_at x7.eq_1
def an7 : Ann:=⟨[],[],[]⟩
theorem fi7 : FI Try.prog 7 (cxA an7) x7 [.tmp 2] Try.f7:=fiA Try.func7 mixed
theorem VastWord_ref (w : Wd) : CallOK Try.prog 7 [.agg (wrd w)] [] (.bool (vwF (.mk ⟨#[]⟩ [w]) 0)) []:=by
 have hc:=vastWords_ref (.mk ⟨#[]⟩ [w]) 0 (by decide)
 refine fi7.op ?_
 (refine Sg.h ?_;try repeat' ((with_reducible first|refine brA ?_|refine brE fun _=>?_|refine spl ⟨?_,?_⟩<;>intro _)<;>((try simp -implicitDefEqProofs);(try simp -implicitDefEqProofs(disch:=first|assumption|(try simp only[lens]);omega -splitDisjunctions)))))
 refine CL.see hc (by simp) (flat_bool _) ?_
 (refine Sg.h ?_;try repeat' ((with_reducible first|refine brA ?_|refine brE fun _=>?_|refine spl ⟨?_,?_⟩<;>intro _)<;>((try simp -implicitDefEqProofs);(try simp -implicitDefEqProofs(disch:=first|assumption|(try simp only[lens]);omega -splitDisjunctions)))))
end Go.Proofs.Ytbimioonhfhflaa
