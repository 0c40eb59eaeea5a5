import Derived.Test.YtbimioonhfhflaaAFbG
import Derived.Test.YtbimioonhfhflaaAMnM
set_option linter.unusedVariables false
set_option linter.unusedSimpArgs false
set_option maxRecDepth 100000
set_option maxHeartbeats 4000000
namespace Go.Proofs.Ytbimioonhfhflaa
open Go Go.Pv
def lastF (l : List ByteArray) (n : ByteArray) : Nat → Int
 | 0=>-1
 | i + 1=>if l.getD i ⟨#[]⟩ = n then (i : Int) else lastF l n i
def x77_L0 : XC:=.seq (.seq (.reg [⟨some 9,.move (.tmp 5),none⟩,⟨some 10,.binOp .geq 3 (.tmp 9) (.const (.int .i64 0)) 3,none⟩]) (.cond (.tmp 10) .skip (.exit 0))) (.seq (.block 1 (.seq (.reg [⟨some 13,.move (.tmp 0),none⟩,⟨some 14,.move (.tmp 5),none⟩,⟨some 15,.indexAddr 32 (.tmp 13) (.tmp 14),none⟩,⟨some 16,.load 9 (.tmp 15),none⟩,⟨some 17,.move (.tmp 1),none⟩,⟨some 18,.binOp .eql 9 (.tmp 16) (.tmp 17) 9,none⟩]) (.cond (.tmp 18) (.seq (.reg [⟨some 19,.move (.tmp 5),none⟩,⟨some 4,.assign (.tmp 19),none⟩]) .ret) .skip))) (.reg [⟨some 11,.move (.tmp 5),none⟩,⟨some 12,.binOp .sub 3 (.tmp 11) (.const (.int .i64 1)) 3,none⟩,⟨some 5,.assign (.tmp 12),none⟩]))
def x77 : XC:=.seq (.reg [⟨some 4,.assign (.const (.int .i64 0)),none⟩]) (.seq (.seq (.reg [⟨some 6,.move (.tmp 0),none⟩,⟨some 7,.call ⟨.builtin .len,#[.tmp 6],#[32]⟩,none⟩,⟨some 8,.binOp .sub 3 (.tmp 7) (.const (.int .i64 1)) 3,none⟩,⟨some 5,.assign (.tmp 8),none⟩]) (.bloop 0 x77_L0)) (.seq (.reg [⟨some 4,.assign (.const (.int .i64 (-1))),none⟩]) .ret))
@[simp] theorem x77_s {C e s K} : type_of% (@X_at C e s K _ _ x77_L0.eq_1) ∧ type_of% (@X_at C e s K _ _ x77.eq_1):=⟨X_at x77_L0.eq_1,X_at x77.eq_1⟩
def an77 : Ann:=⟨[],[(0,[],[0,1,5],[4])],[]⟩
@[simp] theorem an77_a : an77.loopOf 0 = ([],[0,1,5],[4]):=rfl
theorem fi77 : FI Try.prog 77 (cxA an77) x77 [.tmp 4] Try.f77:=fiA Try.func77 mixed
theorem last_first (l : List ByteArray) (hl : l.length ≤ 1000000) (n : ByteArray) : CallOK Try.prog 77 [.list (l.map strRow),.str n] [] (.int .i64 (lastF l n l.length)) []:=by
 refine fi77.op ?_
 generalize hR : lastF l n l.length = R
 (refine Sg.h ?_;try repeat' ((with_reducible first|refine brA ?_|refine brE fun _=>?_|refine spl ⟨?_,?_⟩<;>intro _)<;>((try simp -implicitDefEqProofs);(try simp -implicitDefEqProofs(disch:=first|assumption|(try simp only[lens]);omega -splitDisjunctions)))))
 refine W_of fun Q hQ=>?_
 have main : ∀ k,k ≤ l.length → lastF l n k = R → Q [(0,.list (l.map strRow)),(1,.str n),(5,.int .i64 ((k : Int) - 1))] []:=by
  intro k
  induction k with
  | zero=>
   intro _ hk
   obtain rfl : R = -1:=hk.symm
   apply hQ
   clear hQ
   (refine Sg.h ?_;try repeat' ((with_reducible first|refine brA ?_|refine brE fun _=>?_|refine spl ⟨?_,?_⟩<;>intro _)<;>((try simp -implicitDefEqProofs);(try simp -implicitDefEqProofs(disch:=first|assumption|(try simp only[lens]);omega -splitDisjunctions)))))
  | succ k ih=>
   intro hkl hk
   have hil : k < l.length:=by omega
   have ih:=ih (by omega)
   rw [lastF,List.getD_eq_getElem?_getD,List.getElem?_eq_getElem hil,Option.getD_some] at hk
   have e1 : ((k + 1 : Nat) : Int) - 1 = (k : Int):=by omega
   rw [e1]
   have hi0 : 0 ≤ (k : Int):=by omega
   have hi' : (k : Int) < (l.length : Int):=by omega
   generalize hx : l[k] = x at *
   apply hQ
   clear hQ
   by_cases hxn : x = n
   ·rw [if_pos hxn] at hk
    subst hk
    (refine Sg.h ?_;try repeat' ((with_reducible first|refine brA ?_|refine brE fun _=>?_|refine spl ⟨?_,?_⟩<;>intro _)<;>((try simp -implicitDefEqProofs [hi0,hi',hil,hx,hxn]);(try simp -implicitDefEqProofs(disch:=first|assumption|(try simp only[lens]);omega -splitDisjunctions) [hi0,hi',hil,hx,hxn]))))
   ·rw [if_neg hxn] at hk
    have ih:=ih hk
    (refine Sg.h ?_;try repeat' ((with_reducible first|refine brA ?_|refine brE fun _=>?_|refine spl ⟨?_,?_⟩<;>intro _)<;>((try simp -implicitDefEqProofs [hi0,hi',hil,hx,hxn]);(try simp -implicitDefEqProofs(disch:=first|assumption|(try simp only[lens]);omega -splitDisjunctions) [hi0,hi',hil,hx,hxn]))))
    all_goals first|exact ih|(refine at2 ih ?_ ?_<;>simp;done)|(exfalso;first|omega|(simp_all;done)|(simp_all;omega))
 all_goals first|exact main l.length (Nat.le_refl _) hR|(refine at2 main l.length (Nat.le_refl _) hR ?_ ?_<;>simp;done)|(exfalso;first|omega|(simp_all;done)|(simp_all;omega))
def x61_L0 : XC:=.seq (.reg [⟨some 45,.binOp .lss 3 (.tmp 44) (.tmp 43) 3,none⟩]) (.seq (.cond (.tmp 45) .skip (.exit 0)) (.seq (.block 1 (.seq (.reg [⟨some 46,.move (.tmp 44),none⟩,⟨some 11,.assign (.tmp 46),none⟩]) (.seq (.drawn 9 [⟨some 47,.fieldAddr 31 (.tmp 4) 1,none⟩,⟨some 48,.load 26 (.tmp 47),none⟩,⟨some 49,.move (.tmp 11),none⟩,⟨some 50,.indexAddr 26 (.tmp 48) (.tmp 49),none⟩,⟨some 51,.load 31 (.tmp 50),none⟩,⟨some 52,.fieldAddr 31 (.tmp 5) 1,none⟩,⟨some 53,.load 26 (.tmp 52),none⟩,⟨some 54,.move (.tmp 11),none⟩,⟨some 55,.indexAddr 26 (.tmp 53) (.tmp 54),none⟩,⟨some 56,.load 31 (.tmp 55),none⟩,⟨some 57,.move (.tmp 2),none⟩,⟨some 58,.move (.tmp 3),none⟩,⟨some 59,.call ⟨.value (.func 61),#[.tmp 51,.tmp 56,.tmp 57,.tmp 58],#[31,31,32,32]⟩,none⟩,⟨some 60,.unOp .not 4 (.tmp 59),none⟩]) (.cond (.tmp 60) (.seq (.reg [⟨some 8,.assign (.const (.bool false)),none⟩]) .ret) .skip)))) (.reg [⟨some 61,.binOp .add 3 (.tmp 44) (.const (.int .i64 1)) 3,none⟩,⟨some 44,.move (.tmp 61),none⟩])))
def x61 : XC:=.seq (.reg [⟨some 4,.box 31 (.tmp 0),none⟩,⟨some 5,.box 31 (.tmp 1),none⟩,⟨some 8,.assign (.const (.bool false)),none⟩]) (.seq (.seq (.reg [⟨some 12,.fieldAddr 31 (.tmp 4) 1,none⟩,⟨some 13,.load 26 (.tmp 12),none⟩,⟨some 14,.call ⟨.builtin .len,#[.tmp 13],#[26]⟩,none⟩,⟨some 15,.fieldAddr 31 (.tmp 5) 1,none⟩,⟨some 16,.load 26 (.tmp 15),none⟩,⟨some 17,.call ⟨.builtin .len,#[.tmp 16],#[26]⟩,none⟩,⟨some 18,.binOp .neq 3 (.tmp 14) (.tmp 17) 3,none⟩]) (.cond (.tmp 18) (.seq (.reg [⟨some 8,.assign (.const (.bool false)),none⟩]) .ret) .skip)) (.seq (.drawn 3 [⟨some 19,.move (.tmp 2),none⟩,⟨some 20,.fieldAddr 31 (.tmp 4) 0,none⟩,⟨some 21,.load 9 (.tmp 20),none⟩,⟨some 22,.call ⟨.value (.func 77),#[.tmp 19,.tmp 21],#[32,9]⟩,none⟩,⟨some 23,.move (.tmp 3),none⟩,⟨some 24,.fieldAddr 31 (.tmp 5) 0,none⟩,⟨some 25,.load 9 (.tmp 24),none⟩,⟨some 26,.call ⟨.value (.func 77),#[.tmp 23,.tmp 25],#[32,9]⟩,none⟩,⟨some 9,.assign (.tmp 22),none⟩,⟨some 10,.assign (.tmp 26),none⟩]) (.seq (.seq (.reg [⟨some 27,.move (.tmp 9),none⟩,⟨some 28,.move (.tmp 10),none⟩,⟨some 29,.binOp .neq 3 (.tmp 27) (.tmp 28) 3,none⟩,⟨some 30,.move (.tmp 29),none⟩,⟨some 31,.move (.tmp 9),some (some 30,false)⟩,⟨some 32,.binOp .lss 3 (.tmp 31) (.const (.int .i64 0)) 3,some (some 30,false)⟩,⟨some 33,.move (.tmp 32),some (some 30,false)⟩,⟨some 34,.fieldAddr 31 (.tmp 4) 0,some (some 33,true)⟩,⟨some 35,.load 9 (.tmp 34),some (some 33,true)⟩,⟨some 36,.fieldAddr 31 (.tmp 5) 0,some (some 33,true)⟩,⟨some 37,.load 9 (.tmp 36),some (some 33,true)⟩,⟨some 38,.binOp .neq 9 (.tmp 35) (.tmp 37) 9,some (some 33,true)⟩,⟨some 39,.pick (.tmp 33) (.tmp 38) (.const (.bool false)),some (some 30,false)⟩,⟨some 40,.pick (.tmp 30) (.const (.bool true)) (.tmp 39),none⟩]) (.cond (.tmp 40) (.seq (.reg [⟨some 8,.assign (.const (.bool false)),none⟩]) .ret) .skip)) (.seq (.seq (.reg [⟨some 41,.fieldAddr 31 (.tmp 4) 1,none⟩,⟨some 42,.load 26 (.tmp 41),none⟩,⟨some 43,.call ⟨.builtin .len,#[.tmp 42],#[26]⟩,none⟩,⟨some 44,.move (.const (.int .i64 0)),none⟩]) (.bloop 0 x61_L0)) (.seq (.reg [⟨some 8,.assign (.const (.bool true)),none⟩]) .ret)))))
@[simp] theorem x61_s {C e s K} : type_of% (@X_at C e s K _ _ x61_L0.eq_1) ∧ type_of% (@X_at C e s K _ _ x61.eq_1):=⟨X_at x61_L0.eq_1,X_at x61.eq_1⟩
def an61 : Ann:=⟨[(3,.mix 7),(9,.mix 12)],[(0,[],[2,3,4,5,43,44],[8])],[]⟩
@[simp] theorem an61_a : an61.clsOf 3 = .mix 7 ∧ an61.clsOf 9 = .mix 12 ∧ an61.frzOf 3 = [] ∧ an61.frzOf 9 = [] ∧ an61.loopOf 0 = ([],[2,3,4,5,43,44],[8]):=⟨rfl,rfl,rfl,rfl,rfl⟩
theorem fi61 : FI Try.prog 61 (cxA an61) x61 [.tmp 8] Try.f61:=fiA Try.func61 mixed
theorem alikeWords_self (w : Wd) (L : List ByteArray) (hL : L.length ≤ 1000000) : CallOK Try.prog 61 [.agg (wrd w),.agg (wrd w),.list (L.map strRow),.list (L.map strRow)] [] (.bool true) []:=by
 induction w using Wd.ind with
 | h w ih=>
  have hw:=wrd_eq w
  have hc:=last_first L hL w.nm
  generalize lastF L w.nm L.length = q at *
  have key : w.args.length ≤ 9223372036854775807 → W (cxA an61 Try.prog 0) 0 x61_L0 (KS.seq ((XC.reg [⟨some 8,.assign (.const (.bool true)),none⟩]).seq .ret) (KS.fin [ResultVar.tmp 8] fun v1 s1=>deref s1 6 v1 = .bool true)) [(2,.list (L.map strRow)),(3,.list (L.map strRow)),(4,.ptr 0 0 0),(5,.ptr 1 0 0),(43,.int .i64 (w.args.length : Int)),(44,.int .i64 0)] [.rows 2 [wrd w],.rows 2 [wrd w]]:=by
   intro hlen
   refine W_of fun Q hQ=>?_
   have main : ∀ n i,i + n = w.args.length → Q [(2,.list (L.map strRow)),(3,.list (L.map strRow)),(4,.ptr 0 0 0),(5,.ptr 1 0 0),(43,.int .i64 (w.args.length : Int)),(44,.int .i64 (i : Int))] [.rows 2 [wrd w],.rows 2 [wrd w]]:=by
    intro n
    induction n with
    | zero=>
     intro i hi
     obtain rfl : i = w.args.length:=by omega
     apply hQ
     clear hQ
     (refine Sg.h ?_;try repeat' ((with_reducible first|refine brA ?_|refine brE fun _=>?_|refine spl ⟨?_,?_⟩<;>intro _)<;>((try simp -implicitDefEqProofs);(try simp -implicitDefEqProofs(disch:=first|assumption|(try simp only[lens]);omega -splitDisjunctions)))))
    | succ n ihn=>
     intro i hi
     have hil : i < w.args.length:=by omega
     have hi' : (i : Int) < (w.args.length : Int):=by omega
     have ihn:=ihn (i + 1) (by omega)
     have hc:=ih _ (List.getElem_mem hil)
     generalize hx : w.args[i] = x at *
     apply hQ
     clear hQ
     (refine Sg.h ?_;try repeat' ((first|(with_reducible first|refine brA ?_|refine brE fun _=>?_|refine spl ⟨?_,?_⟩<;>intro _)|refine clo hc ?_)<;>((try simp -implicitDefEqProofs [hi',hil,hx]);(try simp -implicitDefEqProofs(disch:=first|assumption|(try simp only[lens]);omega -splitDisjunctions) [hi',hil,hx]))))
     all_goals first|exact ihn|(refine at2 ihn ?_ ?_<;>simp;done)|(exfalso;first|omega|(simp_all;done)|(simp_all;omega))
   all_goals first|exact main w.args.length 0 (Nat.zero_add _)|(refine at2 main w.args.length 0 (Nat.zero_add _) ?_ ?_<;>simp;done)|(exfalso;first|omega|(simp_all;done)|(simp_all;omega))
  refine fi61.op ?_
  (refine Sg.h ?_;try repeat' ((first|(with_reducible first|refine brA ?_|refine brE fun _=>?_|refine spl ⟨?_,?_⟩<;>intro _)|refine clo hc ?_)<;>((try simp -implicitDefEqProofs);(try simp -implicitDefEqProofs(disch:=first|assumption|(try simp only[lens]);omega -splitDisjunctions)))))
  all_goals exact key (by assumption)
def x38_L2 : XC:=.seq (.reg [⟨some 90,.binOp .lss 3 (.tmp 89) (.tmp 88) 3,none⟩]) (.seq (.cond (.tmp 90) .skip (.exit 2)) (.seq (.block 3 (.seq (.reg [⟨some 91,.move (.tmp 89),none⟩,⟨some 11,.assign (.tmp 91),none⟩]) (.seq (.drawn 17 [⟨some 92,.fieldAddr 29 (.tmp 4) 3,none⟩,⟨some 93,.load 27 (.tmp 92),none⟩,⟨some 94,.move (.tmp 11),none⟩,⟨some 95,.indexAddr 27 (.tmp 93) (.tmp 94),none⟩,⟨some 96,.load 29 (.tmp 95),none⟩,⟨some 97,.fieldAddr 29 (.tmp 5) 3,none⟩,⟨some 98,.load 27 (.tmp 97),none⟩,⟨some 99,.move (.tmp 11),none⟩,⟨some 100,.indexAddr 27 (.tmp 98) (.tmp 99),none⟩,⟨some 101,.load 29 (.tmp 100),none⟩,⟨some 102,.move (.tmp 2),none⟩,⟨some 103,.move (.tmp 3),none⟩,⟨some 104,.call ⟨.value (.func 38),#[.tmp 96,.tmp 101,.tmp 102,.tmp 103],#[29,29,32,32]⟩,none⟩,⟨some 105,.unOp .not 4 (.tmp 104),none⟩]) (.cond (.tmp 105) (.seq (.reg [⟨some 8,.assign (.const (.bool false)),none⟩]) .ret) .skip)))) (.reg [⟨some 106,.binOp .add 3 (.tmp 89) (.const (.int .i64 1)) 3,none⟩,⟨some 89,.move (.tmp 106),none⟩])))
def x38_T1 : XC:=.seq (.seq (.reg [⟨some 73,.move (.tmp 9),none⟩]) (.cond (.tmp 73) (.drawn 13 [⟨some 74,.move (.tmp 2),none⟩,⟨some 75,.call ⟨.value (.func 55),#[.tmp 74],#[32]⟩,none⟩,⟨some 76,.fieldAddr 29 (.tmp 4) 1,none⟩,⟨some 77,.load 9 (.tmp 76),none⟩,⟨some 78,.buildSlice 32 1 #[(0,.tmp 77)],none⟩,⟨some 79,.call ⟨.builtin .append,#[.tmp 75,.tmp 78],#[32,32]⟩,none⟩,⟨some 80,.move (.tmp 3),none⟩,⟨some 81,.call ⟨.value (.func 55),#[.tmp 80],#[32]⟩,none⟩,⟨some 82,.fieldAddr 29 (.tmp 5) 1,none⟩,⟨some 83,.load 9 (.tmp 82),none⟩,⟨some 84,.buildSlice 32 1 #[(0,.tmp 83)],none⟩,⟨some 85,.call ⟨.builtin .append,#[.tmp 81,.tmp 84],#[32,32]⟩,none⟩,⟨some 2,.assign (.tmp 79),none⟩,⟨some 3,.assign (.tmp 85),none⟩]) .skip)) (.seq (.seq (.reg [⟨some 86,.fieldAddr 29 (.tmp 4) 3,none⟩,⟨some 87,.load 27 (.tmp 86),none⟩,⟨some 88,.call ⟨.builtin .len,#[.tmp 87],#[27]⟩,none⟩,⟨some 89,.move (.const (.int .i64 0)),none⟩]) (.bloop 2 x38_L2)) (.seq (.reg [⟨some 8,.assign (.const (.bool true)),none⟩]) .ret))
def x38_L0 : XC:=.seq (.reg [⟨some 56,.binOp .lss 3 (.tmp 55) (.tmp 54) 3,none⟩]) (.seq (.cond (.tmp 56) .skip (.exit 0)) (.seq (.block 1 (.seq (.reg [⟨some 57,.move (.tmp 55),none⟩,⟨some 10,.assign (.tmp 57),none⟩]) (.seq (.drawn 9 [⟨some 58,.fieldAddr 29 (.tmp 4) 2,none⟩,⟨some 59,.load 26 (.tmp 58),none⟩,⟨some 60,.move (.tmp 10),none⟩,⟨some 61,.indexAddr 26 (.tmp 59) (.tmp 60),none⟩,⟨some 62,.load 31 (.tmp 61),none⟩,⟨some 63,.fieldAddr 29 (.tmp 5) 2,none⟩,⟨some 64,.load 26 (.tmp 63),none⟩,⟨some 65,.move (.tmp 10),none⟩,⟨some 66,.indexAddr 26 (.tmp 64) (.tmp 65),none⟩,⟨some 67,.load 31 (.tmp 66),none⟩,⟨some 68,.move (.tmp 2),none⟩,⟨some 69,.move (.tmp 3),none⟩,⟨some 70,.call ⟨.value (.func 61),#[.tmp 62,.tmp 67,.tmp 68,.tmp 69],#[31,31,32,32]⟩,none⟩,⟨some 71,.unOp .not 4 (.tmp 70),none⟩]) (.cond (.tmp 71) (.seq (.reg [⟨some 8,.assign (.const (.bool false)),none⟩]) .ret) .skip)))) (.reg [⟨some 72,.binOp .add 3 (.tmp 55) (.const (.int .i64 1)) 3,none⟩,⟨some 55,.move (.tmp 72),none⟩])))
def x38 : XC:=.seq (.reg [⟨some 4,.box 29 (.tmp 0),none⟩,⟨some 5,.box 29 (.tmp 1),none⟩,⟨some 8,.assign (.const (.bool false)),none⟩]) (.seq (.seq (.reg [⟨some 12,.fieldAddr 29 (.tmp 4) 0,none⟩,⟨some 13,.load 3 (.tmp 12),none⟩,⟨some 14,.fieldAddr 29 (.tmp 5) 0,none⟩,⟨some 15,.load 3 (.tmp 14),none⟩,⟨some 16,.binOp .neq 3 (.tmp 13) (.tmp 15) 3,none⟩,⟨some 17,.move (.tmp 16),none⟩,⟨some 18,.fieldAddr 29 (.tmp 4) 2,some (some 17,false)⟩,⟨some 19,.load 26 (.tmp 18),some (some 17,false)⟩,⟨some 20,.call ⟨.builtin .len,#[.tmp 19],#[26]⟩,some (some 17,false)⟩,⟨some 21,.fieldAddr 29 (.tmp 5) 2,some (some 17,false)⟩,⟨some 22,.load 26 (.tmp 21),some (some 17,false)⟩,⟨some 23,.call ⟨.builtin .len,#[.tmp 22],#[26]⟩,some (some 17,false)⟩,⟨some 24,.binOp .neq 3 (.tmp 20) (.tmp 23) 3,some (some 17,false)⟩,⟨some 25,.pick (.tmp 17) (.const (.bool true)) (.tmp 24),none⟩,⟨some 26,.move (.tmp 25),none⟩,⟨some 27,.fieldAddr 29 (.tmp 4) 3,some (some 26,false)⟩,⟨some 28,.load 27 (.tmp 27),some (some 26,false)⟩,⟨some 29,.call ⟨.builtin .len,#[.tmp 28],#[27]⟩,some (some 26,false)⟩,⟨some 30,.fieldAddr 29 (.tmp 5) 3,some (some 26,false)⟩,⟨some 31,.load 27 (.tmp 30),some (some 26,false)⟩,⟨some 32,.call ⟨.builtin .len,#[.tmp 31],#[27]⟩,some (some 26,false)⟩,⟨some 33,.binOp .neq 3 (.tmp 29) (.tmp 32) 3,some (some 26,false)⟩,⟨some 34,.pick (.tmp 26) (.const (.bool true)) (.tmp 33),none⟩]) (.cond (.tmp 34) (.seq (.reg [⟨some 8,.assign (.const (.bool false)),none⟩]) .ret) .skip)) (.seq (.reg [⟨some 35,.fieldAddr 29 (.tmp 4) 0,none⟩,⟨some 36,.load 3 (.tmp 35),none⟩,⟨some 37,.binOp .eql 3 (.tmp 36) (.const (.int .i64 9)) 3,none⟩,⟨some 38,.move (.tmp 37),none⟩,⟨some 39,.fieldAddr 29 (.tmp 4) 0,some (some 38,false)⟩,⟨some 40,.load 3 (.tmp 39),some (some 38,false)⟩,⟨some 41,.binOp .eql 3 (.tmp 40) (.const (.int .i64 10)) 3,some (some 38,false)⟩,⟨some 42,.pick (.tmp 38) (.const (.bool true)) (.tmp 41),none⟩,⟨some 9,.assign (.tmp 42),none⟩]) (.seq (.seq (.reg [⟨some 43,.move (.tmp 9),none⟩,⟨some 44,.unOp .not 4 (.tmp 43),none⟩,⟨some 45,.move (.tmp 44),none⟩,⟨some 46,.fieldAddr 29 (.tmp 4) 1,some (some 45,true)⟩,⟨some 47,.load 9 (.tmp 46),some (some 45,true)⟩,⟨some 48,.fieldAddr 29 (.tmp 5) 1,some (some 45,true)⟩,⟨some 49,.load 9 (.tmp 48),some (some 45,true)⟩,⟨some 50,.binOp .neq 9 (.tmp 47) (.tmp 49) 9,some (some 45,true)⟩,⟨some 51,.pick (.tmp 45) (.tmp 50) (.const (.bool false)),none⟩]) (.cond (.tmp 51) (.seq (.reg [⟨some 8,.assign (.const (.bool false)),none⟩]) .ret) .skip)) (.seq (.seq (.reg [⟨some 52,.fieldAddr 29 (.tmp 4) 2,none⟩,⟨some 53,.load 26 (.tmp 52),none⟩,⟨some 54,.call ⟨.builtin .len,#[.tmp 53],#[26]⟩,none⟩,⟨some 55,.move (.const (.int .i64 0)),none⟩]) (.bloop 0 x38_L0)) (x38_T1)))))
@[simp] theorem x38_s {C e s K} : type_of% (@X_at C e s K _ _ x38_L2.eq_1) ∧ type_of% (@X_at C e s K _ _ x38_T1.eq_1) ∧ type_of% (@X_at C e s K _ _ x38_L0.eq_1) ∧ type_of% (@X_at C e s K _ _ x38.eq_1):=⟨X_at x38_L2.eq_1,X_at x38_T1.eq_1,X_at x38_L0.eq_1,X_at x38.eq_1⟩
def an38 : Ann:=⟨[(9,.mix 12),(13,.mixz 11),(17,.mix 12)],[(2,[(3,some 5000,0)],[2,3,4,5,88,89],[8]),(0,[],[2,3,4,5,9,54,55],[2,3,4,5,8,9])],[]⟩
@[simp] theorem an38_a : an38.clsOf 9 = .mix 12 ∧ an38.clsOf 13 = .mixz 11 ∧ an38.clsOf 17 = .mix 12 ∧ an38.frzOf 9 = [] ∧ an38.frzOf 13 = [] ∧ an38.frzOf 17 = [] ∧ an38.loopOf 2 = ([(3,some 5000,0)],[2,3,4,5,88,89],[8]) ∧ an38.loopOf 0 = ([],[2,3,4,5,9,54,55],[2,3,4,5,8,9]):=⟨rfl,rfl,rfl,rfl,rfl,rfl,rfl,rfl⟩
theorem fi38 : FI Try.prog 38 (cxA an38) x38 [.tmp 8] Try.f38:=fiA Try.func38 mixed
theorem alike_self (e : Ex) : ∀ (L : List ByteArray),L.length + szE e ≤ 1000000 → CallOK Try.prog 38 [.agg (exr e),.agg (exr e),.list (L.map strRow),.list (L.map strRow)] [] (.bool true) []:=by
 induction e using Ex.ind with
 | h e ih=>
  intro L hL
  have he:=exr_eq e
  have hw:=fun w=>alikeWords_self w L (by omega)
  have hcl:=Clip_strs L (by omega)
  have key2 : ∀ (L2 : List ByteArray),L2.length ≤ L.length + 1 → e.kids.length ≤ 9223372036854775807 → W (cxA an38 Try.prog 0) 2 x38_L2 (KS.seq ((XC.reg [⟨some 8,.assign (.const (.bool true)),none⟩]).seq .ret) (KS.fin [ResultVar.tmp 8] fun v1 s1=>deref s1 6 v1 = .bool true)) [(2,.list (L2.map strRow)),(3,.list (L2.map strRow)),(4,.ptr 0 0 0),(5,.ptr 1 0 0),(88,.int .i64 (e.kids.length : Int)),(89,.int .i64 0)] [.rows 4 [exr e],.rows 4 [exr e]]:=by
   intro L2 hL2 _
   refine W_of fun Q hQ=>?_
   have main : ∀ n i,i + n = e.kids.length → Q [(2,.list (L2.map strRow)),(3,.list (L2.map strRow)),(4,.ptr 0 0 0),(5,.ptr 1 0 0),(88,.int .i64 (e.kids.length : Int)),(89,.int .i64 (i : Int))] [.rows 4 [exr e],.rows 4 [exr e]]:=by
    intro n
    induction n with
    | zero=>
     intro i hi
     obtain rfl : i = e.kids.length:=by omega
     apply hQ
     clear hQ
     (refine Sg.h ?_;try repeat' ((with_reducible first|refine brA ?_|refine brE fun _=>?_|refine spl ⟨?_,?_⟩<;>intro _)<;>((try simp -implicitDefEqProofs);(try simp -implicitDefEqProofs(disch:=first|assumption|(try simp only[lens]);omega -splitDisjunctions)))))
    | succ n ihn=>
     intro i hi
     have hil : i < e.kids.length:=by omega
     have hi' : (i : Int) < (e.kids.length : Int):=by omega
     have ihn:=ihn (i + 1) (by omega)
     have hc:=ih _ (List.getElem_mem hil) L2 (by have:=szEs_mem (List.getElem_mem hil);rw [szE_eq] at hL;omega)
     generalize hx : e.kids[i] = x at *
     apply hQ
     clear hQ
     (refine Sg.h ?_;try repeat' ((first|(with_reducible first|refine brA ?_|refine brE fun _=>?_|refine spl ⟨?_,?_⟩<;>intro _)|refine clo hc ?_)<;>((try simp -implicitDefEqProofs [hi',hil,hx]);(try simp -implicitDefEqProofs(disch:=first|assumption|(try simp only[lens]);omega -splitDisjunctions) [hi',hil,hx]))))
     all_goals first|exact ihn|(refine at2 ihn ?_ ?_<;>simp;done)|(exfalso;first|omega|(simp_all;done)|(simp_all;omega))
   all_goals first|exact main e.kids.length 0 (Nat.zero_add _)|(refine at2 main e.kids.length 0 (Nat.zero_add _) ?_ ?_<;>simp;done)|(exfalso;first|omega|(simp_all;done)|(simp_all;omega))
  have key : ∀ b : Bool,b = isQ e.k → e.words.length ≤ 9223372036854775807 → W (cxA an38 Try.prog 0) 0 x38_L0 (KS.seq x38_T1 (KS.fin [ResultVar.tmp 8] fun v1 s1=>deref s1 6 v1 = .bool true)) [(2,.list (L.map strRow)),(3,.list (L.map strRow)),(4,.ptr 0 0 0),(5,.ptr 1 0 0),(9,.bool b),(54,.int .i64 (e.words.length : Int)),(55,.int .i64 0)] [.rows 4 [exr e],.rows 4 [exr e]]:=by
   intro b hb hlen
   refine W_of fun Q hQ=>?_
   have main : ∀ n i,i + n = e.words.length → Q [(2,.list (L.map strRow)),(3,.list (L.map strRow)),(4,.ptr 0 0 0),(5,.ptr 1 0 0),(9,.bool b),(54,.int .i64 (e.words.length : Int)),(55,.int .i64 (i : Int))] [.rows 4 [exr e],.rows 4 [exr e]]:=by
    intro n
    induction n with
    | zero=>
     intro i hi
     obtain rfl : i = e.words.length:=by omega
     apply hQ
     clear hQ
     cases b with
     | false=>
      have key2:=key2 L (by omega)
      (refine Sg.h ?_;try repeat' ((with_reducible first|refine brA ?_|refine brE fun _=>?_|refine spl ⟨?_,?_⟩<;>intro _)<;>((try simp -implicitDefEqProofs);(try simp -implicitDefEqProofs(disch:=first|assumption|(try simp only[lens]);omega -splitDisjunctions)))))
      exact key2 (by assumption)
     | true=>
      have key2:=key2 (L ++ [e.nm]) (by simp)
      have tk : List.take (L.length + 1) (L.map strRow ++ [[PV.str e.nm]]) = (L ++ [e.nm]).map strRow:=by
       rw [List.take_of_length_le (by simp)];simp [strRow]
      (refine Sg.h ?_;try repeat' ((first|(with_reducible first|refine brA ?_|refine brE fun _=>?_|refine spl ⟨?_,?_⟩<;>intro _)|refine clo hcl ?_)<;>((try simp -implicitDefEqProofs);(try simp -implicitDefEqProofs(disch:=first|assumption|(try simp only[lens]);omega -splitDisjunctions)))))
      rw [tk,show L.map strRow ++ [[PV.str e.nm]] = (L ++ [e.nm]).map strRow by simp [strRow]]
      exact key2 (by assumption)
    | succ n ihn=>
     intro i hi
     have hil : i < e.words.length:=by omega
     have hi' : (i : Int) < (e.words.length : Int):=by omega
     have ihn:=ihn (i + 1) (by omega)
     have hc:=hw e.words[i]
     generalize hx : e.words[i] = x at *
     clear key2
     apply hQ
     clear hQ
     (refine Sg.h ?_;try repeat' ((first|(with_reducible first|refine brA ?_|refine brE fun _=>?_|refine spl ⟨?_,?_⟩<;>intro _)|refine clo hc ?_)<;>((try simp -implicitDefEqProofs [hi',hil,hx]);(try simp -implicitDefEqProofs(disch:=first|assumption|(try simp only[lens]);omega -splitDisjunctions) [hi',hil,hx]))))
     all_goals first|exact ihn|(refine at2 ihn ?_ ?_<;>simp;done)|(exfalso;first|omega|(simp_all;done)|(simp_all;omega))
   all_goals first|exact main e.words.length 0 (Nat.zero_add _)|(refine at2 main e.words.length 0 (Nat.zero_add _) ?_ ?_<;>simp;done)|(exfalso;first|omega|(simp_all;done)|(simp_all;omega))
  refine fi38.op ?_
  by_cases h9 : e.k = 9
  ·have key := key true (by simp [isQ,h9])
   (refine Sg.h ?_;try repeat' ((with_reducible first|refine brA ?_|refine brE fun _=>?_|refine spl ⟨?_,?_⟩<;>intro _)<;>((try simp -implicitDefEqProofs [h9]);(try simp -implicitDefEqProofs(disch:=first|assumption|(try simp only[lens]);omega -splitDisjunctions) [h9]))))
   all_goals exact key (by assumption)
  by_cases h10 : e.k = 10
  ·have key := key true (by simp [isQ,h10])
   (refine Sg.h ?_;try repeat' ((with_reducible first|refine brA ?_|refine brE fun _=>?_|refine spl ⟨?_,?_⟩<;>intro _)<;>((try simp -implicitDefEqProofs [h9,h10]);(try simp -implicitDefEqProofs(disch:=first|assumption|(try simp only[lens]);omega -splitDisjunctions) [h9,h10]))))
   all_goals exact key (by assumption)
  have key:=key false (by simp [isQ,h9,h10])
  (refine Sg.h ?_;try repeat' ((with_reducible first|refine brA ?_|refine brE fun _=>?_|refine spl ⟨?_,?_⟩<;>intro _)<;>((try simp -implicitDefEqProofs [h9,h10]);(try simp -implicitDefEqProofs(disch:=first|assumption|(try simp only[lens]);omega -splitDisjunctions) [h9,h10]))))
  all_goals exact key (by assumption)
def x15 : XC:=.seq (.reg [⟨some 1,.box 29 (.tmp 0),none⟩,⟨some 2,.assign (.const (.slice none 0 0)),none⟩,⟨some 3,.alloc 39,none⟩]) (.seq (.seq (.reg [⟨some 5,.load 29 (.tmp 1),none⟩,⟨some 6,.call ⟨.value (.func 23),#[.tmp 5],#[29]⟩,none⟩,⟨some 4,.alloc 39,none⟩,⟨none,.store 39 (.tmp 4) (.tmp 6),none⟩]) (.seq (.reg [⟨some 7,.fieldAddr 39 (.tmp 4) 0,none⟩,⟨some 8,.load 3 (.tmp 7),none⟩,⟨some 9,.binOp .neq 3 (.tmp 8) (.const (.int .i64 0)) 3,none⟩]) (.cond (.tmp 9) (.seq (.drawn 3 [⟨some 10,.load 39 (.tmp 4),none⟩,⟨some 2,.assign (.const (.slice none 0 0)),none⟩,⟨none,.store 39 (.tmp 3) (.tmp 10),none⟩]) .ret) .skip))) (.seq (.reg [⟨some 11,.load 29 (.tmp 1),none⟩,⟨some 12,.call ⟨.value (.func 39),#[.tmp 11],#[29]⟩,none⟩,⟨some 13,.build 39 #[],none⟩,⟨some 2,.assign (.tmp 12),none⟩,⟨none,.store 39 (.tmp 3) (.tmp 13),none⟩]) .ret))
@[simp] theorem x15_s {C e s K} : type_of% (@X_at C e s K _ _ x15.eq_1):=X_at x15.eq_1
def an15 : Ann:=⟨[],[],[]⟩
@[simp] theorem an15_a : an15.clsOf 3 = .draw ∧ an15.frzOf 3 = []:=⟨rfl,rfl⟩
theorem fi15 : FI Try.prog 15 (cxA an15) x15 [.tmp 2,.cell 3 39] Try.f15:=fiA Try.func15 mixed
theorem Free_first (e : Ex) (h : (checkX e).1 = 0) : CallOK Try.prog 15 [.agg (exr e)] [] (.tuple [.list ((freeX scL e).map strRow),.agg [.int .i64 0,.int .i64 0]]) []:=by
 have c1:=Check_first e
 have en:=(checkM_ok h).1
 rw [checkX_zero h] at c1
 have hf:=FreeOf_first e (by rw [szE_nd];omega)
 refine fi15.op ?_
 (refine Sg.h ?_;try repeat' ((first|(with_reducible first|refine brA ?_|refine brE fun _=>?_|refine spl ⟨?_,?_⟩<;>intro _)|refine clo c1 ?_|refine clo hf ?_)<;>((try simp -implicitDefEqProofs);(try simp -implicitDefEqProofs(disch:=first|assumption|(try simp only[lens]);omega -splitDisjunctions)))))
def x16_L0 : XC:=.seq (.seq (.reg [⟨some 6,.move (.tmp 5),none⟩,⟨some 7,.move (.tmp 0),none⟩,⟨some 8,.call ⟨.builtin .len,#[.tmp 7],#[32]⟩,none⟩,⟨some 9,.binOp .lss 3 (.tmp 6) (.tmp 8) 3,none⟩]) (.cond (.tmp 9) .skip (.exit 0))) (.seq (.block 1 (.seq (.reg [⟨some 12,.move (.tmp 0),none⟩,⟨some 13,.move (.tmp 5),none⟩,⟨some 14,.indexAddr 32 (.tmp 12) (.tmp 13),none⟩,⟨some 15,.load 9 (.tmp 14),none⟩,⟨some 16,.move (.tmp 1),none⟩,⟨some 17,.binOp .eql 9 (.tmp 15) (.tmp 16) 9,none⟩]) (.cond (.tmp 17) (.seq (.reg [⟨some 4,.assign (.const (.bool true)),none⟩]) .ret) .skip))) (.reg [⟨some 10,.move (.tmp 5),none⟩,⟨some 11,.binOp .add 3 (.tmp 10) (.const (.int .i64 1)) 3,none⟩,⟨some 5,.assign (.tmp 11),none⟩]))
def x16 : XC:=.seq (.reg [⟨some 4,.assign (.const (.bool false)),none⟩]) (.seq (.seq (.reg [⟨some 5,.assign (.const (.int .i64 0)),none⟩]) (.bloop 0 x16_L0)) (.seq (.reg [⟨some 4,.assign (.const (.bool false)),none⟩]) .ret))
@[simp] theorem x16_s {C e s K} : type_of% (@X_at C e s K _ _ x16_L0.eq_1) ∧ type_of% (@X_at C e s K _ _ x16.eq_1):=⟨X_at x16_L0.eq_1,X_at x16.eq_1⟩
def an16 : Ann:=⟨[],[(0,[],[0,1,5],[4])],[]⟩
@[simp] theorem an16_a : an16.loopOf 0 = ([],[0,1,5],[4]):=rfl
theorem fi16 : FI Try.prog 16 (cxA an16) x16 [.tmp 4] Try.f16:=fiA Try.func16 mixed
theorem HasText_has (l : List ByteArray) (u : ByteArray) : CallOK Try.prog 16 [.list (l.map strRow),.str u] [] (.bool (hasB l u)) []:=by
 refine fi16.op ?_
 generalize hR : hasB l u = R
 (refine Sg.h ?_;try repeat' ((with_reducible first|refine brA ?_|refine brE fun _=>?_|refine spl ⟨?_,?_⟩<;>intro _)<;>((try simp -implicitDefEqProofs);(try simp -implicitDefEqProofs(disch:=first|assumption|(try simp only[lens]);omega -splitDisjunctions)))))
 refine W_of fun Q hQ=>?_
 have main : ∀ n i,i + n = l.length → hasB (l.drop i) u = R → Q [(0,.list (l.map strRow)),(1,.str u),(5,.int .i64 (i : Int))] []:=by
  intro n
  induction n with
  | zero=>
   intro i hi hk
   obtain rfl : i = l.length:=by omega
   rw [List.drop_length] at hk
   obtain rfl : R = false:=hk.symm
   apply hQ
   clear hQ
   (refine Sg.h ?_;try repeat' ((with_reducible first|refine brA ?_|refine brE fun _=>?_|refine spl ⟨?_,?_⟩<;>intro _)<;>((try simp -implicitDefEqProofs);(try simp -implicitDefEqProofs(disch:=first|assumption|(try simp only[lens]);omega -splitDisjunctions)))))
  | succ n ih=>
   intro i hi hk
   have hil : i < l.length:=by omega
   have hi' : (i : Int) < (l.length : Int):=by omega
   have ih:=ih (i + 1) (by omega)
   rw [List.drop_eq_getElem_cons hil] at hk
   generalize hx : l[i] = x at *
   apply hQ
   clear hQ
   by_cases hxu : x = u
   ·obtain rfl : R = true := by rw [← hk]; simp [hasB,hxu]
    (refine Sg.h ?_;try repeat' ((with_reducible first|refine brA ?_|refine brE fun _=>?_|refine spl ⟨?_,?_⟩<;>intro _)<;>((try simp -implicitDefEqProofs [hi',hil,hx,hxu]);(try simp -implicitDefEqProofs(disch:=first|assumption|(try simp only[lens]);omega -splitDisjunctions) [hi',hil,hx,hxu]))))
   ·have ih := ih (by rw [← hk]; have : ¬ u = x := fun g => hxu g.symm; simp [hasB,this])
    (refine Sg.h ?_;try repeat' ((with_reducible first|refine brA ?_|refine brE fun _=>?_|refine spl ⟨?_,?_⟩<;>intro _)<;>((try simp -implicitDefEqProofs [hi',hil,hx,hxu]);(try simp -implicitDefEqProofs(disch:=first|assumption|(try simp only[lens]);omega -splitDisjunctions) [hi',hil,hx,hxu]))))
    all_goals first|exact ih|(refine at2 ih ?_ ?_<;>simp;done)|(exfalso;first|omega|(simp_all;done)|(simp_all;omega))
 all_goals first|exact main l.length 0 (Nat.zero_add _) hR|(refine at2 main l.length 0 (Nat.zero_add _) hR ?_ ?_<;>simp;done)|(exfalso;first|omega|(simp_all;done)|(simp_all;omega))
mutual
def hasW (n : ByteArray) : Wd → Bool
 | .mk nm l=>decide (nm = n) || hasWs n l
def hasWs (n : ByteArray) : List Wd → Bool
 | []=>false
 | w :: r=>hasW n w || hasWs n r
end
theorem hasW_eq {n : ByteArray} (w : Wd) : hasW n w = (decide (w.nm = n) || hasWs n w.args):=by cases w with | mk a l=>rw [hasW];rfl
def x17_L0 : XC:=.seq (.seq (.reg [⟨some 10,.move (.tmp 5),none⟩,⟨some 11,.fieldAddr 31 (.tmp 2) 1,none⟩,⟨some 12,.load 26 (.tmp 11),none⟩,⟨some 13,.call ⟨.builtin .len,#[.tmp 12],#[26]⟩,none⟩,⟨some 14,.binOp .lss 3 (.tmp 10) (.tmp 13) 3,none⟩]) (.cond (.tmp 14) .skip (.exit 0))) (.seq (.block 1 (.seq (.reg [⟨some 17,.fieldAddr 31 (.tmp 2) 1,none⟩,⟨some 18,.load 26 (.tmp 17),none⟩,⟨some 19,.move (.tmp 5),none⟩,⟨some 20,.indexAddr 26 (.tmp 18) (.tmp 19),none⟩,⟨some 21,.load 31 (.tmp 20),none⟩,⟨some 22,.move (.tmp 1),none⟩,⟨some 23,.call ⟨.value (.func 17),#[.tmp 21,.tmp 22],#[31,9]⟩,none⟩]) (.cond (.tmp 23) (.seq (.reg [⟨some 4,.assign (.const (.bool true)),none⟩]) .ret) .skip))) (.reg [⟨some 15,.move (.tmp 5),none⟩,⟨some 16,.binOp .add 3 (.tmp 15) (.const (.int .i64 1)) 3,none⟩,⟨some 5,.assign (.tmp 16),none⟩]))
def x17 : XC:=.seq (.reg [⟨some 2,.box 31 (.tmp 0),none⟩,⟨some 4,.assign (.const (.bool false)),none⟩]) (.seq (.seq (.reg [⟨some 6,.fieldAddr 31 (.tmp 2) 0,none⟩,⟨some 7,.load 9 (.tmp 6),none⟩,⟨some 8,.move (.tmp 1),none⟩,⟨some 9,.binOp .eql 9 (.tmp 7) (.tmp 8) 9,none⟩]) (.cond (.tmp 9) (.seq (.reg [⟨some 4,.assign (.const (.bool true)),none⟩]) .ret) .skip)) (.seq (.seq (.reg [⟨some 5,.assign (.const (.int .i64 0)),none⟩]) (.bloop 0 x17_L0)) (.seq (.reg [⟨some 4,.assign (.const (.bool false)),none⟩]) .ret)))
@[simp] theorem x17_s {C e s K} : type_of% (@X_at C e s K _ _ x17_L0.eq_1) ∧ type_of% (@X_at C e s K _ _ x17.eq_1):=⟨X_at x17_L0.eq_1,X_at x17.eq_1⟩
def an17 : Ann:=⟨[],[(0,[],[1,2,5],[4])],[]⟩
@[simp] theorem an17_a : an17.loopOf 0 = ([],[1,2,5],[4]):=rfl
theorem fi17 : FI Try.prog 17 (cxA an17) x17 [.tmp 4] Try.f17:=fiA Try.func17 mixed
theorem HasVariable_ref (n : ByteArray) (w : Wd) : CallOK Try.prog 17 [.agg (wrd w),.str n] [] (.bool (hasW n w)) []:=by
 induction w using Wd.ind with
 | h w ih=>
  have hw:=wrd_eq w
  refine fi17.op ?_
  generalize hR : hasW n w = R
  rw [hasW_eq] at hR
  by_cases hn : w.nm = n
  ·rw [decide_eq_true hn,Bool.true_or] at hR
   subst hR
   (refine Sg.h ?_;try repeat' ((with_reducible first|refine brA ?_|refine brE fun _=>?_|refine spl ⟨?_,?_⟩<;>intro _)<;>((try simp -implicitDefEqProofs [hn]);(try simp -implicitDefEqProofs(disch:=first|assumption|(try simp only[lens]);omega -splitDisjunctions) [hn]))))
  rw [decide_eq_false hn,Bool.false_or] at hR
  (refine Sg.h ?_;try repeat' ((with_reducible first|refine brA ?_|refine brE fun _=>?_|refine spl ⟨?_,?_⟩<;>intro _)<;>((try simp -implicitDefEqProofs [hn]);(try simp -implicitDefEqProofs(disch:=first|assumption|(try simp only[lens]);omega -splitDisjunctions) [hn]))))
  refine W_of fun Q hQ=>?_
  have main : ∀ k i,i + k = w.args.length → hasWs n (w.args.drop i) = R → Q [(1,.str n),(2,.ptr 0 0 0),(5,.int .i64 (i : Int))] [.rows 2 [wrd w]]:=by
   intro k
   induction k with
   | zero=>
    intro i hi hk
    obtain rfl : i = w.args.length:=by omega
    rw [List.drop_length,hasWs] at hk
    subst hk
    apply hQ
    clear hQ
    (refine Sg.h ?_;try repeat' ((with_reducible first|refine brA ?_|refine brE fun _=>?_|refine spl ⟨?_,?_⟩<;>intro _)<;>((try simp -implicitDefEqProofs);(try simp -implicitDefEqProofs(disch:=first|assumption|(try simp only[lens]);omega -splitDisjunctions)))))
   | succ k ihk=>
    intro i hi hk
    have hil : i < w.args.length:=by omega
    have hi' : (i : Int) < (w.args.length : Int):=by omega
    have ihk:=ihk (i + 1) (by omega)
    have hc:=ih _ (List.getElem_mem hil)
    rw [List.drop_eq_getElem_cons hil,hasWs] at hk
    generalize hx : w.args[i] = x at *
    generalize hasW n x = b at *
    apply hQ
    clear hQ
    cases b with
    | true=>
     obtain rfl : R = true:=hk.symm
     (refine Sg.h ?_;try repeat' ((first|(with_reducible first|refine brA ?_|refine brE fun _=>?_|refine spl ⟨?_,?_⟩<;>intro _)|refine clo hc ?_)<;>((try simp -implicitDefEqProofs [hi',hil,hx]);(try simp -implicitDefEqProofs(disch:=first|assumption|(try simp only[lens]);omega -splitDisjunctions) [hi',hil,hx]))))
    | false=>
     have ihk:=ihk (by simpa using hk)
     (refine Sg.h ?_;try repeat' ((first|(with_reducible first|refine brA ?_|refine brE fun _=>?_|refine spl ⟨?_,?_⟩<;>intro _)|refine clo hc ?_)<;>((try simp -implicitDefEqProofs [hi',hil,hx]);(try simp -implicitDefEqProofs(disch:=first|assumption|(try simp only[lens]);omega -splitDisjunctions) [hi',hil,hx]))))
     all_goals first|exact ihk|(refine at2 ihk ?_ ?_<;>simp;done)|(exfalso;first|omega|(simp_all;done)|(simp_all;omega))
  all_goals first|exact main w.args.length 0 (Nat.zero_add _) hR|(refine at2 main w.args.length 0 (Nat.zero_add _) hR ?_ ?_<;>simp;done)|(exfalso;first|omega|(simp_all;done)|(simp_all;omega))
end Go.Proofs.Ytbimioonhfhflaa
