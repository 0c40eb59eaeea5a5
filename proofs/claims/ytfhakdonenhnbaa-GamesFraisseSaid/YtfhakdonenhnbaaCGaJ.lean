import Derived.Test.YtfhakdonenhnbaaCMnF
import Derived.Test.YtfhakdonenhnbaaCGaR
import Derived.Test.YtfhakdonenhnbaaCGaH
import Derived.Test.YtfhakdonenhnbaaCMnS
import Derived.Test.YtfhakdonenhnbaaCMnT
set_option linter.unusedVariables false
set_option linter.unusedSimpArgs false
set_option maxRecDepth 100000
set_option maxHeartbeats 4000000
namespace Go.Proofs.Ytfhakdonenhnbaa
open Go Go.Pv
def x10_T1 : XC:=.seq (.seq (.reg [⟨some 23,.fieldAddr 29 (.tmp 1) 0,none⟩,⟨some 24,.load 3 (.tmp 23),none⟩,⟨some 25,.binOp .eql 3 (.tmp 24) (.const (.int .i64 9)) 3,none⟩,⟨some 26,.move (.tmp 25),none⟩,⟨some 27,.fieldAddr 29 (.tmp 1) 0,some (some 26,false)⟩,⟨some 28,.load 3 (.tmp 27),some (some 26,false)⟩,⟨some 29,.binOp .eql 3 (.tmp 28) (.const (.int .i64 10)) 3,some (some 26,false)⟩,⟨some 30,.pick (.tmp 26) (.const (.bool true)) (.tmp 29),none⟩]) (.cond (.tmp 30) (.seq (.reg [⟨some 31,.move (.tmp 3),none⟩,⟨some 32,.binOp .add 3 (.tmp 31) (.const (.int .i64 1)) 3,none⟩,⟨some 2,.assign (.tmp 32),none⟩]) .ret) .skip)) (.seq (.reg [⟨some 33,.move (.tmp 3),none⟩,⟨some 2,.assign (.tmp 33),none⟩]) .ret)
def x10_L0 : XC:=.seq (.seq (.reg [⟨some 6,.move (.tmp 4),none⟩,⟨some 7,.fieldAddr 29 (.tmp 1) 3,none⟩,⟨some 8,.load 27 (.tmp 7),none⟩,⟨some 9,.call ⟨.builtin .len,#[.tmp 8],#[27]⟩,none⟩,⟨some 10,.binOp .lss 3 (.tmp 6) (.tmp 9) 3,none⟩]) (.cond (.tmp 10) .skip (.exit 0))) (.seq (.block 1 (.seq (.reg [⟨some 13,.fieldAddr 29 (.tmp 1) 3,none⟩,⟨some 14,.load 27 (.tmp 13),none⟩,⟨some 15,.move (.tmp 4),none⟩,⟨some 16,.indexAddr 27 (.tmp 14) (.tmp 15),none⟩,⟨some 17,.load 29 (.tmp 16),none⟩,⟨some 18,.call ⟨.value (.func 10),#[.tmp 17],#[29]⟩,none⟩,⟨some 5,.assign (.tmp 18),none⟩]) (.seq (.reg [⟨some 19,.move (.tmp 5),none⟩,⟨some 20,.move (.tmp 3),none⟩,⟨some 21,.binOp .gtr 3 (.tmp 19) (.tmp 20) 3,none⟩]) (.cond (.tmp 21) (.reg [⟨some 22,.move (.tmp 5),none⟩,⟨some 3,.assign (.tmp 22),none⟩]) .skip)))) (.reg [⟨some 11,.move (.tmp 4),none⟩,⟨some 12,.binOp .add 3 (.tmp 11) (.const (.int .i64 1)) 3,none⟩,⟨some 4,.assign (.tmp 12),none⟩]))
def x10 : XC:=.seq (.reg [⟨some 1,.box 29 (.tmp 0),none⟩,⟨some 2,.assign (.const (.int .i64 0)),none⟩]) (.seq (.reg [⟨some 3,.assign (.const (.int .i64 0)),none⟩]) (.seq (.seq (.reg [⟨some 4,.assign (.const (.int .i64 0)),none⟩]) (.bloop 0 x10_L0)) (x10_T1)))
@[simp] theorem x10_s {C e s K} : type_of% (@X_at C e s K _ _ x10_T1.eq_1) ∧ type_of% (@X_at C e s K _ _ x10_L0.eq_1) ∧ type_of% (@X_at C e s K _ _ x10.eq_1):=⟨X_at x10_T1.eq_1,X_at x10_L0.eq_1,X_at x10.eq_1⟩
def an10 : Ann:=⟨[],[(0,[],[1,3,4],[1,3])],[]⟩
@[simp] theorem an10_a : an10.loopOf 0 = ([],[1,3,4],[1,3]):=rfl
theorem fi10 : FI Try.prog 10 (cxA an10) x10 [.tmp 2] Try.f10:=fiA Try.func10 mixed
theorem DeepIn_ref (e : Ex) (hsm : deepF e ≤ 1000000) : CallOK Try.prog 10 [.agg (exr e)] [] (.int .i64 (deepF e : Int)) []:=by
 induction e using Ex.ind with
 | h e ih=>
  have he:=exr_eq e
  rw [deepF_eq] at hsm ⊢
  refine fi10.op ?_
  (refine Sg.h ?_;try repeat' ((with_reducible first|refine brA ?_|refine brE fun _=>?_|refine spl ⟨?_,?_⟩<;>intro _)<;>((try simp -implicitDefEqProofs);(try simp -implicitDefEqProofs(disch:=first|assumption|(try simp only[lens]);omega -splitDisjunctions)))))
  refine W_of fun Q hQ=>?_
  obtain ⟨M,hM⟩ : ∃ M,deepsF e.kids = M:=⟨_,rfl⟩
  have hkd : ∀ q ∈ e.kids,deepF q ≤ M:=fun q hq=>hM ▸ deeps_mem q hq
  rw [hM] at hsm hQ
  have main : ∀ n i d,i + n = e.kids.length → max d (deepsF (e.kids.drop i)) = M → Q [(1,.ptr 0 0 0),(3,.int .i64 (d : Int)),(4,.int .i64 (i : Int))] [.rows 4 [exr e]]:=by
   intro n
   induction n with
   | zero=>
    intro i d hi hd
    rw [List.drop_of_length_le (by omega),deepsF] at hd
    obtain rfl : d = M:=by omega
    obtain rfl : i = e.kids.length:=by omega
    by_cases hk9 : e.k = 9
    ·rw [if_pos (.inl hk9)] at hsm hQ
     apply hQ
     clear hQ
     (refine Sg.h ?_;try repeat' ((with_reducible first|refine brA ?_|refine brE fun _=>?_|refine spl ⟨?_,?_⟩<;>intro _)<;>((try simp -implicitDefEqProofs [hk9]);(try simp -implicitDefEqProofs(disch:=first|assumption|(try simp only[lens]);omega -splitDisjunctions) [hk9]))))
    by_cases hk10 : e.k = 10
    ·rw [if_pos (.inr hk10)] at hsm hQ
     apply hQ
     clear hQ
     (refine Sg.h ?_;try repeat' ((with_reducible first|refine brA ?_|refine brE fun _=>?_|refine spl ⟨?_,?_⟩<;>intro _)<;>((try simp -implicitDefEqProofs [hk9,hk10]);(try simp -implicitDefEqProofs(disch:=first|assumption|(try simp only[lens]);omega -splitDisjunctions) [hk9,hk10]))))
    rw [if_neg (fun g=>g.elim hk9 hk10)] at hsm hQ
    apply hQ
    clear hQ
    (refine Sg.h ?_;try repeat' ((with_reducible first|refine brA ?_|refine brE fun _=>?_|refine spl ⟨?_,?_⟩<;>intro _)<;>((try simp -implicitDefEqProofs [hk9,hk10]);(try simp -implicitDefEqProofs(disch:=first|assumption|(try simp only[lens]);omega -splitDisjunctions) [hk9,hk10]))))
   | succ n ihn=>
    intro i d hi hd
    have hil : i < e.kids.length:=by omega
    rw [List.drop_eq_getElem_cons hil,deepsF] at hd
    have hkm:=List.getElem_mem hil
    have hc:=ih _ hkm (by have:=hkd _ hkm;split at hsm <;> omega)
    have hdm:=hkd _ hkm
    have ihn:=ihn (i + 1)
    have hi' : (i : Int) < (e.kids.length : Int):=by omega
    generalize hx : e.kids[i] = x at *
    generalize deepF x = m at *
    apply hQ
    clear hQ
    by_cases hm : d < m
    ·have ihn := ihn m (by omega) (by omega)
     have hm' : (d : Int) < (m : Int):=by omega
     (refine Sg.h ?_;try repeat' ((first|(with_reducible first|refine brA ?_|refine brE fun _=>?_|refine spl ⟨?_,?_⟩<;>intro _)|refine clo hc ?_)<;>((try simp -implicitDefEqProofs [hi',hil,hx,hm']);(try simp -implicitDefEqProofs(disch:=first|assumption|(try simp only[lens]);omega -splitDisjunctions) [hi',hil,hx,hm']))))
     all_goals first|exact ihn|(refine at2 ihn ?_ ?_<;>simp;done)|(exfalso;first|omega|(simp_all;done)|(simp_all;omega))
    ·have ihn := ihn d (by omega) (by omega)
     have hm' : ¬ (d : Int) < (m : Int):=by omega
     (refine Sg.h ?_;try repeat' ((first|(with_reducible first|refine brA ?_|refine brE fun _=>?_|refine spl ⟨?_,?_⟩<;>intro _)|refine clo hc ?_)<;>((try simp -implicitDefEqProofs [hi',hil,hx,hm']);(try simp -implicitDefEqProofs(disch:=first|assumption|(try simp only[lens]);omega -splitDisjunctions) [hi',hil,hx,hm']))))
     all_goals first|exact ihn|(refine at2 ihn ?_ ?_<;>simp;done)|(exfalso;first|omega|(simp_all;done)|(simp_all;omega))
  all_goals first|exact main e.kids.length 0 0 (Nat.zero_add _) (by rw [List.drop_zero,hM];omega)|(refine at2 main e.kids.length 0 0 (Nat.zero_add _) (by rw [List.drop_zero,hM];omega) ?_ ?_<;>simp;done)|(exfalso;first|omega|(simp_all;done)|(simp_all;omega))
mutual
def vwF : Wd → Nat → Bool
 | .mk _ l=>fun d=>decide (25000 < d) || decide (25000 < l.length) || vwsF l (d + 1)
def vwsF : List Wd → Nat → Bool
 | []=>fun _=>false
 | w :: r=>fun d=>vwF w d || vwsF r d
end
theorem vwF_eq (w : Wd) (d : Nat) : vwF w d = (decide (25000 < d) || decide (25000 < w.args.length) || vwsF w.args (d + 1)):=by
 cases w with | mk a l=>rw [vwF];rfl
def x15_L0 : XC:=.seq (.seq (.reg [⟨some 13,.move (.tmp 5),none⟩,⟨some 14,.move (.tmp 0),none⟩,⟨some 15,.call ⟨.builtin .len,#[.tmp 14],#[26]⟩,none⟩,⟨some 16,.binOp .lss 3 (.tmp 13) (.tmp 15) 3,none⟩]) (.cond (.tmp 16) .skip (.exit 0))) (.seq (.block 1 (.seq (.reg [⟨some 19,.move (.tmp 0),none⟩,⟨some 20,.move (.tmp 5),none⟩,⟨some 21,.indexAddr 26 (.tmp 19) (.tmp 20),none⟩,⟨some 22,.fieldAddr 61 (.tmp 21) 1,none⟩,⟨some 23,.load 26 (.tmp 22),none⟩,⟨some 24,.move (.tmp 1),none⟩,⟨some 25,.binOp .add 3 (.tmp 24) (.const (.int .i64 1)) 3,none⟩,⟨some 26,.call ⟨.value (.func 15),#[.tmp 23,.tmp 25],#[26,3]⟩,none⟩]) (.cond (.tmp 26) (.seq (.reg [⟨some 4,.assign (.const (.bool true)),none⟩]) .ret) .skip))) (.reg [⟨some 17,.move (.tmp 5),none⟩,⟨some 18,.binOp .add 3 (.tmp 17) (.const (.int .i64 1)) 3,none⟩,⟨some 5,.assign (.tmp 18),none⟩]))
def x15 : XC:=.seq (.reg [⟨some 4,.assign (.const (.bool false)),none⟩]) (.seq (.seq (.reg [⟨some 6,.move (.tmp 1),none⟩,⟨some 7,.binOp .gtr 3 (.tmp 6) (.const (.int .i64 25000)) 3,none⟩,⟨some 8,.move (.tmp 7),none⟩,⟨some 9,.move (.tmp 0),some (some 8,false)⟩,⟨some 10,.call ⟨.builtin .len,#[.tmp 9],#[26]⟩,some (some 8,false)⟩,⟨some 11,.binOp .gtr 3 (.tmp 10) (.const (.int .i64 25000)) 3,some (some 8,false)⟩,⟨some 12,.pick (.tmp 8) (.const (.bool true)) (.tmp 11),none⟩]) (.cond (.tmp 12) (.seq (.reg [⟨some 4,.assign (.const (.bool true)),none⟩]) .ret) .skip)) (.seq (.seq (.reg [⟨some 5,.assign (.const (.int .i64 0)),none⟩]) (.bloop 0 x15_L0)) (.seq (.reg [⟨some 4,.assign (.const (.bool false)),none⟩]) .ret)))
@[simp] theorem x15_s {C e s K} : type_of% (@X_at C e s K _ _ x15_L0.eq_1) ∧ type_of% (@X_at C e s K _ _ x15.eq_1):=⟨X_at x15_L0.eq_1,X_at x15.eq_1⟩
def an15 : Ann:=⟨[],[(0,[],[0,1,5],[4])],[]⟩
@[simp] theorem an15_a : an15.loopOf 0 = ([],[0,1,5],[4]):=rfl
theorem fi15 : FI Try.prog 15 (cxA an15) x15 [.tmp 4] Try.f15:=fiA Try.func15 mixed
theorem vastWords_ref (w : Wd) : ∀ d : Nat,d ≤ 25001 → CallOK Try.prog 15 [.list (w.args.map wrd),.int .i64 (d : Int)] [] (.bool (vwF w d)) []:=by
 induction w using Wd.ind with
 | h w ih=>
  intro d hd
  rw [vwF_eq]
  refine fi15.op ?_
  by_cases h1 : 25000 < d
  ·have h1' : (25000 : Int) < (d : Int) := by omega
   rw [decide_eq_true h1]
   (refine Sg.h ?_;try repeat' ((with_reducible first|refine brA ?_|refine brE fun _=>?_|refine spl ⟨?_,?_⟩<;>intro _)<;>((try simp -implicitDefEqProofs [h1']);(try simp -implicitDefEqProofs(disch:=first|assumption|(try simp only[lens]);omega -splitDisjunctions) [h1']))))
   all_goals simp
  have h1' : ¬ (25000 : Int) < (d : Int):=by omega
  rw [decide_eq_false h1]
  by_cases h2 : 25000 < w.args.length
  ·have h2' : (25000 : Int) < (w.args.length : Int) := by omega
   rw [decide_eq_true h2]
   (refine Sg.h ?_;try repeat' ((with_reducible first|refine brA ?_|refine brE fun _=>?_|refine spl ⟨?_,?_⟩<;>intro _)<;>((try simp -implicitDefEqProofs [h1',h2']);(try simp -implicitDefEqProofs(disch:=first|assumption|(try simp only[lens]);omega -splitDisjunctions) [h1',h2']))))
   all_goals simp
  have h2' : ¬ (25000 : Int) < (w.args.length : Int):=by omega
  rw [decide_eq_false h2,Bool.false_or,Bool.false_or]
  (refine Sg.h ?_;try repeat' ((with_reducible first|refine brA ?_|refine brE fun _=>?_|refine spl ⟨?_,?_⟩<;>intro _)<;>((try simp -implicitDefEqProofs [h1',h2']);(try simp -implicitDefEqProofs(disch:=first|assumption|(try simp only[lens]);omega -splitDisjunctions) [h1',h2']))))
  obtain ⟨R,hR⟩ : ∃ R,vwsF w.args (d + 1) = R:=⟨_,rfl⟩
  rw [hR]
  refine W_of fun Q hQ=>?_
  have main : ∀ n i,i + n = w.args.length → vwsF (w.args.drop i) (d + 1) = R → Q [(0,.list (w.args.map wrd)),(1,.int .i64 (d : Int)),(5,.int .i64 (i : Int))] []:=by
   intro n
   induction n with
   | zero=>
    intro i hi hR
    rw [List.drop_of_length_le (by omega),vwsF] at hR
    dsimp only at hR
    subst hR
    obtain rfl : i = w.args.length:=by omega
    apply hQ
    clear hQ
    (refine Sg.h ?_;try repeat' ((with_reducible first|refine brA ?_|refine brE fun _=>?_|refine spl ⟨?_,?_⟩<;>intro _)<;>((try simp -implicitDefEqProofs);(try simp -implicitDefEqProofs(disch:=first|assumption|(try simp only[lens]);omega -splitDisjunctions)))))
   | succ n ihn=>
    intro i hi hR
    have hil : i < w.args.length:=by omega
    rw [List.drop_eq_getElem_cons hil,vwsF] at hR
    dsimp only at hR
    have hc:=ih _ (List.getElem_mem hil) (d + 1) (by omega)
    have ihn:=ihn (i + 1) (by omega)
    have hi' : (i : Int) < (w.args.length : Int):=by omega
    generalize hx : w.args[i] = x at *
    generalize vwF x (d + 1) = b at *
    apply hQ
    clear hQ
    cases b with
    | true=>
     rw [Bool.true_or] at hR
     subst hR
     (refine Sg.h ?_;try repeat' ((first|(with_reducible first|refine brA ?_|refine brE fun _=>?_|refine spl ⟨?_,?_⟩<;>intro _)|refine clo hc ?_)<;>((try simp -implicitDefEqProofs [hi',hil,hx]);(try simp -implicitDefEqProofs(disch:=first|assumption|(try simp only[lens]);omega -splitDisjunctions) [hi',hil,hx]))))
    | false=>
     rw [Bool.false_or] at hR
     have ihn:=ihn hR
     (refine Sg.h ?_;try repeat' ((first|(with_reducible first|refine brA ?_|refine brE fun _=>?_|refine spl ⟨?_,?_⟩<;>intro _)|refine clo hc ?_)<;>((try simp -implicitDefEqProofs [hi',hil,hx]);(try simp -implicitDefEqProofs(disch:=first|assumption|(try simp only[lens]);omega -splitDisjunctions) [hi',hil,hx]))))
     all_goals first|exact ihn|(refine at2 ihn ?_ ?_<;>simp;done)|(exfalso;first|omega|(simp_all;done)|(simp_all;omega))
  all_goals first|exact main w.args.length 0 (Nat.zero_add _) hR|(refine at2 main w.args.length 0 (Nat.zero_add _) hR ?_ ?_<;>simp;done)|(exfalso;first|omega|(simp_all;done)|(simp_all;omega))
mutual
def vxF : Ex → Nat → Bool
 | .mk _ _ ws l=>fun d=>decide (25000 < d) || decide (25000 < l.length) || vwF (.mk ⟨#[]⟩ ws) d || vxsF l (d + 1)
def vxsF : List Ex → Nat → Bool
 | []=>fun _=>false
 | e :: r=>fun d=>vxF e d || vxsF r d
end
theorem vxF_eq (e : Ex) (d : Nat) : vxF e d = (decide (25000 < d) || decide (25000 < e.kids.length) || vwF (.mk ⟨#[]⟩ e.words) d || vxsF e.kids (d + 1)):=by
 cases e with | mk k a w l=>rw [vxF];rfl
def x7_L0 : XC:=.seq (.seq (.reg [⟨some 20,.move (.tmp 5),none⟩,⟨some 21,.fieldAddr 29 (.tmp 2) 3,none⟩,⟨some 22,.load 27 (.tmp 21),none⟩,⟨some 23,.call ⟨.builtin .len,#[.tmp 22],#[27]⟩,none⟩,⟨some 24,.binOp .lss 3 (.tmp 20) (.tmp 23) 3,none⟩]) (.cond (.tmp 24) .skip (.exit 0))) (.seq (.block 1 (.seq (.reg [⟨some 27,.fieldAddr 29 (.tmp 2) 3,none⟩,⟨some 28,.load 27 (.tmp 27),none⟩,⟨some 29,.move (.tmp 5),none⟩,⟨some 30,.indexAddr 27 (.tmp 28) (.tmp 29),none⟩,⟨some 31,.load 29 (.tmp 30),none⟩,⟨some 32,.move (.tmp 1),none⟩,⟨some 33,.binOp .add 3 (.tmp 32) (.const (.int .i64 1)) 3,none⟩,⟨some 34,.call ⟨.value (.func 7),#[.tmp 31,.tmp 33],#[29,3]⟩,none⟩]) (.cond (.tmp 34) (.seq (.reg [⟨some 4,.assign (.const (.bool true)),none⟩]) .ret) .skip))) (.reg [⟨some 25,.move (.tmp 5),none⟩,⟨some 26,.binOp .add 3 (.tmp 25) (.const (.int .i64 1)) 3,none⟩,⟨some 5,.assign (.tmp 26),none⟩]))
def x7 : XC:=.seq (.reg [⟨some 2,.box 29 (.tmp 0),none⟩,⟨some 4,.assign (.const (.bool false)),none⟩]) (.seq (.seq (.reg [⟨some 6,.move (.tmp 1),none⟩,⟨some 7,.binOp .gtr 3 (.tmp 6) (.const (.int .i64 25000)) 3,none⟩,⟨some 8,.move (.tmp 7),none⟩,⟨some 9,.fieldAddr 29 (.tmp 2) 3,some (some 8,false)⟩,⟨some 10,.load 27 (.tmp 9),some (some 8,false)⟩,⟨some 11,.call ⟨.builtin .len,#[.tmp 10],#[27]⟩,some (some 8,false)⟩,⟨some 12,.binOp .gtr 3 (.tmp 11) (.const (.int .i64 25000)) 3,some (some 8,false)⟩,⟨some 13,.pick (.tmp 8) (.const (.bool true)) (.tmp 12),none⟩,⟨some 14,.move (.tmp 13),none⟩,⟨some 15,.fieldAddr 29 (.tmp 2) 2,some (some 14,false)⟩,⟨some 16,.load 26 (.tmp 15),some (some 14,false)⟩,⟨some 17,.move (.tmp 1),some (some 14,false)⟩,⟨some 18,.call ⟨.value (.func 15),#[.tmp 16,.tmp 17],#[26,3]⟩,some (some 14,false)⟩,⟨some 19,.pick (.tmp 14) (.const (.bool true)) (.tmp 18),none⟩]) (.cond (.tmp 19) (.seq (.reg [⟨some 4,.assign (.const (.bool true)),none⟩]) .ret) .skip)) (.seq (.seq (.reg [⟨some 5,.assign (.const (.int .i64 0)),none⟩]) (.bloop 0 x7_L0)) (.seq (.reg [⟨some 4,.assign (.const (.bool false)),none⟩]) .ret)))
@[simp] theorem x7_s {C e s K} : type_of% (@X_at C e s K _ _ x7_L0.eq_1) ∧ type_of% (@X_at C e s K _ _ x7.eq_1):=⟨X_at x7_L0.eq_1,X_at x7.eq_1⟩
def an7 : Ann:=⟨[],[(0,[],[1,2,5],[4])],[]⟩
@[simp] theorem an7_a : an7.loopOf 0 = ([],[1,2,5],[4]):=rfl
theorem fi7 : FI Try.prog 7 (cxA an7) x7 [.tmp 4] Try.f7:=fiA Try.func7 mixed
theorem VastExpr_ref (e : Ex) : ∀ d : Nat,d ≤ 25001 → CallOK Try.prog 7 [.agg (exr e),.int .i64 (d : Int)] [] (.bool (vxF e d)) []:=by
 induction e using Ex.ind with
 | h e ih=>
  intro d hd
  have he:=exr_eq e
  have hw:=vastWords_ref (.mk ⟨#[]⟩ e.words) d hd
  change CallOK _ _ [.list (e.words.map wrd),_] _ _ _ at hw
  rw [vxF_eq]
  generalize vwF (.mk ⟨#[]⟩ e.words) d = b at *
  refine fi7.op ?_
  by_cases h1 : 25000 < d
  ·have h1' : (25000 : Int) < (d : Int) := by omega
   rw [decide_eq_true h1]
   (refine Sg.h ?_;try repeat' ((with_reducible first|refine brA ?_|refine brE fun _=>?_|refine spl ⟨?_,?_⟩<;>intro _)<;>((try simp -implicitDefEqProofs [h1']);(try simp -implicitDefEqProofs(disch:=first|assumption|(try simp only[lens]);omega -splitDisjunctions) [h1']))))
   all_goals simp
  have h1' : ¬ (25000 : Int) < (d : Int):=by omega
  rw [decide_eq_false h1]
  by_cases h2 : 25000 < e.kids.length
  ·have h2' : (25000 : Int) < (e.kids.length : Int) := by omega
   rw [decide_eq_true h2]
   (refine Sg.h ?_;try repeat' ((with_reducible first|refine brA ?_|refine brE fun _=>?_|refine spl ⟨?_,?_⟩<;>intro _)<;>((try simp -implicitDefEqProofs [h1',h2']);(try simp -implicitDefEqProofs(disch:=first|assumption|(try simp only[lens]);omega -splitDisjunctions) [h1',h2']))))
   all_goals simp
  have h2' : ¬ (25000 : Int) < (e.kids.length : Int):=by omega
  rw [decide_eq_false h2,Bool.false_or,Bool.false_or]
  cases b with
  | true=>
   rw [Bool.true_or]
   (refine Sg.h ?_;try repeat' ((first|(with_reducible first|refine brA ?_|refine brE fun _=>?_|refine spl ⟨?_,?_⟩<;>intro _)|refine clo hw ?_)<;>((try simp -implicitDefEqProofs [h1',h2']);(try simp -implicitDefEqProofs(disch:=first|assumption|(try simp only[lens]);omega -splitDisjunctions) [h1',h2']))))
  | false=>
  rw [Bool.false_or]
  (refine Sg.h ?_;try repeat' ((first|(with_reducible first|refine brA ?_|refine brE fun _=>?_|refine spl ⟨?_,?_⟩<;>intro _)|refine clo hw ?_)<;>((try simp -implicitDefEqProofs [h1',h2']);(try simp -implicitDefEqProofs(disch:=first|assumption|(try simp only[lens]);omega -splitDisjunctions) [h1',h2']))))
  obtain ⟨R,hR⟩ : ∃ R,vxsF e.kids (d + 1) = R:=⟨_,rfl⟩
  rw [hR]
  refine W_of fun Q hQ=>?_
  have main : ∀ n i,i + n = e.kids.length → vxsF (e.kids.drop i) (d + 1) = R → Q [(1,.int .i64 (d : Int)),(2,.ptr 0 0 0),(5,.int .i64 (i : Int))] [.rows 4 [exr e]]:=by
   intro n
   induction n with
   | zero=>
    intro i hi hR
    rw [List.drop_of_length_le (by omega),vxsF] at hR
    dsimp only at hR
    subst hR
    obtain rfl : i = e.kids.length:=by omega
    apply hQ
    clear hQ
    (refine Sg.h ?_;try repeat' ((with_reducible first|refine brA ?_|refine brE fun _=>?_|refine spl ⟨?_,?_⟩<;>intro _)<;>((try simp -implicitDefEqProofs);(try simp -implicitDefEqProofs(disch:=first|assumption|(try simp only[lens]);omega -splitDisjunctions)))))
   | succ n ihn=>
    intro i hi hR
    have hil : i < e.kids.length:=by omega
    rw [List.drop_eq_getElem_cons hil,vxsF] at hR
    dsimp only at hR
    have hc:=ih _ (List.getElem_mem hil) (d + 1) (by omega)
    have ihn:=ihn (i + 1) (by omega)
    have hi' : (i : Int) < (e.kids.length : Int):=by omega
    generalize hx : e.kids[i] = x at *
    generalize vxF x (d + 1) = b at *
    apply hQ
    clear hQ
    cases b with
    | true=>
     rw [Bool.true_or] at hR
     subst hR
     (refine Sg.h ?_;try repeat' ((first|(with_reducible first|refine brA ?_|refine brE fun _=>?_|refine spl ⟨?_,?_⟩<;>intro _)|refine clo hc ?_)<;>((try simp -implicitDefEqProofs [hi',hil,hx]);(try simp -implicitDefEqProofs(disch:=first|assumption|(try simp only[lens]);omega -splitDisjunctions) [hi',hil,hx]))))
    | false=>
     rw [Bool.false_or] at hR
     have ihn:=ihn hR
     (refine Sg.h ?_;try repeat' ((first|(with_reducible first|refine brA ?_|refine brE fun _=>?_|refine spl ⟨?_,?_⟩<;>intro _)|refine clo hc ?_)<;>((try simp -implicitDefEqProofs [hi',hil,hx]);(try simp -implicitDefEqProofs(disch:=first|assumption|(try simp only[lens]);omega -splitDisjunctions) [hi',hil,hx]))))
     all_goals first|exact ihn|(refine at2 ihn ?_ ?_<;>simp;done)|(exfalso;first|omega|(simp_all;done)|(simp_all;omega))
  all_goals first|exact main e.kids.length 0 (Nat.zero_add _) hR|(refine at2 main e.kids.length 0 (Nat.zero_add _) hR ?_ ?_<;>simp;done)|(exfalso;first|omega|(simp_all;done)|(simp_all;omega))
end Go.Proofs.Ytfhakdonenhnbaa
namespace Go.Proofs.Ytfhakdonenhnbaa
open Go Go.Pv
def x3 : XC:=.seq (.reg [⟨some 4,.box 25 (.tmp 0),none⟩,⟨some 5,.box 25 (.tmp 1),none⟩,⟨some 7,.box 29 (.tmp 3),none⟩,⟨some 8,.assign (.const (.bool false)),none⟩]) (.seq (.seq (.reg [⟨some 11,.call ⟨.value (.func 6),#[],#[]⟩,none⟩,⟨some 12,.unOp .not 4 (.tmp 11),none⟩]) (.cond (.tmp 12) (.seq (.reg [⟨some 8,.assign (.const (.bool false)),none⟩]) .ret) .skip)) (.seq (.seq (.reg [⟨some 13,.load 29 (.tmp 7),none⟩,⟨some 14,.call ⟨.value (.func 7),#[.tmp 13,.const (.int .i64 0)],#[29,3]⟩,none⟩]) (.cond (.tmp 14) (.seq (.reg [⟨some 8,.assign (.const (.bool true)),none⟩]) .ret) .skip)) (.seq (.reg [⟨some 16,.load 25 (.tmp 4),none⟩,⟨some 17,.load 25 (.tmp 5),none⟩,⟨some 18,.move (.tmp 2),none⟩,⟨some 19,.call ⟨.value (.func 8),#[.tmp 16,.tmp 17,.tmp 18],#[25,25,3]⟩,none⟩,⟨some 15,.move (.tmp 19),none⟩,⟨some 20,.extract (.tmp 15) 0,none⟩,⟨some 21,.extract (.tmp 15) 1,none⟩,⟨some 10,.alloc 33,none⟩,⟨some 9,.assign (.tmp 20),none⟩,⟨none,.store 33 (.tmp 10) (.tmp 21),none⟩]) (.seq (.seq (.reg [⟨some 22,.fieldAddr 33 (.tmp 10) 0,none⟩,⟨some 23,.load 3 (.tmp 22),none⟩,⟨some 24,.binOp .neq 3 (.tmp 23) (.const (.int .i64 0)) 3,none⟩,⟨some 25,.move (.tmp 24),none⟩,⟨some 26,.move (.tmp 9),some (some 25,false)⟩,⟨some 27,.unOp .not 4 (.tmp 26),some (some 25,false)⟩,⟨some 28,.pick (.tmp 25) (.const (.bool true)) (.tmp 27),none⟩,⟨some 29,.move (.tmp 28),none⟩,⟨some 30,.load 29 (.tmp 7),some (some 29,false)⟩,⟨some 31,.call ⟨.value (.func 9),#[.tmp 30],#[29]⟩,some (some 29,false)⟩,⟨some 32,.field 33 (.tmp 31) 0,some (some 29,false)⟩,⟨some 33,.binOp .neq 3 (.tmp 32) (.const (.int .i64 0)) 3,some (some 29,false)⟩,⟨some 34,.pick (.tmp 29) (.const (.bool true)) (.tmp 33),none⟩,⟨some 35,.move (.tmp 34),none⟩,⟨some 36,.load 29 (.tmp 7),some (some 35,false)⟩,⟨some 37,.call ⟨.value (.func 10),#[.tmp 36],#[29]⟩,some (some 35,false)⟩,⟨some 38,.move (.tmp 2),some (some 35,false)⟩,⟨some 39,.binOp .gtr 3 (.tmp 37) (.tmp 38) 3,some (some 35,false)⟩,⟨some 40,.pick (.tmp 35) (.const (.bool true)) (.tmp 39),none⟩,⟨some 41,.move (.tmp 40),none⟩,⟨some 42,.load 25 (.tmp 4),some (some 41,false)⟩,⟨some 43,.load 29 (.tmp 7),some (some 41,false)⟩,⟨some 44,.call ⟨.value (.func 11),#[.tmp 42,.tmp 43,.const (.slice none 0 0)],#[25,29,57]⟩,some (some 41,false)⟩,⟨some 45,.unOp .not 4 (.tmp 44),some (some 41,false)⟩,⟨some 46,.pick (.tmp 41) (.const (.bool true)) (.tmp 45),none⟩]) (.cond (.tmp 46) (.seq (.reg [⟨some 8,.assign (.const (.bool true)),none⟩]) .ret) .skip)) (.seq (.drawn 8 [⟨some 47,.load 25 (.tmp 4),none⟩,⟨some 48,.load 29 (.tmp 7),none⟩,⟨some 49,.call ⟨.value (.func 12),#[.tmp 47,.tmp 48,.const (.slice none 0 0),.const (.slice none 0 0)],#[25,29,57,58]⟩,none⟩,⟨some 50,.load 25 (.tmp 5),none⟩,⟨some 51,.load 29 (.tmp 7),none⟩,⟨some 52,.call ⟨.value (.func 12),#[.tmp 50,.tmp 51,.const (.slice none 0 0),.const (.slice none 0 0)],#[25,29,57,58]⟩,none⟩,⟨some 53,.binOp .eql 4 (.tmp 49) (.tmp 52) 4,none⟩,⟨some 8,.assign (.tmp 53),none⟩]) .ret)))))
@[simp] theorem x3_s {C e s K} : type_of% (@X_at C e s K _ _ x3.eq_1):=X_at x3.eq_1
def an3 : Ann:=⟨[(8,.mix 5)],[],[]⟩
@[simp] theorem an3_a : an3.clsOf 8 = .mix 5 ∧ an3.frzOf 8 = []:=⟨rfl,rfl⟩
theorem fi3 : FI Try.prog 3 (cxA an3) x3 [.tmp 8] Try.f3:=fiA Try.func3 mixed
theorem gamesFraisse_law (a b : Stc) (n : Int) (e : Ex) : CallOK Try.prog 3 [.agg (stc a),.agg (stc b),.int .i64 n,.agg (exr e)] [] (.bool true) []:=by
 have c0:=gamesBegun_law
 have c1:=VastExpr_ref e 0 (by decide)
 have w:=Wins_games a b n
 have c2:=ExprFault_ref e
 by_cases hg : (gameF a b n).1 = 0
 rotate_left
 ·generalize gameF a b n = q at *
  generalize winB a b n = z at *
  generalize vxF e 0 = v at *
  generalize checkX e = q2 at *
  unfold stc at *
  refine fi3.op ?_
  cases v with
  | true=>(refine Sg.h ?_;try repeat' ((first|(with_reducible first|refine brA ?_|refine brE fun _=>?_|refine spl ⟨?_,?_⟩<;>intro _)|refine clo c0 ?_|refine clo c1 ?_)<;>((try simp -implicitDefEqProofs);(try simp -implicitDefEqProofs(disch:=first|assumption|(try simp only[lens]);omega -splitDisjunctions)))))
  | false=>(refine Sg.h ?_;try repeat' ((first|(with_reducible first|refine brA ?_|refine brE fun _=>?_|refine spl ⟨?_,?_⟩<;>intro _)|refine clo c0 ?_|refine clo c1 ?_|refine clo w ?_)<;>((try simp -implicitDefEqProofs [hg]);(try simp -implicitDefEqProofs(disch:=first|assumption|(try simp only[lens]);omega -splitDisjunctions) [hg]))))
 obtain ⟨a1,b1,f1,f2,p1,p2,q1,q2,n1,n2,z⟩:=gameF_zero hg
 rw [winB_of z,z] at w
 obtain ⟨s0,s8,sF,sP,snF,snP,sOF,sOP,_⟩:=stcF_zero a1
 obtain ⟨t0,t8,tF,tP,tnF,tnP,tOF,tOP,_⟩:=stcF_zero b1
 obtain ⟨na,Fa,Pa⟩:=a
 obtain ⟨nb,Fb,Pb⟩:=b
 obtain ⟨m,rfl⟩ : ∃ m : Nat,n = (m : Int):=⟨n.toNat,by omega⟩
 dsimp only at *
 subst f1 f2
 obtain ⟨A,rfl⟩ : ∃ A : Nat,na = (A : Int):=⟨na.toNat,by omega⟩
 obtain ⟨B,rfl⟩ : ∃ B : Nat,nb = (B : Int):=⟨nb.toNat,by omega⟩
 rw [Int.toNat_natCast,Int.toNat_natCast,Int.toNat_natCast] at w
 unfold stc at w
 dsimp only at w
 refine fi3.op ?_
 unfold stc
 dsimp only
 by_cases h2 : (checkX e).1 = 0
 rotate_left
 ·generalize winF A B Pa Pb m [] [] = z at *
  generalize vxF e 0 = v at *
  generalize checkX e = q2 at *
  cases v with
  | true=>(refine Sg.h ?_;try repeat' ((first|(with_reducible first|refine brA ?_|refine brE fun _=>?_|refine spl ⟨?_,?_⟩<;>intro _)|refine clo c0 ?_|refine clo c1 ?_)<;>((try simp -implicitDefEqProofs);(try simp -implicitDefEqProofs(disch:=first|assumption|(try simp only[lens]);omega -splitDisjunctions)))))
  | false=>
   cases z with
   | false=>(refine Sg.h ?_;try repeat' ((first|(with_reducible first|refine brA ?_|refine brE fun _=>?_|refine spl ⟨?_,?_⟩<;>intro _)|refine clo c0 ?_|refine clo c1 ?_|refine clo w ?_)<;>((try simp -implicitDefEqProofs);(try simp -implicitDefEqProofs(disch:=first|assumption|(try simp only[lens]);omega -splitDisjunctions)))))
   | true=>(refine Sg.h ?_;try repeat' ((first|(with_reducible first|refine brA ?_|refine brE fun _=>?_|refine spl ⟨?_,?_⟩<;>intro _)|refine clo c0 ?_|refine clo c1 ?_|refine clo w ?_|refine clo c2 ?_)<;>((try simp -implicitDefEqProofs [h2]);(try simp -implicitDefEqProofs(disch:=first|assumption|(try simp only[lens]);omega -splitDisjunctions) [h2]))))
 obtain ⟨en,eo⟩:=checkM_ok h2
 rw [checkX_zero h2] at c2
 have hdp:=DeepIn_ref e (by have:=deepF_nd e;omega)
 have c3:=Meant_ref (A : Int) s0 s8 [] sOF snF sF Pa snP sP e [] (by simp;omega)
 have c3:=callOK_softG (args:=[.agg [.int .i64 (A : Int),.list [],.list (Pa.map pdRow)],.agg (exr e),.nilsl]) c3 (.cons .refl (.cons .refl (.cons .nil .nil)))
 have x1:=fun hk hok=>ExprValue_ref (A : Int) s0 s8 [] sOF snF sF Pa sOP sP e [] [] rfl (by simp;omega) (fun v h=>by cases h) hk hok
 have x2:=fun hk hok=>ExprValue_ref (B : Int) t0 t8 [] tOF tnF tF Pb tOP tP e [] [] rfl (by simp;omega) (fun v h=>by cases h) hk hok
 have x1:=fun hk hok=>callOK_softG (args:=[.agg [.int .i64 (A : Int),.list [],.list (Pa.map pdRow)],.agg (exr e),.nilsl,.nilsl]) (x1 hk hok) (.cons .refl (.cons .refl (.cons .nil (.cons .nil .nil))))
 have x2:=fun hk hok=>callOK_softG (args:=[.agg [.int .i64 (B : Int),.list [],.list (Pb.map pdRow)],.agg (exr e),.nilsl,.nilsl]) (x2 hk hok) (.cons .refl (.cons .refl (.cons .nil (.cons .nil .nil))))
 have hfr : winF A B Pa Pb m [] [] = true → deepF e ≤ m → exK [] Pa [] e [] = true → valV (A : Int) [] Pa e (envLs [] []) = valV (B : Int) [] Pb e (envLs [] []):=fun hw hd hk=>
  fraisse q1 q2 (fun p hp=>⟨(preds_ok a1 p hp).1,p1 p hp⟩) e m [] [] [] _ _ rfl hw hd hk (exK_ok e eo [] hk) (fun z h=>by cases h)
 have hk2:=exK_same (F:=[]) (L:=[]) q2 q1 e []
 have ok1:=fun h=>exK_ok (F:=[]) (P:=Pa) (L:=[]) e eo [] h
 have ok2:=fun h=>exK_ok (F:=[]) (P:=Pb) (L:=[]) e eo [] h
 rw [← hk2] at x2 ok2
 have x1:=fun h=>x1 h (ok1 h)
 have x2:=fun h=>x2 h (ok2 h)
 clear ok1 ok2 hk2 sOF snF sF sOP sP snP tOF tnF tF tOP tP tnP a1 b1 p1 p2 q1 q2 z hg h2 eo
 generalize winF A B Pa Pb m [] [] = z at *
 generalize vxF e 0 = v at *
 generalize exK [] Pa [] e [] = k at *
 generalize valV (A : Int) [] Pa e (envLs [] []) = y1 at *
 generalize valV (B : Int) [] Pb e (envLs [] []) = y2 at *
 generalize deepF e = d at *
 cases v with
 | true=>(refine Sg.h ?_;try repeat' ((first|(with_reducible first|refine brA ?_|refine brE fun _=>?_|refine spl ⟨?_,?_⟩<;>intro _)|refine clo c0 ?_|refine clo c1 ?_)<;>((try simp -implicitDefEqProofs);(try simp -implicitDefEqProofs(disch:=first|assumption|(try simp only[lens]);omega -splitDisjunctions)))))
 | false=>
 cases z with
 | false=>(refine Sg.h ?_;try repeat' ((first|(with_reducible first|refine brA ?_|refine brE fun _=>?_|refine spl ⟨?_,?_⟩<;>intro _)|refine clo c0 ?_|refine clo c1 ?_|refine clo w ?_)<;>((try simp -implicitDefEqProofs);(try simp -implicitDefEqProofs(disch:=first|assumption|(try simp only[lens]);omega -splitDisjunctions)))))
 | true=>
 by_cases hd : (m : Int) < (d : Int)
 ·(refine Sg.h ?_;try repeat' ((first|(with_reducible first|refine brA ?_|refine brE fun _=>?_|refine spl ⟨?_,?_⟩<;>intro _)|refine clo c0 ?_|refine clo c1 ?_|refine clo w ?_|refine clo c2 ?_|refine clo hdp ?_)<;>((try simp -implicitDefEqProofs [hd]);(try simp -implicitDefEqProofs(disch:=first|assumption|(try simp only[lens]);omega -splitDisjunctions) [hd]))))
 cases k with
 | false=>(refine Sg.h ?_;try repeat' ((first|(with_reducible first|refine brA ?_|refine brE fun _=>?_|refine spl ⟨?_,?_⟩<;>intro _)|refine clo c0 ?_|refine clo c1 ?_|refine clo w ?_|refine clo c2 ?_|refine clo hdp ?_|refine clo c3 ?_)<;>((try simp -implicitDefEqProofs [hd]);(try simp -implicitDefEqProofs(disch:=first|assumption|(try simp only[lens]);omega -splitDisjunctions) [hd]))))
 | true=>
  obtain rfl:=hfr rfl (by omega) rfl
  have x1:=x1 rfl
  have x2:=x2 rfl
  (refine Sg.h ?_;try repeat' ((first|(with_reducible first|refine brA ?_|refine brE fun _=>?_|refine spl ⟨?_,?_⟩<;>intro _)|refine clo c0 ?_|refine clo c1 ?_|refine clo w ?_|refine clo c2 ?_|refine clo hdp ?_|refine clo c3 ?_|refine clo x1 ?_|refine clo x2 ?_)<;>((try simp -implicitDefEqProofs [hd]);(try simp -implicitDefEqProofs(disch:=first|assumption|(try simp only[lens]);omega -splitDisjunctions) [hd]))))
end Go.Proofs.Ytfhakdonenhnbaa
