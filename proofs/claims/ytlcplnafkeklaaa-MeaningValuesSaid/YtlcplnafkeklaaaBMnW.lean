import Derived.Test.YtlcplnafkeklaaaBMnF
import Derived.Test.YtlcplnafkeklaaaBFaM
set_option linter.unusedVariables false
set_option linter.unusedSimpArgs false
set_option maxRecDepth 100000
set_option maxHeartbeats 4000000
namespace Go.Proofs.Ytlcplnafkeklaaa
open Go Go.Pv
def x39_T1 : XC:=.seq (.seq (.reg [⟨some 23,.fieldAddr 29 (.tmp 1) 0,none⟩,⟨some 24,.load 3 (.tmp 23),none⟩,⟨some 25,.binOp .eql 3 (.tmp 24) (.const (.int .i64 9)) 3,none⟩,⟨some 26,.move (.tmp 25),none⟩,⟨some 27,.fieldAddr 29 (.tmp 1) 0,some (some 26,false)⟩,⟨some 28,.load 3 (.tmp 27),some (some 26,false)⟩,⟨some 29,.binOp .eql 3 (.tmp 28) (.const (.int .i64 10)) 3,some (some 26,false)⟩,⟨some 30,.pick (.tmp 26) (.const (.bool true)) (.tmp 29),none⟩]) (.cond (.tmp 30) (.seq (.reg [⟨some 31,.move (.tmp 3),none⟩,⟨some 32,.binOp .add 3 (.tmp 31) (.const (.int .i64 1)) 3,none⟩,⟨some 2,.assign (.tmp 32),none⟩]) .ret) .skip)) (.seq (.reg [⟨some 33,.move (.tmp 3),none⟩,⟨some 2,.assign (.tmp 33),none⟩]) .ret)
def x39_L0 : XC:=.seq (.seq (.reg [⟨some 6,.move (.tmp 4),none⟩,⟨some 7,.fieldAddr 29 (.tmp 1) 3,none⟩,⟨some 8,.load 27 (.tmp 7),none⟩,⟨some 9,.call ⟨.builtin .len,#[.tmp 8],#[27]⟩,none⟩,⟨some 10,.binOp .lss 3 (.tmp 6) (.tmp 9) 3,none⟩]) (.cond (.tmp 10) .skip (.exit 0))) (.seq (.block 1 (.seq (.reg [⟨some 13,.fieldAddr 29 (.tmp 1) 3,none⟩,⟨some 14,.load 27 (.tmp 13),none⟩,⟨some 15,.move (.tmp 4),none⟩,⟨some 16,.indexAddr 27 (.tmp 14) (.tmp 15),none⟩,⟨some 17,.load 29 (.tmp 16),none⟩,⟨some 18,.call ⟨.value (.func 39),#[.tmp 17],#[29]⟩,none⟩,⟨some 5,.assign (.tmp 18),none⟩]) (.seq (.reg [⟨some 19,.move (.tmp 5),none⟩,⟨some 20,.move (.tmp 3),none⟩,⟨some 21,.binOp .gtr 3 (.tmp 19) (.tmp 20) 3,none⟩]) (.cond (.tmp 21) (.reg [⟨some 22,.move (.tmp 5),none⟩,⟨some 3,.assign (.tmp 22),none⟩]) .skip)))) (.reg [⟨some 11,.move (.tmp 4),none⟩,⟨some 12,.binOp .add 3 (.tmp 11) (.const (.int .i64 1)) 3,none⟩,⟨some 4,.assign (.tmp 12),none⟩]))
def x39 : XC:=.seq (.reg [⟨some 1,.box 29 (.tmp 0),none⟩,⟨some 2,.assign (.const (.int .i64 0)),none⟩]) (.seq (.reg [⟨some 3,.assign (.const (.int .i64 0)),none⟩]) (.seq (.seq (.reg [⟨some 4,.assign (.const (.int .i64 0)),none⟩]) (.bloop 0 x39_L0)) (x39_T1)))
@[simp] theorem x39_s {C e s K} : type_of% (@X_at C e s K _ _ x39_T1.eq_1) ∧ type_of% (@X_at C e s K _ _ x39_L0.eq_1) ∧ type_of% (@X_at C e s K _ _ x39.eq_1):=⟨X_at x39_T1.eq_1,X_at x39_L0.eq_1,X_at x39.eq_1⟩
def an39 : Ann:=⟨[],[(0,[],[1,3,4],[1,3])],[]⟩
@[simp] theorem an39_a : an39.loopOf 0 = ([],[1,3,4],[1,3]):=rfl
theorem fi39 : FI Try.prog 39 (cxA an39) x39 [.tmp 2] Try.f39:=fiA Try.func39 mixed
theorem DeepIn_ref (e : Ex) (hsm : deepF e ≤ 1000000) : CallOK Try.prog 39 [.agg (exr e)] [] (.int .i64 (deepF e : Int)) []:=by
 induction e using Ex.ind with
 | h e ih=>
  have he:=exr_eq e
  rw [deepF_eq] at hsm ⊢
  refine fi39.op ?_
  (refine Sg.h ?_;try repeat' ((with_reducible first|refine brA ?_|refine brE fun _=>?_|refine spl ⟨?_,?_⟩<;>intro _)<;>((try simp -implicitDefEqProofs);(try simp -implicitDefEqProofs(disch:=first|assumption|(try simp only[lens]);omega -splitDisjunctions)))))
  refine W_of fun Q hQ=>?_
  obtain ⟨M,hM⟩ : ∃ M,deepsF e.kids = M:=⟨_,rfl⟩
  have hkd : ∀ q ∈ e.kids,deepF q ≤ M:=fun q hq=>hM ▸ deeps_mem q hq
  rw [hM] at hsm hQ
  have main : ∀ n i d,i + n = e.kids.length → max d (deepsF (e.kids.drop i)) = M → Q [(1,.ptr 0 0 0),(3,.int .i64 (d : Int)),(4,.int .i64 (i : Int))] [.rows 4 [exr e]]:=by
   intro n
   induction n with
   | zero=>
    intro i d hi hd
    rw [List.drop_of_length_le (by omega),deepsF] at hd
    obtain rfl : d = M:=by omega
    obtain rfl : i = e.kids.length:=by omega
    by_cases hk9 : e.k = 9
    ·rw [if_pos (.inl hk9)] at hsm hQ
     apply hQ
     clear hQ
     (refine Sg.h ?_;try repeat' ((with_reducible first|refine brA ?_|refine brE fun _=>?_|refine spl ⟨?_,?_⟩<;>intro _)<;>((try simp -implicitDefEqProofs [hk9]);(try simp -implicitDefEqProofs(disch:=first|assumption|(try simp only[lens]);omega -splitDisjunctions) [hk9]))))
    by_cases hk10 : e.k = 10
    ·rw [if_pos (.inr hk10)] at hsm hQ
     apply hQ
     clear hQ
     (refine Sg.h ?_;try repeat' ((with_reducible first|refine brA ?_|refine brE fun _=>?_|refine spl ⟨?_,?_⟩<;>intro _)<;>((try simp -implicitDefEqProofs [hk9,hk10]);(try simp -implicitDefEqProofs(disch:=first|assumption|(try simp only[lens]);omega -splitDisjunctions) [hk9,hk10]))))
    rw [if_neg (fun g=>g.elim hk9 hk10)] at hsm hQ
    apply hQ
    clear hQ
    (refine Sg.h ?_;try repeat' ((with_reducible first|refine brA ?_|refine brE fun _=>?_|refine spl ⟨?_,?_⟩<;>intro _)<;>((try simp -implicitDefEqProofs [hk9,hk10]);(try simp -implicitDefEqProofs(disch:=first|assumption|(try simp only[lens]);omega -splitDisjunctions) [hk9,hk10]))))
   | succ n ihn=>
    intro i d hi hd
    have hil : i < e.kids.length:=by omega
    rw [List.drop_eq_getElem_cons hil,deepsF] at hd
    have hkm:=List.getElem_mem hil
    have hc:=ih _ hkm (by have:=hkd _ hkm;split at hsm <;> omega)
    have hdm:=hkd _ hkm
    have ihn:=ihn (i + 1)
    have hi' : (i : Int) < (e.kids.length : Int):=by omega
    generalize hx : e.kids[i] = x at *
    generalize deepF x = m at *
    apply hQ
    clear hQ
    by_cases hm : d < m
    ·have ihn := ihn m (by omega) (by omega)
     have hm' : (d : Int) < (m : Int):=by omega
     (refine Sg.h ?_;try repeat' ((first|(with_reducible first|refine brA ?_|refine brE fun _=>?_|refine spl ⟨?_,?_⟩<;>intro _)|refine clo hc ?_)<;>((try simp -implicitDefEqProofs [hi',hil,hx,hm']);(try simp -implicitDefEqProofs(disch:=first|assumption|(try simp only[lens]);omega -splitDisjunctions) [hi',hil,hx,hm']))))
     all_goals first|exact ihn|(refine at2 ihn ?_ ?_<;>simp;done)|(exfalso;first|omega|(simp_all;done)|(simp_all;omega))
    ·have ihn := ihn d (by omega) (by omega)
     have hm' : ¬ (d : Int) < (m : Int):=by omega
     (refine Sg.h ?_;try repeat' ((first|(with_reducible first|refine brA ?_|refine brE fun _=>?_|refine spl ⟨?_,?_⟩<;>intro _)|refine clo hc ?_)<;>((try simp -implicitDefEqProofs [hi',hil,hx,hm']);(try simp -implicitDefEqProofs(disch:=first|assumption|(try simp only[lens]);omega -splitDisjunctions) [hi',hil,hx,hm']))))
     all_goals first|exact ihn|(refine at2 ihn ?_ ?_<;>simp;done)|(exfalso;first|omega|(simp_all;done)|(simp_all;omega))
  all_goals first|exact main e.kids.length 0 0 (Nat.zero_add _) (by rw [List.drop_zero,hM];omega)|(refine at2 main e.kids.length 0 0 (Nat.zero_add _) (by rw [List.drop_zero,hM];omega) ?_ ?_<;>simp;done)|(exfalso;first|omega|(simp_all;done)|(simp_all;omega))
mutual
def vwF : Wd → Nat → Bool
 | .mk _ l=>fun d=>decide (25000 < d) || decide (25000 < l.length) || vwsF l (d + 1)
def vwsF : List Wd → Nat → Bool
 | []=>fun _=>false
 | w :: r=>fun d=>vwF w d || vwsF r d
end
theorem vwF_eq (w : Wd) (d : Nat) : vwF w d = (decide (25000 < d) || decide (25000 < w.args.length) || vwsF w.args (d + 1)):=by
 cases w with | mk a l=>rw [vwF];rfl
def x21_L0 : XC:=.seq (.seq (.reg [⟨some 13,.move (.tmp 5),none⟩,⟨some 14,.move (.tmp 0),none⟩,⟨some 15,.call ⟨.builtin .len,#[.tmp 14],#[26]⟩,none⟩,⟨some 16,.binOp .lss 3 (.tmp 13) (.tmp 15) 3,none⟩]) (.cond (.tmp 16) .skip (.exit 0))) (.seq (.block 1 (.seq (.reg [⟨some 19,.move (.tmp 0),none⟩,⟨some 20,.move (.tmp 5),none⟩,⟨some 21,.indexAddr 26 (.tmp 19) (.tmp 20),none⟩,⟨some 22,.fieldAddr 68 (.tmp 21) 1,none⟩,⟨some 23,.load 26 (.tmp 22),none⟩,⟨some 24,.move (.tmp 1),none⟩,⟨some 25,.binOp .add 3 (.tmp 24) (.const (.int .i64 1)) 3,none⟩,⟨some 26,.call ⟨.value (.func 21),#[.tmp 23,.tmp 25],#[26,3]⟩,none⟩]) (.cond (.tmp 26) (.seq (.reg [⟨some 4,.assign (.const (.bool true)),none⟩]) .ret) .skip))) (.reg [⟨some 17,.move (.tmp 5),none⟩,⟨some 18,.binOp .add 3 (.tmp 17) (.const (.int .i64 1)) 3,none⟩,⟨some 5,.assign (.tmp 18),none⟩]))
def x21 : XC:=.seq (.reg [⟨some 4,.assign (.const (.bool false)),none⟩]) (.seq (.seq (.reg [⟨some 6,.move (.tmp 1),none⟩,⟨some 7,.binOp .gtr 3 (.tmp 6) (.const (.int .i64 25000)) 3,none⟩,⟨some 8,.move (.tmp 7),none⟩,⟨some 9,.move (.tmp 0),some (some 8,false)⟩,⟨some 10,.call ⟨.builtin .len,#[.tmp 9],#[26]⟩,some (some 8,false)⟩,⟨some 11,.binOp .gtr 3 (.tmp 10) (.const (.int .i64 25000)) 3,some (some 8,false)⟩,⟨some 12,.pick (.tmp 8) (.const (.bool true)) (.tmp 11),none⟩]) (.cond (.tmp 12) (.seq (.reg [⟨some 4,.assign (.const (.bool true)),none⟩]) .ret) .skip)) (.seq (.seq (.reg [⟨some 5,.assign (.const (.int .i64 0)),none⟩]) (.bloop 0 x21_L0)) (.seq (.reg [⟨some 4,.assign (.const (.bool false)),none⟩]) .ret)))
@[simp] theorem x21_s {C e s K} : type_of% (@X_at C e s K _ _ x21_L0.eq_1) ∧ type_of% (@X_at C e s K _ _ x21.eq_1):=⟨X_at x21_L0.eq_1,X_at x21.eq_1⟩
def an21 : Ann:=⟨[],[(0,[],[0,1,5],[4])],[]⟩
@[simp] theorem an21_a : an21.loopOf 0 = ([],[0,1,5],[4]):=rfl
theorem fi21 : FI Try.prog 21 (cxA an21) x21 [.tmp 4] Try.f21:=fiA Try.func21 mixed
theorem vastWords_ref (w : Wd) : ∀ d : Nat,d ≤ 25001 → CallOK Try.prog 21 [.list (w.args.map wrd),.int .i64 (d : Int)] [] (.bool (vwF w d)) []:=by
 induction w using Wd.ind with
 | h w ih=>
  intro d hd
  rw [vwF_eq]
  refine fi21.op ?_
  by_cases h1 : 25000 < d
  ·have h1' : (25000 : Int) < (d : Int) := by omega
   rw [decide_eq_true h1]
   (refine Sg.h ?_;try repeat' ((with_reducible first|refine brA ?_|refine brE fun _=>?_|refine spl ⟨?_,?_⟩<;>intro _)<;>((try simp -implicitDefEqProofs [h1']);(try simp -implicitDefEqProofs(disch:=first|assumption|(try simp only[lens]);omega -splitDisjunctions) [h1']))))
   all_goals simp
  have h1' : ¬ (25000 : Int) < (d : Int):=by omega
  rw [decide_eq_false h1]
  by_cases h2 : 25000 < w.args.length
  ·have h2' : (25000 : Int) < (w.args.length : Int) := by omega
   rw [decide_eq_true h2]
   (refine Sg.h ?_;try repeat' ((with_reducible first|refine brA ?_|refine brE fun _=>?_|refine spl ⟨?_,?_⟩<;>intro _)<;>((try simp -implicitDefEqProofs [h1',h2']);(try simp -implicitDefEqProofs(disch:=first|assumption|(try simp only[lens]);omega -splitDisjunctions) [h1',h2']))))
   all_goals simp
  have h2' : ¬ (25000 : Int) < (w.args.length : Int):=by omega
  rw [decide_eq_false h2,Bool.false_or,Bool.false_or]
  (refine Sg.h ?_;try repeat' ((with_reducible first|refine brA ?_|refine brE fun _=>?_|refine spl ⟨?_,?_⟩<;>intro _)<;>((try simp -implicitDefEqProofs [h1',h2']);(try simp -implicitDefEqProofs(disch:=first|assumption|(try simp only[lens]);omega -splitDisjunctions) [h1',h2']))))
  obtain ⟨R,hR⟩ : ∃ R,vwsF w.args (d + 1) = R:=⟨_,rfl⟩
  rw [hR]
  refine W_of fun Q hQ=>?_
  have main : ∀ n i,i + n = w.args.length → vwsF (w.args.drop i) (d + 1) = R → Q [(0,.list (w.args.map wrd)),(1,.int .i64 (d : Int)),(5,.int .i64 (i : Int))] []:=by
   intro n
   induction n with
   | zero=>
    intro i hi hR
    rw [List.drop_of_length_le (by omega),vwsF] at hR
    dsimp only at hR
    subst hR
    obtain rfl : i = w.args.length:=by omega
    apply hQ
    clear hQ
    (refine Sg.h ?_;try repeat' ((with_reducible first|refine brA ?_|refine brE fun _=>?_|refine spl ⟨?_,?_⟩<;>intro _)<;>((try simp -implicitDefEqProofs);(try simp -implicitDefEqProofs(disch:=first|assumption|(try simp only[lens]);omega -splitDisjunctions)))))
   | succ n ihn=>
    intro i hi hR
    have hil : i < w.args.length:=by omega
    rw [List.drop_eq_getElem_cons hil,vwsF] at hR
    dsimp only at hR
    have hc:=ih _ (List.getElem_mem hil) (d + 1) (by omega)
    have ihn:=ihn (i + 1) (by omega)
    have hi' : (i : Int) < (w.args.length : Int):=by omega
    generalize hx : w.args[i] = x at *
    generalize vwF x (d + 1) = b at *
    apply hQ
    clear hQ
    cases b with
    | true=>
     rw [Bool.true_or] at hR
     subst hR
     (refine Sg.h ?_;try repeat' ((first|(with_reducible first|refine brA ?_|refine brE fun _=>?_|refine spl ⟨?_,?_⟩<;>intro _)|refine clo hc ?_)<;>((try simp -implicitDefEqProofs [hi',hil,hx]);(try simp -implicitDefEqProofs(disch:=first|assumption|(try simp only[lens]);omega -splitDisjunctions) [hi',hil,hx]))))
    | false=>
     rw [Bool.false_or] at hR
     have ihn:=ihn hR
     (refine Sg.h ?_;try repeat' ((first|(with_reducible first|refine brA ?_|refine brE fun _=>?_|refine spl ⟨?_,?_⟩<;>intro _)|refine clo hc ?_)<;>((try simp -implicitDefEqProofs [hi',hil,hx]);(try simp -implicitDefEqProofs(disch:=first|assumption|(try simp only[lens]);omega -splitDisjunctions) [hi',hil,hx]))))
     all_goals first|exact ihn|(refine at2 ihn ?_ ?_<;>simp;done)|(exfalso;first|omega|(simp_all;done)|(simp_all;omega))
  all_goals first|exact main w.args.length 0 (Nat.zero_add _) hR|(refine at2 main w.args.length 0 (Nat.zero_add _) hR ?_ ?_<;>simp;done)|(exfalso;first|omega|(simp_all;done)|(simp_all;omega))
mutual
def vxF : Ex → Nat → Bool
 | .mk _ _ ws l=>fun d=>decide (25000 < d) || decide (25000 < l.length) || vwF (.mk ⟨#[]⟩ ws) d || vxsF l (d + 1)
def vxsF : List Ex → Nat → Bool
 | []=>fun _=>false
 | e :: r=>fun d=>vxF e d || vxsF r d
end
theorem vxF_eq (e : Ex) (d : Nat) : vxF e d = (decide (25000 < d) || decide (25000 < e.kids.length) || vwF (.mk ⟨#[]⟩ e.words) d || vxsF e.kids (d + 1)):=by
 cases e with | mk k a w l=>rw [vxF];rfl
def x7_L0 : XC:=.seq (.seq (.reg [⟨some 20,.move (.tmp 5),none⟩,⟨some 21,.fieldAddr 29 (.tmp 2) 3,none⟩,⟨some 22,.load 27 (.tmp 21),none⟩,⟨some 23,.call ⟨.builtin .len,#[.tmp 22],#[27]⟩,none⟩,⟨some 24,.binOp .lss 3 (.tmp 20) (.tmp 23) 3,none⟩]) (.cond (.tmp 24) .skip (.exit 0))) (.seq (.block 1 (.seq (.reg [⟨some 27,.fieldAddr 29 (.tmp 2) 3,none⟩,⟨some 28,.load 27 (.tmp 27),none⟩,⟨some 29,.move (.tmp 5),none⟩,⟨some 30,.indexAddr 27 (.tmp 28) (.tmp 29),none⟩,⟨some 31,.load 29 (.tmp 30),none⟩,⟨some 32,.move (.tmp 1),none⟩,⟨some 33,.binOp .add 3 (.tmp 32) (.const (.int .i64 1)) 3,none⟩,⟨some 34,.call ⟨.value (.func 7),#[.tmp 31,.tmp 33],#[29,3]⟩,none⟩]) (.cond (.tmp 34) (.seq (.reg [⟨some 4,.assign (.const (.bool true)),none⟩]) .ret) .skip))) (.reg [⟨some 25,.move (.tmp 5),none⟩,⟨some 26,.binOp .add 3 (.tmp 25) (.const (.int .i64 1)) 3,none⟩,⟨some 5,.assign (.tmp 26),none⟩]))
def x7 : XC:=.seq (.reg [⟨some 2,.box 29 (.tmp 0),none⟩,⟨some 4,.assign (.const (.bool false)),none⟩]) (.seq (.seq (.reg [⟨some 6,.move (.tmp 1),none⟩,⟨some 7,.binOp .gtr 3 (.tmp 6) (.const (.int .i64 25000)) 3,none⟩,⟨some 8,.move (.tmp 7),none⟩,⟨some 9,.fieldAddr 29 (.tmp 2) 3,some (some 8,false)⟩,⟨some 10,.load 27 (.tmp 9),some (some 8,false)⟩,⟨some 11,.call ⟨.builtin .len,#[.tmp 10],#[27]⟩,some (some 8,false)⟩,⟨some 12,.binOp .gtr 3 (.tmp 11) (.const (.int .i64 25000)) 3,some (some 8,false)⟩,⟨some 13,.pick (.tmp 8) (.const (.bool true)) (.tmp 12),none⟩,⟨some 14,.move (.tmp 13),none⟩,⟨some 15,.fieldAddr 29 (.tmp 2) 2,some (some 14,false)⟩,⟨some 16,.load 26 (.tmp 15),some (some 14,false)⟩,⟨some 17,.move (.tmp 1),some (some 14,false)⟩,⟨some 18,.call ⟨.value (.func 21),#[.tmp 16,.tmp 17],#[26,3]⟩,some (some 14,false)⟩,⟨some 19,.pick (.tmp 14) (.const (.bool true)) (.tmp 18),none⟩]) (.cond (.tmp 19) (.seq (.reg [⟨some 4,.assign (.const (.bool true)),none⟩]) .ret) .skip)) (.seq (.seq (.reg [⟨some 5,.assign (.const (.int .i64 0)),none⟩]) (.bloop 0 x7_L0)) (.seq (.reg [⟨some 4,.assign (.const (.bool false)),none⟩]) .ret)))
@[simp] theorem x7_s {C e s K} : type_of% (@X_at C e s K _ _ x7_L0.eq_1) ∧ type_of% (@X_at C e s K _ _ x7.eq_1):=⟨X_at x7_L0.eq_1,X_at x7.eq_1⟩
def an7 : Ann:=⟨[],[(0,[],[1,2,5],[4])],[]⟩
@[simp] theorem an7_a : an7.loopOf 0 = ([],[1,2,5],[4]):=rfl
theorem fi7 : FI Try.prog 7 (cxA an7) x7 [.tmp 4] Try.f7:=fiA Try.func7 mixed
theorem VastExpr_ref (e : Ex) : ∀ d : Nat,d ≤ 25001 → CallOK Try.prog 7 [.agg (exr e),.int .i64 (d : Int)] [] (.bool (vxF e d)) []:=by
 induction e using Ex.ind with
 | h e ih=>
  intro d hd
  have he:=exr_eq e
  have hw:=vastWords_ref (.mk ⟨#[]⟩ e.words) d hd
  change CallOK _ _ [.list (e.words.map wrd),_] _ _ _ at hw
  rw [vxF_eq]
  generalize vwF (.mk ⟨#[]⟩ e.words) d = b at *
  refine fi7.op ?_
  by_cases h1 : 25000 < d
  ·have h1' : (25000 : Int) < (d : Int) := by omega
   rw [decide_eq_true h1]
   (refine Sg.h ?_;try repeat' ((with_reducible first|refine brA ?_|refine brE fun _=>?_|refine spl ⟨?_,?_⟩<;>intro _)<;>((try simp -implicitDefEqProofs [h1']);(try simp -implicitDefEqProofs(disch:=first|assumption|(try simp only[lens]);omega -splitDisjunctions) [h1']))))
   all_goals simp
  have h1' : ¬ (25000 : Int) < (d : Int):=by omega
  rw [decide_eq_false h1]
  by_cases h2 : 25000 < e.kids.length
  ·have h2' : (25000 : Int) < (e.kids.length : Int) := by omega
   rw [decide_eq_true h2]
   (refine Sg.h ?_;try repeat' ((with_reducible first|refine brA ?_|refine brE fun _=>?_|refine spl ⟨?_,?_⟩<;>intro _)<;>((try simp -implicitDefEqProofs [h1',h2']);(try simp -implicitDefEqProofs(disch:=first|assumption|(try simp only[lens]);omega -splitDisjunctions) [h1',h2']))))
   all_goals simp
  have h2' : ¬ (25000 : Int) < (e.kids.length : Int):=by omega
  rw [decide_eq_false h2,Bool.false_or,Bool.false_or]
  cases b with
  | true=>
   rw [Bool.true_or]
   (refine Sg.h ?_;try repeat' ((first|(with_reducible first|refine brA ?_|refine brE fun _=>?_|refine spl ⟨?_,?_⟩<;>intro _)|refine clo hw ?_)<;>((try simp -implicitDefEqProofs [h1',h2']);(try simp -implicitDefEqProofs(disch:=first|assumption|(try simp only[lens]);omega -splitDisjunctions) [h1',h2']))))
  | false=>
  rw [Bool.false_or]
  (refine Sg.h ?_;try repeat' ((first|(with_reducible first|refine brA ?_|refine brE fun _=>?_|refine spl ⟨?_,?_⟩<;>intro _)|refine clo hw ?_)<;>((try simp -implicitDefEqProofs [h1',h2']);(try simp -implicitDefEqProofs(disch:=first|assumption|(try simp only[lens]);omega -splitDisjunctions) [h1',h2']))))
  obtain ⟨R,hR⟩ : ∃ R,vxsF e.kids (d + 1) = R:=⟨_,rfl⟩
  rw [hR]
  refine W_of fun Q hQ=>?_
  have main : ∀ n i,i + n = e.kids.length → vxsF (e.kids.drop i) (d + 1) = R → Q [(1,.int .i64 (d : Int)),(2,.ptr 0 0 0),(5,.int .i64 (i : Int))] [.rows 4 [exr e]]:=by
   intro n
   induction n with
   | zero=>
    intro i hi hR
    rw [List.drop_of_length_le (by omega),vxsF] at hR
    dsimp only at hR
    subst hR
    obtain rfl : i = e.kids.length:=by omega
    apply hQ
    clear hQ
    (refine Sg.h ?_;try repeat' ((with_reducible first|refine brA ?_|refine brE fun _=>?_|refine spl ⟨?_,?_⟩<;>intro _)<;>((try simp -implicitDefEqProofs);(try simp -implicitDefEqProofs(disch:=first|assumption|(try simp only[lens]);omega -splitDisjunctions)))))
   | succ n ihn=>
    intro i hi hR
    have hil : i < e.kids.length:=by omega
    rw [List.drop_eq_getElem_cons hil,vxsF] at hR
    dsimp only at hR
    have hc:=ih _ (List.getElem_mem hil) (d + 1) (by omega)
    have ihn:=ihn (i + 1) (by omega)
    have hi' : (i : Int) < (e.kids.length : Int):=by omega
    generalize hx : e.kids[i] = x at *
    generalize vxF x (d + 1) = b at *
    apply hQ
    clear hQ
    cases b with
    | true=>
     rw [Bool.true_or] at hR
     subst hR
     (refine Sg.h ?_;try repeat' ((first|(with_reducible first|refine brA ?_|refine brE fun _=>?_|refine spl ⟨?_,?_⟩<;>intro _)|refine clo hc ?_)<;>((try simp -implicitDefEqProofs [hi',hil,hx]);(try simp -implicitDefEqProofs(disch:=first|assumption|(try simp only[lens]);omega -splitDisjunctions) [hi',hil,hx]))))
    | false=>
     rw [Bool.false_or] at hR
     have ihn:=ihn hR
     (refine Sg.h ?_;try repeat' ((first|(with_reducible first|refine brA ?_|refine brE fun _=>?_|refine spl ⟨?_,?_⟩<;>intro _)|refine clo hc ?_)<;>((try simp -implicitDefEqProofs [hi',hil,hx]);(try simp -implicitDefEqProofs(disch:=first|assumption|(try simp only[lens]);omega -splitDisjunctions) [hi',hil,hx]))))
     all_goals first|exact ihn|(refine at2 ihn ?_ ?_<;>simp;done)|(exfalso;first|omega|(simp_all;done)|(simp_all;omega))
  all_goals first|exact main e.kids.length 0 (Nat.zero_add _) hR|(refine at2 main e.kids.length 0 (Nat.zero_add _) hR ?_ ?_<;>simp;done)|(exfalso;first|omega|(simp_all;done)|(simp_all;omega))
end Go.Proofs.Ytlcplnafkeklaaa
namespace Go.Proofs.Ytlcplnafkeklaaa
open Go Go.Pv
theorem take_snocV {α : Type} {l : List α} {i : Nat} (h : i < l.length) : l.take (i + 1) = l.take i ++ [l[i]]:=by
 rw [List.take_add_one,List.getElem?_eq_getElem h];rfl
def x35_T1 : XC:=.seq (.reg [⟨some 26,.load 68 (.tmp 3),none⟩,⟨none,.store 68 (.tmp 2) (.tmp 26),none⟩]) .ret
def x35_L0 : XC:=.seq (.seq (.reg [⟨some 8,.move (.tmp 4),none⟩,⟨some 9,.fieldAddr 68 (.tmp 1) 1,none⟩,⟨some 10,.load 26 (.tmp 9),none⟩,⟨some 11,.call ⟨.builtin .len,#[.tmp 10],#[26]⟩,none⟩,⟨some 12,.binOp .lss 3 (.tmp 8) (.tmp 11) 3,none⟩]) (.cond (.tmp 12) .skip (.exit 0))) (.seq (.block 1 (.drawn 5 [⟨some 15,.fieldAddr 68 (.tmp 3) 1,none⟩,⟨some 16,.load 26 (.tmp 15),none⟩,⟨some 17,.fieldAddr 68 (.tmp 1) 1,none⟩,⟨some 18,.load 26 (.tmp 17),none⟩,⟨some 19,.move (.tmp 4),none⟩,⟨some 20,.indexAddr 26 (.tmp 18) (.tmp 19),none⟩,⟨some 21,.load 68 (.tmp 20),none⟩,⟨some 22,.call ⟨.value (.func 35),#[.tmp 21],#[68]⟩,none⟩,⟨some 23,.buildSlice 26 1 #[(0,.tmp 22)],none⟩,⟨some 24,.call ⟨.builtin .append,#[.tmp 16,.tmp 23],#[26,26]⟩,none⟩,⟨some 25,.fieldAddr 68 (.tmp 3) 1,none⟩,⟨none,.store 26 (.tmp 25) (.tmp 24),none⟩])) (.reg [⟨some 13,.move (.tmp 4),none⟩,⟨some 14,.binOp .add 3 (.tmp 13) (.const (.int .i64 1)) 3,none⟩,⟨some 4,.assign (.tmp 14),none⟩]))
def x35 : XC:=.seq (.reg [⟨some 1,.box 68 (.tmp 0),none⟩,⟨some 2,.alloc 68,none⟩]) (.seq (.reg [⟨some 5,.fieldAddr 68 (.tmp 1) 0,none⟩,⟨some 6,.load 9 (.tmp 5),none⟩,⟨some 7,.build 68 #[(0,.tmp 6)],none⟩,⟨some 3,.alloc 68,none⟩,⟨none,.store 68 (.tmp 3) (.tmp 7),none⟩]) (.seq (.seq (.reg [⟨some 4,.assign (.const (.int .i64 0)),none⟩]) (.bloop 0 x35_L0)) (x35_T1)))
@[simp] theorem x35_s {C e s K} : type_of% (@X_at C e s K _ _ x35_T1.eq_1) ∧ type_of% (@X_at C e s K _ _ x35_L0.eq_1) ∧ type_of% (@X_at C e s K _ _ x35.eq_1):=⟨X_at x35_T1.eq_1,X_at x35_L0.eq_1,X_at x35.eq_1⟩
def an35 : Ann:=⟨[(5,.mix 9)],[(0,[(3,some 1,2)],[1,2,3,4],[2,3])],[]⟩
@[simp] theorem an35_a : an35.clsOf 5 = .mix 9 ∧ an35.frzOf 5 = [] ∧ an35.loopOf 0 = ([(3,some 1,2)],[1,2,3,4],[2,3]):=⟨rfl,rfl,rfl⟩
theorem fi35 : FI Try.prog 35 (cxA an35) x35 [.cell 2 68] Try.f35:=fiA Try.func35 mixed
theorem ownWord_step (w : Wd) (hl : w.args.length ≤ 30000) (ih : ∀ x ∈ w.args,CallOK Try.prog 35 [.agg (wrd x)] [] (.agg (wrd x)) []) : CallOK Try.prog 35 [.agg (wrd w)] [] (.agg (wrd w)) []:=by
 have he:=wrd_eq w
 refine fi35.os ?_
 (refine Sg.h ?_;try repeat' ((with_reducible first|refine brA ?_|refine brE fun _=>?_|refine spl ⟨?_,?_⟩<;>intro _)<;>((try simp -implicitDefEqProofs);(try simp -implicitDefEqProofs(disch:=first|assumption|(try simp only[lens]);omega -splitDisjunctions)))))
 refine W_of fun Q hQ=>?_
 have main : ∀ n i,i + n = w.args.length → Q [(1,.ptr 0 0 0),(2,.ptr 1 0 0),(3,.ptr 2 0 0),(4,.int .i64 (i : Int))] [.rows 2 [wrd w],.rows 2 [[.str ⟨#[]⟩,.nilsl]],.rows 2 [[.str w.nm,.sl 3 0 (w.args.take i).length]],.rows 2 ((w.args.take i).map wrd)]:=by
  intro n
  induction n with
  | zero=>
   intro i hi
   rw [List.take_of_length_le (by omega)]
   have hi' : ¬ (i : Int) < (w.args.length : Int):=by omega
   apply hQ
   clear hQ ih
   (refine Sg.h ?_;try repeat' ((with_reducible first|refine brA ?_|refine brE fun _=>?_|refine spl ⟨?_,?_⟩<;>intro _)<;>((try simp -implicitDefEqProofs [hi',he]);(try simp -implicitDefEqProofs(disch:=first|assumption|(try simp only[lens]);omega -splitDisjunctions) [hi',he]))))
  | succ n ihn=>
   intro i hi
   have hil : i < w.args.length:=by omega
   have ihn:=ihn (i + 1) (by omega)
   have hc:=ih w.args[i] (List.getElem_mem ..)
   rw [take_snocV hil] at ihn
   have hlt : (w.args.take i).length ≤ 30000:=by rw [List.length_take];omega
   have hi' : (i : Int) < (w.args.length : Int):=by omega
   generalize w.args.take i = T at *
   generalize hx : w.args[i] = x at *
   rw [List.map_append,List.map_singleton] at ihn
   clear ih
   apply hQ
   clear hQ
   (refine Sg.h ?_;try repeat' ((first|(with_reducible first|refine brA ?_|refine brE fun _=>?_|refine spl ⟨?_,?_⟩<;>intro _)|refine clo hc ?_)<;>((try simp -implicitDefEqProofs [hi',hil,hx]);(try simp -implicitDefEqProofs(disch:=first|assumption|(try simp only[lens]);omega -splitDisjunctions) [hi',hil,hx]))))
   all_goals first|exact ihn|(refine at2 ihn ?_ ?_<;>simp;done)|(exfalso;first|omega|(simp_all;done)|(simp_all;omega))
 all_goals first|exact main w.args.length 0 (Nat.zero_add _)|(refine at2 main w.args.length 0 (Nat.zero_add _) ?_ ?_<;>simp;done)|(exfalso;first|omega|(simp_all;done)|(simp_all;omega))
theorem vwsF_mem {d : Nat} : ∀ {l : List Wd},vwsF l d = false → ∀ x ∈ l,vwF x d = false
 | [],_,x,hx=>by cases hx
 | a :: r,h,x,hx=>by
  rw [vwsF] at h
  dsimp only at h
  rw [Bool.or_eq_false_iff] at h
  rcases List.mem_cons.1 hx with rfl | hx
  ·exact h.1
  ·exact vwsF_mem h.2 x hx
theorem ownWord_law (w : Wd) : ∀ d,vwF w d = false → CallOK Try.prog 35 [.agg (wrd w)] [] (.agg (wrd w)) []:=by
 induction w using Wd.ind with
 | h w ih=>
  intro d h
  rw [vwF_eq,Bool.or_eq_false_iff,Bool.or_eq_false_iff,decide_eq_false_iff_not,decide_eq_false_iff_not] at h
  exact ownWord_step w (by omega) fun x hx=>ih x hx (d + 1) (vwsF_mem h.2 x hx)
def x11_T3 : XC:=.seq (.reg [⟨some 47,.load 29 (.tmp 3),none⟩,⟨none,.store 29 (.tmp 2) (.tmp 47),none⟩]) .ret
def x11_L2 : XC:=.seq (.seq (.reg [⟨some 29,.move (.tmp 5),none⟩,⟨some 30,.fieldAddr 29 (.tmp 1) 3,none⟩,⟨some 31,.load 27 (.tmp 30),none⟩,⟨some 32,.call ⟨.builtin .len,#[.tmp 31],#[27]⟩,none⟩,⟨some 33,.binOp .lss 3 (.tmp 29) (.tmp 32) 3,none⟩]) (.cond (.tmp 33) .skip (.exit 2))) (.seq (.block 3 (.drawn 9 [⟨some 36,.fieldAddr 29 (.tmp 3) 3,none⟩,⟨some 37,.load 27 (.tmp 36),none⟩,⟨some 38,.fieldAddr 29 (.tmp 1) 3,none⟩,⟨some 39,.load 27 (.tmp 38),none⟩,⟨some 40,.move (.tmp 5),none⟩,⟨some 41,.indexAddr 27 (.tmp 39) (.tmp 40),none⟩,⟨some 42,.load 29 (.tmp 41),none⟩,⟨some 43,.call ⟨.value (.func 11),#[.tmp 42],#[29]⟩,none⟩,⟨some 44,.buildSlice 27 1 #[(0,.tmp 43)],none⟩,⟨some 45,.call ⟨.builtin .append,#[.tmp 37,.tmp 44],#[27,27]⟩,none⟩,⟨some 46,.fieldAddr 29 (.tmp 3) 3,none⟩,⟨none,.store 27 (.tmp 46) (.tmp 45),none⟩])) (.reg [⟨some 34,.move (.tmp 5),none⟩,⟨some 35,.binOp .add 3 (.tmp 34) (.const (.int .i64 1)) 3,none⟩,⟨some 5,.assign (.tmp 35),none⟩]))
def x11_T1 : XC:=.seq (.seq (.reg [⟨some 5,.assign (.const (.int .i64 0)),none⟩]) (.bloop 2 x11_L2)) (x11_T3)
def x11_L0 : XC:=.seq (.seq (.reg [⟨some 11,.move (.tmp 4),none⟩,⟨some 12,.fieldAddr 29 (.tmp 1) 2,none⟩,⟨some 13,.load 26 (.tmp 12),none⟩,⟨some 14,.call ⟨.builtin .len,#[.tmp 13],#[26]⟩,none⟩,⟨some 15,.binOp .lss 3 (.tmp 11) (.tmp 14) 3,none⟩]) (.cond (.tmp 15) .skip (.exit 0))) (.seq (.block 1 (.drawn 5 [⟨some 18,.fieldAddr 29 (.tmp 3) 2,none⟩,⟨some 19,.load 26 (.tmp 18),none⟩,⟨some 20,.fieldAddr 29 (.tmp 1) 2,none⟩,⟨some 21,.load 26 (.tmp 20),none⟩,⟨some 22,.move (.tmp 4),none⟩,⟨some 23,.indexAddr 26 (.tmp 21) (.tmp 22),none⟩,⟨some 24,.load 68 (.tmp 23),none⟩,⟨some 25,.call ⟨.value (.func 35),#[.tmp 24],#[68]⟩,none⟩,⟨some 26,.buildSlice 26 1 #[(0,.tmp 25)],none⟩,⟨some 27,.call ⟨.builtin .append,#[.tmp 19,.tmp 26],#[26,26]⟩,none⟩,⟨some 28,.fieldAddr 29 (.tmp 3) 2,none⟩,⟨none,.store 26 (.tmp 28) (.tmp 27),none⟩])) (.reg [⟨some 16,.move (.tmp 4),none⟩,⟨some 17,.binOp .add 3 (.tmp 16) (.const (.int .i64 1)) 3,none⟩,⟨some 4,.assign (.tmp 17),none⟩]))
def x11 : XC:=.seq (.reg [⟨some 1,.box 29 (.tmp 0),none⟩,⟨some 2,.alloc 29,none⟩]) (.seq (.reg [⟨some 6,.fieldAddr 29 (.tmp 1) 0,none⟩,⟨some 7,.load 3 (.tmp 6),none⟩,⟨some 8,.fieldAddr 29 (.tmp 1) 1,none⟩,⟨some 9,.load 9 (.tmp 8),none⟩,⟨some 10,.build 29 #[(0,.tmp 7),(1,.tmp 9)],none⟩,⟨some 3,.alloc 29,none⟩,⟨none,.store 29 (.tmp 3) (.tmp 10),none⟩]) (.seq (.seq (.reg [⟨some 4,.assign (.const (.int .i64 0)),none⟩]) (.bloop 0 x11_L0)) (x11_T1)))
@[simp] theorem x11_s {C e s K} : type_of% (@X_at C e s K _ _ x11_T3.eq_1) ∧ type_of% (@X_at C e s K _ _ x11_L2.eq_1) ∧ type_of% (@X_at C e s K _ _ x11_T1.eq_1) ∧ type_of% (@X_at C e s K _ _ x11_L0.eq_1) ∧ type_of% (@X_at C e s K _ _ x11.eq_1):=⟨X_at x11_T3.eq_1,X_at x11_L2.eq_1,X_at x11_T1.eq_1,X_at x11_L0.eq_1,X_at x11.eq_1⟩
def an11 : Ann:=⟨[(5,.mix 9),(9,.mix 9)],[(2,[(3,some 3,4)],[1,2,3,5],[2,3]),(0,[(3,some 2,2)],[1,2,3,4],[1,2,3])],[]⟩
@[simp] theorem an11_a : an11.clsOf 5 = .mix 9 ∧ an11.clsOf 9 = .mix 9 ∧ an11.frzOf 5 = [] ∧ an11.frzOf 9 = [] ∧ an11.loopOf 2 = ([(3,some 3,4)],[1,2,3,5],[2,3]) ∧ an11.loopOf 0 = ([(3,some 2,2)],[1,2,3,4],[1,2,3]):=⟨rfl,rfl,rfl,rfl,rfl,rfl⟩
theorem fi11 : FI Try.prog 11 (cxA an11) x11 [.cell 2 29] Try.f11:=fiA Try.func11 mixed
theorem ownExpr_step (e : Ex) (hl : e.kids.length ≤ 30000) (hlw : e.words.length ≤ 30000) (hw : ∀ x ∈ e.words,CallOK Try.prog 35 [.agg (wrd x)] [] (.agg (wrd x)) []) (ih : ∀ x ∈ e.kids,CallOK Try.prog 11 [.agg (exr x)] [] (.agg (exr x)) []) : CallOK Try.prog 11 [.agg (exr e)] [] (.agg (exr e)) []:=by
 have he:=exr_eq e
 refine fi11.os ?_
 (refine Sg.h ?_;try repeat' ((with_reducible first|refine brA ?_|refine brE fun _=>?_|refine spl ⟨?_,?_⟩<;>intro _)<;>((try simp -implicitDefEqProofs);(try simp -implicitDefEqProofs(disch:=first|assumption|(try simp only[lens]);omega -splitDisjunctions)))))
 refine W_of fun Q hQ=>?_
 have main : ∀ n i,i + n = e.words.length → Q [(1,.ptr 0 0 0),(2,.ptr 1 0 0),(3,.ptr 2 0 0),(4,.int .i64 (i : Int))] [.rows 4 [exr e],.rows 4 [[.int .i64 0,.str ⟨#[]⟩,.nilsl,.nilsl]],.rows 4 [[.int .i64 e.k,.str e.nm,.sl 3 0 (e.words.take i).length,.nilsl]],.rows 2 ((e.words.take i).map wrd)]:=by
  intro n
  induction n with
  | zero=>
   intro i hi
   rw [List.take_of_length_le (by omega)]
   have hi' : ¬ (i : Int) < (e.words.length : Int):=by omega
   apply hQ
   clear hQ
   (refine Sg.h ?_;try repeat' ((with_reducible first|refine brA ?_|refine brE fun _=>?_|refine spl ⟨?_,?_⟩<;>intro _)<;>((try simp -implicitDefEqProofs [hi']);(try simp -implicitDefEqProofs(disch:=first|assumption|(try simp only[lens]);omega -splitDisjunctions) [hi']))))
   refine W_of fun Q hQ=>?_
   have main : ∀ n i,i + n = e.kids.length → Q [(1,.ptr 0 0 0),(2,.ptr 1 0 0),(3,.ptr 2 0 0),(5,.int .i64 (i : Int))] [.rows 4 [exr e],.rows 4 [[.int .i64 0,.str ⟨#[]⟩,.nilsl,.nilsl]],.rows 4 [[.int .i64 e.k,.str e.nm,.sl 3 0 e.words.length,.sl 4 0 (e.kids.take i).length]],.rows 2 (e.words.map wrd),.rows 4 ((e.kids.take i).map exr)]:=by
    intro n
    induction n with
    | zero=>
     intro i hi
     rw [List.take_of_length_le (by omega)]
     have hi' : ¬ (i : Int) < (e.kids.length : Int):=by omega
     clear hw ih
     apply hQ
     clear hQ
     (refine Sg.h ?_;try repeat' ((with_reducible first|refine brA ?_|refine brE fun _=>?_|refine spl ⟨?_,?_⟩<;>intro _)<;>((try simp -implicitDefEqProofs [hi',he]);(try simp -implicitDefEqProofs(disch:=first|assumption|(try simp only[lens]);omega -splitDisjunctions) [hi',he]))))
    | succ n ihn=>
     intro i hi
     have hil : i < e.kids.length:=by omega
     have ihn:=ihn (i + 1) (by omega)
     have hc:=ih e.kids[i] (List.getElem_mem ..)
     rw [take_snocV hil] at ihn
     have hlt : (e.kids.take i).length ≤ 30000:=by rw [List.length_take];omega
     have hi' : (i : Int) < (e.kids.length : Int):=by omega
     generalize e.kids.take i = T at *
     generalize hx : e.kids[i] = x at *
     rw [List.map_append,List.map_singleton] at ihn
     clear ih hw
     apply hQ
     clear hQ
     (refine Sg.h ?_;try repeat' ((first|(with_reducible first|refine brA ?_|refine brE fun _=>?_|refine spl ⟨?_,?_⟩<;>intro _)|refine clo hc ?_)<;>((try simp -implicitDefEqProofs [hi',hil,hx]);(try simp -implicitDefEqProofs(disch:=first|assumption|(try simp only[lens]);omega -splitDisjunctions) [hi',hil,hx]))))
     all_goals first|exact ihn|(refine at2 ihn ?_ ?_<;>simp;done)|(exfalso;first|omega|(simp_all;done)|(simp_all;omega))
   all_goals first|exact main e.kids.length 0 (Nat.zero_add _)|(refine at2 main e.kids.length 0 (Nat.zero_add _) ?_ ?_<;>simp;done)|(exfalso;first|omega|(simp_all;done)|(simp_all;omega))
  | succ n ihn=>
   intro i hi
   have hil : i < e.words.length:=by omega
   have ihn:=ihn (i + 1) (by omega)
   have hc:=hw e.words[i] (List.getElem_mem ..)
   rw [take_snocV hil] at ihn
   have hlt : (e.words.take i).length ≤ 30000:=by rw [List.length_take];omega
   have hi' : (i : Int) < (e.words.length : Int):=by omega
   generalize e.words.take i = T at *
   generalize hx : e.words[i] = x at *
   rw [List.map_append,List.map_singleton] at ihn
   clear ih hw
   apply hQ
   clear hQ
   (refine Sg.h ?_;try repeat' ((first|(with_reducible first|refine brA ?_|refine brE fun _=>?_|refine spl ⟨?_,?_⟩<;>intro _)|refine clo hc ?_)<;>((try simp -implicitDefEqProofs [hi',hil,hx]);(try simp -implicitDefEqProofs(disch:=first|assumption|(try simp only[lens]);omega -splitDisjunctions) [hi',hil,hx]))))
   all_goals first|exact ihn|(refine at2 ihn ?_ ?_<;>simp;done)|(exfalso;first|omega|(simp_all;done)|(simp_all;omega))
 all_goals first|exact main e.words.length 0 (Nat.zero_add _)|(refine at2 main e.words.length 0 (Nat.zero_add _) ?_ ?_<;>simp;done)|(exfalso;first|omega|(simp_all;done)|(simp_all;omega))
theorem vxsF_mem {d : Nat} : ∀ {l : List Ex},vxsF l d = false → ∀ x ∈ l,vxF x d = false
 | [],_,x,hx=>by cases hx
 | a :: r,h,x,hx=>by
  rw [vxsF] at h
  dsimp only at h
  rw [Bool.or_eq_false_iff] at h
  rcases List.mem_cons.1 hx with rfl | hx
  ·exact h.1
  ·exact vxsF_mem h.2 x hx
theorem ownExpr_law (e : Ex) : ∀ d,vxF e d = false → CallOK Try.prog 11 [.agg (exr e)] [] (.agg (exr e)) []:=by
 induction e using Ex.ind with
 | h e ih=>
  intro d h
  rw [vxF_eq,Bool.or_eq_false_iff,Bool.or_eq_false_iff,Bool.or_eq_false_iff,decide_eq_false_iff_not,decide_eq_false_iff_not,vwF,Bool.or_eq_false_iff,Bool.or_eq_false_iff,decide_eq_false_iff_not,decide_eq_false_iff_not] at h
  obtain ⟨⟨⟨h1,h2⟩,⟨h3,h4⟩,h5⟩,h6⟩:=h
  exact ownExpr_step e (by omega) (by omega) (fun x hx=>ownWord_law x (d + 1) (vwsF_mem h5 x hx)) fun x hx=>ih x hx (d + 1) (vxsF_mem h6 x hx)
end Go.Proofs.Ytlcplnafkeklaaa
