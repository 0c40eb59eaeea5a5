import Derived.Test.YtbimioonhfhflaaAMnD
import Derived.Test.YtbimioonhfhflaaAMnM
import Derived.Test.YtbimioonhfhflaaAFbA
import Derived.Test.YtbimioonhfhflaaAPvQg
set_option linter.unusedVariables false
set_option linter.unusedSimpArgs false
set_option maxRecDepth 100000
set_option maxHeartbeats 4000000
namespace Go.Proofs.Ytbimioonhfhflaa
open Go Go.Pv
mutual
def vwF : Wd → Nat → Bool
 | .mk _ l=>fun d=>decide (25000 < d) || decide (25000 < l.length) || vwsF l (d + 1)
def vwsF : List Wd → Nat → Bool
 | []=>fun _=>false
 | w :: r=>fun d=>vwF w d || vwsF r d
end
theorem vwF_eq (w : Wd) (d : Nat) : vwF w d = (decide (25000 < d) || decide (25000 < w.args.length) || vwsF w.args (d + 1)):=by
 cases w with | mk a l=>rw [vwF];rfl
def x19_L0 : XC:=.seq (.seq (.reg [⟨some 13,.move (.tmp 5),none⟩,⟨some 14,.move (.tmp 0),none⟩,⟨some 15,.call ⟨.builtin .len,#[.tmp 14],#[26]⟩,none⟩,⟨some 16,.binOp .lss 3 (.tmp 13) (.tmp 15) 3,none⟩]) (.cond (.tmp 16) .skip (.exit 0))) (.seq (.block 1 (.seq (.reg [⟨some 19,.move (.tmp 0),none⟩,⟨some 20,.move (.tmp 5),none⟩,⟨some 21,.indexAddr 26 (.tmp 19) (.tmp 20),none⟩,⟨some 22,.fieldAddr 31 (.tmp 21) 1,none⟩,⟨some 23,.load 26 (.tmp 22),none⟩,⟨some 24,.move (.tmp 1),none⟩,⟨some 25,.binOp .add 3 (.tmp 24) (.const (.int .i64 1)) 3,none⟩,⟨some 26,.call ⟨.value (.func 19),#[.tmp 23,.tmp 25],#[26,3]⟩,none⟩]) (.cond (.tmp 26) (.seq (.reg [⟨some 4,.assign (.const (.bool true)),none⟩]) .ret) .skip))) (.reg [⟨some 17,.move (.tmp 5),none⟩,⟨some 18,.binOp .add 3 (.tmp 17) (.const (.int .i64 1)) 3,none⟩,⟨some 5,.assign (.tmp 18),none⟩]))
def x19 : XC:=.seq (.reg [⟨some 4,.assign (.const (.bool false)),none⟩]) (.seq (.seq (.reg [⟨some 6,.move (.tmp 1),none⟩,⟨some 7,.binOp .gtr 3 (.tmp 6) (.const (.int .i64 25000)) 3,none⟩,⟨some 8,.move (.tmp 7),none⟩,⟨some 9,.move (.tmp 0),some (some 8,false)⟩,⟨some 10,.call ⟨.builtin .len,#[.tmp 9],#[26]⟩,some (some 8,false)⟩,⟨some 11,.binOp .gtr 3 (.tmp 10) (.const (.int .i64 25000)) 3,some (some 8,false)⟩,⟨some 12,.pick (.tmp 8) (.const (.bool true)) (.tmp 11),none⟩]) (.cond (.tmp 12) (.seq (.reg [⟨some 4,.assign (.const (.bool true)),none⟩]) .ret) .skip)) (.seq (.seq (.reg [⟨some 5,.assign (.const (.int .i64 0)),none⟩]) (.bloop 0 x19_L0)) (.seq (.reg [⟨some 4,.assign (.const (.bool false)),none⟩]) .ret)))
@[simp] theorem x19_s {C e s K} : type_of% (@X_at C e s K _ _ x19_L0.eq_1) ∧ type_of% (@X_at C e s K _ _ x19.eq_1):=⟨X_at x19_L0.eq_1,X_at x19.eq_1⟩
def an19 : Ann:=⟨[],[(0,[],[0,1,5],[4])],[]⟩
@[simp] theorem an19_a : an19.loopOf 0 = ([],[0,1,5],[4]):=rfl
theorem fi19 : FI Try.prog 19 (cxA an19) x19 [.tmp 4] Try.f19:=fiA Try.func19 mixed
theorem vastWords_ref (w : Wd) : ∀ d : Nat,d ≤ 25001 → CallOK Try.prog 19 [.list (w.args.map wrd),.int .i64 (d : Int)] [] (.bool (vwF w d)) []:=by
 induction w using Wd.ind with
 | h w ih=>
  intro d hd
  rw [vwF_eq]
  refine fi19.op ?_
  by_cases h1 : 25000 < d
  ·have h1' : (25000 : Int) < (d : Int) := by omega
   rw [decide_eq_true h1]
   (refine Sg.h ?_;try repeat' ((with_reducible first|refine brA ?_|refine brE fun _=>?_|refine spl ⟨?_,?_⟩<;>intro _)<;>((try simp -implicitDefEqProofs [h1']);(try simp -implicitDefEqProofs(disch:=first|assumption|(try simp only[lens]);omega -splitDisjunctions) [h1']))))
   all_goals simp
  have h1' : ¬ (25000 : Int) < (d : Int):=by omega
  rw [decide_eq_false h1]
  by_cases h2 : 25000 < w.args.length
  ·have h2' : (25000 : Int) < (w.args.length : Int) := by omega
   rw [decide_eq_true h2]
   (refine Sg.h ?_;try repeat' ((with_reducible first|refine brA ?_|refine brE fun _=>?_|refine spl ⟨?_,?_⟩<;>intro _)<;>((try simp -implicitDefEqProofs [h1',h2']);(try simp -implicitDefEqProofs(disch:=first|assumption|(try simp only[lens]);omega -splitDisjunctions) [h1',h2']))))
   all_goals simp
  have h2' : ¬ (25000 : Int) < (w.args.length : Int):=by omega
  rw [decide_eq_false h2,Bool.false_or,Bool.false_or]
  (refine Sg.h ?_;try repeat' ((with_reducible first|refine brA ?_|refine brE fun _=>?_|refine spl ⟨?_,?_⟩<;>intro _)<;>((try simp -implicitDefEqProofs [h1',h2']);(try simp -implicitDefEqProofs(disch:=first|assumption|(try simp only[lens]);omega -splitDisjunctions) [h1',h2']))))
  obtain ⟨R,hR⟩ : ∃ R,vwsF w.args (d + 1) = R:=⟨_,rfl⟩
  rw [hR]
  refine W_of fun Q hQ=>?_
  have main : ∀ n i,i + n = w.args.length → vwsF (w.args.drop i) (d + 1) = R → Q [(0,.list (w.args.map wrd)),(1,.int .i64 (d : Int)),(5,.int .i64 (i : Int))] []:=by
   intro n
   induction n with
   | zero=>
    intro i hi hR
    rw [List.drop_of_length_le (by omega),vwsF] at hR
    dsimp only at hR
    subst hR
    obtain rfl : i = w.args.length:=by omega
    apply hQ
    clear hQ
    (refine Sg.h ?_;try repeat' ((with_reducible first|refine brA ?_|refine brE fun _=>?_|refine spl ⟨?_,?_⟩<;>intro _)<;>((try simp -implicitDefEqProofs);(try simp -implicitDefEqProofs(disch:=first|assumption|(try simp only[lens]);omega -splitDisjunctions)))))
   | succ n ihn=>
    intro i hi hR
    have hil : i < w.args.length:=by omega
    rw [List.drop_eq_getElem_cons hil,vwsF] at hR
    dsimp only at hR
    have hc:=ih _ (List.getElem_mem hil) (d + 1) (by omega)
    have ihn:=ihn (i + 1) (by omega)
    have hi' : (i : Int) < (w.args.length : Int):=by omega
    generalize hx : w.args[i] = x at *
    generalize vwF x (d + 1) = b at *
    apply hQ
    clear hQ
    cases b with
    | true=>
     rw [Bool.true_or] at hR
     subst hR
     (refine Sg.h ?_;try repeat' ((first|(with_reducible first|refine brA ?_|refine brE fun _=>?_|refine spl ⟨?_,?_⟩<;>intro _)|refine clo hc ?_)<;>((try simp -implicitDefEqProofs [hi',hil,hx]);(try simp -implicitDefEqProofs(disch:=first|assumption|(try simp only[lens]);omega -splitDisjunctions) [hi',hil,hx]))))
    | false=>
     rw [Bool.false_or] at hR
     have ihn:=ihn hR
     (refine Sg.h ?_;try repeat' ((first|(with_reducible first|refine brA ?_|refine brE fun _=>?_|refine spl ⟨?_,?_⟩<;>intro _)|refine clo hc ?_)<;>((try simp -implicitDefEqProofs [hi',hil,hx]);(try simp -implicitDefEqProofs(disch:=first|assumption|(try simp only[lens]);omega -splitDisjunctions) [hi',hil,hx]))))
     all_goals first|exact ihn|(refine at2 ihn ?_ ?_<;>simp;done)|(exfalso;first|omega|(simp_all;done)|(simp_all;omega))
  all_goals first|exact main w.args.length 0 (Nat.zero_add _) hR|(refine at2 main w.args.length 0 (Nat.zero_add _) hR ?_ ?_<;>simp;done)|(exfalso;first|omega|(simp_all;done)|(simp_all;omega))
mutual
def vxF : Ex → Nat → Bool
 | .mk _ _ ws l=>fun d=>decide (25000 < d) || decide (25000 < l.length) || vwF (.mk ⟨#[]⟩ ws) d || vxsF l (d + 1)
def vxsF : List Ex → Nat → Bool
 | []=>fun _=>false
 | e :: r=>fun d=>vxF e d || vxsF r d
end
theorem vxF_eq (e : Ex) (d : Nat) : vxF e d = (decide (25000 < d) || decide (25000 < e.kids.length) || vwF (.mk ⟨#[]⟩ e.words) d || vxsF e.kids (d + 1)):=by
 cases e with | mk k a w l=>rw [vxF];rfl
def x6_L0 : XC:=.seq (.seq (.reg [⟨some 20,.move (.tmp 5),none⟩,⟨some 21,.fieldAddr 29 (.tmp 2) 3,none⟩,⟨some 22,.load 27 (.tmp 21),none⟩,⟨some 23,.call ⟨.builtin .len,#[.tmp 22],#[27]⟩,none⟩,⟨some 24,.binOp .lss 3 (.tmp 20) (.tmp 23) 3,none⟩]) (.cond (.tmp 24) .skip (.exit 0))) (.seq (.block 1 (.seq (.reg [⟨some 27,.fieldAddr 29 (.tmp 2) 3,none⟩,⟨some 28,.load 27 (.tmp 27),none⟩,⟨some 29,.move (.tmp 5),none⟩,⟨some 30,.indexAddr 27 (.tmp 28) (.tmp 29),none⟩,⟨some 31,.load 29 (.tmp 30),none⟩,⟨some 32,.move (.tmp 1),none⟩,⟨some 33,.binOp .add 3 (.tmp 32) (.const (.int .i64 1)) 3,none⟩,⟨some 34,.call ⟨.value (.func 6),#[.tmp 31,.tmp 33],#[29,3]⟩,none⟩]) (.cond (.tmp 34) (.seq (.reg [⟨some 4,.assign (.const (.bool true)),none⟩]) .ret) .skip))) (.reg [⟨some 25,.move (.tmp 5),none⟩,⟨some 26,.binOp .add 3 (.tmp 25) (.const (.int .i64 1)) 3,none⟩,⟨some 5,.assign (.tmp 26),none⟩]))
def x6 : XC:=.seq (.reg [⟨some 2,.box 29 (.tmp 0),none⟩,⟨some 4,.assign (.const (.bool false)),none⟩]) (.seq (.seq (.reg [⟨some 6,.move (.tmp 1),none⟩,⟨some 7,.binOp .gtr 3 (.tmp 6) (.const (.int .i64 25000)) 3,none⟩,⟨some 8,.move (.tmp 7),none⟩,⟨some 9,.fieldAddr 29 (.tmp 2) 3,some (some 8,false)⟩,⟨some 10,.load 27 (.tmp 9),some (some 8,false)⟩,⟨some 11,.call ⟨.builtin .len,#[.tmp 10],#[27]⟩,some (some 8,false)⟩,⟨some 12,.binOp .gtr 3 (.tmp 11) (.const (.int .i64 25000)) 3,some (some 8,false)⟩,⟨some 13,.pick (.tmp 8) (.const (.bool true)) (.tmp 12),none⟩,⟨some 14,.move (.tmp 13),none⟩,⟨some 15,.fieldAddr 29 (.tmp 2) 2,some (some 14,false)⟩,⟨some 16,.load 26 (.tmp 15),some (some 14,false)⟩,⟨some 17,.move (.tmp 1),some (some 14,false)⟩,⟨some 18,.call ⟨.value (.func 19),#[.tmp 16,.tmp 17],#[26,3]⟩,some (some 14,false)⟩,⟨some 19,.pick (.tmp 14) (.const (.bool true)) (.tmp 18),none⟩]) (.cond (.tmp 19) (.seq (.reg [⟨some 4,.assign (.const (.bool true)),none⟩]) .ret) .skip)) (.seq (.seq (.reg [⟨some 5,.assign (.const (.int .i64 0)),none⟩]) (.bloop 0 x6_L0)) (.seq (.reg [⟨some 4,.assign (.const (.bool false)),none⟩]) .ret)))
@[simp] theorem x6_s {C e s K} : type_of% (@X_at C e s K _ _ x6_L0.eq_1) ∧ type_of% (@X_at C e s K _ _ x6.eq_1):=⟨X_at x6_L0.eq_1,X_at x6.eq_1⟩
def an6 : Ann:=⟨[],[(0,[],[1,2,5],[4])],[]⟩
@[simp] theorem an6_a : an6.loopOf 0 = ([],[1,2,5],[4]):=rfl
theorem fi6 : FI Try.prog 6 (cxA an6) x6 [.tmp 4] Try.f6:=fiA Try.func6 mixed
theorem VastExpr_ref (e : Ex) : ∀ d : Nat,d ≤ 25001 → CallOK Try.prog 6 [.agg (exr e),.int .i64 (d : Int)] [] (.bool (vxF e d)) []:=by
 induction e using Ex.ind with
 | h e ih=>
  intro d hd
  have he:=exr_eq e
  have hw:=vastWords_ref (.mk ⟨#[]⟩ e.words) d hd
  change CallOK _ _ [.list (e.words.map wrd),_] _ _ _ at hw
  rw [vxF_eq]
  generalize vwF (.mk ⟨#[]⟩ e.words) d = b at *
  refine fi6.op ?_
  by_cases h1 : 25000 < d
  ·have h1' : (25000 : Int) < (d : Int) := by omega
   rw [decide_eq_true h1]
   (refine Sg.h ?_;try repeat' ((with_reducible first|refine brA ?_|refine brE fun _=>?_|refine spl ⟨?_,?_⟩<;>intro _)<;>((try simp -implicitDefEqProofs [h1']);(try simp -implicitDefEqProofs(disch:=first|assumption|(try simp only[lens]);omega -splitDisjunctions) [h1']))))
   all_goals simp
  have h1' : ¬ (25000 : Int) < (d : Int):=by omega
  rw [decide_eq_false h1]
  by_cases h2 : 25000 < e.kids.length
  ·have h2' : (25000 : Int) < (e.kids.length : Int) := by omega
   rw [decide_eq_true h2]
   (refine Sg.h ?_;try repeat' ((with_reducible first|refine brA ?_|refine brE fun _=>?_|refine spl ⟨?_,?_⟩<;>intro _)<;>((try simp -implicitDefEqProofs [h1',h2']);(try simp -implicitDefEqProofs(disch:=first|assumption|(try simp only[lens]);omega -splitDisjunctions) [h1',h2']))))
   all_goals simp
  have h2' : ¬ (25000 : Int) < (e.kids.length : Int):=by omega
  rw [decide_eq_false h2,Bool.false_or,Bool.false_or]
  cases b with
  | true=>
   rw [Bool.true_or]
   (refine Sg.h ?_;try repeat' ((first|(with_reducible first|refine brA ?_|refine brE fun _=>?_|refine spl ⟨?_,?_⟩<;>intro _)|refine clo hw ?_)<;>((try simp -implicitDefEqProofs [h1',h2']);(try simp -implicitDefEqProofs(disch:=first|assumption|(try simp only[lens]);omega -splitDisjunctions) [h1',h2']))))
  | false=>
  rw [Bool.false_or]
  (refine Sg.h ?_;try repeat' ((first|(with_reducible first|refine brA ?_|refine brE fun _=>?_|refine spl ⟨?_,?_⟩<;>intro _)|refine clo hw ?_)<;>((try simp -implicitDefEqProofs [h1',h2']);(try simp -implicitDefEqProofs(disch:=first|assumption|(try simp only[lens]);omega -splitDisjunctions) [h1',h2']))))
  obtain ⟨R,hR⟩ : ∃ R,vxsF e.kids (d + 1) = R:=⟨_,rfl⟩
  rw [hR]
  refine W_of fun Q hQ=>?_
  have main : ∀ n i,i + n = e.kids.length → vxsF (e.kids.drop i) (d + 1) = R → Q [(1,.int .i64 (d : Int)),(2,.ptr 0 0 0),(5,.int .i64 (i : Int))] [.rows 4 [exr e]]:=by
   intro n
   induction n with
   | zero=>
    intro i hi hR
    rw [List.drop_of_length_le (by omega),vxsF] at hR
    dsimp only at hR
    subst hR
    obtain rfl : i = e.kids.length:=by omega
    apply hQ
    clear hQ
    (refine Sg.h ?_;try repeat' ((with_reducible first|refine brA ?_|refine brE fun _=>?_|refine spl ⟨?_,?_⟩<;>intro _)<;>((try simp -implicitDefEqProofs);(try simp -implicitDefEqProofs(disch:=first|assumption|(try simp only[lens]);omega -splitDisjunctions)))))
   | succ n ihn=>
    intro i hi hR
    have hil : i < e.kids.length:=by omega
    rw [List.drop_eq_getElem_cons hil,vxsF] at hR
    dsimp only at hR
    have hc:=ih _ (List.getElem_mem hil) (d + 1) (by omega)
    have ihn:=ihn (i + 1) (by omega)
    have hi' : (i : Int) < (e.kids.length : Int):=by omega
    generalize hx : e.kids[i] = x at *
    generalize vxF x (d + 1) = b at *
    apply hQ
    clear hQ
    cases b with
    | true=>
     rw [Bool.true_or] at hR
     subst hR
     (refine Sg.h ?_;try repeat' ((first|(with_reducible first|refine brA ?_|refine brE fun _=>?_|refine spl ⟨?_,?_⟩<;>intro _)|refine clo hc ?_)<;>((try simp -implicitDefEqProofs [hi',hil,hx]);(try simp -implicitDefEqProofs(disch:=first|assumption|(try simp only[lens]);omega -splitDisjunctions) [hi',hil,hx]))))
    | false=>
     rw [Bool.false_or] at hR
     have ihn:=ihn hR
     (refine Sg.h ?_;try repeat' ((first|(with_reducible first|refine brA ?_|refine brE fun _=>?_|refine spl ⟨?_,?_⟩<;>intro _)|refine clo hc ?_)<;>((try simp -implicitDefEqProofs [hi',hil,hx]);(try simp -implicitDefEqProofs(disch:=first|assumption|(try simp only[lens]);omega -splitDisjunctions) [hi',hil,hx]))))
     all_goals first|exact ihn|(refine at2 ihn ?_ ?_<;>simp;done)|(exfalso;first|omega|(simp_all;done)|(simp_all;omega))
  all_goals first|exact main e.kids.length 0 (Nat.zero_add _) hR|(refine at2 main e.kids.length 0 (Nat.zero_add _) hR ?_ ?_<;>simp;done)|(exfalso;first|omega|(simp_all;done)|(simp_all;omega))
end Go.Proofs.Ytbimioonhfhflaa
namespace Go.Proofs.Ytbimioonhfhflaa
open Go Go.Pv
attribute [local irreducible] X
set_option maxRecDepth 100000
end Go.Proofs.Ytbimioonhfhflaa
namespace Go.Proofs.Ytbimioonhfhflaa
open Go Go.Pv
theorem lookW_in {L : Mw} {y : ByteArray} : ∀ {l : List ByteArray},y ∈ l → lookW y (nowL L l) = lookW y L
 | [],h=>by cases h
 | n :: r,h=>by
  rw [nowL]
  by_cases hy : y = n
  ·subst hy
   cases hl : lookW y L with
   | some w=>dsimp only;rw [lookW,if_pos rfl]
   | none=>
    dsimp only
    by_cases hr : y ∈ r
    ·rw [lookW_in hr,hl]
    ·have : ∀ l : List ByteArray,y ∉ l → lookW y (nowL L l) = none := by
      intro l
      induction l with
      | nil=>intro _;rfl
      | cons m q ih=>
       intro hm
       rw [List.mem_cons,not_or] at hm
       rw [nowL]
       cases lookW m L with
       | some v=>dsimp only;rw [lookW,if_neg hm.1,ih hm.2]
       | none=>exact ih hm.2
     exact this r hr
  ·have hr : y ∈ r := (List.mem_cons.1 h).resolve_left hy
   cases hl : lookW n L with
   | some w=>dsimp only;rw [lookW,if_neg hy,lookW_in hr]
   | none=>exact lookW_in hr
theorem lookW_out {L : Mw} {y : ByteArray} : ∀ {l : List ByteArray},y ∉ l → lookW y (nowL L l) = none
 | [],_=>rfl
 | m :: q,hm=>by
  rw [List.mem_cons,not_or] at hm
  rw [nowL]
  cases lookW m L with
  | some v=>dsimp only;rw [lookW,if_neg hm.1,lookW_out hm.2]
  | none=>exact lookW_out hm.2
theorem lookW_app {y : ByteArray} : ∀ (A B : Mw),lookW y (A ++ B) = match lookW y A with
  | some w=>some w
  | none=>lookW y B
 | [],B=>rfl
 | p :: r,B=>by
  rw [List.cons_append,lookW,lookW,lookW_app r B]
  split <;> rfl
def NamesL (L : Mw) : Prop:=∀ p ∈ L,isNameB p.1 = true
theorem lookW_name {L : Mw} (h : NamesL L) {y : ByteArray} {w : Wd} (hy : lookW y L = some w) : isNameB y = true:=by
 induction L with
 | nil=>cases hy
 | cons p r ih=>
  rw [lookW] at hy
  split at hy
  ·rename_i he;rw [he];exact h p (by simp)
  ·exact ih (fun q hq=>h q (by simp [hq])) hy
mutual
def twoX : Ex → Bool
 | .mk k _ ws l=>(!decide (k = 2) || decide (ws.length = 2)) && twoXs l
def twoXs : List Ex → Bool
 | []=>true
 | e :: r=>twoX e && twoXs r
end
theorem twoXs_all : ∀ l : List Ex,twoXs l = l.all twoX
 | []=>rfl
 | e :: r=>by rw [twoXs,twoXs_all r,List.all_cons]
theorem twoX_eq (e : Ex) : twoX e = ((!decide (e.k = 2) || decide (e.words.length = 2)) && e.kids.all twoX):=by
 cases e with | mk k a w l=>rw [twoX,twoXs_all];rfl
section
variable {sc : List ByteArray → List ByteArray} {fr : ByteArray → List ByteArray → ByteArray}
theorem free_kid (hsc : ∀ l y,y ∈ sc l ↔ y ∈ l) {e q : Ex} (hq : q ∈ e.kids) {y : ByteArray} (hy : y ∈ freeX sc q) (hn : isQ e.k = true → y ≠ e.nm) : y ∈ freeX sc e:=by
 rw [freeX_eq,hsc]
 have : y ∈ varsWs e.words ++ freeXs sc e.kids:=List.mem_append.2 (.inr ((freeXs_mem sc).2 ⟨q,hq,hy⟩))
 split
 ·rename_i hQ
  rw [List.mem_filter]
  exact ⟨this,by simpa using hn hQ⟩
 ·exact this
theorem free_word (hsc : ∀ l y,y ∈ sc l ↔ y ∈ l) {e : Ex} {w : Wd} (hw : w ∈ e.words) {y : ByteArray} (hy : y ∈ varsW w) (hn : isQ e.k = true → y ≠ e.nm) : y ∈ freeX sc e:=by
 rw [freeX_eq,hsc]
 have : y ∈ varsWs e.words ++ freeXs sc e.kids:=List.mem_append.2 (.inl (varsWs_mem.2 ⟨w,hw,hy⟩))
 split
 ·rename_i hQ
  rw [List.mem_filter]
  exact ⟨this,by simpa using hn hQ⟩
 ·exact this
theorem two_of {e : Ex} (h : twoX e = true) : (e.k = 2 → e.words.length = 2) ∧ ∀ q ∈ e.kids,twoX q = true:=by
 rw [twoX_eq,Bool.and_eq_true,List.all_eq_true] at h
 exact ⟨fun g=>by have:=h.1;simpa [g] using this,h.2⟩
mutual
def okQ : Ex → Bool
 | .mk k nm _ l=>(!isQ k || isNameB nm) && okQs l
def okQs : List Ex → Bool
 | []=>true
 | e :: r=>okQ e && okQs r
end
theorem okQs_all : ∀ l : List Ex,okQs l = l.all okQ
 | []=>rfl
 | e :: r=>by rw [okQs,okQs_all r,List.all_cons]
theorem okQ_eq (e : Ex) : okQ e = ((!isQ e.k || isNameB e.nm) && e.kids.all okQ):=by
 cases e with | mk k a w l=>rw [okQ,okQs_all];rfl
theorem now_names {L : Mw} (hL : NamesL L) : ∀ l : List ByteArray,NamesL (nowL L l)
 | []=>fun p hp=>by cases hp
 | n :: r=>by
  intro p hp
  rw [nowL] at hp
  cases hl : lookW n L with
  | some w=>
   rw [hl] at hp
   rcases List.mem_cons.1 hp with rfl | hp
   ·exact lookW_name hL hl
   ·exact now_names hL r p hp
  | none=>rw [hl] at hp;exact now_names hL r p hp
theorem map_names {L : Mw} (hL : NamesL L) {nm : ByteArray} (hn : isNameB nm = true) {free : List ByteArray} : NamesL (mapX fr L nm free):=by
 intro p hp
 unfold mapX at hp
 rcases List.mem_append.1 hp with h | h
 ·exact now_names hL _ p h
 ·split at h
  ·rw [List.mem_singleton] at h;rw [h];exact hn
  ·cases h
end
end Go.Proofs.Ytbimioonhfhflaa
namespace Go.Proofs.Ytbimioonhfhflaa
open Go Go.Pv
mutual
def noW : Ex → Bool
 | .mk k _ ws l=>(!isQ k || ws.isEmpty) && noWs l
def noWs : List Ex → Bool
 | []=>true
 | e :: r=>noW e && noWs r
end
theorem noWs_all : ∀ l : List Ex,noWs l = l.all noW
 | []=>rfl
 | e :: r=>by rw [noWs,noWs_all r,List.all_cons]
theorem noW_eq (e : Ex) : noW e = ((!isQ e.k || e.words.isEmpty) && e.kids.all noW):=by
 cases e with | mk k a w l=>rw [noW,noWs_all];rfl
section
variable {sc : List ByteArray → List ByteArray} {fr : ByteArray → List ByteArray → ByteArray}
theorem lookW_mem {L : Mw} {y : ByteArray} {v : Wd} (h : lookW y L = some v) : (y,v) ∈ L:=by
 induction L with
 | nil=>cases h
 | cons p r ih=>
  rw [lookW] at h
  split at h
  ·rename_i he;cases h;rw [he];simp
  ·exact List.mem_cons_of_mem _ (ih h)
theorem now_sub {L : Mw} : ∀ {l : List ByteArray} {p},p ∈ nowL L l → p ∈ L
 | [],p,h=>by cases h
 | n :: r,p,h=>by
  rw [nowL] at h
  cases hl : lookW n L with
  | some w=>
   rw [hl] at h
   rcases List.mem_cons.1 h with rfl | h
   ·exact lookW_mem hl
   ·exact now_sub h
  | none=>rw [hl] at h;exact now_sub h
theorem vars_put {L : Mw} {y : ByteArray} (w : Wd) (hN : NamesL L) : y ∈ varsW (putW L w) → ∃ z ∈ varsW w,y ∈ takenX L z:=by
 induction w using Wd.ind with
 | h w ih=>
  intro h
  rw [putW_eq] at h
  rw [varsW_eq w]
  cases hl : lookW w.nm L with
  | some v=>
   rw [hl] at h
   rw [if_pos (lookW_name hN hl)]
   exact ⟨w.nm,by simp,by unfold takenX;rw [hl];exact h⟩
  | none=>
   rw [hl] at h
   dsimp only at h
   rw [varsW_eq] at h
   simp only [wd_mk] at h
   split at h
   ·rename_i hn
    rw [if_pos hn]
    exact ⟨w.nm,by simp,by unfold takenX;rw [hl];exact h⟩
   ·rename_i hn
    rw [if_neg hn]
    obtain ⟨a,ha,hy⟩:=varsWs_mem.1 h
    obtain ⟨b,hb,rfl⟩:=List.mem_map.1 ha
    obtain ⟨z,hz,hyz⟩:=ih b hb hy
    exact ⟨z,varsWs_mem.2 ⟨b,hb,hz⟩,hyz⟩
theorem free_put (hsc : ∀ l y,y ∈ sc l ↔ y ∈ l) (hfr : ∀ a t,fr a t ∉ t) {y : ByteArray} (e : Ex) : ∀ L : Mw,NamesL L → noW e = true → okQ e = true → okQ (putX sc fr e L) = true → y ∈ freeX sc (putX sc fr e L) → ∃ z ∈ freeX sc e,y ∈ takenX L z:=by
 induction e using Ex.ind with
 | h e ih=>
  intro L hN hno hq hp hy
  rw [noW_eq,Bool.and_eq_true,List.all_eq_true] at hno
  rw [okQ_eq,Bool.and_eq_true,List.all_eq_true] at hq
  rw [putX_eq] at hp hy
  cases hQ : isQ e.k with
  | false=>
   rw [hQ,if_neg (by simp)] at hp hy
   rw [okQ_eq,Bool.and_eq_true,List.all_eq_true] at hp
   rw [freeX_eq,hsc] at hy
   simp only [ex_mk] at hp hy
   rw [hQ,if_neg (by simp)] at hy
   rcases List.mem_append.1 hy with h | h
   ·obtain ⟨w',hw',hyw⟩ := varsWs_mem.1 h
    obtain ⟨w,hw,rfl⟩:=List.mem_map.1 hw'
    obtain ⟨z,hz,hyz⟩:=vars_put w hN hyw
    exact ⟨z,free_word hsc hw hz (fun g=>by rw [hQ] at g;cases g),hyz⟩
   ·obtain ⟨q',hq',hyq⟩ := (freeXs_mem sc).1 h
    obtain ⟨q,hqm,rfl⟩:=List.mem_map.1 hq'
    obtain ⟨z,hz,hyz⟩:=ih q hqm L hN (hno.2 q hqm) (hq.2 q hqm) (hp.2 _ hq') hyq
    exact ⟨z,free_kid hsc hqm hz (fun g=>by rw [hQ] at g;cases g),hyz⟩
  | true=>
   rw [hQ,if_pos rfl] at hp hy
   rw [okQ_eq,Bool.and_eq_true,List.all_eq_true] at hp
   rw [freeX_eq,hsc] at hy
   simp only [ex_mk] at hp hy
   rw [hQ,if_pos rfl,List.mem_filter] at hy
   have hn : isNameB e.nm = true:=by have:=hq.1;rw [hQ] at this;simpa using this
   have hn' : isNameB (newNm fr L e.nm (freeX sc e)) = true:=by have:=hp.1;rw [hQ] at this;simpa using this
   have hyn : y ≠ newNm fr L e.nm (freeX sc e):=by simpa using hy.2
   have hnf : e.nm ∉ freeX sc e:=by
    rw [freeX_eq,hsc,if_pos hQ,List.mem_filter]
    simp
   have hws : e.words = []:=by
    have:=hno.1
    rw [hQ,Bool.not_true,Bool.false_or,List.isEmpty_iff] at this
    exact this
   rw [hws,List.map_nil,varsWs,List.nil_append] at hy
   obtain ⟨q',hq',hyq⟩:=(freeXs_mem sc).1 hy.1
   obtain ⟨q,hqm,rfl⟩:=List.mem_map.1 hq'
   obtain ⟨z,hz,hyz⟩:=ih q hqm _ (map_names hN hn) (hno.2 q hqm) (hq.2 q hqm) (hp.2 _ hq') hyq
   by_cases hzn : z = e.nm
   ·exfalso
    subst hzn
    unfold takenX mapX at hyz
    rw [lookW_app,lookW_out hnf] at hyz
    dsimp only at hyz
    split at hyz
    ·rename_i w hw
     split at hw
     ·rw [lookW,if_pos rfl] at hw
      cases hw
      rw [varsW_eq] at hyz
      simp only [wd_mk] at hyz
      rw [if_pos hn',List.mem_singleton] at hyz
      exact hyn hyz
     ·cases hw
    ·rename_i hw
     rw [List.mem_singleton] at hyz
     split at hw
     ·rw [lookW,if_pos rfl] at hw;cases hw
     ·rename_i hne
      exact hyn (hyz.trans (Decidable.not_not.1 hne).symm)
   ·have hzf := free_kid hsc hqm hz fun _ => hzn
    refine ⟨z,hzf,?_⟩
    unfold takenX mapX at hyz
    rw [lookW_app,lookW_in hzf] at hyz
    unfold takenX
    cases hl : lookW z L with
    | some w=>rw [hl] at hyz;exact hyz
    | none=>
     rw [hl] at hyz
     dsimp only at hyz
     have : lookW z (if newNm fr L e.nm (freeX sc e) ≠ e.nm then [(e.nm,Wd.mk (newNm fr L e.nm (freeX sc e)) [])] else []) = none:=by
      split
      ·rw [lookW,if_neg hzn,lookW]
      ·rfl
     rw [this] at hyz
     exact hyz
theorem shapes_of {e : Ex} : (∀ x ∈ ndE e,∃ o,chkN x = .ok o) → twoX e = true ∧ noW e = true ∧ okQ e = true:=by
 induction e using Ex.ind with
 | h e ih=>
  intro hn
  have hk:=fun q hq=>ih q hq fun x hx=>hn x (by rw [ndE_eq];simp [ndEs_mem hq hx])
  obtain ⟨o,ho⟩:=hn (.e e) (by rw [ndE_eq];simp)
  rw [chkN,chkX] at ho
  split at ho
  ·cases ho
  rename_i g1
  split at ho
  ·cases ho
  rename_i g2
  rw [twoX_eq,noW_eq,okQ_eq,Bool.and_eq_true,Bool.and_eq_true,Bool.and_eq_true,List.all_eq_true,List.all_eq_true,List.all_eq_true]
  refine ⟨⟨?_,fun q hq=>(hk q hq).1⟩,⟨?_,fun q hq=>(hk q hq).2.1⟩,⟨?_,fun q hq=>(hk q hq).2.2⟩⟩
  ·by_cases h2 : e.k = 2
   ·rw [h2] at g2
    simp [wordsN] at g2
    simp [h2]
    omega
   ·simp [h2]
  ·cases hQ : isQ e.k with
   | false=>rfl
   | true=>
    have h910 : e.k = 9 ∨ e.k = 10:=by unfold isQ at hQ;simpa using hQ
    have : e.words.length = 0:=by
     rcases h910 with g | g <;> rw [g] at g2 <;> simp [wordsN] at g2 <;> simp [g2]
    simp [List.length_eq_zero_iff.1 this]
  ·cases hQ : isQ e.k with
   | false=>rfl
   | true=>
    have h910 : e.k = 9 ∨ e.k = 10:=by unfold isQ at hQ;simpa using hQ
    rw [if_neg (by omega),if_pos h910] at ho
    split at ho
    ·rename_i hnm;simp [hnm]
    ·cases ho
end
end Go.Proofs.Ytbimioonhfhflaa
namespace Go.Pv
open Go
theorem RetView.moved {m : Nat} {v v' : PV} {s1 s2 : Store} (ρ : List Nat) (hm : ∀ i,i < m → ρ[i]? = some i) (hlen : s2.length = ρ.length)
  (hinj : ∀ i j k : Nat,ρ[i]? = some k → ρ[j]? = some k → s2[i]? ≠ some PObj.dead → s2[j]? ≠ some PObj.dead → i = j)
  (hobj : ∀ (i : Nat) (o' : PObj),s2[i]? = some o' → ∃ j o,ρ[i]? = some j ∧ s1[j]? = some o ∧ RenObj ρ o' o) (hv : Ren ρ v' v) : RetView m v s1 v' s2:=by
 intro C pub' σ' w' cv hC hs hr
 have halive : ∀ i li,Alive s2 (σ'.ren ρ) i li → ∃ j,ρ[i]? = some j ∧ Alive s1 σ' j li:=by
  rintro i li ⟨o',h1,h2,h3,h4⟩
  obtain ⟨j,o,h5,h6,h7⟩:=hobj i o' h1
  refine ⟨j,h5,o,h6,?_,by simpa [Sig.ren,h5] using h3,h4⟩
  rintro rfl;cases h7;exact h2 rfl
 refine ⟨pub',σ'.ren ρ,?_,hv.rel hr⟩
 exact {
  pubIn:=hs.pubIn
  obj:=fun i o' hi=>by
   obtain ⟨j,o,h1,h2,h3⟩:=hobj i o' hi
   exact h3.ok h1 (hs.obj j o h2)
  inj:=fun i j li lj hi hj eb=>by
   obtain ⟨i',h1,h2⟩:=halive i li hi
   obtain ⟨j',h3,h4⟩:=halive j lj hj
   have:=hs.inj i' j' li lj h2 h4 eb
   subst this
   obtain ⟨oi,gi1,gi2,_⟩:=hi
   obtain ⟨oj,gj1,gj2,_⟩:=hj
   exact hinj i j i' h1 h3 (fun e=>gi2 (Option.some.inj (gi1.symm.trans e))) (fun e=>gj2 (Option.some.inj (gj1.symm.trans e)))
  sig:=fun i hi=>by simp [Sig.ren,List.getElem?_eq_none (show ρ.length ≤ i by omega)]
  os:=hs.os,tape:=hs.tape,output:=hs.output,size:=hs.size
  frame:=hs.frame
  own:=fun i li hi=>by obtain ⟨j,_,h2⟩:=halive i li hi;exact hs.own j li h2
  ple:=hs.ple
  sle:=fun i l hl=>by
   have him : i < m:=by
    rcases Nat.lt_or_ge i m with h | h
    ·exact h
    ·rw [hC i h] at hl;cases hl
   simp [Sig.ren,hm i him,hs.sle i l hl] }
theorem CallOK.moved {P : Program} {f : FuncId} {args : List PV} {v v' : PV} {s s1 s2 : Store} (h : CallOK P f args s v s1) (ρ : List Nat) (hm : ∀ i,i < s.length → ρ[i]? = some i) (hlen : s2.length = ρ.length)
  (hinj : ∀ i j k : Nat,ρ[i]? = some k → ρ[j]? = some k → s2[i]? ≠ some PObj.dead → s2[j]? ≠ some PObj.dead → i = j)
  (hobj : ∀ (i : Nat) (o' : PObj),s2[i]? = some o' → ∃ j o,ρ[i]? = some j ∧ s1[j]? = some o ∧ RenObj ρ o' o) (hv : Ren ρ v' v) : CallOK P f args s v' s2:=by
 intro pub σ w cargs hb ha
 refine (h pub σ w cargs hb ha).mono ?_
 rintro e w' ⟨cv,pub',σ',rfl,hs,hr⟩
 obtain ⟨p,t,h1,h2⟩:=RetView.moved ρ hm hlen hinj hobj hv ⟨w,pub,σ,dom s σ⟩ pub' σ' w' cv (fun i hi=>hb.sig i hi) hs hr
 exact ⟨cv,p,t,rfl,h1,h2⟩
theorem RenObj.flat {ρ : List Nat} {z : Nat} {rs : List (List PV)} (h : ∀ row ∈ rs,∀ x ∈ row,flatV x = true) : RenObj ρ (.rows z rs) (.rows z rs):=
 .same fun row hr x hx=>by
  have:=h row hr x hx
  cases x <;> first | (cases this;done) | constructor
theorem RenObj.less {α : Type} {g : α → List PV} [FlatRow g] {ρ : List Nat} {z : Nat} (l : List α) (J : List (List PV)) : RenObj ρ (.rows z (l.map g)) (.rows z (l.map g ++ J)):=by
 refine .rows (by simp) fun r row row' h1 h2=>?_
 have hr:=lt_of_getElem? h1
 rw [List.getElem?_append_left hr,h1] at h2
 cases h2
 refine ⟨rfl,fun k x y h3 h4=>?_⟩
 rw [h3] at h4
 cases h4
 obtain ⟨a,_,rfl⟩:=List.mem_map.1 (List.mem_of_getElem? h1)
 have:=List.all_eq_true.1 (FlatRow.flat (g:=g) a) x (List.mem_of_getElem? h3)
 cases x <;> first | (cases this;done) | constructor
end Go.Pv
