import Derived.Test.YtbimioonhfhflaaDPvMov
import Derived.Test.YtbimioonhfhflaaDFbA
import Derived.Test.YtbimioonhfhflaaDPvSort
set_option linter.unusedVariables false
set_option linter.unusedSimpArgs false
set_option maxRecDepth 100000
set_option maxHeartbeats 4000000
namespace Go.Proofs.Ytbimioonhfhflaa
open Go Go.Pv
theorem varsWs_sz : ∀ l : List Wd,(varsWs l).length ≤ szWs l
 | []=>by rw [varsWs];exact Nat.zero_le _
 | a :: r=>by have h1:=varsW_sz a;have:=varsWs_sz r;rw [varsWs,szWs,List.length_append];omega
def scL (l : List ByteArray) : List ByteArray:=compL (sortL l)
theorem scL_len (l : List ByteArray) : (scL l).length ≤ l.length:=by
 have:=compL_length (sortL l)
 rw [sortL_length] at this
 exact this
theorem freeX_sz {sc : List ByteArray → List ByteArray} (hsl : ∀ l,(sc l).length ≤ l.length) (e : Ex) : (freeX sc e).length ≤ szE e:=by
 induction e using Ex.ind with
 | h e ih=>
  have hk : ∀ l : List Ex,(∀ q ∈ l,(freeX sc q).length ≤ szE q) → (freeXs sc l).length ≤ szEs l:=by
   intro l
   induction l with
   | nil=>intro _;rw [freeXs];exact Nat.zero_le _
   | cons a r ihr=>
    intro h
    have h1:=h a (by simp)
    have h2:=ihr fun q hq=>h q (by simp [hq])
    rw [freeXs,szEs,List.length_append]
    omega
  have h1:=hk e.kids ih
  have h2:=varsWs_sz e.words
  rw [freeX_eq,szE_eq]
  refine Nat.le_trans (hsl _) ?_
  split
  ·refine Nat.le_trans (List.length_filter_le _ _) ?_
   rw [List.length_append];omega
  ·rw [List.length_append];omega
theorem freeXs_sz : ∀ l : List Ex,(freeXs scL l).length ≤ szEs l
 | []=>by rw [freeXs];exact Nat.zero_le _
 | a :: r=>by have h1:=freeX_sz scL_len a;have:=freeXs_sz r;rw [freeXs,szEs,List.length_append];omega
theorem freeXs_app (a b : List Ex) : freeXs scL (a ++ b) = freeXs scL a ++ freeXs scL b:=by
 induction a with
 | nil=>rfl
 | cons x r ih=>rw [List.cons_append,freeXs,freeXs,ih,List.append_assoc]
theorem freeXs_take {l : List Ex} (i : Nat) : (freeXs scL (l.take i)).length ≤ szEs l:=by
 refine Nat.le_trans (freeXs_sz _) ?_
 induction l generalizing i with
 | nil=>simp
 | cons a r ih=>
  cases i with
  | zero=>rw [List.take_zero,szEs];exact Nat.zero_le _
  | succ i=>rw [List.take_succ_cons,szEs,szEs];have:=ih i;omega
def x63 : XC:=.seq (.reg [⟨some 3,.assign (.const (.bool false)),none⟩]) (.seq (.reg [⟨some 4,.move (.tmp 0),none⟩,⟨some 5,.fieldAddr 29 (.tmp 1) 1,none⟩,⟨some 6,.load 9 (.tmp 5),none⟩,⟨some 7,.binOp .eql 9 (.tmp 4) (.tmp 6) 9,none⟩,⟨some 3,.assign (.tmp 7),none⟩]) .ret)
@[simp] theorem x63_s {C e s K} : type_of% (@X_at C e s K _ _ x63.eq_1):=X_at x63.eq_1
def an63 : Ann:=⟨[],[],[]⟩
theorem fi63 : FI Try.prog 63 (cxA an63) x63 [.tmp 3] Try.f63:=fiA Try.func63 mixed
theorem FreeOf1_first (n : ByteArray) (e : Ex) : CallOK Try.prog 63 [.str n,.iptr (exr e)] [] (.bool (decide (n = e.nm))) []:=by
 refine fi63.op ?_
 (refine Sg.h ?_;try repeat' ((with_reducible first|refine brA ?_|refine brE fun _=>?_|refine spl ⟨?_,?_⟩<;>intro _)<;>((try simp -implicitDefEqProofs);(try simp -implicitDefEqProofs(disch:=first|assumption|(try simp only[lens]);omega -splitDisjunctions)))))
def x39_T3 : XC:=.seq (.seq (.reg [⟨some 32,.fieldAddr 29 (.tmp 1) 0,none⟩,⟨some 33,.load 3 (.tmp 32),none⟩,⟨some 34,.binOp .eql 3 (.tmp 33) (.const (.int .i64 9)) 3,none⟩,⟨some 35,.move (.tmp 34),none⟩,⟨some 36,.fieldAddr 29 (.tmp 1) 0,some (some 35,false)⟩,⟨some 37,.load 3 (.tmp 36),some (some 35,false)⟩,⟨some 38,.binOp .eql 3 (.tmp 37) (.const (.int .i64 10)) 3,some (some 35,false)⟩,⟨some 39,.pick (.tmp 35) (.const (.bool true)) (.tmp 38),none⟩]) (.cond (.tmp 39) (.reg [⟨some 40,.move (.tmp 3),none⟩,⟨some 41,.makeFunc (.func 63) #[] #[.tmp 1],none⟩,⟨some 42,.call ⟨.value (.func 62),#[.tmp 40,.tmp 41],#[32,37]⟩,none⟩,⟨some 3,.assign (.tmp 42),none⟩]) .skip)) (.seq (.reg [⟨some 43,.move (.tmp 3),none⟩,⟨some 44,.call ⟨.value (.func 64),#[.tmp 43],#[32]⟩,none⟩]) (.seq (.reg [⟨some 45,.move (.tmp 3),none⟩,⟨some 46,.call ⟨.value (.func 65),#[.tmp 45],#[32]⟩,none⟩,⟨some 2,.assign (.tmp 46),none⟩]) .ret))
def x39_L2 : XC:=.seq (.reg [⟨some 24,.binOp .lss 3 (.tmp 23) (.tmp 22) 3,none⟩]) (.seq (.cond (.tmp 24) .skip (.exit 2)) (.seq (.block 3 (.seq (.reg [⟨some 25,.indexAddr 27 (.tmp 21) (.tmp 23),none⟩,⟨some 26,.load 29 (.tmp 25),none⟩,⟨some 7,.alloc 29,none⟩,⟨none,.store 29 (.tmp 7) (.tmp 26),none⟩]) (.reg [⟨some 27,.move (.tmp 3),none⟩,⟨some 28,.load 29 (.tmp 7),none⟩,⟨some 29,.call ⟨.value (.func 39),#[.tmp 28],#[29]⟩,none⟩,⟨some 30,.call ⟨.builtin .append,#[.tmp 27,.tmp 29],#[32,32]⟩,none⟩,⟨some 3,.assign (.tmp 30),none⟩]))) (.reg [⟨some 31,.binOp .add 3 (.tmp 23) (.const (.int .i64 1)) 3,none⟩,⟨some 23,.move (.tmp 31),none⟩])))
def x39_T1 : XC:=.seq (.seq (.reg [⟨some 20,.fieldAddr 29 (.tmp 1) 3,none⟩,⟨some 21,.load 27 (.tmp 20),none⟩,⟨some 22,.call ⟨.builtin .len,#[.tmp 21],#[27]⟩,none⟩,⟨some 23,.move (.const (.int .i64 0)),none⟩]) (.bloop 2 x39_L2)) (x39_T3)
def x39_L0 : XC:=.seq (.reg [⟨some 12,.binOp .lss 3 (.tmp 11) (.tmp 10) 3,none⟩]) (.seq (.cond (.tmp 12) .skip (.exit 0)) (.seq (.block 1 (.seq (.reg [⟨some 13,.indexAddr 26 (.tmp 9) (.tmp 11),none⟩,⟨some 14,.load 31 (.tmp 13),none⟩,⟨some 5,.alloc 31,none⟩,⟨none,.store 31 (.tmp 5) (.tmp 14),none⟩]) (.reg [⟨some 15,.move (.tmp 3),none⟩,⟨some 16,.load 31 (.tmp 5),none⟩,⟨some 17,.call ⟨.value (.func 44),#[.tmp 16],#[31]⟩,none⟩,⟨some 18,.call ⟨.builtin .append,#[.tmp 15,.tmp 17],#[32,32]⟩,none⟩,⟨some 3,.assign (.tmp 18),none⟩]))) (.reg [⟨some 19,.binOp .add 3 (.tmp 11) (.const (.int .i64 1)) 3,none⟩,⟨some 11,.move (.tmp 19),none⟩])))
def x39 : XC:=.seq (.reg [⟨some 1,.box 29 (.tmp 0),none⟩,⟨some 2,.assign (.const (.slice none 0 0)),none⟩]) (.seq (.reg [⟨some 3,.assign (.const (.slice none 0 0)),none⟩]) (.seq (.seq (.reg [⟨some 8,.fieldAddr 29 (.tmp 1) 2,none⟩,⟨some 9,.load 26 (.tmp 8),none⟩,⟨some 10,.call ⟨.builtin .len,#[.tmp 9],#[26]⟩,none⟩,⟨some 11,.move (.const (.int .i64 0)),none⟩]) (.bloop 0 x39_L0)) (x39_T1)))
@[simp] theorem x39_s {C e s K} : type_of% (@X_at C e s K _ _ x39_T3.eq_1) ∧ type_of% (@X_at C e s K _ _ x39_L2.eq_1) ∧ type_of% (@X_at C e s K _ _ x39_T1.eq_1) ∧ type_of% (@X_at C e s K _ _ x39_L0.eq_1) ∧ type_of% (@X_at C e s K _ _ x39.eq_1):=⟨X_at x39_T3.eq_1,X_at x39_L2.eq_1,X_at x39_T1.eq_1,X_at x39_L0.eq_1,X_at x39.eq_1⟩
def an39 : Ann:=⟨[],[(2,[(3,none,1)],[1,3,21,22,23],[1,3]),(0,[(3,none,1)],[1,3,9,10,11],[1,3])],[]⟩
@[simp] theorem an39_a : an39.loopOf 2 = ([(3,none,1)],[1,3,21,22,23],[1,3]) ∧ an39.loopOf 0 = ([(3,none,1)],[1,3,9,10,11],[1,3]):=⟨rfl,rfl⟩
theorem fi39 : FI Try.prog 39 (cxA an39) x39 [.tmp 2] Try.f39:=fiA Try.func39 mixed
theorem FreeOf_first (e : Ex) : szE e ≤ 300 → CallOK Try.prog 39 [.agg (exr e)] [] (.list ((freeX scL e).map strRow)) []:=by
 induction e using Ex.ind with
 | h e ih=>
  intro hsz
  have he:=exr_eq e
  refine fi39.op ?_
  (refine Sg.h ?_;try repeat' ((with_reducible first|refine brA ?_|refine brE fun _=>?_|refine spl ⟨?_,?_⟩<;>intro _)<;>((try simp -implicitDefEqProofs);(try simp -implicitDefEqProofs(disch:=first|assumption|(try simp only[lens]);omega -splitDisjunctions)))))
  rw [szE_eq] at hsz
  refine W_of fun Q hQ=>?_
  have main : ∀ n i,i + n = e.words.length → Q [(1,.ptr 0 0 0),(3,.sl 1 0 (varsWs (e.words.take i)).length),(9,.list (e.words.map wrd)),(10,.int .i64 (e.words.length : Int)),(11,.int .i64 (i : Int))] [.rows 4 [exr e],.rows 1 ((varsWs (e.words.take i)).map strRow)]:=by
   intro n
   induction n with
   | zero=>
    intro i hi
    obtain rfl : i = e.words.length:=by omega
    rw [List.take_length]
    have hvl:=varsWs_sz e.words
    have hfx:=freeX_eq scL e
    apply hQ
    clear hQ
    (refine Sg.h ?_;try repeat' ((with_reducible first|refine brA ?_|refine brE fun _=>?_|refine spl ⟨?_,?_⟩<;>intro _)<;>((try simp -implicitDefEqProofs);(try simp -implicitDefEqProofs(disch:=first|assumption|(try simp only[lens]);omega -splitDisjunctions)))))
    refine W_of fun Q2 hQ2=>?_
    have main2 : ∀ n i,i + n = e.kids.length → Q2 [(1,.ptr 0 0 0),(3,.sl 1 0 (varsWs e.words ++ freeXs scL (e.kids.take i)).length),(21,.list (e.kids.map exr)),(22,.int .i64 (e.kids.length : Int)),(23,.int .i64 (i : Int))] [.rows 4 [exr e],.rows 1 ((varsWs e.words ++ freeXs scL (e.kids.take i)).map strRow)]:=by
     intro n
     induction n with
     | zero=>
      intro i hi
      obtain rfl : i = e.kids.length:=by omega
      rw [List.take_length]
      have hks:=freeXs_sz e.kids
      have hV : (varsWs e.words ++ freeXs scL e.kids).length ≤ 300:=by rw [List.length_append];omega
      generalize varsWs e.words ++ freeXs scL e.kids = V at *
      clear ih
      apply hQ2
      clear hQ2
      cases hQk : isQ e.k with
      | false=>
       rw [hQk,if_neg (by simp)] at hfx
       rw [hfx]
       have hk9 : ¬ e.k = 9:=by intro g;simp [isQ,g] at hQk
       have hk10 : ¬ e.k = 10:=by intro g;simp [isQ,g] at hQk
       have hcl:=compL_length (sortL V)
       rw [sortL_length] at hcl
       unfold scL
       (refine Sg.h ?_;try repeat' ((with_reducible first|refine brA ?_|refine brE fun _=>?_|refine spl ⟨?_,?_⟩<;>intro _)<;>((try simp -implicitDefEqProofs [hk9,hk10]);(try simp -implicitDefEqProofs(disch:=first|assumption|(try simp only[lens]);omega -splitDisjunctions) [hk9,hk10]))))
       refine CL.of (sort_strs' V rfl rfl (by omega)) ?_
       (refine Sg.h ?_;try repeat' ((with_reducible first|refine brA ?_|refine brE fun _=>?_|refine spl ⟨?_,?_⟩<;>intro _)<;>((try simp -implicitDefEqProofs);(try simp -implicitDefEqProofs(disch:=first|assumption|(try simp only[lens]);omega -splitDisjunctions)))))
       refine CL.of (compact_strs' (sortL V) rfl (sortL_length V) (by omega)) ?_
       generalize compL (sortL V) = C at *
       (refine Sg.h ?_;try repeat' ((with_reducible first|refine brA ?_|refine brE fun _=>?_|refine spl ⟨?_,?_⟩<;>intro _)<;>((try simp -implicitDefEqProofs);(try simp -implicitDefEqProofs(disch:=first|assumption|(try simp only[lens]);omega -splitDisjunctions)))))
      | true=>
       rw [hQk,if_pos rfl] at hfx
       rw [hfx]
       have hdel:=DeleteFunc_less V (by omega) 63 [.iptr (exr e)] (fun n=>decide (n = e.nm)) (fun n _=>FreeOf1_first n e)
       by_cases hk9 : e.k = 9
       ·(refine Sg.h ?_;try repeat' ((with_reducible first|refine brA ?_|refine brE fun _=>?_|refine spl ⟨?_,?_⟩<;>intro _)<;>((try simp -implicitDefEqProofs [hk9]); (try simp -implicitDefEqProofs(disch:=first|assumption|(try simp only[lens]);omega -splitDisjunctions) [hk9]))))
        refine CL.giv [0] ?_
        (refine Sg.h ?_;try repeat' ((with_reducible first|refine brA ?_|refine brE fun _=>?_|refine spl ⟨?_,?_⟩<;>intro _)<;>((try simp -implicitDefEqProofs);(try simp -implicitDefEqProofs(disch:=first|assumption|(try simp only[lens]);omega -splitDisjunctions)))))
        refine CL.sub [1] (s2:=[.rows 1 ((V.filter fun a=>!decide (a = e.nm)).map strRow)]) (v:=.sl 0 0 (V.filter fun a=>!decide (a = e.nm)).length) (by simpa [liveS] using hdel) ?_
        have hfl : (V.filter fun a=>!decide (a = e.nm)).length ≤ 300:=Nat.le_trans (List.length_filter_le _ _) hV
        clear hdel
        generalize (V.filter fun a=>!decide (a = e.nm)) = V2 at *
        have hcl:=compL_length (sortL V2)
        rw [sortL_length] at hcl
        unfold scL
        (refine Sg.h ?_;try repeat' ((with_reducible first|refine brA ?_|refine brE fun _=>?_|refine spl ⟨?_,?_⟩<;>intro _)<;>((try simp -implicitDefEqProofs);(try simp -implicitDefEqProofs(disch:=first|assumption|(try simp only[lens]);omega -splitDisjunctions)))))
        refine CL.of (sort_strs' V2 rfl rfl (by omega)) ?_
        (refine Sg.h ?_;try repeat' ((with_reducible first|refine brA ?_|refine brE fun _=>?_|refine spl ⟨?_,?_⟩<;>intro _)<;>((try simp -implicitDefEqProofs);(try simp -implicitDefEqProofs(disch:=first|assumption|(try simp only[lens]);omega -splitDisjunctions)))))
        refine CL.of (compact_strs' (sortL V2) rfl (sortL_length V2) (by omega)) ?_
        generalize compL (sortL V2) = C at *
        (refine Sg.h ?_;try repeat' ((with_reducible first|refine brA ?_|refine brE fun _=>?_|refine spl ⟨?_,?_⟩<;>intro _)<;>((try simp -implicitDefEqProofs);(try simp -implicitDefEqProofs(disch:=first|assumption|(try simp only[lens]);omega -splitDisjunctions)))))
       ·have hk10 : e.k = 10 := by simp [isQ,hk9] at hQk; exact hQk
        (refine Sg.h ?_;try repeat' ((with_reducible first|refine brA ?_|refine brE fun _=>?_|refine spl ⟨?_,?_⟩<;>intro _)<;>((try simp -implicitDefEqProofs [hk9,hk10]);(try simp -implicitDefEqProofs(disch:=first|assumption|(try simp only[lens]);omega -splitDisjunctions) [hk9,hk10]))))
        refine CL.giv [0] ?_
        (refine Sg.h ?_;try repeat' ((with_reducible first|refine brA ?_|refine brE fun _=>?_|refine spl ⟨?_,?_⟩<;>intro _)<;>((try simp -implicitDefEqProofs);(try simp -implicitDefEqProofs(disch:=first|assumption|(try simp only[lens]);omega -splitDisjunctions)))))
        refine CL.sub [1] (s2:=[.rows 1 ((V.filter fun a=>!decide (a = e.nm)).map strRow)]) (v:=.sl 0 0 (V.filter fun a=>!decide (a = e.nm)).length) (by simpa [liveS] using hdel) ?_
        have hfl : (V.filter fun a=>!decide (a = e.nm)).length ≤ 300:=Nat.le_trans (List.length_filter_le _ _) hV
        clear hdel
        generalize (V.filter fun a=>!decide (a = e.nm)) = V2 at *
        have hcl:=compL_length (sortL V2)
        rw [sortL_length] at hcl
        unfold scL
        (refine Sg.h ?_;try repeat' ((with_reducible first|refine brA ?_|refine brE fun _=>?_|refine spl ⟨?_,?_⟩<;>intro _)<;>((try simp -implicitDefEqProofs);(try simp -implicitDefEqProofs(disch:=first|assumption|(try simp only[lens]);omega -splitDisjunctions)))))
        refine CL.of (sort_strs' V2 rfl rfl (by omega)) ?_
        (refine Sg.h ?_;try repeat' ((with_reducible first|refine brA ?_|refine brE fun _=>?_|refine spl ⟨?_,?_⟩<;>intro _)<;>((try simp -implicitDefEqProofs);(try simp -implicitDefEqProofs(disch:=first|assumption|(try simp only[lens]);omega -splitDisjunctions)))))
        refine CL.of (compact_strs' (sortL V2) rfl (sortL_length V2) (by omega)) ?_
        generalize compL (sortL V2) = C at *
        (refine Sg.h ?_;try repeat' ((with_reducible first|refine brA ?_|refine brE fun _=>?_|refine spl ⟨?_,?_⟩<;>intro _)<;>((try simp -implicitDefEqProofs);(try simp -implicitDefEqProofs(disch:=first|assumption|(try simp only[lens]);omega -splitDisjunctions)))))
     | succ n ihn=>
      intro i hi
      have hil : i < e.kids.length:=by omega
      have ihn:=ihn (i + 1) (by omega)
      have hm:=List.getElem_mem hil
      have hc:=ih e.kids[i] hm (by have:=szEs_mem hm;omega)
      rw [take_snocD hil,freeXs_app,← List.append_assoc] at ihn
      have e1 : freeXs scL [e.kids[i]] = freeX scL e.kids[i]:=by rw [freeXs,freeXs,List.append_nil]
      have h1:=freeXs_take (l:=e.kids) i
      have h2:=freeX_sz scL_len e.kids[i]
      have h4:=szEs_mem hm
      have hT : (varsWs e.words ++ freeXs scL (e.kids.take i)).length ≤ 300:=by rw [List.length_append];omega
      rw [e1,List.map_append] at ihn
      have hi' : (i : Int) < (e.kids.length : Int):=by omega
      clear e1 hm
      generalize varsWs e.words ++ freeXs scL (e.kids.take i) = T at *
      generalize hx : e.kids[i] = x at *
      generalize freeX scL x = U at *
      clear ih he hfx
      apply hQ2
      clear hQ2
      (refine Sg.h ?_;try repeat' ((first|(with_reducible first|refine brA ?_|refine brE fun _=>?_|refine spl ⟨?_,?_⟩<;>intro _)|refine clo hc ?_)<;>((try simp -implicitDefEqProofs [hi',hil,hx]);(try simp -implicitDefEqProofs(disch:=first|assumption|(try simp only[lens]);omega -splitDisjunctions) [hi',hil,hx]))))
      all_goals first|exact ihn|(refine at2 ihn ?_ ?_<;>simp;done)|(exfalso;first|omega|(simp_all;done)|(simp_all;omega))
    have hm0:=main2 e.kids.length 0 (Nat.zero_add _)
    rw [List.take_zero,show freeXs scL [] = [] by rw [freeXs],List.append_nil] at hm0
    all_goals first|exact hm0|(refine at2 hm0 ?_ ?_<;>simp;done)|(exfalso;first|omega|(simp_all;done)|(simp_all;omega))
   | succ n ihn=>
    intro i hi
    have hil : i < e.words.length:=by omega
    have ihn:=ihn (i + 1) (by omega)
    have hv:=Vars_first e.words[i] (by have:=szWs_mem (List.getElem_mem hil);omega)
    rw [take_snocD hil,varsWs_app] at ihn
    have h1:=varsWs_sz (e.words.take i)
    have h2:=szWs_take (l:=e.words) i
    have h3:=varsW_sz e.words[i]
    have h4:=szWs_mem (List.getElem_mem hil)
    have e1 : varsWs [e.words[i]] = varsW e.words[i]:=by rw [varsWs,varsWs,List.append_nil]
    rw [e1,List.map_append] at ihn
    have hi' : (i : Int) < (e.words.length : Int):=by omega
    clear e1
    generalize varsWs (e.words.take i) = T at *
    generalize hx : e.words[i] = x at *
    generalize varsW x = U at *
    clear ih he
    apply hQ
    clear hQ
    (refine Sg.h ?_;try repeat' ((first|(with_reducible first|refine brA ?_|refine brE fun _=>?_|refine spl ⟨?_,?_⟩<;>intro _)|refine clo hv ?_)<;>((try simp -implicitDefEqProofs [hi',hil,hx]);(try simp -implicitDefEqProofs(disch:=first|assumption|(try simp only[lens]);omega -splitDisjunctions) [hi',hil,hx]))))
    all_goals first|exact ihn|(refine at2 ihn ?_ ?_<;>simp;done)|(exfalso;first|omega|(simp_all;done)|(simp_all;omega))
  have hm0:=main e.words.length 0 (Nat.zero_add _)
  rw [List.take_zero,show varsWs [] = [] by rw [varsWs]] at hm0
  all_goals first|exact hm0|(refine at2 hm0 ?_ ?_<;>simp;done)|(exfalso;first|omega|(simp_all;done)|(simp_all;omega))
end Go.Proofs.Ytbimioonhfhflaa
