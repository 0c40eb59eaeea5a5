import Derived.Test.YtbimioonhfhflaaDFaF
set_option linter.unusedVariables false
set_option linter.unusedSimpArgs false
set_option maxRecDepth 100000
set_option maxHeartbeats 4000000
namespace Go.Proofs.Ytbimioonhfhflaa
open Go Go.Pv
def wordsN (k : Int) : Int:=if k = 1 then -1 else if k = 2 then 2 else 0
def kidsX (k : Int) : Int:=if k = 1 ∨ k = 2 ∨ k = 3 ∨ k = 4 then 0 else if k = 5 ∨ k = 9 ∨ k = 10 then 1 else 2
def x67 : XC:=.seq (.reg [⟨some 2,.assign (.const (.int .i64 0)),none⟩,⟨some 3,.assign (.const (.int .i64 0)),none⟩]) (.seq (.seq (.reg [⟨some 4,.move (.tmp 0),none⟩]) (.block 0 (.seq (.reg [⟨some 6,.binOp .eql 3 (.tmp 4) (.const (.int .i64 1)) 3,none⟩,⟨some 5,.assign (.tmp 6),none⟩]) (.cond (.tmp 5) (.seq (.reg [⟨some 2,.assign (.const (.int .i64 (-1))),none⟩,⟨some 3,.assign (.const (.int .i64 0)),none⟩]) .ret) (.seq (.reg [⟨some 8,.binOp .eql 3 (.tmp 4) (.const (.int .i64 2)) 3,none⟩,⟨some 7,.assign (.tmp 8),none⟩]) (.cond (.tmp 7) (.seq (.reg [⟨some 2,.assign (.const (.int .i64 2)),none⟩,⟨some 3,.assign (.const (.int .i64 0)),none⟩]) .ret) (.seq (.seq (.reg [⟨some 10,.binOp .eql 3 (.tmp 4) (.const (.int .i64 3)) 3,none⟩,⟨some 9,.assign (.tmp 10),none⟩]) (.cond (.tmp 9) .skip (.reg [⟨some 11,.binOp .eql 3 (.tmp 4) (.const (.int .i64 4)) 3,none⟩,⟨some 9,.assign (.tmp 11),none⟩]))) (.cond (.tmp 9) (.seq (.reg [⟨some 2,.assign (.const (.int .i64 0)),none⟩,⟨some 3,.assign (.const (.int .i64 0)),none⟩]) .ret) (.seq (.seq (.reg [⟨some 13,.binOp .eql 3 (.tmp 4) (.const (.int .i64 5)) 3,none⟩,⟨some 12,.assign (.tmp 13),none⟩]) (.cond (.tmp 12) .skip (.seq (.reg [⟨some 14,.binOp .eql 3 (.tmp 4) (.const (.int .i64 9)) 3,none⟩,⟨some 12,.assign (.tmp 14),none⟩]) (.cond (.tmp 12) .skip (.reg [⟨some 15,.binOp .eql 3 (.tmp 4) (.const (.int .i64 10)) 3,none⟩,⟨some 12,.assign (.tmp 15),none⟩]))))) (.cond (.tmp 12) (.seq (.reg [⟨some 2,.assign (.const (.int .i64 0)),none⟩,⟨some 3,.assign (.const (.int .i64 1)),none⟩]) .ret) .skip)))))))))) (.seq (.reg [⟨some 2,.assign (.const (.int .i64 0)),none⟩,⟨some 3,.assign (.const (.int .i64 2)),none⟩]) .ret))
@[simp] theorem x67_s {C e s K} : type_of% (@X_at C e s K _ _ x67.eq_1):=X_at x67.eq_1
def an67 : Ann:=⟨[],[],[]⟩
theorem fi67 : FI Try.prog 67 (cxA an67) x67 [.tmp 2,.tmp 3] Try.f67:=fiA Try.func67 mixed
theorem shape_first (k : Int) : CallOK Try.prog 67 [.int .i64 k] [] (.tuple [.int .i64 (wordsN k),.int .i64 (kidsX k)]) []:=by
 refine fi67.op ?_
 (refine Sg.h ?_;try repeat' ((with_reducible first|refine brA ?_|refine brE fun _=>?_|refine spl ⟨?_,?_⟩<;>intro _)<;>((try simp -implicitDefEqProofs(disch:=first|assumption|(try simp only[lens]);omega -splitDisjunctions)))))
 all_goals simp_all [wordsN,kidsX]
def exprH (k : Int) (nm : ByteArray) (wc kc : Nat) (s : WS) : RW:=
 if s.1 = 200 then .error ((2,0),s) else if k < 1 ∨ 10 < k then .error ((4,s.1),(s.1 + 1,s.2)) else if (0 ≤ wordsN k ∧ (wc : Int) ≠ wordsN k) ∨ (kc : Int) ≠ kidsX k then .error ((9,s.1),(s.1 + 1,s.2))
 else if k = 1 then (if isBigB nm = true then manyW s.1 (⟨#[112]⟩ ++ nm) wc (s.1 + 1,s.2) else .error ((8,s.1),(s.1 + 1,s.2)))
 else if k = 9 ∨ k = 10 then (if isNameB nm = true then .ok (s.1 + 1,s.2) else .error ((8,s.1),(s.1 + 1,s.2)))
 else if nm = ⟨#[]⟩ then .ok (s.1 + 1,s.2) else .error ((8,s.1),(s.1 + 1,s.2))
mutual
def exprW : Ex → WS → RW
 | .mk k nm ws l=>fun s=>match exprH k nm ws.length l.length s with
  | .ok s1=>(match wordsW ws s1 with
   | .ok s2=>exprsW l s2
   | .error e=>.error e)
  | .error e=>.error e
def exprsW : List Ex → WS → RW
 | []=>fun s=>.ok s
 | w :: r=>fun s=>match exprW w s with
  | .ok s1=>exprsW r s1
  | .error e=>.error e
end
theorem exprW_eq (e : Ex) (s : WS) : exprW e s = match exprH e.k e.nm e.words.length e.kids.length s with
  | .ok s1=>(match wordsW e.words s1 with
   | .ok s2=>exprsW e.kids s2
   | .error e=>.error e)
  | .error e=>.error e:=by cases e with | mk k a w l=>rw [exprW];rfl
theorem exprH_n {k : Int} {nm : ByteArray} {wc kc : Nat} {s s' : WS} (h : exprH k nm wc kc s = .ok s') (hs : s.1 ≤ 200) : s'.1 ≤ 200:=by
 unfold exprH at h
 split at h
 ·cases h
 split at h
 ·cases h
 split at h
 ·cases h
 split at h
 ·split at h
  ·rw [manyW_n h];simp;omega
  ·cases h
 split at h
 ·split at h
  ·cases h;simp;omega
  ·cases h
 split at h
 ·cases h;simp;omega
 ·cases h
theorem exprsW_n (l : List Ex) (ih : ∀ w ∈ l,∀ s s',exprW w s = .ok s' → s.1 ≤ 200 → s'.1 ≤ 200) : ∀ s s',exprsW l s = .ok s' → s.1 ≤ 200 → s'.1 ≤ 200:=by
 induction l with
 | nil=>intro s s' h hs;rw [exprsW] at h;cases h;exact hs
 | cons w r ihr=>
  intro s s' h hs
  rw [exprsW] at h
  dsimp only at h
  split at h
  ·rename_i s1 h1
   exact ihr (fun w hw=>ih w (by simp [hw])) s1 s' h (ih w (by simp) s s1 h1 hs)
  ·cases h
theorem exprW_n (e : Ex) : ∀ s s',exprW e s = .ok s' → s.1 ≤ 200 → s'.1 ≤ 200:=by
 induction e using Ex.ind with
 | h e ih=>
  intro s s' h hs
  rw [exprW_eq] at h
  split at h
  ·rename_i s1 h1
   split at h
   ·rename_i s2 h2
    exact exprsW_n e.kids ih s2 s' h (wordsW_n _ (fun w _=>wordW_n w) s1 s2 h2 (exprH_n h1 hs))
   ·cases h
  ·cases h
def x41_L3 : XC:=.seq (.reg [⟨some 104,.binOp .lss 3 (.tmp 103) (.tmp 102) 3,none⟩]) (.seq (.cond (.tmp 104) .skip (.exit 3)) (.seq (.block 4 (.seq (.reg [⟨some 105,.indexAddr 27 (.tmp 101) (.tmp 103),none⟩,⟨some 106,.load 29 (.tmp 105),none⟩,⟨some 10,.alloc 29,none⟩,⟨none,.store 29 (.tmp 10) (.tmp 106),none⟩]) (.reg [⟨some 107,.move (.tmp 0),none⟩,⟨some 108,.load 29 (.tmp 10),none⟩,⟨some 109,.call ⟨.value (.func 41),#[.tmp 107,.tmp 108],#[78,29]⟩,none⟩]))) (.reg [⟨some 110,.binOp .add 3 (.tmp 103) (.const (.int .i64 1)) 3,none⟩,⟨some 103,.move (.tmp 110),none⟩])))
def x41_T1 : XC:=.seq (.reg [⟨some 100,.fieldAddr 29 (.tmp 3) 3,none⟩,⟨some 101,.load 27 (.tmp 100),none⟩,⟨some 102,.call ⟨.builtin .len,#[.tmp 101],#[27]⟩,none⟩,⟨some 103,.move (.const (.int .i64 0)),none⟩]) (.bloop 3 x41_L3)
def x41_L1 : XC:=.seq (.reg [⟨some 93,.binOp .lss 3 (.tmp 92) (.tmp 91) 3,none⟩]) (.seq (.cond (.tmp 93) .skip (.exit 1)) (.seq (.block 2 (.seq (.reg [⟨some 94,.indexAddr 26 (.tmp 90) (.tmp 92),none⟩,⟨some 95,.load 31 (.tmp 94),none⟩,⟨some 8,.alloc 31,none⟩,⟨none,.store 31 (.tmp 8) (.tmp 95),none⟩]) (.reg [⟨some 96,.move (.tmp 0),none⟩,⟨some 97,.load 31 (.tmp 8),none⟩,⟨some 98,.call ⟨.value (.func 42),#[.tmp 96,.tmp 97],#[78,31]⟩,none⟩]))) (.reg [⟨some 99,.binOp .add 3 (.tmp 92) (.const (.int .i64 1)) 3,none⟩,⟨some 92,.move (.tmp 99),none⟩])))
def x41 : XC:=.seq (.reg [⟨some 3,.box 29 (.tmp 1),none⟩]) (.seq (.reg [⟨some 11,.move (.tmp 0),none⟩,⟨some 12,.call ⟨.value (.func 66),#[.tmp 11],#[78]⟩,none⟩,⟨some 4,.assign (.tmp 12),none⟩]) (.seq (.seq (.reg [⟨some 13,.fieldAddr 29 (.tmp 3) 0,none⟩,⟨some 14,.load 3 (.tmp 13),none⟩,⟨some 15,.binOp .lss 3 (.tmp 14) (.const (.int .i64 1)) 3,none⟩,⟨some 16,.move (.tmp 15),none⟩,⟨some 17,.fieldAddr 29 (.tmp 3) 0,some (some 16,false)⟩,⟨some 18,.load 3 (.tmp 17),some (some 16,false)⟩,⟨some 19,.binOp .gtr 3 (.tmp 18) (.const (.int .i64 10)) 3,some (some 16,false)⟩,⟨some 20,.pick (.tmp 16) (.const (.bool true)) (.tmp 19),none⟩]) (.cond (.tmp 20) (.reg [⟨some 21,.move (.tmp 4),none⟩,⟨some 22,.call ⟨.value (.func 25),#[.const (.int .i64 4),.tmp 21],#[3,3]⟩,none⟩,⟨some 23,.build 109 #[(0,.tmp 22)],none⟩,⟨some 24,.makeInterface 109 (.tmp 23),none⟩,⟨none,.panic (.tmp 24),none⟩]) .skip)) (.seq (.reg [⟨some 26,.fieldAddr 29 (.tmp 3) 0,none⟩,⟨some 27,.load 3 (.tmp 26),none⟩,⟨some 28,.call ⟨.value (.func 67),#[.tmp 27],#[3]⟩,none⟩,⟨some 25,.move (.tmp 28),none⟩,⟨some 29,.extract (.tmp 25) 0,none⟩,⟨some 30,.extract (.tmp 25) 1,none⟩,⟨some 5,.assign (.tmp 29),none⟩,⟨some 6,.assign (.tmp 30),none⟩]) (.seq (.seq (.reg [⟨some 31,.move (.tmp 5),none⟩,⟨some 32,.binOp .geq 3 (.tmp 31) (.const (.int .i64 0)) 3,none⟩,⟨some 33,.move (.tmp 32),none⟩,⟨some 34,.fieldAddr 29 (.tmp 3) 2,some (some 33,true)⟩,⟨some 35,.load 26 (.tmp 34),some (some 33,true)⟩,⟨some 36,.call ⟨.builtin .len,#[.tmp 35],#[26]⟩,some (some 33,true)⟩,⟨some 37,.move (.tmp 5),some (some 33,true)⟩,⟨some 38,.binOp .neq 3 (.tmp 36) (.tmp 37) 3,some (some 33,true)⟩,⟨some 39,.pick (.tmp 33) (.tmp 38) (.const (.bool false)),none⟩,⟨some 40,.move (.tmp 39),none⟩,⟨some 41,.fieldAddr 29 (.tmp 3) 3,some (some 40,false)⟩,⟨some 42,.load 27 (.tmp 41),some (some 40,false)⟩,⟨some 43,.call ⟨.builtin .len,#[.tmp 42],#[27]⟩,some (some 40,false)⟩,⟨some 44,.move (.tmp 6),some (some 40,false)⟩,⟨some 45,.binOp .neq 3 (.tmp 43) (.tmp 44) 3,some (some 40,false)⟩,⟨some 46,.pick (.tmp 40) (.const (.bool true)) (.tmp 45),none⟩]) (.cond (.tmp 46) (.reg [⟨some 47,.move (.tmp 4),none⟩,⟨some 48,.call ⟨.value (.func 25),#[.const (.int .i64 9),.tmp 47],#[3,3]⟩,none⟩,⟨some 49,.build 109 #[(0,.tmp 48)],none⟩,⟨some 50,.makeInterface 109 (.tmp 49),none⟩,⟨none,.panic (.tmp 50),none⟩]) .skip)) (.seq (.seq (.reg [⟨some 51,.fieldAddr 29 (.tmp 3) 0,none⟩,⟨some 52,.load 3 (.tmp 51),none⟩]) (.block 0 (.seq (.reg [⟨some 61,.binOp .eql 3 (.tmp 52) (.const (.int .i64 1)) 3,none⟩,⟨some 60,.assign (.tmp 61),none⟩]) (.cond (.tmp 60) (.seq (.seq (.reg [⟨some 62,.fieldAddr 29 (.tmp 3) 1,none⟩,⟨some 63,.load 9 (.tmp 62),none⟩,⟨some 64,.call ⟨.value (.func 47),#[.tmp 63],#[9]⟩,none⟩,⟨some 65,.unOp .not 4 (.tmp 64),none⟩]) (.cond (.tmp 65) (.reg [⟨some 66,.move (.tmp 4),none⟩,⟨some 67,.call ⟨.value (.func 25),#[.const (.int .i64 8),.tmp 66],#[3,3]⟩,none⟩,⟨some 68,.build 109 #[(0,.tmp 67)],none⟩,⟨some 69,.makeInterface 109 (.tmp 68),none⟩,⟨none,.panic (.tmp 69),none⟩]) .skip)) (.reg [⟨some 70,.move (.tmp 0),none⟩,⟨some 71,.move (.tmp 4),none⟩,⟨some 72,.fieldAddr 29 (.tmp 3) 1,none⟩,⟨some 73,.load 9 (.tmp 72),none⟩,⟨some 74,.fieldAddr 29 (.tmp 3) 2,none⟩,⟨some 75,.load 26 (.tmp 74),none⟩,⟨some 76,.call ⟨.builtin .len,#[.tmp 75],#[26]⟩,none⟩,⟨some 77,.call ⟨.value (.func 68),#[.tmp 70,.tmp 71,.const (.string ⟨#[112]⟩),.tmp 73,.tmp 76],#[78,3,9,9,3]⟩,none⟩])) (.seq (.seq (.reg [⟨some 79,.binOp .eql 3 (.tmp 52) (.const (.int .i64 9)) 3,none⟩,⟨some 78,.assign (.tmp 79),none⟩]) (.cond (.tmp 78) .skip (.reg [⟨some 80,.binOp .eql 3 (.tmp 52) (.const (.int .i64 10)) 3,none⟩,⟨some 78,.assign (.tmp 80),none⟩]))) (.cond (.tmp 78) (.seq (.reg [⟨some 81,.fieldAddr 29 (.tmp 3) 1,none⟩,⟨some 82,.load 9 (.tmp 81),none⟩,⟨some 83,.call ⟨.value (.func 24),#[.tmp 82],#[9]⟩,none⟩,⟨some 84,.unOp .not 4 (.tmp 83),none⟩]) (.cond (.tmp 84) (.reg [⟨some 85,.move (.tmp 4),none⟩,⟨some 86,.call ⟨.value (.func 25),#[.const (.int .i64 8),.tmp 85],#[3,3]⟩,none⟩,⟨some 87,.build 109 #[(0,.tmp 86)],none⟩,⟨some 88,.makeInterface 109 (.tmp 87),none⟩,⟨none,.panic (.tmp 88),none⟩]) .skip)) (.seq (.reg [⟨some 53,.fieldAddr 29 (.tmp 3) 1,none⟩,⟨some 54,.load 9 (.tmp 53),none⟩,⟨some 55,.binOp .neq 9 (.tmp 54) (.const (.string ⟨#[]⟩)) 9,none⟩]) (.cond (.tmp 55) (.reg [⟨some 56,.move (.tmp 4),none⟩,⟨some 57,.call ⟨.value (.func 25),#[.const (.int .i64 8),.tmp 56],#[3,3]⟩,none⟩,⟨some 58,.build 109 #[(0,.tmp 57)],none⟩,⟨some 59,.makeInterface 109 (.tmp 58),none⟩,⟨none,.panic (.tmp 59),none⟩]) .skip)))))))) (.seq (.seq (.reg [⟨some 89,.fieldAddr 29 (.tmp 3) 2,none⟩,⟨some 90,.load 26 (.tmp 89),none⟩,⟨some 91,.call ⟨.builtin .len,#[.tmp 90],#[26]⟩,none⟩,⟨some 92,.move (.const (.int .i64 0)),none⟩]) (.bloop 1 x41_L1)) (x41_T1)))))))
@[simp] theorem x41_s {C e s K} : type_of% (@X_at C e s K _ _ x41_L3.eq_1) ∧ type_of% (@X_at C e s K _ _ x41_T1.eq_1) ∧ type_of% (@X_at C e s K _ _ x41_L1.eq_1) ∧ type_of% (@X_at C e s K _ _ x41.eq_1):=⟨X_at x41_L3.eq_1,X_at x41_T1.eq_1,X_at x41_L1.eq_1,X_at x41.eq_1⟩
def an41 : Ann:=⟨[],[(3,[],[0,101,102,103],[]),(1,[],[0,3,90,91,92],[0,3])],[]⟩
@[simp] theorem an41_a : an41.loopOf 3 = ([],[0,101,102,103],[]) ∧ an41.loopOf 1 = ([],[0,3,90,91,92],[0,3]):=⟨rfl,rfl⟩
theorem fi41 : FI Try.prog 41 (cxA an41) x41 [] Try.f41:=fiA Try.func41 mixed
theorem expr_walker (e : Ex) : ∀ s : WS,s.1 ≤ 200 → ToldW 41 [.agg (exr e)] s (exprW e s):=by
 induction e using Ex.ind with
 | h e ih=>
  intro s hs
  have he:=exr_eq e
  rw [exprW_eq]
  refine told_w fi41 ?_
  have hnext:=next_ok s
  have hpan:=next_pan s
  have hn:=isName_formula e.nm []
  have hb:=IsBig_first e.nm
  have hsh:=shape_first e.k
  have hf4:=fault_first 4 s.1
  have hf9:=fault_first 9 s.1
  have hf8:=fault_first 8 s.1
  unfold exprH
  by_cases h200 : s.1 = 200
  ·have hpan := hpan h200
   rw [if_pos h200]
   (refine Sg.h ?_;try repeat' ((with_reducible first|refine brA ?_|refine brE fun _=>?_|refine spl ⟨?_,?_⟩<;>intro _)<;>((try simp -implicitDefEqProofs(disch:=first|assumption|(try simp only[lens]);omega -splitDisjunctions)))))
   refine cl_wkp (rest:=[_]) hpan ?_
   (refine Sg.h ?_;try repeat' ((with_reducible first|refine brA ?_|refine brE fun _=>?_|refine spl ⟨?_,?_⟩<;>intro _)<;>((try simp -implicitDefEqProofs(disch:=first|assumption|(try simp only[lens]);omega -splitDisjunctions)))))
  have hnext:=hnext (by omega)
  rw [if_neg h200]
  -- the kids
  have key3 : ∀ s1 : WS,s1.1 ≤ 200 → e.kids.length ≤ 9223372036854775807 → W (cxA an41 Try.prog 2) 3 x41_L3 (KS.fany (wW Try.prog [] 2 (exprsW e.kids s1))) [(0,.ptr 0 0 0),(101,.list (e.kids.map exr)),(102,.int .i64 (e.kids.length : Int)),(103,.int .i64 0)] (wk s1):=by
   intro s1 hs1 hL
   refine W_of fun Q hQ=>?_
   obtain ⟨R,hR⟩ : ∃ R,exprsW e.kids s1 = R:=⟨_,rfl⟩
   rw [hR] at hQ
   have main : ∀ n i s2,i + n = e.kids.length → s2.1 ≤ 200 → exprsW (e.kids.drop i) s2 = R → Q [(0,.ptr 0 0 0),(101,.list (e.kids.map exr)),(102,.int .i64 (e.kids.length : Int)),(103,.int .i64 (i : Int))] (wk s2):=by
    intro n
    induction n with
    | zero=>
     intro i s2 hi hs2 hR
     rw [List.drop_of_length_le (by omega),exprsW] at hR
     subst hR
     apply hQ
     clear hQ
     (refine Sg.h ?_;try repeat' ((with_reducible first|refine brA ?_|refine brE fun _=>?_|refine spl ⟨?_,?_⟩<;>intro _)<;>((try simp -implicitDefEqProofs(disch:=first|assumption|(try simp only[lens]);omega -splitDisjunctions)))))
    | succ n ihn=>
     intro i s2 hi hs2 hR
     have hil : i < e.kids.length:=by omega
     have hc:=ih e.kids[i] (List.getElem_mem hil) s2 hs2
     rw [List.drop_eq_getElem_cons hil,exprsW] at hR
     dsimp only at hR
     cases hw1 : exprW e.kids[i] s2 with
     | error er=>
      obtain ⟨er,s3⟩:=er
      rw [hw1] at hc hR
      subst hR
      simp only [ToldW] at hc
      clear ihn
      apply hQ
      clear hQ
      (refine Sg.h ?_;try repeat' ((with_reducible first|refine brA ?_|refine brE fun _=>?_|refine spl ⟨?_,?_⟩<;>intro _)<;>((try simp -implicitDefEqProofs(disch:=first|assumption|(try simp only[lens]);omega -splitDisjunctions) [hil]))))
      refine cl_wkp (rest:=[_]) hc ?_
      (refine Sg.h ?_;try repeat' ((with_reducible first|refine brA ?_|refine brE fun _=>?_|refine spl ⟨?_,?_⟩<;>intro _)<;>((try simp -implicitDefEqProofs(disch:=first|assumption|(try simp only[lens]);omega -splitDisjunctions)))))
     | ok s3=>
      rw [hw1] at hc hR
      have ihn:=ihn (i + 1) s3 (by omega) (exprW_n _ _ _ hw1 hs2) hR
      simp only [ToldW] at hc
      apply hQ
      clear hQ
      (refine Sg.h ?_;try repeat' ((with_reducible first|refine brA ?_|refine brE fun _=>?_|refine spl ⟨?_,?_⟩<;>intro _)<;>((try simp -implicitDefEqProofs(disch:=first|assumption|(try simp only[lens]);omega -splitDisjunctions) [hil]))))
      refine cl_wk (rest:=[_]) hc ?_
      (refine Sg.h ?_;try repeat' ((with_reducible first|refine brA ?_|refine brE fun _=>?_|refine spl ⟨?_,?_⟩<;>intro _)<;>((try simp -implicitDefEqProofs(disch:=first|assumption|(try simp only[lens]);omega -splitDisjunctions)))))
      all_goals first|exact ihn|(refine at2 ihn ?_ ?_<;>simp;done)|(exfalso;first|omega|(simp_all;done)|(simp_all;omega))
   exact main _ 0 s1 (Nat.zero_add _) hs1 hR
  -- the words
  have key1 : ∀ s1 : WS,s1.1 ≤ 200 → e.words.length ≤ 9223372036854775807 → W (cxA an41 Try.prog 2) 1 x41_L1 (KS.seq x41_T1 (KS.fany (wW Try.prog [] 2 (match wordsW e.words s1 with
   | .ok s2=>exprsW e.kids s2
   | .error e=>.error e)))) [(0,.ptr 0 0 0),(3,.ptr 2 0 0),(90,.list (e.words.map wrd)),(91,.int .i64 (e.words.length : Int)),(92,.int .i64 0)] (wk s1 ++ [.rows 4 [exr e]]):=by
   intro s1 hs1 hL
   refine W_of fun Q hQ=>?_
   obtain ⟨R,hR⟩ : ∃ R,wordsW e.words s1 = R:=⟨_,rfl⟩
   rw [hR] at hQ
   have main : ∀ n i s2,i + n = e.words.length → s2.1 ≤ 200 → wordsW (e.words.drop i) s2 = R → Q [(0,.ptr 0 0 0),(3,.ptr 2 0 0),(90,.list (e.words.map wrd)),(91,.int .i64 (e.words.length : Int)),(92,.int .i64 (i : Int))] (wk s2 ++ [.rows 4 [exr e]]):=by
    intro n
    induction n with
    | zero=>
     intro i s2 hi hs2 hR
     rw [List.drop_of_length_le (by omega),wordsW] at hR
     subst hR
     have key3:=key3 s2 hs2
     apply hQ
     clear hQ
     (refine Sg.h ?_;try repeat' ((with_reducible first|refine brA ?_|refine brE fun _=>?_|refine spl ⟨?_,?_⟩<;>intro _)<;>((try simp -implicitDefEqProofs(disch:=first|assumption|(try simp only[lens]);omega -splitDisjunctions) [he]))))
     all_goals first|exact key3 (by omega)|(refine at2 key3 (by omega) ?_ ?_<;>simp;done)|(exfalso;first|omega|(simp_all;done)|(simp_all;omega))
    | succ n ihn=>
     intro i s2 hi hs2 hR
     clear key3
     have hil : i < e.words.length:=by omega
     have hc:=word_walker e.words[i] s2 hs2
     rw [List.drop_eq_getElem_cons hil,wordsW] at hR
     dsimp only at hR
     cases hw1 : wordW e.words[i] s2 with
     | error er=>
      obtain ⟨er,s3⟩:=er
      rw [hw1] at hc hR
      subst hR
      simp only [ToldW] at hc
      clear ihn
      apply hQ
      clear hQ
      (refine Sg.h ?_;try repeat' ((with_reducible first|refine brA ?_|refine brE fun _=>?_|refine spl ⟨?_,?_⟩<;>intro _)<;>((try simp -implicitDefEqProofs(disch:=first|assumption|(try simp only[lens]);omega -splitDisjunctions) [hil]))))
      refine cl_wkp (rest:=[_,_]) hc ?_
      (refine Sg.h ?_;try repeat' ((with_reducible first|refine brA ?_|refine brE fun _=>?_|refine spl ⟨?_,?_⟩<;>intro _)<;>((try simp -implicitDefEqProofs(disch:=first|assumption|(try simp only[lens]);omega -splitDisjunctions)))))
     | ok s3=>
      rw [hw1] at hc hR
      have ihn:=ihn (i + 1) s3 (by omega) (wordW_n _ _ _ hw1 hs2) hR
      simp only [ToldW] at hc
      apply hQ
      clear hQ
      (refine Sg.h ?_;try repeat' ((with_reducible first|refine brA ?_|refine brE fun _=>?_|refine spl ⟨?_,?_⟩<;>intro _)<;>((try simp -implicitDefEqProofs(disch:=first|assumption|(try simp only[lens]);omega -splitDisjunctions) [hil]))))
      refine cl_wk (rest:=[_,_]) hc ?_
      (refine Sg.h ?_;try repeat' ((with_reducible first|refine brA ?_|refine brE fun _=>?_|refine spl ⟨?_,?_⟩<;>intro _)<;>((try simp -implicitDefEqProofs(disch:=first|assumption|(try simp only[lens]);omega -splitDisjunctions)))))
      all_goals first|exact ihn|(refine at2 ihn ?_ ?_<;>simp;done)|(exfalso;first|omega|(simp_all;done)|(simp_all;omega))
   exact main _ 0 s1 (Nat.zero_add _) hs1 hR
  clear key3 ih
  have hm:=fun h=>many_first s.1 ⟨#[112]⟩ e.nm e.words.length (s.1 + 1,s.2) h
  have hs1 : (s.1 + 1,s.2).1 ≤ 200:=by simp;omega
  generalize (s.1 + 1,s.2) = s1 at *
  generalize hK : e.k = K at *
  by_cases hk : K < 1 ∨ 10 < K
  ·rw [if_pos hk]
   clear key1 hm
   rcases hk with hk | hk
   ·(refine Sg.h ?_;try repeat' ((with_reducible first|refine brA ?_|refine brE fun _=>?_|refine spl ⟨?_,?_⟩<;>intro _)<;>((try simp -implicitDefEqProofs(disch:=first|assumption|(try simp only[lens]);omega -splitDisjunctions)))))
    refine cl_wk (rest:=[_]) hnext ?_
    (refine Sg.h ?_;try repeat' ((first|(with_reducible first|refine brA ?_|refine brE fun _=>?_|refine spl ⟨?_,?_⟩<;>intro _)|refine clo hf4 ?_)<;>((try simp -implicitDefEqProofs(disch:=first|assumption|(try simp only[lens]);omega -splitDisjunctions) [he,hK,hk,pan_fst]))))
   ·have hk' : ¬ K < 1 := by omega
    (refine Sg.h ?_;try repeat' ((with_reducible first|refine brA ?_|refine brE fun _=>?_|refine spl ⟨?_,?_⟩<;>intro _)<;>((try simp -implicitDefEqProofs(disch:=first|assumption|(try simp only[lens]);omega -splitDisjunctions)))))
    refine cl_wk (rest:=[_]) hnext ?_
    (refine Sg.h ?_;try repeat' ((first|(with_reducible first|refine brA ?_|refine brE fun _=>?_|refine spl ⟨?_,?_⟩<;>intro _)|refine clo hf4 ?_)<;>((try simp -implicitDefEqProofs(disch:=first|assumption|(try simp only[lens]);omega -splitDisjunctions) [he,hK,hk,hk',pan_fst]))))
  rw [if_neg hk]
  have hk1 : ¬ K < 1:=by omega
  have hk2 : ¬ 10 < K:=by omega
  by_cases hsz : (0 ≤ wordsN K ∧ (e.words.length : Int) ≠ wordsN K) ∨ (e.kids.length : Int) ≠ kidsX K
  ·rw [if_pos hsz]
   clear key1 hm
   by_cases h0 : 0 ≤ wordsN K
   ·by_cases hw : (e.words.length : Int) = wordsN K
    ·have hkc : ¬ (e.kids.length : Int) = kidsX K := by
      rcases hsz with h | h
      ·exact absurd hw h.2
      ·exact h
     generalize wordsN K = WN at *
     generalize kidsX K = KN at *
     (refine Sg.h ?_;try repeat' ((with_reducible first|refine brA ?_|refine brE fun _=>?_|refine spl ⟨?_,?_⟩<;>intro _)<;>((try simp -implicitDefEqProofs(disch:=first|assumption|(try simp only[lens]);omega -splitDisjunctions)))))
     refine cl_wk (rest:=[_]) hnext ?_
     (refine Sg.h ?_;try repeat' ((first|(with_reducible first|refine brA ?_|refine brE fun _=>?_|refine spl ⟨?_,?_⟩<;>intro _)|refine clo hsh ?_|refine clo hf9 ?_)<;>((try simp -implicitDefEqProofs(disch:=first|assumption|(try simp only[lens]);omega -splitDisjunctions) [he,hK,hk1,hk2,h0,hw,hkc,pan_fst]))))
    ·generalize wordsN K = WN at *
     generalize kidsX K = KN at *
     (refine Sg.h ?_;try repeat' ((with_reducible first|refine brA ?_|refine brE fun _=>?_|refine spl ⟨?_,?_⟩<;>intro _)<;>((try simp -implicitDefEqProofs(disch:=first|assumption|(try simp only[lens]);omega -splitDisjunctions)))))
     refine cl_wk (rest:=[_]) hnext ?_
     (refine Sg.h ?_;try repeat' ((first|(with_reducible first|refine brA ?_|refine brE fun _=>?_|refine spl ⟨?_,?_⟩<;>intro _)|refine clo hsh ?_|refine clo hf9 ?_)<;>((try simp -implicitDefEqProofs(disch:=first|assumption|(try simp only[lens]);omega -splitDisjunctions) [he,hK,hk1,hk2,h0,hw,pan_fst]))))
   ·have hkc : ¬ (e.kids.length : Int) = kidsX K := by
     rcases hsz with h | h
     ·exact absurd h.1 h0
     ·exact h
    generalize wordsN K = WN at *
    generalize kidsX K = KN at *
    (refine Sg.h ?_;try repeat' ((with_reducible first|refine brA ?_|refine brE fun _=>?_|refine spl ⟨?_,?_⟩<;>intro _)<;>((try simp -implicitDefEqProofs(disch:=first|assumption|(try simp only[lens]);omega -splitDisjunctions)))))
    refine cl_wk (rest:=[_]) hnext ?_
    (refine Sg.h ?_;try repeat' ((first|(with_reducible first|refine brA ?_|refine brE fun _=>?_|refine spl ⟨?_,?_⟩<;>intro _)|refine clo hsh ?_|refine clo hf9 ?_)<;>((try simp -implicitDefEqProofs(disch:=first|assumption|(try simp only[lens]);omega -splitDisjunctions) [he,hK,hk1,hk2,h0,hkc,pan_fst]))))
  rw [if_neg hsz]
  have hkc : (e.kids.length : Int) = kidsX K:=by
   by_cases h : (e.kids.length : Int) = kidsX K
   ·exact h
   ·exact absurd (.inr h) hsz
  have hwc : wordsN K < 0 ∨ 0 ≤ wordsN K ∧ (e.words.length : Int) = wordsN K:=by
   by_cases h : 0 ≤ wordsN K
   ·by_cases h2 : (e.words.length : Int) = wordsN K
    ·exact .inr ⟨h,h2⟩
    ·exact absurd (.inl ⟨h,h2⟩) hsz
   ·exact .inl (by omega)
  clear hsz hf4 hf9
  generalize wordsN K = WN at *
  generalize kidsX K = KN at *
  subst hkc
  by_cases hK1 : K = 1
  ·rw [if_pos hK1]
   clear hn
   subst hK1
   cases hbg : isBigB e.nm with
   | false=>
    rw [hbg] at hb
    rw [if_neg (by decide)]
    rcases hwc with hw | ⟨hw,rfl⟩
    ·have hw' : ¬ 0 ≤ WN := by omega
     (refine Sg.h ?_;try repeat' ((with_reducible first|refine brA ?_|refine brE fun _=>?_|refine spl ⟨?_,?_⟩<;>intro _)<;>((try simp -implicitDefEqProofs(disch:=first|assumption|(try simp only[lens]);omega -splitDisjunctions)))))
     refine cl_wk (rest:=[_]) hnext ?_
     (refine Sg.h ?_;try repeat' ((first|(with_reducible first|refine brA ?_|refine brE fun _=>?_|refine spl ⟨?_,?_⟩<;>intro _)|refine clo hsh ?_|refine clo hb ?_|refine clo hf8 ?_)<;>((try simp -implicitDefEqProofs(disch:=first|assumption|(try simp only[lens]);omega -splitDisjunctions) [he,hK,hk1,hk2,hw',pan_fst]))))
    ·(refine Sg.h ?_;try repeat' ((with_reducible first|refine brA ?_|refine brE fun _=>?_|refine spl ⟨?_,?_⟩<;>intro _)<;>((try simp -implicitDefEqProofs(disch:=first|assumption|(try simp only[lens]);omega -splitDisjunctions)))))
     refine cl_wk (rest:=[_]) hnext ?_
     (refine Sg.h ?_;try repeat' ((first|(with_reducible first|refine brA ?_|refine brE fun _=>?_|refine spl ⟨?_,?_⟩<;>intro _)|refine clo hsh ?_|refine clo hb ?_|refine clo hf8 ?_)<;>((try simp -implicitDefEqProofs(disch:=first|assumption|(try simp only[lens]);omega -splitDisjunctions) [he,hK,hk1,hk2,hw,pan_fst]))))
   | true=>
    rw [hbg] at hb
    rw [if_pos rfl]
    have hszn : e.nm.size ≤ 8:=by
     unfold isBigB at hbg
     simp only [Bool.and_eq_true,decide_eq_true_eq] at hbg
     omega
    have hm:=hm (by rw [show (⟨#[112]⟩ : ByteArray).size = 1 from rfl];omega)
    cases hmw : manyW s.1 (⟨#[112]⟩ ++ e.nm) e.words.length s1 with
    | error er=>
     obtain ⟨er,s3⟩:=er
     rw [hmw] at hm
     simp only [ToldW] at hm
     clear key1
     rcases hwc with hw | ⟨hw,rfl⟩
     ·have hw' : ¬ 0 ≤ WN := by omega
      (refine Sg.h ?_;try repeat' ((with_reducible first|refine brA ?_|refine brE fun _=>?_|refine spl ⟨?_,?_⟩<;>intro _)<;>((try simp -implicitDefEqProofs(disch:=first|assumption|(try simp only[lens]);omega -splitDisjunctions)))))
      refine cl_wk (rest:=[_]) hnext ?_
      (refine Sg.h ?_;try repeat' ((first|(with_reducible first|refine brA ?_|refine brE fun _=>?_|refine spl ⟨?_,?_⟩<;>intro _)|refine clo hsh ?_|refine clo hb ?_)<;>((try simp -implicitDefEqProofs(disch:=first|assumption|(try simp only[lens]);omega -splitDisjunctions) [he,hK,hk1,hk2,hw']))))
      refine cl_wkp (rest:=[_]) hm ?_
      (refine Sg.h ?_;try repeat' ((with_reducible first|refine brA ?_|refine brE fun _=>?_|refine spl ⟨?_,?_⟩<;>intro _)<;>((try simp -implicitDefEqProofs(disch:=first|assumption|(try simp only[lens]);omega -splitDisjunctions)))))
     ·(refine Sg.h ?_;try repeat' ((with_reducible first|refine brA ?_|refine brE fun _=>?_|refine spl ⟨?_,?_⟩<;>intro _)<;>((try simp -implicitDefEqProofs(disch:=first|assumption|(try simp only[lens]);omega -splitDisjunctions)))))
      refine cl_wk (rest:=[_]) hnext ?_
      (refine Sg.h ?_;try repeat' ((first|(with_reducible first|refine brA ?_|refine brE fun _=>?_|refine spl ⟨?_,?_⟩<;>intro _)|refine clo hsh ?_|refine clo hb ?_)<;>((try simp -implicitDefEqProofs(disch:=first|assumption|(try simp only[lens]);omega -splitDisjunctions) [he,hK,hk1,hk2,hw]))))
      refine cl_wkp (rest:=[_]) hm ?_
      (refine Sg.h ?_;try repeat' ((with_reducible first|refine brA ?_|refine brE fun _=>?_|refine spl ⟨?_,?_⟩<;>intro _)<;>((try simp -implicitDefEqProofs(disch:=first|assumption|(try simp only[lens]);omega -splitDisjunctions)))))
    | ok s3=>
     have hs3:=manyW_n hmw
     rw [hmw] at hm
     simp only [ToldW] at hm
     have key:=key1 s3 (by rw [hs3];exact hs1)
     rw [he] at key
     rcases hwc with hw | ⟨hw,rfl⟩
     ·have hw' : ¬ 0 ≤ WN := by omega
      (refine Sg.h ?_;try repeat' ((with_reducible first|refine brA ?_|refine brE fun _=>?_|refine spl ⟨?_,?_⟩<;>intro _)<;>((try simp -implicitDefEqProofs(disch:=first|assumption|(try simp only[lens]);omega -splitDisjunctions)))))
      refine cl_wk (rest:=[_]) hnext ?_
      (refine Sg.h ?_;try repeat' ((first|(with_reducible first|refine brA ?_|refine brE fun _=>?_|refine spl ⟨?_,?_⟩<;>intro _)|refine clo hsh ?_|refine clo hb ?_)<;>((try simp -implicitDefEqProofs(disch:=first|assumption|(try simp only[lens]);omega -splitDisjunctions) [he,hK,hk1,hk2,hw']))))
      refine cl_wk (rest:=[_]) hm ?_
      (refine Sg.h ?_;try repeat' ((with_reducible first|refine brA ?_|refine brE fun _=>?_|refine spl ⟨?_,?_⟩<;>intro _)<;>((try simp -implicitDefEqProofs(disch:=first|assumption|(try simp only[lens]);omega -splitDisjunctions) [he]))))
      all_goals first|exact key (by omega)|(refine at2 key (by omega) ?_ ?_<;>simp;done)|(exfalso;first|omega|(simp_all;done)|(simp_all;omega))
     ·(refine Sg.h ?_;try repeat' ((with_reducible first|refine brA ?_|refine brE fun _=>?_|refine spl ⟨?_,?_⟩<;>intro _)<;>((try simp -implicitDefEqProofs(disch:=first|assumption|(try simp only[lens]);omega -splitDisjunctions)))))
      refine cl_wk (rest:=[_]) hnext ?_
      (refine Sg.h ?_;try repeat' ((first|(with_reducible first|refine brA ?_|refine brE fun _=>?_|refine spl ⟨?_,?_⟩<;>intro _)|refine clo hsh ?_|refine clo hb ?_)<;>((try simp -implicitDefEqProofs(disch:=first|assumption|(try simp only[lens]);omega -splitDisjunctions) [he,hK,hk1,hk2,hw]))))
      refine cl_wk (rest:=[_]) hm ?_
      (refine Sg.h ?_;try repeat' ((with_reducible first|refine brA ?_|refine brE fun _=>?_|refine spl ⟨?_,?_⟩<;>intro _)<;>((try simp -implicitDefEqProofs(disch:=first|assumption|(try simp only[lens]);omega -splitDisjunctions) [he]))))
      all_goals first|exact key (by omega)|(refine at2 key (by omega) ?_ ?_<;>simp;done)|(exfalso;first|omega|(simp_all;done)|(simp_all;omega))
  rw [if_neg hK1]
  clear hm hb
  by_cases hK9 : K = 9 ∨ K = 10
  ·rw [if_pos hK9]
   cases hin : isNameB e.nm with
   | false=>
    rw [hin] at hn
    rw [if_neg (by decide)]
    clear key1
    rcases hwc with hw | ⟨hw,rfl⟩
    ·have hw' : ¬ 0 ≤ WN := by omega
     (refine Sg.h ?_;try repeat' ((with_reducible first|refine brA ?_|refine brE fun _=>?_|refine spl ⟨?_,?_⟩<;>intro _)<;>((try simp -implicitDefEqProofs(disch:=first|assumption|(try simp only[lens]);omega -splitDisjunctions)))))
     refine cl_wk (rest:=[_]) hnext ?_
     rcases hK9 with rfl | rfl
     ·(refine Sg.h ?_;try repeat' ((first|(with_reducible first|refine brA ?_|refine brE fun _=>?_|refine spl ⟨?_,?_⟩<;>intro _)|refine clo hsh ?_|refine clo hn ?_|refine clo hf8 ?_)<;>((try simp -implicitDefEqProofs(disch:=first|assumption|(try simp only[lens]);omega -splitDisjunctions) [he,hK,hk1,hk2,hw',hK1,pan_fst]))))
     ·(refine Sg.h ?_;try repeat' ((first|(with_reducible first|refine brA ?_|refine brE fun _=>?_|refine spl ⟨?_,?_⟩<;>intro _)|refine clo hsh ?_|refine clo hn ?_|refine clo hf8 ?_)<;>((try simp -implicitDefEqProofs(disch:=first|assumption|(try simp only[lens]);omega -splitDisjunctions) [he,hK,hk1,hk2,hw',hK1,pan_fst]))))
    ·(refine Sg.h ?_;try repeat' ((with_reducible first|refine brA ?_|refine brE fun _=>?_|refine spl ⟨?_,?_⟩<;>intro _)<;>((try simp -implicitDefEqProofs(disch:=first|assumption|(try simp only[lens]);omega -splitDisjunctions)))))
     refine cl_wk (rest:=[_]) hnext ?_
     rcases hK9 with rfl | rfl
     ·(refine Sg.h ?_;try repeat' ((first|(with_reducible first|refine brA ?_|refine brE fun _=>?_|refine spl ⟨?_,?_⟩<;>intro _)|refine clo hsh ?_|refine clo hn ?_|refine clo hf8 ?_)<;>((try simp -implicitDefEqProofs(disch:=first|assumption|(try simp only[lens]);omega -splitDisjunctions) [he,hK,hk1,hk2,hw,hK1,pan_fst]))))
     ·(refine Sg.h ?_;try repeat' ((first|(with_reducible first|refine brA ?_|refine brE fun _=>?_|refine spl ⟨?_,?_⟩<;>intro _)|refine clo hsh ?_|refine clo hn ?_|refine clo hf8 ?_)<;>((try simp -implicitDefEqProofs(disch:=first|assumption|(try simp only[lens]);omega -splitDisjunctions) [he,hK,hk1,hk2,hw,hK1,pan_fst]))))
   | true=>
    rw [hin] at hn
    rw [if_pos rfl]
    have key:=key1 s1 hs1
    rw [he] at key
    rcases hwc with hw | ⟨hw,rfl⟩
    ·have hw' : ¬ 0 ≤ WN := by omega
     (refine Sg.h ?_;try repeat' ((with_reducible first|refine brA ?_|refine brE fun _=>?_|refine spl ⟨?_,?_⟩<;>intro _)<;>((try simp -implicitDefEqProofs(disch:=first|assumption|(try simp only[lens]);omega -splitDisjunctions)))))
     refine cl_wk (rest:=[_]) hnext ?_
     rcases hK9 with rfl | rfl
     ·(refine Sg.h ?_;try repeat' ((first|(with_reducible first|refine brA ?_|refine brE fun _=>?_|refine spl ⟨?_,?_⟩<;>intro _)|refine clo hsh ?_|refine clo hn ?_)<;>((try simp -implicitDefEqProofs(disch:=first|assumption|(try simp only[lens]);omega -splitDisjunctions) [he,hK,hk1,hk2,hw',hK1]))))
      all_goals first|exact key (by omega)|(refine at2 key (by omega) ?_ ?_<;>simp;done)|(exfalso;first|omega|(simp_all;done)|(simp_all;omega))
     ·(refine Sg.h ?_;try repeat' ((first|(with_reducible first|refine brA ?_|refine brE fun _=>?_|refine spl ⟨?_,?_⟩<;>intro _)|refine clo hsh ?_|refine clo hn ?_)<;>((try simp -implicitDefEqProofs(disch:=first|assumption|(try simp only[lens]);omega -splitDisjunctions) [he,hK,hk1,hk2,hw',hK1]))))
      all_goals first|exact key (by omega)|(refine at2 key (by omega) ?_ ?_<;>simp;done)|(exfalso;first|omega|(simp_all;done)|(simp_all;omega))
    ·(refine Sg.h ?_;try repeat' ((with_reducible first|refine brA ?_|refine brE fun _=>?_|refine spl ⟨?_,?_⟩<;>intro _)<;>((try simp -implicitDefEqProofs(disch:=first|assumption|(try simp only[lens]);omega -splitDisjunctions)))))
     refine cl_wk (rest:=[_]) hnext ?_
     rcases hK9 with rfl | rfl
     ·(refine Sg.h ?_;try repeat' ((first|(with_reducible first|refine brA ?_|refine brE fun _=>?_|refine spl ⟨?_,?_⟩<;>intro _)|refine clo hsh ?_|refine clo hn ?_)<;>((try simp -implicitDefEqProofs(disch:=first|assumption|(try simp only[lens]);omega -splitDisjunctions) [he,hK,hk1,hk2,hw,hK1]))))
      all_goals first|exact key (by omega)|(refine at2 key (by omega) ?_ ?_<;>simp;done)|(exfalso;first|omega|(simp_all;done)|(simp_all;omega))
     ·(refine Sg.h ?_;try repeat' ((first|(with_reducible first|refine brA ?_|refine brE fun _=>?_|refine spl ⟨?_,?_⟩<;>intro _)|refine clo hsh ?_|refine clo hn ?_)<;>((try simp -implicitDefEqProofs(disch:=first|assumption|(try simp only[lens]);omega -splitDisjunctions) [he,hK,hk1,hk2,hw,hK1]))))
      all_goals first|exact key (by omega)|(refine at2 key (by omega) ?_ ?_<;>simp;done)|(exfalso;first|omega|(simp_all;done)|(simp_all;omega))
  rw [if_neg hK9]
  clear hn
  have hK9' : ¬ K = 9:=fun h=>hK9 (.inl h)
  have hK10 : ¬ K = 10:=fun h=>hK9 (.inr h)
  by_cases hnm : e.nm = ⟨#[]⟩
  ·rw [if_pos hnm]
   have key:=key1 s1 hs1
   rw [he,hnm] at key
   rcases hwc with hw | ⟨hw,rfl⟩
   ·have hw' : ¬ 0 ≤ WN := by omega
    (refine Sg.h ?_;try repeat' ((with_reducible first|refine brA ?_|refine brE fun _=>?_|refine spl ⟨?_,?_⟩<;>intro _)<;>((try simp -implicitDefEqProofs(disch:=first|assumption|(try simp only[lens]);omega -splitDisjunctions)))))
    refine cl_wk (rest:=[_]) hnext ?_
    (refine Sg.h ?_;try repeat' ((first|(with_reducible first|refine brA ?_|refine brE fun _=>?_|refine spl ⟨?_,?_⟩<;>intro _)|refine clo hsh ?_)<;>((try simp -implicitDefEqProofs(disch:=first|assumption|(try simp only[lens]);omega -splitDisjunctions) [he,hK,hk1,hk2,hw',hK1,hK9',hK10,hnm]))))
    all_goals first|exact key (by omega)|(refine at2 key (by omega) ?_ ?_<;>simp;done)|(exfalso;first|omega|(simp_all;done)|(simp_all;omega))
   ·(refine Sg.h ?_;try repeat' ((with_reducible first|refine brA ?_|refine brE fun _=>?_|refine spl ⟨?_,?_⟩<;>intro _)<;>((try simp -implicitDefEqProofs(disch:=first|assumption|(try simp only[lens]);omega -splitDisjunctions)))))
    refine cl_wk (rest:=[_]) hnext ?_
    (refine Sg.h ?_;try repeat' ((first|(with_reducible first|refine brA ?_|refine brE fun _=>?_|refine spl ⟨?_,?_⟩<;>intro _)|refine clo hsh ?_)<;>((try simp -implicitDefEqProofs(disch:=first|assumption|(try simp only[lens]);omega -splitDisjunctions) [he,hK,hk1,hk2,hw,hK1,hK9',hK10,hnm]))))
    all_goals first|exact key (by omega)|(refine at2 key (by omega) ?_ ?_<;>simp;done)|(exfalso;first|omega|(simp_all;done)|(simp_all;omega))
  ·rw [if_neg hnm]
   clear key1
   rcases hwc with hw | ⟨hw,rfl⟩
   ·have hw' : ¬ 0 ≤ WN := by omega
    (refine Sg.h ?_;try repeat' ((with_reducible first|refine brA ?_|refine brE fun _=>?_|refine spl ⟨?_,?_⟩<;>intro _)<;>((try simp -implicitDefEqProofs(disch:=first|assumption|(try simp only[lens]);omega -splitDisjunctions)))))
    refine cl_wk (rest:=[_]) hnext ?_
    (refine Sg.h ?_;try repeat' ((first|(with_reducible first|refine brA ?_|refine brE fun _=>?_|refine spl ⟨?_,?_⟩<;>intro _)|refine clo hsh ?_|refine clo hf8 ?_)<;>((try simp -implicitDefEqProofs(disch:=first|assumption|(try simp only[lens]);omega -splitDisjunctions) [he,hK,hk1,hk2,hw',hK1,hK9',hK10,hnm,pan_fst]))))
   ·(refine Sg.h ?_;try repeat' ((with_reducible first|refine brA ?_|refine brE fun _=>?_|refine spl ⟨?_,?_⟩<;>intro _)<;>((try simp -implicitDefEqProofs(disch:=first|assumption|(try simp only[lens]);omega -splitDisjunctions)))))
    refine cl_wk (rest:=[_]) hnext ?_
    (refine Sg.h ?_;try repeat' ((first|(with_reducible first|refine brA ?_|refine brE fun _=>?_|refine spl ⟨?_,?_⟩<;>intro _)|refine clo hsh ?_|refine clo hf8 ?_)<;>((try simp -implicitDefEqProofs(disch:=first|assumption|(try simp only[lens]);omega -splitDisjunctions) [he,hK,hk1,hk2,hw,hK1,hK9',hK10,hnm,pan_fst]))))
end Go.Proofs.Ytbimioonhfhflaa
