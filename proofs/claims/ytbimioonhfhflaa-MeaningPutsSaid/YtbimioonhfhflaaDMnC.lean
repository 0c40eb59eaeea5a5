import Derived.Test.YtbimioonhfhflaaDMnB
set_option linter.unusedVariables false
set_option linter.unusedSimpArgs false
set_option maxRecDepth 100000
set_option maxHeartbeats 4000000
namespace Go.Proofs.Ytbimioonhfhflaa
open Go Go.Pv
theorem take_snocM {α : Type} {l : List α} {i : Nat} (h : i < l.length) : l.take (i + 1) = l.take i ++ [l[i]]:=by
 rw [List.take_add_one,List.getElem?_eq_getElem h];rfl
def thenF (N : Int) (P : List Pd) (k : Nat) (r : Int × Int) : Int × Int:=if r.1 ≠ 0 then r else predsF N [] P k
def x29_T4 : XC:=.seq (.reg [⟨some 142,.build 39 #[],none⟩,⟨none,.store 39 (.tmp 2) (.tmp 142),none⟩]) .ret
def x29_L4 : XC:=.seq (.reg [⟨some 97,.binOp .lss 3 (.tmp 96) (.tmp 95) 3,none⟩]) (.seq (.cond (.tmp 97) .skip (.exit 4)) (.seq (.block 5 (.seq (.reg [⟨some 98,.move (.tmp 96),none⟩,⟨some 99,.indexAddr 23 (.tmp 94) (.tmp 96),none⟩,⟨some 100,.load 61 (.tmp 99),none⟩,⟨some 8,.alloc 61,none⟩,⟨some 7,.assign (.tmp 98),none⟩,⟨none,.store 61 (.tmp 8) (.tmp 100),none⟩]) (.seq (.reg [⟨some 101,.fieldAddr 25 (.tmp 1) 1,none⟩,⟨some 102,.load 22 (.tmp 101),none⟩,⟨some 103,.call ⟨.builtin .len,#[.tmp 102],#[22]⟩,none⟩,⟨some 104,.move (.tmp 7),none⟩,⟨some 105,.binOp .add 3 (.tmp 103) (.tmp 104) 3,none⟩,⟨some 9,.assign (.tmp 105),none⟩]) (.seq (.seq (.reg [⟨some 106,.fieldAddr 61 (.tmp 8) 0,none⟩,⟨some 107,.load 9 (.tmp 106),none⟩,⟨some 108,.call ⟨.value (.func 47),#[.tmp 107],#[9]⟩,none⟩,⟨some 109,.unOp .not 4 (.tmp 108),none⟩,⟨some 110,.move (.tmp 109),none⟩,⟨some 111,.fieldAddr 25 (.tmp 1) 2,some (some 110,false)⟩,⟨some 112,.load 23 (.tmp 111),some (some 110,false)⟩,⟨some 113,.move (.tmp 7),some (some 110,false)⟩,⟨some 114,.slice 23 (.tmp 112) none (some (.tmp 113)) none,some (some 110,false)⟩,⟨some 115,.makeFunc (.func 51) #[] #[.tmp 8],some (some 110,false)⟩,⟨some 116,.call ⟨.value (.func 50),#[.tmp 114,.tmp 115],#[23,91]⟩,some (some 110,false)⟩,⟨some 117,.pick (.tmp 110) (.const (.bool true)) (.tmp 116),none⟩]) (.cond (.tmp 117) (.seq (.reg [⟨some 118,.move (.tmp 9),none⟩,⟨some 119,.call ⟨.value (.func 30),#[.const (.int .i64 8),.tmp 118],#[3,3]⟩,none⟩,⟨none,.store 39 (.tmp 2) (.tmp 119),none⟩]) .ret) .skip)) (.seq (.seq (.reg [⟨some 120,.fieldAddr 61 (.tmp 8) 1,none⟩,⟨some 121,.load 3 (.tmp 120),none⟩,⟨some 122,.binOp .lss 3 (.tmp 121) (.const (.int .i64 0)) 3,none⟩,⟨some 123,.move (.tmp 122),none⟩,⟨some 124,.fieldAddr 61 (.tmp 8) 1,some (some 123,false)⟩,⟨some 125,.load 3 (.tmp 124),some (some 123,false)⟩,⟨some 126,.binOp .gtr 3 (.tmp 125) (.const (.int .i64 3)) 3,some (some 123,false)⟩,⟨some 127,.pick (.tmp 123) (.const (.bool true)) (.tmp 126),none⟩]) (.cond (.tmp 127) (.seq (.reg [⟨some 128,.move (.tmp 9),none⟩,⟨some 129,.call ⟨.value (.func 30),#[.const (.int .i64 3),.tmp 128],#[3,3]⟩,none⟩,⟨none,.store 39 (.tmp 2) (.tmp 129),none⟩]) .ret) .skip)) (.seq (.drawn 27 [⟨some 130,.fieldAddr 61 (.tmp 8) 2,none⟩,⟨some 131,.load 59 (.tmp 130),none⟩,⟨some 132,.call ⟨.builtin .len,#[.tmp 131],#[59]⟩,none⟩,⟨some 133,.fieldAddr 25 (.tmp 1) 0,none⟩,⟨some 134,.load 3 (.tmp 133),none⟩,⟨some 135,.fieldAddr 61 (.tmp 8) 1,none⟩,⟨some 136,.load 3 (.tmp 135),none⟩,⟨some 137,.call ⟨.value (.func 33),#[.tmp 134,.tmp 136],#[3,3]⟩,none⟩,⟨some 138,.binOp .neq 3 (.tmp 132) (.tmp 137) 3,none⟩]) (.cond (.tmp 138) (.seq (.reg [⟨some 139,.move (.tmp 9),none⟩,⟨some 140,.call ⟨.value (.func 30),#[.const (.int .i64 9),.tmp 139],#[3,3]⟩,none⟩,⟨none,.store 39 (.tmp 2) (.tmp 140),none⟩]) .ret) .skip))))))) (.reg [⟨some 141,.binOp .add 3 (.tmp 96) (.const (.int .i64 1)) 3,none⟩,⟨some 96,.move (.tmp 141),none⟩])))
def x29_T2 : XC:=.seq (.seq (.reg [⟨some 93,.fieldAddr 25 (.tmp 1) 2,none⟩,⟨some 94,.load 23 (.tmp 93),none⟩,⟨some 95,.call ⟨.builtin .len,#[.tmp 94],#[23]⟩,none⟩,⟨some 96,.move (.const (.int .i64 0)),none⟩]) (.bloop 4 x29_L4)) (x29_T4)
def x29_L2 : XC:=.seq (.reg [⟨some 78,.binOp .lss 3 (.tmp 77) (.tmp 76) 3,none⟩]) (.seq (.cond (.tmp 78) .skip (.exit 2)) (.seq (.block 3 (.seq (.reg [⟨some 79,.indexAddr 33 (.tmp 75) (.tmp 77),none⟩,⟨some 80,.load 3 (.tmp 79),none⟩,⟨some 6,.assign (.tmp 80),none⟩]) (.seq (.reg [⟨some 81,.move (.tmp 6),none⟩,⟨some 82,.binOp .lss 3 (.tmp 81) (.const (.int .i64 0)) 3,none⟩,⟨some 83,.move (.tmp 82),none⟩,⟨some 84,.move (.tmp 6),some (some 83,false)⟩,⟨some 85,.fieldAddr 25 (.tmp 1) 0,some (some 83,false)⟩,⟨some 86,.load 3 (.tmp 85),some (some 83,false)⟩,⟨some 87,.binOp .geq 3 (.tmp 84) (.tmp 86) 3,some (some 83,false)⟩,⟨some 88,.pick (.tmp 83) (.const (.bool true)) (.tmp 87),none⟩]) (.cond (.tmp 88) (.seq (.reg [⟨some 89,.move (.tmp 3),none⟩,⟨some 90,.call ⟨.value (.func 30),#[.const (.int .i64 5),.tmp 89],#[3,3]⟩,none⟩,⟨none,.store 39 (.tmp 2) (.tmp 90),none⟩]) .ret) .skip)))) (.reg [⟨some 91,.binOp .add 3 (.tmp 77) (.const (.int .i64 1)) 3,none⟩,⟨some 77,.move (.tmp 91),none⟩])))
def x29_L0 : XC:=.seq (.reg [⟨some 35,.binOp .lss 3 (.tmp 34) (.tmp 33) 3,none⟩]) (.seq (.cond (.tmp 35) .skip (.exit 0)) (.seq (.block 1 (.seq (.reg [⟨some 36,.move (.tmp 34),none⟩,⟨some 37,.indexAddr 22 (.tmp 32) (.tmp 34),none⟩,⟨some 38,.load 57 (.tmp 37),none⟩,⟨some 4,.alloc 57,none⟩,⟨some 3,.assign (.tmp 36),none⟩,⟨none,.store 57 (.tmp 4) (.tmp 38),none⟩]) (.seq (.seq (.reg [⟨some 39,.fieldAddr 57 (.tmp 4) 0,none⟩,⟨some 40,.load 9 (.tmp 39),none⟩,⟨some 41,.call ⟨.value (.func 47),#[.tmp 40],#[9]⟩,none⟩,⟨some 42,.unOp .not 4 (.tmp 41),none⟩,⟨some 43,.move (.tmp 42),none⟩,⟨some 44,.fieldAddr 25 (.tmp 1) 1,some (some 43,false)⟩,⟨some 45,.load 22 (.tmp 44),some (some 43,false)⟩,⟨some 46,.move (.tmp 3),some (some 43,false)⟩,⟨some 47,.slice 22 (.tmp 45) none (some (.tmp 46)) none,some (some 43,false)⟩,⟨some 48,.makeFunc (.func 49) #[] #[.tmp 4],some (some 43,false)⟩,⟨some 49,.call ⟨.value (.func 48),#[.tmp 47,.tmp 48],#[22,89]⟩,some (some 43,false)⟩,⟨some 50,.pick (.tmp 43) (.const (.bool true)) (.tmp 49),none⟩]) (.cond (.tmp 50) (.seq (.reg [⟨some 51,.move (.tmp 3),none⟩,⟨some 52,.call ⟨.value (.func 30),#[.const (.int .i64 8),.tmp 51],#[3,3]⟩,none⟩,⟨none,.store 39 (.tmp 2) (.tmp 52),none⟩]) .ret) .skip)) (.seq (.seq (.reg [⟨some 53,.fieldAddr 57 (.tmp 4) 1,none⟩,⟨some 54,.load 3 (.tmp 53),none⟩,⟨some 55,.binOp .lss 3 (.tmp 54) (.const (.int .i64 0)) 3,none⟩,⟨some 56,.move (.tmp 55),none⟩,⟨some 57,.fieldAddr 57 (.tmp 4) 1,some (some 56,false)⟩,⟨some 58,.load 3 (.tmp 57),some (some 56,false)⟩,⟨some 59,.binOp .gtr 3 (.tmp 58) (.const (.int .i64 3)) 3,some (some 56,false)⟩,⟨some 60,.pick (.tmp 56) (.const (.bool true)) (.tmp 59),none⟩]) (.cond (.tmp 60) (.seq (.reg [⟨some 61,.move (.tmp 3),none⟩,⟨some 62,.call ⟨.value (.func 30),#[.const (.int .i64 3),.tmp 61],#[3,3]⟩,none⟩,⟨none,.store 39 (.tmp 2) (.tmp 62),none⟩]) .ret) .skip)) (.seq (.seq (.drawn 10 [⟨some 63,.fieldAddr 57 (.tmp 4) 2,none⟩,⟨some 64,.load 33 (.tmp 63),none⟩,⟨some 65,.call ⟨.builtin .len,#[.tmp 64],#[33]⟩,none⟩,⟨some 66,.fieldAddr 25 (.tmp 1) 0,none⟩,⟨some 67,.load 3 (.tmp 66),none⟩,⟨some 68,.fieldAddr 57 (.tmp 4) 1,none⟩,⟨some 69,.load 3 (.tmp 68),none⟩,⟨some 70,.call ⟨.value (.func 33),#[.tmp 67,.tmp 69],#[3,3]⟩,none⟩,⟨some 71,.binOp .neq 3 (.tmp 65) (.tmp 70) 3,none⟩]) (.cond (.tmp 71) (.seq (.reg [⟨some 72,.move (.tmp 3),none⟩,⟨some 73,.call ⟨.value (.func 30),#[.const (.int .i64 9),.tmp 72],#[3,3]⟩,none⟩,⟨none,.store 39 (.tmp 2) (.tmp 73),none⟩]) .ret) .skip)) (.seq (.reg [⟨some 74,.fieldAddr 57 (.tmp 4) 2,none⟩,⟨some 75,.load 33 (.tmp 74),none⟩,⟨some 76,.call ⟨.builtin .len,#[.tmp 75],#[33]⟩,none⟩,⟨some 77,.move (.const (.int .i64 0)),none⟩]) (.bloop 2 x29_L2))))))) (.reg [⟨some 92,.binOp .add 3 (.tmp 34) (.const (.int .i64 1)) 3,none⟩,⟨some 34,.move (.tmp 92),none⟩])))
def x29 : XC:=.seq (.reg [⟨some 1,.box 25 (.tmp 0),none⟩,⟨some 2,.alloc 39,none⟩]) (.seq (.seq (.reg [⟨some 10,.fieldAddr 25 (.tmp 1) 0,none⟩,⟨some 11,.load 3 (.tmp 10),none⟩,⟨some 12,.binOp .lss 3 (.tmp 11) (.const (.int .i64 1)) 3,none⟩,⟨some 13,.move (.tmp 12),none⟩,⟨some 14,.fieldAddr 25 (.tmp 1) 0,some (some 13,false)⟩,⟨some 15,.load 3 (.tmp 14),some (some 13,false)⟩,⟨some 16,.binOp .gtr 3 (.tmp 15) (.const (.int .i64 8)) 3,some (some 13,false)⟩,⟨some 17,.pick (.tmp 13) (.const (.bool true)) (.tmp 16),none⟩,⟨some 18,.move (.tmp 17),none⟩,⟨some 19,.fieldAddr 25 (.tmp 1) 1,some (some 18,false)⟩,⟨some 20,.load 22 (.tmp 19),some (some 18,false)⟩,⟨some 21,.call ⟨.builtin .len,#[.tmp 20],#[22]⟩,some (some 18,false)⟩,⟨some 22,.binOp .gtr 3 (.tmp 21) (.const (.int .i64 10)) 3,some (some 18,false)⟩,⟨some 23,.pick (.tmp 18) (.const (.bool true)) (.tmp 22),none⟩,⟨some 24,.move (.tmp 23),none⟩,⟨some 25,.fieldAddr 25 (.tmp 1) 2,some (some 24,false)⟩,⟨some 26,.load 23 (.tmp 25),some (some 24,false)⟩,⟨some 27,.call ⟨.builtin .len,#[.tmp 26],#[23]⟩,some (some 24,false)⟩,⟨some 28,.binOp .gtr 3 (.tmp 27) (.const (.int .i64 10)) 3,some (some 24,false)⟩,⟨some 29,.pick (.tmp 24) (.const (.bool true)) (.tmp 28),none⟩]) (.cond (.tmp 29) (.seq (.reg [⟨some 30,.call ⟨.value (.func 30),#[.const (.int .i64 2),.const (.int .i64 0)],#[3,3]⟩,none⟩,⟨none,.store 39 (.tmp 2) (.tmp 30),none⟩]) .ret) .skip)) (.seq (.seq (.reg [⟨some 31,.fieldAddr 25 (.tmp 1) 1,none⟩,⟨some 32,.load 22 (.tmp 31),none⟩,⟨some 33,.call ⟨.builtin .len,#[.tmp 32],#[22]⟩,none⟩,⟨some 34,.move (.const (.int .i64 0)),none⟩]) (.bloop 0 x29_L0)) (x29_T2)))
@[simp] theorem x29_s {C e s K} : type_of% (@X_at C e s K _ _ x29_T4.eq_1) ∧ type_of% (@X_at C e s K _ _ x29_L4.eq_1) ∧ type_of% (@X_at C e s K _ _ x29_T2.eq_1) ∧ type_of% (@X_at C e s K _ _ x29_L2.eq_1) ∧ type_of% (@X_at C e s K _ _ x29_L0.eq_1) ∧ type_of% (@X_at C e s K _ _ x29.eq_1):=⟨X_at x29_T4.eq_1,X_at x29_L4.eq_1,X_at x29_T2.eq_1,X_at x29_L2.eq_1,X_at x29_L0.eq_1,X_at x29.eq_1⟩
def an29 : Ann:=⟨[(10,.mix 8),(27,.mix 8)],[(4,[],[1,2,94,95,96],[2]),(2,[],[1,2,3,32,33,34,75,76,77],[1,2,32,33,34]),(0,[],[1,2,32,33,34],[1,2])],[]⟩
@[simp] theorem an29_a : an29.clsOf 10 = .mix 8 ∧ an29.clsOf 27 = .mix 8 ∧ an29.frzOf 10 = [] ∧ an29.frzOf 27 = [] ∧ an29.loopOf 4 = ([],[1,2,94,95,96],[2]) ∧ an29.loopOf 2 = ([],[1,2,3,32,33,34,75,76,77],[1,2,32,33,34]) ∧ an29.loopOf 0 = ([],[1,2,32,33,34],[1,2]):=⟨rfl,rfl,rfl,rfl,rfl,rfl,rfl⟩
theorem fi29 : FI Try.prog 29 (cxA an29) x29 [.cell 2 39] Try.f29:=fiA Try.func29 mixed
theorem Check_few (S : Stc) (h : S.n < 1 ∨ 8 < S.n ∨ 10 < S.funs.length ∨ 10 < S.preds.length) : CallOK Try.prog 29 [.agg (stc S)] [] (.agg [.int .i64 2,.int .i64 0]) []:=by
 have hf:=fault_meaning 2 0
 obtain ⟨n,F,P⟩:=S
 unfold stc
 dsimp only at h ⊢
 refine fi29.op ?_
 by_cases h1 : n < 1
 ·(refine Sg.h ?_;try repeat' ((first|(with_reducible first|refine brA ?_|refine brE fun _=>?_|refine spl ⟨?_,?_⟩<;>intro _)|refine clo hf ?_)<;>((try simp -implicitDefEqProofs(disch:=first|assumption|(try simp only[lens]);omega -splitDisjunctions) [h1]))))
 by_cases h2 : 8 < n
 ·(refine Sg.h ?_;try repeat' ((first|(with_reducible first|refine brA ?_|refine brE fun _=>?_|refine spl ⟨?_,?_⟩<;>intro _)|refine clo hf ?_)<;>((try simp -implicitDefEqProofs(disch:=first|assumption|(try simp only[lens]);omega -splitDisjunctions) [h1,h2]))))
 by_cases h3 : 10 < F.length
 ·have h3' : (10 : Int) < (F.length : Int) := by omega
  (refine Sg.h ?_;try repeat' ((first|(with_reducible first|refine brA ?_|refine brE fun _=>?_|refine spl ⟨?_,?_⟩<;>intro _)|refine clo hf ?_)<;>((try simp -implicitDefEqProofs(disch:=first|assumption|(try simp only[lens]);omega -splitDisjunctions) [h1,h2,h3']))))
 have h4 : 10 < P.length:=by omega
 have h3' : ¬ (10 : Int) < (F.length : Int):=by omega
 have h4' : (10 : Int) < (P.length : Int):=by omega
 (refine Sg.h ?_;try repeat' ((first|(with_reducible first|refine brA ?_|refine brE fun _=>?_|refine spl ⟨?_,?_⟩<;>intro _)|refine clo hf ?_)<;>((try simp -implicitDefEqProofs(disch:=first|assumption|(try simp only[lens]);omega -splitDisjunctions) [h1,h2,h3',h4']))))
theorem Check_meaning (S : Stc) : CallOK Try.prog 29 [.agg (stc S)] [] (.agg [.int .i64 (stcF S).1,.int .i64 (stcF S).2]) []:=by
 by_cases h : S.n < 1 ∨ 8 < S.n ∨ 10 < S.funs.length ∨ 10 < S.preds.length
 ·have := Check_few S h
  unfold stcF
  rw [if_pos h]
  exact this
 obtain ⟨n,F,P⟩:=S
 dsimp only at h
 have e : stcF ⟨n,F,P⟩ = thenF n P F.length (funsF n [] F 0):=by
  unfold stcF thenF
  rw [if_neg h]
 rw [e]
 obtain ⟨R,hR⟩ : ∃ R,thenF n P F.length (funsF n [] F 0) = R:=⟨_,rfl⟩
 rw [hR]
 have h1 : ¬ n < 1:=fun g=>h (.inl g)
 have h2 : ¬ 8 < n:=fun g=>h (.inr (.inl g))
 have h3 : ¬ (10 : Int) < (F.length : Int):=fun g=>h (.inr (.inr (.inl (by omega))))
 have h4 : ¬ (10 : Int) < (P.length : Int):=fun g=>h (.inr (.inr (.inr (by omega))))
 have hf:=fun c a=>fault_meaning c a
 unfold stc
 dsimp only
 refine fi29.op ?_
 (refine Sg.h ?_;try repeat' ((with_reducible first|refine brA ?_|refine brE fun _=>?_|refine spl ⟨?_,?_⟩<;>intro _)<;>((try simp -implicitDefEqProofs(disch:=first|assumption|(try simp only[lens]);omega -splitDisjunctions) [h1,h2,h3,h4]))))
 refine W_of fun Q hQ=>?_
 have main : ∀ k i,i + k = F.length → thenF n P F.length (funsF n (F.take i) (F.drop i) i) = R → Q [(1,.ptr 0 0 0),(2,.ptr 1 0 0),(32,.list (F.map fnRow)),(33,.int .i64 (F.length : Int)),(34,.int .i64 (i : Int))] [.rows 3 [[.int .i64 n,.list (F.map fnRow),.list (P.map pdRow)]],.rows 2 [[.int .i64 0,.int .i64 0]]]:=by
  intro k
  induction k with
  | zero=>
   intro i hi hR
   obtain rfl : i = F.length:=by omega
   rw [List.drop_length,funsF,thenF,if_neg (by decide)] at hR
   apply hQ
   clear hQ
   (refine Sg.h ?_;try repeat' ((with_reducible first|refine brA ?_|refine brE fun _=>?_|refine spl ⟨?_,?_⟩<;>intro _)<;>((try simp -implicitDefEqProofs(disch:=first|assumption|(try simp only[lens]);omega -splitDisjunctions)))))
   refine W_of fun Q hQ=>?_
   have main : ∀ k i,i + k = P.length → predsF n (P.take i) (P.drop i) (F.length + i) = R → Q [(1,.ptr 0 0 0),(2,.ptr 1 0 0),(94,.list (P.map pdRow)),(95,.int .i64 (P.length : Int)),(96,.int .i64 (i : Int))] [.rows 3 [[.int .i64 n,.list (F.map fnRow),.list (P.map pdRow)]],.rows 2 [[.int .i64 0,.int .i64 0]]]:=by
    intro k
    induction k with
    | zero=>
     intro i hi hR
     obtain rfl : i = P.length:=by omega
     rw [List.drop_length,predsF] at hR
     subst hR
     apply hQ
     clear hQ
     (refine Sg.h ?_;try repeat' ((with_reducible first|refine brA ?_|refine brE fun _=>?_|refine spl ⟨?_,?_⟩<;>intro _)<;>((try simp -implicitDefEqProofs(disch:=first|assumption|(try simp only[lens]);omega -splitDisjunctions)))))
    | succ k ih=>
     intro i hi hR
     have hil : i < P.length:=by omega
     have ih:=ih (i + 1) (by omega)
     rw [List.drop_eq_getElem_cons hil,predsF] at hR
     rw [take_snocM hil,← Nat.add_assoc] at ih
     have hbg:=IsBig_first P[i].name
     have hcf:=ContainsFunc_pred (P.take i) (by rw [List.length_take];omega) 51 [.iptr (pdRow P[i])] (fun g=>decide (g.name = P[i].name)) (fun g _=>check2_meaning P[i] g)
     generalize hx : P[i] = f at *
     have hi' : (i : Int) < (P.length : Int):=by omega
     rw [List.map_take] at hcf
     cases hb : isBigB f.name with
     | false=>
      rw [hb,if_pos (.inl rfl)] at hR
      rw [hb] at hbg
      have : R = (8,(F.length : Int) + (i : Int)):=by rw [← hR,Int.natCast_add]
      subst this
      have hf8:=hf 8 ((F.length : Int) + (i : Int))
      clear ih hcf
      apply hQ
      clear hQ
      (refine Sg.h ?_;try repeat' ((first|(with_reducible first|refine brA ?_|refine brE fun _=>?_|refine spl ⟨?_,?_⟩<;>intro _)|refine clo hbg ?_|refine clo hf8 ?_)<;>((try simp -implicitDefEqProofs(disch:=first|assumption|(try simp only[lens]);omega -splitDisjunctions) [hi',hil,hx]))))
     | true=>
     rw [hb] at hR hbg
     cases hd : ((P.take i).any fun g=>decide (g.name = f.name)) with
     | true=>
      rw [hd,if_pos (.inr rfl)] at hR
      rw [hd] at hcf
      have : R = (8,(F.length : Int) + (i : Int)):=by rw [← hR,Int.natCast_add]
      subst this
      have hf8:=hf 8 ((F.length : Int) + (i : Int))
      clear ih
      apply hQ
      clear hQ
      (refine Sg.h ?_;try repeat' ((first|(with_reducible first|refine brA ?_|refine brE fun _=>?_|refine spl ⟨?_,?_⟩<;>intro _)|refine clo hbg ?_)<;>((try simp -implicitDefEqProofs(disch:=first|assumption|(try simp only[lens]);omega -splitDisjunctions) [hi',hil,hx]))))
      refine CL.giv [2] ?_
      (refine Sg.h ?_;try repeat' ((first|(with_reducible first|refine brA ?_|refine brE fun _=>?_|refine spl ⟨?_,?_⟩<;>intro _)|refine clo hcf ?_|refine clo hf8 ?_)<;>((try simp -implicitDefEqProofs(disch:=first|assumption|(try simp only[lens]);omega -splitDisjunctions) [hi',hil,hx]))))
     | false=>
      rw [hd,if_neg (by simp)] at hR
      rw [hd] at hcf
      by_cases ha : f.ar < 0
      ·have ht : bitF n f = 3 := by unfold bitF; rw [if_pos (.inl ha)]
       rw [ht,if_pos (by decide)] at hR
       have : R = (3,(F.length : Int) + (i : Int)):=by rw [← hR,Int.natCast_add]
       subst this
       have hf3:=hf 3 ((F.length : Int) + (i : Int))
       clear ih
       apply hQ
       clear hQ
       (refine Sg.h ?_;try repeat' ((first|(with_reducible first|refine brA ?_|refine brE fun _=>?_|refine spl ⟨?_,?_⟩<;>intro _)|refine clo hbg ?_)<;>((try simp -implicitDefEqProofs(disch:=first|assumption|(try simp only[lens]);omega -splitDisjunctions) [hi',hil,hx,ha]))))
       refine CL.giv [2] ?_
       (refine Sg.h ?_;try repeat' ((first|(with_reducible first|refine brA ?_|refine brE fun _=>?_|refine spl ⟨?_,?_⟩<;>intro _)|refine clo hcf ?_|refine clo hf3 ?_)<;>((try simp -implicitDefEqProofs(disch:=first|assumption|(try simp only[lens]);omega -splitDisjunctions) [hi',hil,hx,ha]))))
      by_cases ha3 : 3 < f.ar
      ·have ht : bitF n f = 3 := by unfold bitF; rw [if_pos (.inr ha3)]
       rw [ht,if_pos (by decide)] at hR
       have : R = (3,(F.length : Int) + (i : Int)):=by rw [← hR,Int.natCast_add]
       subst this
       have hf3:=hf 3 ((F.length : Int) + (i : Int))
       clear ih
       apply hQ
       clear hQ
       (refine Sg.h ?_;try repeat' ((first|(with_reducible first|refine brA ?_|refine brE fun _=>?_|refine spl ⟨?_,?_⟩<;>intro _)|refine clo hbg ?_)<;>((try simp -implicitDefEqProofs(disch:=first|assumption|(try simp only[lens]);omega -splitDisjunctions) [hi',hil,hx,ha,ha3]))))
       refine CL.giv [2] ?_
       (refine Sg.h ?_;try repeat' ((first|(with_reducible first|refine brA ?_|refine brE fun _=>?_|refine spl ⟨?_,?_⟩<;>intro _)|refine clo hcf ?_|refine clo hf3 ?_)<;>((try simp -implicitDefEqProofs(disch:=first|assumption|(try simp only[lens]);omega -splitDisjunctions) [hi',hil,hx,ha,ha3]))))
      obtain ⟨a,hau,hale⟩ : ∃ a : Nat,f.ar = (a : Int) ∧ a ≤ 3:=⟨f.ar.toNat,by omega,by omega⟩
      have hpw:=power_meaning n a (by omega) (by omega) (by omega)
      have hpb:=pow_le8 (n:=n) (by omega) (by omega) a (by omega)
      rw [hau] at ha ha3
      by_cases hs : (f.bits.length : Int) = n ^ a
      ·have ht : bitF n f = 0 := by unfold bitF; rw [if_neg (by omega),if_neg (by rw [hau,Int.toNat_natCast]; exact fun g => g hs)]
       rw [ht,if_neg (by decide)] at hR
       have ih:=ih hR
       apply hQ
       clear hQ
       (refine Sg.h ?_;try repeat' ((first|(with_reducible first|refine brA ?_|refine brE fun _=>?_|refine spl ⟨?_,?_⟩<;>intro _)|refine clo hbg ?_)<;>((try simp -implicitDefEqProofs(disch:=first|assumption|(try simp only[lens]);omega -splitDisjunctions) [hi',hil,hx,ha,ha3,hau]))))
       refine CL.giv [2] ?_
       generalize n ^ a = q at *
       (refine Sg.h ?_;try repeat' ((first|(with_reducible first|refine brA ?_|refine brE fun _=>?_|refine spl ⟨?_,?_⟩<;>intro _)|refine clo hcf ?_|refine clo hpw ?_)<;>((try simp -implicitDefEqProofs(disch:=first|assumption|(try simp only[lens]);omega -splitDisjunctions) [hi',hil,hx,ha,ha3,hau,hs]))))
       all_goals first|exact ih|(refine at2 ih ?_ ?_<;>simp;done)|(exfalso;first|omega|(simp_all;done)|(simp_all;omega))
      ·have ht : bitF n f = 9 := by unfold bitF; rw [if_neg (by omega),if_pos (by rw [hau,Int.toNat_natCast]; exact hs)]
       rw [ht,if_pos (by decide)] at hR
       have : R = (9,(F.length : Int) + (i : Int)):=by rw [← hR,Int.natCast_add]
       subst this
       have hf9:=hf 9 ((F.length : Int) + (i : Int))
       clear ih
       apply hQ
       clear hQ
       (refine Sg.h ?_;try repeat' ((first|(with_reducible first|refine brA ?_|refine brE fun _=>?_|refine spl ⟨?_,?_⟩<;>intro _)|refine clo hbg ?_)<;>((try simp -implicitDefEqProofs(disch:=first|assumption|(try simp only[lens]);omega -splitDisjunctions) [hi',hil,hx,ha,ha3,hau]))))
       refine CL.giv [2] ?_
       generalize n ^ a = q at *
       (refine Sg.h ?_;try repeat' ((first|(with_reducible first|refine brA ?_|refine brE fun _=>?_|refine spl ⟨?_,?_⟩<;>intro _)|refine clo hcf ?_|refine clo hpw ?_|refine clo hf9 ?_)<;>((try simp -implicitDefEqProofs(disch:=first|assumption|(try simp only[lens]);omega -splitDisjunctions) [hi',hil,hx,ha,ha3,hau,hs]))))
   all_goals first|exact main P.length 0 (Nat.zero_add _) hR|(refine at2 main P.length 0 (Nat.zero_add _) hR ?_ ?_<;>simp;done)|(exfalso;first|omega|(simp_all;done)|(simp_all;omega))
  | succ k ih=>
   intro i hi hR
   have hil : i < F.length:=by omega
   have ih:=ih (i + 1) (by omega)
   rw [List.drop_eq_getElem_cons hil,funsF] at hR
   rw [take_snocM hil] at ih
   have hbg:=IsBig_first F[i].name
   have hcf:=ContainsFunc_fun (F.take i) (by rw [List.length_take];omega) 49 [.iptr (fnRow F[i])] (fun g=>decide (g.name = F[i].name)) (fun g _=>check1_meaning F[i] g)
   generalize hx : F[i] = f at *
   have hi' : (i : Int) < (F.length : Int):=by omega
   rw [List.map_take] at hcf
   cases hb : isBigB f.name with
   | false=>
    rw [hb,if_pos (.inl rfl)] at hR
    rw [hb] at hbg
    have : R = (8,(i : Int)):=by rw [← hR];rfl
    subst this
    have hf8:=hf 8 i
    clear ih hcf
    apply hQ
    clear hQ
    (refine Sg.h ?_;try repeat' ((first|(with_reducible first|refine brA ?_|refine brE fun _=>?_|refine spl ⟨?_,?_⟩<;>intro _)|refine clo hbg ?_|refine clo hf8 ?_)<;>((try simp -implicitDefEqProofs(disch:=first|assumption|(try simp only[lens]);omega -splitDisjunctions) [hi',hil,hx]))))
   | true=>
   rw [hb] at hR hbg
   cases hd : ((F.take i).any fun g=>decide (g.name = f.name)) with
   | true=>
    rw [hd,if_pos (.inr rfl)] at hR
    rw [hd] at hcf
    have : R = (8,(i : Int)):=by rw [← hR];rfl
    subst this
    have hf8:=hf 8 i
    clear ih
    apply hQ
    clear hQ
    (refine Sg.h ?_;try repeat' ((first|(with_reducible first|refine brA ?_|refine brE fun _=>?_|refine spl ⟨?_,?_⟩<;>intro _)|refine clo hbg ?_)<;>((try simp -implicitDefEqProofs(disch:=first|assumption|(try simp only[lens]);omega -splitDisjunctions) [hi',hil,hx]))))
    refine CL.giv [2] ?_
    (refine Sg.h ?_;try repeat' ((first|(with_reducible first|refine brA ?_|refine brE fun _=>?_|refine spl ⟨?_,?_⟩<;>intro _)|refine clo hcf ?_|refine clo hf8 ?_)<;>((try simp -implicitDefEqProofs(disch:=first|assumption|(try simp only[lens]);omega -splitDisjunctions) [hi',hil,hx]))))
   | false=>
    rw [hd,if_neg (by simp)] at hR
    rw [hd] at hcf
    by_cases ha : f.ar < 0
    ·have ht : tabF n f = 3 := by unfold tabF; rw [if_pos (.inl ha)]
     rw [ht,if_pos (by decide)] at hR
     have : R = (3,(i : Int)):=by rw [← hR];rfl
     subst this
     have hf3:=hf 3 i
     clear ih
     apply hQ
     clear hQ
     (refine Sg.h ?_;try repeat' ((first|(with_reducible first|refine brA ?_|refine brE fun _=>?_|refine spl ⟨?_,?_⟩<;>intro _)|refine clo hbg ?_)<;>((try simp -implicitDefEqProofs(disch:=first|assumption|(try simp only[lens]);omega -splitDisjunctions) [hi',hil,hx,ha]))))
     refine CL.giv [2] ?_
     (refine Sg.h ?_;try repeat' ((first|(with_reducible first|refine brA ?_|refine brE fun _=>?_|refine spl ⟨?_,?_⟩<;>intro _)|refine clo hcf ?_|refine clo hf3 ?_)<;>((try simp -implicitDefEqProofs(disch:=first|assumption|(try simp only[lens]);omega -splitDisjunctions) [hi',hil,hx,ha]))))
    by_cases ha3 : 3 < f.ar
    ·have ht : tabF n f = 3 := by unfold tabF; rw [if_pos (.inr ha3)]
     rw [ht,if_pos (by decide)] at hR
     have : R = (3,(i : Int)):=by rw [← hR];rfl
     subst this
     have hf3:=hf 3 i
     clear ih
     apply hQ
     clear hQ
     (refine Sg.h ?_;try repeat' ((first|(with_reducible first|refine brA ?_|refine brE fun _=>?_|refine spl ⟨?_,?_⟩<;>intro _)|refine clo hbg ?_)<;>((try simp -implicitDefEqProofs(disch:=first|assumption|(try simp only[lens]);omega -splitDisjunctions) [hi',hil,hx,ha,ha3]))))
     refine CL.giv [2] ?_
     (refine Sg.h ?_;try repeat' ((first|(with_reducible first|refine brA ?_|refine brE fun _=>?_|refine spl ⟨?_,?_⟩<;>intro _)|refine clo hcf ?_|refine clo hf3 ?_)<;>((try simp -implicitDefEqProofs(disch:=first|assumption|(try simp only[lens]);omega -splitDisjunctions) [hi',hil,hx,ha,ha3]))))
    obtain ⟨a,hau,hale⟩ : ∃ a : Nat,f.ar = (a : Int) ∧ a ≤ 3:=⟨f.ar.toNat,by omega,by omega⟩
    have hpw:=power_meaning n a (by omega) (by omega) (by omega)
    rw [hau] at ha ha3
    by_cases hs : (f.tab.length : Int) = n ^ a
    ·have ht : tabF n f = if f.tab.any (fun x => decide (x < 0 ∨ n ≤ x)) = true then 5 else 0 := by unfold tabF; rw [if_neg (by omega),if_neg (by rw [hau,Int.toNat_natCast]; exact fun g => g hs)]
     have hpb:=pow_le8 (n:=n) (by omega) (by omega) a (by omega)
     rw [ht] at hR
     apply hQ
     clear hQ
     (refine Sg.h ?_;try repeat' ((first|(with_reducible first|refine brA ?_|refine brE fun _=>?_|refine spl ⟨?_,?_⟩<;>intro _)|refine clo hbg ?_)<;>((try simp -implicitDefEqProofs(disch:=first|assumption|(try simp only[lens]);omega -splitDisjunctions) [hi',hil,hx,ha,ha3,hau]))))
     refine CL.giv [2] ?_
     generalize n ^ a = q at *
     (refine Sg.h ?_;try repeat' ((first|(with_reducible first|refine brA ?_|refine brE fun _=>?_|refine spl ⟨?_,?_⟩<;>intro _)|refine clo hcf ?_|refine clo hpw ?_)<;>((try simp -implicitDefEqProofs(disch:=first|assumption|(try simp only[lens]);omega -splitDisjunctions) [hi',hil,hx,ha,ha3,hau,hs]))))
     refine W_of fun Q2 hQ2=>?_
     have main2 : ∀ r j,j + r = f.tab.length → f.tab.any (fun x=>decide (x < 0 ∨ n ≤ x)) = (f.tab.drop j).any (fun x=>decide (x < 0 ∨ n ≤ x)) → Q2 [(1,.ptr 0 0 0),(2,.ptr 1 0 0),(3,.int .i64 (i : Int)),(32,.list (F.map fnRow)),(33,.int .i64 (F.length : Int)),(34,.int .i64 (i : Int)),(75,.list (f.tab.map intRow)),(76,.int .i64 q),(77,.int .i64 (j : Int))] [.rows 3 [[.int .i64 n,.list (F.map fnRow),.list (P.map pdRow)]],.rows 2 [[.int .i64 0,.int .i64 0]]]:=by
      intro r
      induction r with
      | zero=>
       intro j hj hany
       have hdj : f.tab.drop j = []:=List.drop_eq_nil_of_le (by omega)
       rw [hdj,List.any_nil] at hany
       rw [hany,if_neg (by simp)] at hR
       have ih:=ih hR
       have hjq : ¬ (j : Int) < q:=by omega
       clear hcf hpw hbg
       apply hQ2
       clear hQ2
       (refine Sg.h ?_;try repeat' ((with_reducible first|refine brA ?_|refine brE fun _=>?_|refine spl ⟨?_,?_⟩<;>intro _)<;>((try simp -implicitDefEqProofs(disch:=first|assumption|(try simp only[lens]);omega -splitDisjunctions) [hjq]))))
       all_goals first|exact ih|(refine at2 ih ?_ ?_<;>simp;done)|(exfalso;first|omega|(simp_all;done)|(simp_all;omega))
      | succ r ihr=>
       intro j hj hany
       have hjl : j < f.tab.length:=by omega
       have hjq : (j : Int) < q:=by omega
       have ihr:=ihr (j + 1) (by omega)
       rw [List.drop_eq_getElem_cons hjl,List.any_cons] at hany
       generalize hy : f.tab[j] = y at *
       by_cases hy0 : y < 0
       ·rw [decide_eq_true (.inl hy0),Bool.true_or] at hany
        rw [hany,if_pos rfl,if_pos (by decide)] at hR
        have : R = (5,(i : Int)):=by rw [← hR];rfl
        subst this
        have hf5:=hf 5 i
        clear ih ihr hcf hpw hbg
        apply hQ2
        clear hQ2
        (refine Sg.h ?_;try repeat' ((first|(with_reducible first|refine brA ?_|refine brE fun _=>?_|refine spl ⟨?_,?_⟩<;>intro _)|refine clo hf5 ?_)<;>((try simp -implicitDefEqProofs(disch:=first|assumption|(try simp only[lens]);omega -splitDisjunctions) [hjq,hjl,hy,hy0]))))
       by_cases hyn : n ≤ y
       ·rw [decide_eq_true (.inr hyn),Bool.true_or] at hany
        rw [hany,if_pos rfl,if_pos (by decide)] at hR
        have : R = (5,(i : Int)):=by rw [← hR];rfl
        subst this
        have hf5:=hf 5 i
        clear ih ihr hcf hpw hbg
        apply hQ2
        clear hQ2
        (refine Sg.h ?_;try repeat' ((first|(with_reducible first|refine brA ?_|refine brE fun _=>?_|refine spl ⟨?_,?_⟩<;>intro _)|refine clo hf5 ?_)<;>((try simp -implicitDefEqProofs(disch:=first|assumption|(try simp only[lens]);omega -splitDisjunctions) [hjq,hjl,hy,hy0,hyn]))))
       rw [decide_eq_false (fun g=>g.elim hy0 hyn),Bool.false_or] at hany
       have ihr:=ihr hany
       clear ih hcf hpw hbg
       apply hQ2
       clear hQ2
       (refine Sg.h ?_;try repeat' ((with_reducible first|refine brA ?_|refine brE fun _=>?_|refine spl ⟨?_,?_⟩<;>intro _)<;>((try simp -implicitDefEqProofs(disch:=first|assumption|(try simp only[lens]);omega -splitDisjunctions) [hjq,hjl,hy,hy0,hyn]))))
       all_goals first|exact ihr|(refine at2 ihr ?_ ?_<;>simp;done)|(exfalso;first|omega|(simp_all;done)|(simp_all;omega))
     all_goals first|exact main2 f.tab.length 0 (Nat.zero_add _) rfl|(refine at2 main2 f.tab.length 0 (Nat.zero_add _) rfl ?_ ?_<;>simp;done)|(exfalso;first|omega|(simp_all;done)|(simp_all;omega))
    ·have ht : tabF n f = 9 := by unfold tabF; rw [if_neg (by omega),if_pos (by rw [hau,Int.toNat_natCast]; exact hs)]
     rw [ht,if_pos (by decide)] at hR
     have : R = (9,(i : Int)):=by rw [← hR];rfl
     subst this
     have hf9:=hf 9 i
     clear ih
     have hpb:=pow_le8 (n:=n) (by omega) (by omega) a (by omega)
     apply hQ
     clear hQ
     (refine Sg.h ?_;try repeat' ((first|(with_reducible first|refine brA ?_|refine brE fun _=>?_|refine spl ⟨?_,?_⟩<;>intro _)|refine clo hbg ?_)<;>((try simp -implicitDefEqProofs(disch:=first|assumption|(try simp only[lens]);omega -splitDisjunctions) [hi',hil,hx,ha,ha3,hau]))))
     refine CL.giv [2] ?_
     generalize n ^ a = q at *
     (refine Sg.h ?_;try repeat' ((first|(with_reducible first|refine brA ?_|refine brE fun _=>?_|refine spl ⟨?_,?_⟩<;>intro _)|refine clo hcf ?_|refine clo hpw ?_|refine clo hf9 ?_)<;>((try simp -implicitDefEqProofs(disch:=first|assumption|(try simp only[lens]);omega -splitDisjunctions) [hi',hil,hx,ha,ha3,hau,hs]))))
 all_goals first|exact main F.length 0 (Nat.zero_add _) hR|(refine at2 main F.length 0 (Nat.zero_add _) hR ?_ ?_<;>simp;done)|(exfalso;first|omega|(simp_all;done)|(simp_all;omega))
end Go.Proofs.Ytbimioonhfhflaa
