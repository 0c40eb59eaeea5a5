import Derived.Test.YtcllmionhlmjfaaGPvSort
import Derived.Test.YtcllmionhlmjfaaGFpR
set_option linter.unusedVariables false
set_option linter.unusedSimpArgs false
set_option maxRecDepth 100000
set_option maxHeartbeats 4000000
namespace Go.Proofs.Ytcllmionhlmjfaa
open Go Go.Pv
def x120_T1 : XC := .seq (.reg [⟨some 42,.move (.tmp 0),none⟩,⟨some 43,.call ⟨.builtin .len,#[.tmp 42],#[9]⟩,none⟩,⟨some 44,.binOp .gtr 3 (.tmp 43) (.const (.int .i64 0)) 3,none⟩,⟨some 45,.move (.tmp 44),none⟩,⟨some 46,.move (.tmp 0),some (some 45,true)⟩,⟨some 47,.call ⟨.builtin .len,#[.tmp 46],#[9]⟩,some (some 45,true)⟩,⟨some 48,.binOp .lss 3 (.tmp 47) (.const (.int .i64 9)) 3,some (some 45,true)⟩,⟨some 49,.pick (.tmp 45) (.tmp 48) (.const (.bool false)),none⟩,⟨some 2,.assign (.tmp 49),none⟩]) .ret
def x120_L0 : XC := .seq (.seq (.reg [⟨some 6,.move (.tmp 3),none⟩,⟨some 7,.move (.tmp 0),none⟩,⟨some 8,.call ⟨.builtin .len,#[.tmp 7],#[9]⟩,none⟩,⟨some 9,.binOp .lss 3 (.tmp 6) (.tmp 8) 3,none⟩]) (.cond (.tmp 9) .skip (.exit 0))) (.seq (.block 1 (.seq (.reg [⟨some 12,.move (.tmp 0),none⟩,⟨some 13,.move (.tmp 3),none⟩,⟨some 14,.index 9 (.tmp 12) (.tmp 13),none⟩,⟨some 15,.binOp .geq 5 (.tmp 14) (.const (.int .u8 65)) 5,none⟩,⟨some 16,.move (.tmp 15),none⟩,⟨some 17,.move (.tmp 0),some (some 16,true)⟩,⟨some 18,.move (.tmp 3),some (some 16,true)⟩,⟨some 19,.index 9 (.tmp 17) (.tmp 18),some (some 16,true)⟩,⟨some 20,.binOp .leq 5 (.tmp 19) (.const (.int .u8 90)) 5,some (some 16,true)⟩,⟨some 21,.pick (.tmp 16) (.tmp 20) (.const (.bool false)),none⟩,⟨some 4,.assign (.tmp 21),none⟩]) (.seq (.reg [⟨some 22,.move (.tmp 0),none⟩,⟨some 23,.move (.tmp 3),none⟩,⟨some 24,.index 9 (.tmp 22) (.tmp 23),none⟩,⟨some 25,.binOp .geq 5 (.tmp 24) (.const (.int .u8 97)) 5,none⟩,⟨some 26,.move (.tmp 25),none⟩,⟨some 27,.move (.tmp 0),some (some 26,true)⟩,⟨some 28,.move (.tmp 3),some (some 26,true)⟩,⟨some 29,.index 9 (.tmp 27) (.tmp 28),some (some 26,true)⟩,⟨some 30,.binOp .leq 5 (.tmp 29) (.const (.int .u8 122)) 5,some (some 26,true)⟩,⟨some 31,.pick (.tmp 26) (.tmp 30) (.const (.bool false)),none⟩,⟨some 5,.assign (.tmp 31),none⟩]) (.seq (.reg [⟨some 32,.move (.tmp 4),none⟩,⟨some 33,.unOp .not 4 (.tmp 32),none⟩,⟨some 34,.move (.tmp 33),none⟩,⟨some 35,.move (.tmp 5),some (some 34,true)⟩,⟨some 36,.unOp .not 4 (.tmp 35),some (some 34,true)⟩,⟨some 37,.move (.tmp 36),some (some 34,true)⟩,⟨some 38,.move (.tmp 3),some (some 37,false)⟩,⟨some 39,.binOp .eql 3 (.tmp 38) (.const (.int .i64 0)) 3,some (some 37,false)⟩,⟨some 40,.pick (.tmp 37) (.const (.bool true)) (.tmp 39),some (some 34,true)⟩,⟨some 41,.pick (.tmp 34) (.tmp 40) (.const (.bool false)),none⟩]) (.cond (.tmp 41) (.seq (.reg [⟨some 2,.assign (.const (.bool false)),none⟩]) .ret) .skip))))) (.reg [⟨some 10,.move (.tmp 3),none⟩,⟨some 11,.binOp .add 3 (.tmp 10) (.const (.int .i64 1)) 3,none⟩,⟨some 3,.assign (.tmp 11),none⟩]))
def x120 : XC := .seq (.reg [⟨some 2,.assign (.const (.bool false)),none⟩]) (.seq (.seq (.reg [⟨some 3,.assign (.const (.int .i64 0)),none⟩]) (.bloop 0 x120_L0)) (x120_T1))
@[simp] theorem x120_s {C e s K} : type_of% (@X_at C e s K _ _ x120_T1.eq_1) ∧ type_of% (@X_at C e s K _ _ x120_L0.eq_1) ∧ type_of% (@X_at C e s K _ _ x120.eq_1) := ⟨X_at x120_T1.eq_1,X_at x120_L0.eq_1,X_at x120.eq_1⟩
def an120 : Ann := ⟨[],[(0,[],[0,3],[0,2])],[]⟩
@[simp] theorem an120_a : an120.loopOf 0 = ([],[0,3],[0,2]) := rfl
theorem fi120 : FI Try.prog 120 (cxA an120) x120 [.tmp 2] Try.f120 := fiA Try.func120 mixed
theorem IsBig_ref (t : ByteArray) : CallOK Try.prog 120 [.str t] [] (.bool (isBigB t)) [] := by
 refine fi120.op ?_
 obtain ⟨R,hR⟩ : ∃ R,isBigB t = R := ⟨_,rfl⟩
 rw [hR]
 (refine Sg.h ?_;try repeat' ((with_reducible first|refine brA ?_|refine brE fun _=>?_|refine spl ⟨?_,?_⟩<;>intro _)<;> ((try simp -implicitDefEqProofs); (try simp -implicitDefEqProofs(disch:=first|assumption|(try simp only[lens]);omega -splitDisjunctions)))))
 refine W_of fun Q hQ => ?_
 have main : ∀ n i,i + n = t.size → (decide (1 ≤ t.size ∧ t.size ≤ 8) && (if i = 0 then (t.data.toList.head?.map capB).getD false else true) && (t.data.toList.drop i).all letA) = R → Q [(0,.str t),(3,.int .i64 (i : Int))] [] := by
  intro n
  induction n with
  | zero =>
   intro i hi hR
   obtain rfl : i = t.size := by omega
   rw [all_end (Nat.le_refl _),Bool.and_true] at hR
   apply hQ
   clear hQ
   by_cases h0 : t.size = 0
   ·rw [decide_eq_false (by omega)] at hR
    subst hR
    have h1 : ¬ (0 : Int) < (t.size : Int) := by omega
    (refine Sg.h ?_;try repeat' ((with_reducible first|refine brA ?_|refine brE fun _=>?_|refine spl ⟨?_,?_⟩<;>intro _)<;> ((try simp -implicitDefEqProofs [h1]); (try simp -implicitDefEqProofs(disch:=first|assumption|(try simp only[lens]);omega -splitDisjunctions) [h1]))))
   ·rw [if_neg h0,Bool.and_true] at hR
    have h1 : (0 : Int) < (t.size : Int) := by omega
    by_cases h8 : t.size ≤ 8
    ·rw [decide_eq_true (by omega)] at hR
     subst hR
     have h2 : (t.size : Int) < 9 := by omega
     (refine Sg.h ?_;try repeat' ((with_reducible first|refine brA ?_|refine brE fun _=>?_|refine spl ⟨?_,?_⟩<;>intro _)<;> ((try simp -implicitDefEqProofs [h1,h2]); (try simp -implicitDefEqProofs(disch:=first|assumption|(try simp only[lens]);omega -splitDisjunctions) [h1,h2]))))
    ·rw [decide_eq_false (by omega)] at hR
     subst hR
     have h2 : ¬ (t.size : Int) < 9 := by omega
     (refine Sg.h ?_;try repeat' ((with_reducible first|refine brA ?_|refine brE fun _=>?_|refine spl ⟨?_,?_⟩<;>intro _)<;> ((try simp -implicitDefEqProofs [h1,h2]); (try simp -implicitDefEqProofs(disch:=first|assumption|(try simp only[lens]);omega -splitDisjunctions) [h1,h2]))))
  | succ n ih =>
   intro i hi hR
   have hlt : i < t.size := by omega
   have ih := ih (i + 1) (by omega)
   rw [if_neg (by omega),Bool.and_true] at ih
   rw [all_at hlt] at hR
   have hh : i = 0 → (t.data.toList.head?.map capB).getD false = capB t[i] := fun h => by subst h; rw [head_at hlt]; rfl
   cases hC : capB t[i] with
   | true =>
    have hL : letA t[i] = true := by unfold letA; rw [hC,Bool.or_true]
    rw [hL,Bool.true_and] at hR
    have hR : (decide (1 ≤ t.size ∧ t.size ≤ 8) && (t.data.toList.drop (i + 1)).all letA) = R := by
     rw [← hR]
     by_cases h : i = 0
     ·rw [if_pos h,hh h,hC,Bool.and_true]
     ·rw [if_neg h,Bool.and_true]
    have ih := ih hR
    simp only [capB,decide_eq_true_eq] at hC
    have g1 : (65 : Int) ≤ (t[i].toNat : Int) := by omega
    have g2 : (t[i].toNat : Int) ≤ 90 := by omega
    have g3 : ¬ (97 : Int) ≤ (t[i].toNat : Int) := by omega
    clear hh hL
    apply hQ
    clear hQ
    (refine Sg.h ?_;try repeat' ((with_reducible first|refine brA ?_|refine brE fun _=>?_|refine spl ⟨?_,?_⟩<;>intro _)<;> ((try simp -implicitDefEqProofs [hlt,g1,g2,g3]); (try simp -implicitDefEqProofs(disch:=first|assumption|(try simp only[lens]);omega -splitDisjunctions) [hlt,g1,g2,g3]))))
    all_goals first | exact ih | (refine at2 ih ?_ ?_ <;> simp; done) | (exfalso; first | omega | (simp_all; done) | (simp_all; omega))
   | false =>
    have g1 : (65 : Int) ≤ (t[i].toNat : Int) ∧ ¬ (t[i].toNat : Int) ≤ 90 ∨ ¬ (65 : Int) ≤ (t[i].toNat : Int) := by
     simp only [capB,decide_eq_false_iff_not] at hC
     omega
    cases hS : letterB t[i] with
    | true =>
     have hL : letA t[i] = true := by unfold letA; rw [hS,Bool.true_or]
     simp only [letterB,decide_eq_true_eq] at hS
     have g3 : (97 : Int) ≤ (t[i].toNat : Int) := by omega
     have g4 : (t[i].toNat : Int) ≤ 122 := by omega
     by_cases h : i = 0
     ·rw [if_pos h,hh h,hC,Bool.and_false,Bool.false_and] at hR
      subst hR h
      apply hQ
      clear hQ ih hh
      rcases g1 with ⟨g1,g2⟩ | g1
      ·(refine Sg.h ?_;try repeat' ((with_reducible first|refine brA ?_|refine brE fun _=>?_|refine spl ⟨?_,?_⟩<;>intro _)<;> ((try simp -implicitDefEqProofs [hlt,g1,g2,g3,g4]); (try simp -implicitDefEqProofs(disch:=first|assumption|(try simp only[lens]);omega -splitDisjunctions) [hlt,g1,g2,g3,g4]))))
      ·omega
     ·rw [if_neg h,hL,Bool.and_true,Bool.true_and] at hR
      have ih := ih hR
      have hi0 : ¬ (i : Int) = 0 := by omega
      apply hQ
      clear hQ hh
      rcases g1 with ⟨g1,g2⟩ | g1
      ·(refine Sg.h ?_;try repeat' ((with_reducible first|refine brA ?_|refine brE fun _=>?_|refine spl ⟨?_,?_⟩<;>intro _)<;> ((try simp -implicitDefEqProofs [hlt,g1,g2,g3,g4,hi0]); (try simp -implicitDefEqProofs(disch:=first|assumption|(try simp only[lens]);omega -splitDisjunctions) [hlt,g1,g2,g3,g4,hi0]))))
       all_goals first | exact ih | (refine at2 ih ?_ ?_ <;> simp; done) | (exfalso; first | omega | (simp_all; done) | (simp_all; omega))
      ·omega
    | false =>
     have hL : letA t[i] = false := by unfold letA; rw [hS,hC]; rfl
     rw [hL,Bool.false_and,Bool.and_false] at hR
     subst hR
     have g3 : (97 : Int) ≤ (t[i].toNat : Int) ∧ ¬ (t[i].toNat : Int) ≤ 122 ∨ ¬ (97 : Int) ≤ (t[i].toNat : Int) := by
      simp only [letterB,decide_eq_false_iff_not] at hS
      omega
     apply hQ
     clear hQ ih hh
     rcases g1 with ⟨g1,g2⟩ | g1
     ·rcases g3 with ⟨g3,g4⟩ | g3
      ·(refine Sg.h ?_;try repeat' ((with_reducible first|refine brA ?_|refine brE fun _=>?_|refine spl ⟨?_,?_⟩<;>intro _)<;> ((try simp -implicitDefEqProofs [hlt,g1,g2,g3,g4]); (try simp -implicitDefEqProofs(disch:=first|assumption|(try simp only[lens]);omega -splitDisjunctions) [hlt,g1,g2,g3,g4]))))
      ·(refine Sg.h ?_;try repeat' ((with_reducible first|refine brA ?_|refine brE fun _=>?_|refine spl ⟨?_,?_⟩<;>intro _)<;> ((try simp -implicitDefEqProofs [hlt,g1,g2,g3]); (try simp -implicitDefEqProofs(disch:=first|assumption|(try simp only[lens]);omega -splitDisjunctions) [hlt,g1,g2,g3]))))
     ·have g3' : ¬ (97 : Int) ≤ (t[i].toNat : Int) := by omega
      (refine Sg.h ?_;try repeat' ((with_reducible first|refine brA ?_|refine brE fun _=>?_|refine spl ⟨?_,?_⟩<;>intro _)<;> ((try simp -implicitDefEqProofs [hlt,g1,g3']); (try simp -implicitDefEqProofs(disch:=first|assumption|(try simp only[lens]);omega -splitDisjunctions) [hlt,g1,g3']))))
 refine at2 (main _ 0 (Nat.zero_add _) (by rw [if_pos rfl,List.drop_zero]; exact hR)) ?_ ?_ <;> simp
def xsigns : List ByteArray := [⟨#[45,62]⟩,⟨#[126]⟩,⟨#[33]⟩,⟨#[63]⟩,⟨#[38]⟩,⟨#[124]⟩,⟨#[40]⟩,⟨#[41]⟩,⟨#[44]⟩,⟨#[61]⟩,⟨#[49]⟩,⟨#[48]⟩]
def xnameF (t : ByteArray) (k : Nat) : ByteArray × Nat × Nat := if k < lta t k then (t.extract k (lta t k),k,lta t k) else (⟨#[46]⟩,k,k + 1)
def xsignF (t : ByteArray) (k : Nat) (l : List ByteArray) : ByteArray × Nat × Nat := match l.find? (hp t k) with
 | some w => (w,k,k + w.size)
 | none => xnameF t k
def xtokF (t : ByteArray) (i : Nat) : ByteArray × Nat × Nat := if bl t i < t.size then xsignF t (bl t i) xsigns else (⟨#[]⟩,bl t i,bl t i)
theorem xsignF_no {t : ByteArray} {k i : Nat} (h : i < xsigns.length) (hh : hp t k xsigns[i] = false) : xsignF t k (xsigns.drop i) = xsignF t k (xsigns.drop (i + 1)) := by
 rw [List.drop_eq_getElem_cons h]
 unfold xsignF
 rw [List.find?_cons,hh]
theorem xsignF_yes {t : ByteArray} {k i : Nat} (h : i < xsigns.length) (hh : hp t k xsigns[i] = true) : xsignF t k (xsigns.drop i) = (xsigns[i],k,k + xsigns[i].size) := by
 rw [List.drop_eq_getElem_cons h]
 unfold xsignF
 rw [List.find?_cons,hh]
def x71_T5 : XC := .seq (.seq (.reg [⟨some 105,.move (.tmp 10),none⟩,⟨some 106,.move (.tmp 1),none⟩,⟨some 107,.binOp .eql 3 (.tmp 105) (.tmp 106) 3,none⟩]) (.cond (.tmp 107) (.seq (.reg [⟨some 108,.move (.tmp 1),none⟩,⟨some 109,.move (.tmp 1),none⟩,⟨some 110,.binOp .add 3 (.tmp 109) (.const (.int .i64 1)) 3,none⟩,⟨some 4,.assign (.const (.string ⟨#[46]⟩)),none⟩,⟨some 5,.assign (.tmp 108),none⟩,⟨some 6,.assign (.tmp 110),none⟩]) .ret) .skip)) (.seq (.reg [⟨some 111,.move (.tmp 0),none⟩,⟨some 112,.move (.tmp 1),none⟩,⟨some 113,.move (.tmp 10),none⟩,⟨some 114,.slice 9 (.tmp 111) (some (.tmp 112)) (some (.tmp 113)) none,none⟩,⟨some 115,.move (.tmp 1),none⟩,⟨some 116,.move (.tmp 10),none⟩,⟨some 4,.assign (.tmp 114),none⟩,⟨some 5,.assign (.tmp 115),none⟩,⟨some 6,.assign (.tmp 116),none⟩]) .ret)
def x71_L4 : XC := .seq (.seq (.reg [⟨some 75,.move (.tmp 10),none⟩,⟨some 76,.move (.tmp 0),none⟩,⟨some 77,.call ⟨.builtin .len,#[.tmp 76],#[9]⟩,none⟩,⟨some 78,.binOp .lss 3 (.tmp 75) (.tmp 77) 3,none⟩,⟨some 79,.move (.tmp 78),none⟩,⟨some 80,.move (.tmp 0),some (some 79,true)⟩,⟨some 81,.move (.tmp 10),some (some 79,true)⟩,⟨some 82,.index 9 (.tmp 80) (.tmp 81),some (some 79,true)⟩,⟨some 83,.binOp .geq 5 (.tmp 82) (.const (.int .u8 97)) 5,some (some 79,true)⟩,⟨some 84,.move (.tmp 83),some (some 79,true)⟩,⟨some 85,.move (.tmp 0),some (some 84,true)⟩,⟨some 86,.move (.tmp 10),some (some 84,true)⟩,⟨some 87,.index 9 (.tmp 85) (.tmp 86),some (some 84,true)⟩,⟨some 88,.binOp .leq 5 (.tmp 87) (.const (.int .u8 122)) 5,some (some 84,true)⟩,⟨some 89,.pick (.tmp 84) (.tmp 88) (.const (.bool false)),some (some 79,true)⟩,⟨some 90,.move (.tmp 89),some (some 79,true)⟩,⟨some 91,.move (.tmp 0),some (some 90,false)⟩,⟨some 92,.move (.tmp 10),some (some 90,false)⟩,⟨some 93,.index 9 (.tmp 91) (.tmp 92),some (some 90,false)⟩,⟨some 94,.binOp .geq 5 (.tmp 93) (.const (.int .u8 65)) 5,some (some 90,false)⟩,⟨some 95,.move (.tmp 94),some (some 90,false)⟩,⟨some 96,.move (.tmp 0),some (some 95,true)⟩,⟨some 97,.move (.tmp 10),some (some 95,true)⟩,⟨some 98,.index 9 (.tmp 96) (.tmp 97),some (some 95,true)⟩,⟨some 99,.binOp .leq 5 (.tmp 98) (.const (.int .u8 90)) 5,some (some 95,true)⟩,⟨some 100,.pick (.tmp 95) (.tmp 99) (.const (.bool false)),some (some 90,false)⟩,⟨some 101,.pick (.tmp 90) (.const (.bool true)) (.tmp 100),some (some 79,true)⟩,⟨some 102,.pick (.tmp 79) (.tmp 101) (.const (.bool false)),none⟩]) (.cond (.tmp 102) .skip (.exit 4))) (.block 5 (.reg [⟨some 103,.move (.tmp 10),none⟩,⟨some 104,.binOp .add 3 (.tmp 103) (.const (.int .i64 1)) 3,none⟩,⟨some 10,.assign (.tmp 104),none⟩]))
def x71_T3 : XC := .seq (.reg [⟨some 74,.move (.tmp 1),none⟩,⟨some 10,.assign (.tmp 74),none⟩]) (.seq (.bloop 4 x71_L4) (x71_T5))
def x71_L2 : XC := .seq (.seq (.reg [⟨some 36,.move (.tmp 8),none⟩,⟨some 37,.move (.tmp 7),none⟩,⟨some 38,.call ⟨.builtin .len,#[.tmp 37],#[65]⟩,none⟩,⟨some 39,.binOp .lss 3 (.tmp 36) (.tmp 38) 3,none⟩]) (.cond (.tmp 39) .skip (.exit 2))) (.seq (.block 3 (.seq (.reg [⟨some 42,.move (.tmp 7),none⟩,⟨some 43,.move (.tmp 8),none⟩,⟨some 44,.indexAddr 65 (.tmp 42) (.tmp 43),none⟩,⟨some 45,.load 9 (.tmp 44),none⟩,⟨some 46,.call ⟨.builtin .len,#[.tmp 45],#[9]⟩,none⟩,⟨some 9,.assign (.tmp 46),none⟩]) (.seq (.drawn 10 [⟨some 47,.move (.tmp 1),none⟩,⟨some 48,.move (.tmp 9),none⟩,⟨some 49,.binOp .add 3 (.tmp 47) (.tmp 48) 3,none⟩,⟨some 50,.move (.tmp 0),none⟩,⟨some 51,.call ⟨.builtin .len,#[.tmp 50],#[9]⟩,none⟩,⟨some 52,.binOp .leq 3 (.tmp 49) (.tmp 51) 3,none⟩,⟨some 53,.move (.tmp 52),none⟩,⟨some 54,.move (.tmp 0),some (some 53,true)⟩,⟨some 55,.move (.tmp 1),some (some 53,true)⟩,⟨some 56,.move (.tmp 1),some (some 53,true)⟩,⟨some 57,.move (.tmp 9),some (some 53,true)⟩,⟨some 58,.binOp .add 3 (.tmp 56) (.tmp 57) 3,some (some 53,true)⟩,⟨some 59,.slice 9 (.tmp 54) (some (.tmp 55)) (some (.tmp 58)) none,some (some 53,true)⟩,⟨some 60,.move (.tmp 7),some (some 53,true)⟩,⟨some 61,.move (.tmp 8),some (some 53,true)⟩,⟨some 62,.indexAddr 65 (.tmp 60) (.tmp 61),some (some 53,true)⟩,⟨some 63,.load 9 (.tmp 62),some (some 53,true)⟩,⟨some 64,.binOp .eql 9 (.tmp 59) (.tmp 63) 9,some (some 53,true)⟩,⟨some 65,.pick (.tmp 53) (.tmp 64) (.const (.bool false)),none⟩]) (.cond (.tmp 65) (.seq (.reg [⟨some 66,.move (.tmp 7),none⟩,⟨some 67,.move (.tmp 8),none⟩,⟨some 68,.indexAddr 65 (.tmp 66) (.tmp 67),none⟩,⟨some 69,.load 9 (.tmp 68),none⟩,⟨some 70,.move (.tmp 1),none⟩,⟨some 71,.move (.tmp 1),none⟩,⟨some 72,.move (.tmp 9),none⟩,⟨some 73,.binOp .add 3 (.tmp 71) (.tmp 72) 3,none⟩,⟨some 4,.assign (.tmp 69),none⟩,⟨some 5,.assign (.tmp 70),none⟩,⟨some 6,.assign (.tmp 73),none⟩]) .ret) .skip)))) (.reg [⟨some 40,.move (.tmp 8),none⟩,⟨some 41,.binOp .add 3 (.tmp 40) (.const (.int .i64 1)) 3,none⟩,⟨some 8,.assign (.tmp 41),none⟩]))
def x71_T1 : XC := .seq (.seq (.reg [⟨some 29,.move (.tmp 1),none⟩,⟨some 30,.move (.tmp 0),none⟩,⟨some 31,.call ⟨.builtin .len,#[.tmp 30],#[9]⟩,none⟩,⟨some 32,.binOp .eql 3 (.tmp 29) (.tmp 31) 3,none⟩]) (.cond (.tmp 32) (.seq (.reg [⟨some 33,.move (.tmp 1),none⟩,⟨some 34,.move (.tmp 1),none⟩,⟨some 4,.assign (.const (.string ⟨#[]⟩)),none⟩,⟨some 5,.assign (.tmp 33),none⟩,⟨some 6,.assign (.tmp 34),none⟩]) .ret) .skip)) (.seq (.reg [⟨some 35,.buildSlice 65 12 #[(0,.const (.string ⟨#[45,62]⟩)),(1,.const (.string ⟨#[126]⟩)),(2,.const (.string ⟨#[33]⟩)),(3,.const (.string ⟨#[63]⟩)),(4,.const (.string ⟨#[38]⟩)),(5,.const (.string ⟨#[124]⟩)),(6,.const (.string ⟨#[40]⟩)),(7,.const (.string ⟨#[41]⟩)),(8,.const (.string ⟨#[44]⟩)),(9,.const (.string ⟨#[61]⟩)),(10,.const (.string ⟨#[49]⟩)),(11,.const (.string ⟨#[48]⟩))],none⟩,⟨some 7,.assign (.tmp 35),none⟩]) (.seq (.seq (.reg [⟨some 8,.assign (.const (.int .i64 0)),none⟩]) (.bloop 2 x71_L2)) (x71_T3)))
def x71_L0 : XC := .seq (.seq (.reg [⟨some 11,.move (.tmp 1),none⟩,⟨some 12,.move (.tmp 0),none⟩,⟨some 13,.call ⟨.builtin .len,#[.tmp 12],#[9]⟩,none⟩,⟨some 14,.binOp .lss 3 (.tmp 11) (.tmp 13) 3,none⟩,⟨some 15,.move (.tmp 14),none⟩,⟨some 16,.move (.tmp 0),some (some 15,true)⟩,⟨some 17,.move (.tmp 1),some (some 15,true)⟩,⟨some 18,.index 9 (.tmp 16) (.tmp 17),some (some 15,true)⟩,⟨some 19,.binOp .eql 5 (.tmp 18) (.const (.int .u8 32)) 5,some (some 15,true)⟩,⟨some 20,.move (.tmp 19),some (some 15,true)⟩,⟨some 21,.move (.tmp 0),some (some 20,false)⟩,⟨some 22,.move (.tmp 1),some (some 20,false)⟩,⟨some 23,.index 9 (.tmp 21) (.tmp 22),some (some 20,false)⟩,⟨some 24,.binOp .eql 5 (.tmp 23) (.const (.int .u8 10)) 5,some (some 20,false)⟩,⟨some 25,.pick (.tmp 20) (.const (.bool true)) (.tmp 24),some (some 15,true)⟩,⟨some 26,.pick (.tmp 15) (.tmp 25) (.const (.bool false)),none⟩]) (.cond (.tmp 26) .skip (.exit 0))) (.block 1 (.reg [⟨some 27,.move (.tmp 1),none⟩,⟨some 28,.binOp .add 3 (.tmp 27) (.const (.int .i64 1)) 3,none⟩,⟨some 1,.assign (.tmp 28),none⟩]))
def x71 : XC := .seq (.reg [⟨some 4,.assign (.const (.string ⟨#[]⟩)),none⟩,⟨some 5,.assign (.const (.int .i64 0)),none⟩,⟨some 6,.assign (.const (.int .i64 0)),none⟩]) (.seq (.bloop 0 x71_L0) (x71_T1))
@[simp] theorem x71_s {C e s K} : type_of% (@X_at C e s K _ _ x71_T5.eq_1) ∧ type_of% (@X_at C e s K _ _ x71_L4.eq_1) ∧ type_of% (@X_at C e s K _ _ x71_T3.eq_1) ∧ type_of% (@X_at C e s K _ _ x71_L2.eq_1) ∧ type_of% (@X_at C e s K _ _ x71_T1.eq_1) ∧ type_of% (@X_at C e s K _ _ x71_L0.eq_1) ∧ type_of% (@X_at C e s K _ _ x71.eq_1) := ⟨X_at x71_T5.eq_1,X_at x71_L4.eq_1,X_at x71_T3.eq_1,X_at x71_L2.eq_1,X_at x71_T1.eq_1,X_at x71_L0.eq_1,X_at x71.eq_1⟩
def an71 : Ann := ⟨[(10,.mix 17)],[(4,[],[0,1,10],[0,1,10]),(2,[],[0,1,7,8],[0,1,4,5,6]),(0,[],[0,1],[0,1])],[]⟩
@[simp] theorem an71_a : an71.clsOf 10 = .mix 17 ∧ an71.frzOf 10 = [] ∧ an71.loopOf 4 = ([],[0,1,10],[0,1,10]) ∧ an71.loopOf 2 = ([],[0,1,7,8],[0,1,4,5,6]) ∧ an71.loopOf 0 = ([],[0,1],[0,1]) := ⟨rfl,rfl,rfl,rfl,rfl⟩
theorem fi71 : FI Try.prog 71 (cxA an71) x71 [.tmp 4,.tmp 5,.tmp 6] Try.f71 := fiA Try.func71 mixed
theorem sign_ref (t : ByteArray) (i : Nat) (hs : t.size ≤ 1000000) (hi : i ≤ t.size) : CallOK Try.prog 71 [.str t,.int .i64 (i : Int)] [] (.tuple [.str (xtokF t i).1,.int .i64 ((xtokF t i).2.1 : Int),.int .i64 ((xtokF t i).2.2 : Int)]) [] := by
 refine fi71.op ?_
 obtain ⟨R,hR⟩ : ∃ R,xtokF t i = R := ⟨_,rfl⟩
 rw [hR]
 unfold xtokF at hR
 (refine Sg.h ?_;try repeat' ((with_reducible first|refine brA ?_|refine brE fun _=>?_|refine spl ⟨?_,?_⟩<;>intro _)<;> ((try simp -implicitDefEqProofs); (try simp -implicitDefEqProofs(disch:=first|assumption|(try simp only[lens]);omega -splitDisjunctions)))))
 refine W_of fun Q hQ => ?_
 have main : ∀ r k,t.size - k = r → k ≤ t.size → bl t k = bl t i → Q [(0,.str t),(1,.int .i64 (k : Int))] [] := by
  intro r
  induction r with
  | zero =>
   intro k hk hks he
   obtain rfl : k = t.size := by omega
   rw [← he,bl_end (by omega),if_neg (by omega)] at hR
   subst hR
   apply hQ
   clear hQ
   (refine Sg.h ?_;try repeat' ((with_reducible first|refine brA ?_|refine brE fun _=>?_|refine spl ⟨?_,?_⟩<;>intro _)<;> ((try simp -implicitDefEqProofs); (try simp -implicitDefEqProofs(disch:=first|assumption|(try simp only[lens]);omega -splitDisjunctions)))))
  | succ r ih =>
   intro k hk hks he
   have hlt : k < t.size := by omega
   cases hb : isBl t[k] with
   | true =>
    have ih := ih (k + 1) (by omega) (by omega) (by rw [← bl_step hlt hb,he])
    have ih' : Q [(0,.str t),(1,.int .i64 ((k : Int) + 1))] [] := at2 ih (by simp) rfl
    clear ih he hR
    simp only [isBl,Bool.or_eq_true,beq_iff_eq] at hb
    apply hQ
    clear hQ
    (refine Sg.h ?_;try repeat' ((with_reducible first|refine brA ?_|refine brE fun _=>?_|refine spl ⟨?_,?_⟩<;>intro _)<;> ((try simp -implicitDefEqProofs [hlt]); (try simp -implicitDefEqProofs(disch:=first|assumption|(try simp only[lens]);omega -splitDisjunctions) [hlt]))))
    all_goals first | exact ih' | omega
   | false =>
    have hst := bl_stop hlt hb
    rw [← he,hst,if_pos hlt] at hR
    clear ih he hst
    simp only [isBl,Bool.or_eq_false_iff,beq_eq_false_iff_ne] at hb
    have hsl : xsigns.length = 12 := rfl
    have hss : ∀ w ∈ xsigns,w.size ≤ 2 := by decide
    have key : W ((cxA an71) Try.prog 0) 2 x71_L2 (KS.seq x71_T3 (KS.fin [ResultVar.tmp 4,ResultVar.tmp 5,ResultVar.tmp 6] fun v1 s1 => deref s1 6 v1 = PV.tuple [PV.str R.1,PV.int IntKind.i64 (R.2.1 : Int),PV.int IntKind.i64 (R.2.2 : Int)])) [(0,PV.str t),(1,PV.int IntKind.i64 (k : Int)),(7,PV.sl 0 0 12),(8,PV.int IntKind.i64 0)] [PObj.rows 1 (xsigns.map strRow)] := by
     refine W_of fun Q2 hQ2 => ?_
     have main2 : ∀ r j,j + r = 12 → xsignF t k (xsigns.drop j) = R → Q2 [(0,PV.str t),(1,PV.int IntKind.i64 (k : Int)),(7,PV.sl 0 0 12),(8,PV.int IntKind.i64 (j : Int))] [PObj.rows 1 (xsigns.map strRow)] := by
      intro r
      induction r with
      | zero =>
       intro j hj hR
       obtain rfl : j = 12 := by omega
       have hR : xnameF t k = R := hR
       unfold xnameF at hR
       apply hQ2
       clear hQ2
       (refine Sg.h ?_;try repeat' ((with_reducible first|refine brA ?_|refine brE fun _=>?_|refine spl ⟨?_,?_⟩<;>intro _)<;> ((try simp -implicitDefEqProofs [hsl]); (try simp -implicitDefEqProofs(disch:=first|assumption|(try simp only[lens]);omega -splitDisjunctions) [hsl]))))
       refine W_of fun Q3 hQ3 => ?_
       have main3 : ∀ r m,t.size - m = r → k ≤ m → m ≤ t.size → lta t m = lta t k → Q3 [(0,.str t),(1,.int .i64 (k : Int)),(10,.int .i64 (m : Int))] [] := by
        intro r
        induction r with
        | zero =>
         intro m hm h0 h1 he
         obtain rfl : m = t.size := by omega
         rw [lta_end (by omega)] at he
         rw [← he,if_pos hlt] at hR
         subst hR
         apply hQ3
         clear hQ3
         have hne : ¬ (t.size : Int) = (k : Int) := by omega
         (refine Sg.h ?_;try repeat' ((with_reducible first|refine brA ?_|refine brE fun _=>?_|refine spl ⟨?_,?_⟩<;>intro _)<;> ((try simp -implicitDefEqProofs [hne,h0]); (try simp -implicitDefEqProofs(disch:=first|assumption|(try simp only[lens]);omega -splitDisjunctions) [hne,h0]))))
        | succ r ih =>
         intro m hm h0 h1 he
         have hlt3 : m < t.size := by omega
         cases hL : letA t[m] with
         | true =>
          have ih := ih (m + 1) (by omega) (by omega) (by omega) (by rw [← lta_step hlt3 hL,he])
          clear he hR
          simp only [letA,letterB,capB,Bool.or_eq_true,decide_eq_true_eq] at hL
          apply hQ3
          clear hQ3
          by_cases g1 : 97 ≤ t[m].toNat
          ·by_cases g2 : t[m].toNat ≤ 122
           ·have g1' : (97 : Int) ≤ (t[m].toNat : Int) := by omega
            have g2' : (t[m].toNat : Int) ≤ 122 := by omega
            (refine Sg.h ?_;try repeat' ((with_reducible first|refine brA ?_|refine brE fun _=>?_|refine spl ⟨?_,?_⟩<;>intro _)<;> ((try simp -implicitDefEqProofs [hlt3,g1',g2']); (try simp -implicitDefEqProofs(disch:=first|assumption|(try simp only[lens]);omega -splitDisjunctions) [hlt3,g1',g2']))))
            all_goals first | exact ih | (refine at2 ih ?_ ?_ <;> simp; done) | (exfalso; first | omega | (simp_all; done) | (simp_all; omega))
           ·omega
          ·have g1' : ¬ (97 : Int) ≤ (t[m].toNat : Int) := by omega
           have g3 : (65 : Int) ≤ (t[m].toNat : Int) := by omega
           have g4 : (t[m].toNat : Int) ≤ 90 := by omega
           (refine Sg.h ?_;try repeat' ((with_reducible first|refine brA ?_|refine brE fun _=>?_|refine spl ⟨?_,?_⟩<;>intro _)<;> ((try simp -implicitDefEqProofs [hlt3,g1',g3,g4]); (try simp -implicitDefEqProofs(disch:=first|assumption|(try simp only[lens]);omega -splitDisjunctions) [hlt3,g1',g3,g4]))))
           all_goals first | exact ih | (refine at2 ih ?_ ?_ <;> simp; done) | (exfalso; first | omega | (simp_all; done) | (simp_all; omega))
         | false =>
          rw [lta_stop hlt3 hL] at he
          rw [← he] at hR
          simp only [letA,letterB,capB,Bool.or_eq_false_iff,decide_eq_false_iff_not] at hL
          clear ih
          apply hQ3
          clear hQ3
          have fin : ∀ c : Bool,c = false → True := fun _ _ => trivial
          by_cases hkm : k < m
          ·rw [if_pos hkm] at hR
           subst hR
           have hne : ¬ (m : Int) = (k : Int) := by omega
           by_cases g1 : 97 ≤ t[m].toNat
           ·have g1' : (97 : Int) ≤ (t[m].toNat : Int) := by omega
            have g2' : ¬ (t[m].toNat : Int) ≤ 122 := by omega
            have g3 : (65 : Int) ≤ (t[m].toNat : Int) := by omega
            have g4 : ¬ (t[m].toNat : Int) ≤ 90 := by omega
            (refine Sg.h ?_;try repeat' ((with_reducible first|refine brA ?_|refine brE fun _=>?_|refine spl ⟨?_,?_⟩<;>intro _)<;> ((try simp -implicitDefEqProofs [hlt3,g1',g2',g3,g4,hne,h0]); (try simp -implicitDefEqProofs(disch:=first|assumption|(try simp only[lens]);omega -splitDisjunctions) [hlt3,g1',g2',g3,g4,hne,h0]))))
            all_goals first | omega | skip
           ·have g1' : ¬ (97 : Int) ≤ (t[m].toNat : Int) := by omega
            by_cases g3 : 65 ≤ t[m].toNat
            ·have g3' : (65 : Int) ≤ (t[m].toNat : Int) := by omega
             have g4 : ¬ (t[m].toNat : Int) ≤ 90 := by omega
             (refine Sg.h ?_;try repeat' ((with_reducible first|refine brA ?_|refine brE fun _=>?_|refine spl ⟨?_,?_⟩<;>intro _)<;> ((try simp -implicitDefEqProofs [hlt3,g1',g3',g4,hne,h0]); (try simp -implicitDefEqProofs(disch:=first|assumption|(try simp only[lens]);omega -splitDisjunctions) [hlt3,g1',g3',g4,hne,h0]))))
             all_goals first | omega | skip
            ·have g3' : ¬ (65 : Int) ≤ (t[m].toNat : Int) := by omega
             (refine Sg.h ?_;try repeat' ((with_reducible first|refine brA ?_|refine brE fun _=>?_|refine spl ⟨?_,?_⟩<;>intro _)<;> ((try simp -implicitDefEqProofs [hlt3,g1',g3',hne,h0]); (try simp -implicitDefEqProofs(disch:=first|assumption|(try simp only[lens]);omega -splitDisjunctions) [hlt3,g1',g3',hne,h0]))))
             all_goals first | omega | skip
          ·rw [if_neg hkm] at hR
           subst hR
           obtain rfl : m = k := by omega
           by_cases g1 : 97 ≤ t[m].toNat
           ·have g1' : (97 : Int) ≤ (t[m].toNat : Int) := by omega
            have g2' : ¬ (t[m].toNat : Int) ≤ 122 := by omega
            have g3 : (65 : Int) ≤ (t[m].toNat : Int) := by omega
            have g4 : ¬ (t[m].toNat : Int) ≤ 90 := by omega
            (refine Sg.h ?_;try repeat' ((with_reducible first|refine brA ?_|refine brE fun _=>?_|refine spl ⟨?_,?_⟩<;>intro _)<;> ((try simp -implicitDefEqProofs [hlt3,g1',g2',g3,g4]); (try simp -implicitDefEqProofs(disch:=first|assumption|(try simp only[lens]);omega -splitDisjunctions) [hlt3,g1',g2',g3,g4]))))
            all_goals first | omega | skip
           ·have g1' : ¬ (97 : Int) ≤ (t[m].toNat : Int) := by omega
            by_cases g3 : 65 ≤ t[m].toNat
            ·have g3' : (65 : Int) ≤ (t[m].toNat : Int) := by omega
             have g4 : ¬ (t[m].toNat : Int) ≤ 90 := by omega
             (refine Sg.h ?_;try repeat' ((with_reducible first|refine brA ?_|refine brE fun _=>?_|refine spl ⟨?_,?_⟩<;>intro _)<;> ((try simp -implicitDefEqProofs [hlt3,g1',g3',g4]); (try simp -implicitDefEqProofs(disch:=first|assumption|(try simp only[lens]);omega -splitDisjunctions) [hlt3,g1',g3',g4]))))
             all_goals first | omega | skip
            ·have g3' : ¬ (65 : Int) ≤ (t[m].toNat : Int) := by omega
             (refine Sg.h ?_;try repeat' ((with_reducible first|refine brA ?_|refine brE fun _=>?_|refine spl ⟨?_,?_⟩<;>intro _)<;> ((try simp -implicitDefEqProofs [hlt3,g1',g3']); (try simp -implicitDefEqProofs(disch:=first|assumption|(try simp only[lens]);omega -splitDisjunctions) [hlt3,g1',g3']))))
             all_goals first | omega | skip
       exact main3 _ k rfl (Nat.le_refl _) (by omega) rfl
      | succ r ih =>
       intro j hj hR
       have hjl : j < xsigns.length := by omega
       have hsz := hss _ (List.getElem_mem hjl)
       cases hh : hp t k xsigns[j] with
       | true =>
        rw [xsignF_yes hjl hh] at hR
        unfold hp at hh
        rw [decide_eq_true_eq] at hh
        generalize hw : xsigns[j] = w at *
        subst hR
        have hle : (k : Int) + (w.size : Int) ≤ (t.size : Int) := by omega
        have hto : ((k : Int) + (w.size : Int)).toNat = k + w.size := by omega
        apply hQ2
        clear hQ2 ih
        (refine Sg.h ?_;try repeat' ((with_reducible first|refine brA ?_|refine brE fun _=>?_|refine spl ⟨?_,?_⟩<;>intro _)<;> ((try simp -implicitDefEqProofs [hjl,hsl,hw,hle,hto,hh.1,hh.2]); (try simp -implicitDefEqProofs(disch:=first|assumption|(try simp only[lens]);omega -splitDisjunctions) [hjl,hsl,hw,hle,hto,hh.1,hh.2]))))
        all_goals first | omega | skip
       | false =>
        have ih := ih (j + 1) (by omega) (by rw [← xsignF_no hjl hh]; exact hR)
        unfold hp at hh
        rw [decide_eq_false_iff_not] at hh
        generalize hw : xsigns[j] = w at *
        apply hQ2
        clear hQ2
        by_cases hle0 : k + w.size ≤ t.size
        ·have hne : ¬ t.extract k (k + w.size) = w := fun h => hh ⟨hle0,h⟩
         have hle : (k : Int) + (w.size : Int) ≤ (t.size : Int) := by omega
         have hto : ((k : Int) + (w.size : Int)).toNat = k + w.size := by omega
         (refine Sg.h ?_;try repeat' ((with_reducible first|refine brA ?_|refine brE fun _=>?_|refine spl ⟨?_,?_⟩<;>intro _)<;> ((try simp -implicitDefEqProofs [hjl,hsl,hw,hle,hto,hle0,hne]); (try simp -implicitDefEqProofs(disch:=first|assumption|(try simp only[lens]);omega -splitDisjunctions) [hjl,hsl,hw,hle,hto,hle0,hne]))))
         all_goals first | exact ih | (refine at2 ih ?_ ?_ <;> simp; done) | (exfalso; first | omega | (simp_all; done) | (simp_all; omega))
        ·have hle : ¬ (k : Int) + (w.size : Int) ≤ (t.size : Int) := by omega
         (refine Sg.h ?_;try repeat' ((with_reducible first|refine brA ?_|refine brE fun _=>?_|refine spl ⟨?_,?_⟩<;>intro _)<;> ((try simp -implicitDefEqProofs [hjl,hsl,hw,hle]); (try simp -implicitDefEqProofs(disch:=first|assumption|(try simp only[lens]);omega -splitDisjunctions) [hjl,hsl,hw,hle]))))
         all_goals first | exact ih | (refine at2 ih ?_ ?_ <;> simp; done) | (exfalso; first | omega | (simp_all; done) | (simp_all; omega))
     exact main2 12 0 rfl hR
    apply hQ
    clear hQ
    (refine Sg.h ?_;try repeat' ((with_reducible first|refine brA ?_|refine brE fun _=>?_|refine spl ⟨?_,?_⟩<;>intro _)<;> ((try simp -implicitDefEqProofs [hlt]); (try simp -implicitDefEqProofs(disch:=first|assumption|(try simp only[lens]);omega -splitDisjunctions) [hlt]))))
    all_goals first | exact key | omega
 exact main _ i rfl hi rfl
end Go.Proofs.Ytcllmionhlmjfaa
