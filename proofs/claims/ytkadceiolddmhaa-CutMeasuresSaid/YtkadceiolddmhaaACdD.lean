import Derived.Test.YtkadceiolddmhaaACcU
set_option linter.unusedVariables false
set_option linter.unusedSimpArgs false
set_option maxRecDepth 100000
set_option maxHeartbeats 4000000
namespace Go.Proofs.Ytkadceiolddmhaa
open Go Go.Pv
noncomputable def codeF (u : Bool) (p : Pf) : Int := if (sequentF p.l p.r).1 ≠ 0 ∨ (u = true ∧ 1 < p.r.length) then 5 else stepF u p
def x89_L0 : XC := .seq (.seq (.reg [⟨some 114,.move (.tmp 11),none⟩,⟨some 115,.move (.tmp 8),none⟩,⟨some 116,.call ⟨.builtin .len,#[.tmp 115],#[192]⟩,none⟩,⟨some 117,.binOp .lss 3 (.tmp 114) (.tmp 116) 3,none⟩]) (.cond (.tmp 117) .skip (.exit 0))) (.seq (.block 1 (.seq (.drawn 24 [⟨some 120,.move (.tmp 8),none⟩,⟨some 121,.move (.tmp 11),none⟩,⟨some 122,.indexAddr 192 (.tmp 120) (.tmp 121),none⟩,⟨some 123,.fieldAddr 61 (.tmp 122) 0,none⟩,⟨some 124,.load 57 (.tmp 123),none⟩,⟨some 125,.fieldAddr 64 (.tmp 2) 3,none⟩,⟨some 126,.load 62 (.tmp 125),none⟩,⟨some 127,.move (.tmp 11),none⟩,⟨some 128,.indexAddr 62 (.tmp 126) (.tmp 127),none⟩,⟨some 129,.fieldAddr 64 (.tmp 128) 2,none⟩,⟨some 130,.fieldAddr 61 (.tmp 129) 0,none⟩,⟨some 131,.load 57 (.tmp 130),none⟩,⟨some 132,.call ⟨.value (.func 131),#[.tmp 124,.tmp 131],#[57,57]⟩,none⟩,⟨some 133,.unOp .not 4 (.tmp 132),none⟩,⟨some 134,.move (.tmp 133),none⟩,⟨some 135,.move (.tmp 8),some (some 134,false)⟩,⟨some 136,.move (.tmp 11),some (some 134,false)⟩,⟨some 137,.indexAddr 192 (.tmp 135) (.tmp 136),some (some 134,false)⟩,⟨some 138,.fieldAddr 61 (.tmp 137) 1,some (some 134,false)⟩,⟨some 139,.load 57 (.tmp 138),some (some 134,false)⟩,⟨some 140,.fieldAddr 64 (.tmp 2) 3,some (some 134,false)⟩,⟨some 141,.load 62 (.tmp 140),some (some 134,false)⟩,⟨some 142,.move (.tmp 11),some (some 134,false)⟩,⟨some 143,.indexAddr 62 (.tmp 141) (.tmp 142),some (some 134,false)⟩,⟨some 144,.fieldAddr 64 (.tmp 143) 2,some (some 134,false)⟩,⟨some 145,.fieldAddr 61 (.tmp 144) 1,some (some 134,false)⟩,⟨some 146,.load 57 (.tmp 145),some (some 134,false)⟩,⟨some 147,.call ⟨.value (.func 131),#[.tmp 139,.tmp 146],#[57,57]⟩,some (some 134,false)⟩,⟨some 148,.unOp .not 4 (.tmp 147),some (some 134,false)⟩,⟨some 149,.pick (.tmp 134) (.const (.bool true)) (.tmp 148),none⟩]) (.cond (.tmp 149) (.seq (.reg [⟨some 4,.assign (.const (.int .i64 7)),none⟩]) .ret) .skip))) (.reg [⟨some 118,.move (.tmp 11),none⟩,⟨some 119,.binOp .add 3 (.tmp 118) (.const (.int .i64 1)) 3,none⟩,⟨some 11,.assign (.tmp 119),none⟩]))
def x89 : XC := .seq (.reg [⟨some 2,.box 64 (.tmp 0),none⟩,⟨some 4,.assign (.const (.int .i64 0)),none⟩]) (.seq (.seq (.reg [⟨some 12,.fieldAddr 64 (.tmp 2) 2,none⟩,⟨some 13,.load 61 (.tmp 12),none⟩,⟨some 14,.call ⟨.value (.func 127),#[.tmp 13],#[61]⟩,none⟩,⟨some 15,.field 33 (.tmp 14) 0,none⟩,⟨some 16,.binOp .neq 3 (.tmp 15) (.const (.int .i64 0)) 3,none⟩,⟨some 17,.move (.tmp 16),none⟩,⟨some 18,.move (.tmp 1),some (some 17,false)⟩,⟨some 19,.move (.tmp 18),some (some 17,false)⟩,⟨some 20,.fieldAddr 64 (.tmp 2) 2,some (some 19,true)⟩,⟨some 21,.fieldAddr 61 (.tmp 20) 1,some (some 19,true)⟩,⟨some 22,.load 57 (.tmp 21),some (some 19,true)⟩,⟨some 23,.call ⟨.builtin .len,#[.tmp 22],#[57]⟩,some (some 19,true)⟩,⟨some 24,.binOp .gtr 3 (.tmp 23) (.const (.int .i64 1)) 3,some (some 19,true)⟩,⟨some 25,.pick (.tmp 19) (.tmp 24) (.const (.bool false)),some (some 17,false)⟩,⟨some 26,.pick (.tmp 17) (.const (.bool true)) (.tmp 25),none⟩]) (.cond (.tmp 26) (.seq (.reg [⟨some 4,.assign (.const (.int .i64 5)),none⟩]) .ret) .skip)) (.seq (.seq (.reg [⟨some 27,.fieldAddr 64 (.tmp 2) 0,none⟩,⟨some 28,.load 9 (.tmp 27),none⟩,⟨some 29,.binOp .eql 9 (.tmp 28) (.const (.string ⟨#[119,101,97,107]⟩)) 9,none⟩]) (.cond (.tmp 29) (.seq (.seq (.reg [⟨some 30,.fieldAddr 64 (.tmp 2) 1,none⟩,⟨some 31,.fieldAddr 59 (.tmp 30) 0,none⟩,⟨some 32,.load 3 (.tmp 31),none⟩,⟨some 33,.binOp .neq 3 (.tmp 32) (.const (.int .i64 0)) 3,none⟩,⟨some 34,.move (.tmp 33),none⟩,⟨some 35,.fieldAddr 64 (.tmp 2) 1,some (some 34,false)⟩,⟨some 36,.fieldAddr 59 (.tmp 35) 1,some (some 34,false)⟩,⟨some 37,.load 9 (.tmp 36),some (some 34,false)⟩,⟨some 38,.binOp .neq 9 (.tmp 37) (.const (.string ⟨#[]⟩)) 9,some (some 34,false)⟩,⟨some 39,.pick (.tmp 34) (.const (.bool true)) (.tmp 38),none⟩,⟨some 40,.move (.tmp 39),none⟩,⟨some 41,.fieldAddr 64 (.tmp 2) 1,some (some 40,false)⟩,⟨some 42,.fieldAddr 59 (.tmp 41) 2,some (some 40,false)⟩,⟨some 43,.load 57 (.tmp 42),some (some 40,false)⟩,⟨some 44,.call ⟨.builtin .len,#[.tmp 43],#[57]⟩,some (some 40,false)⟩,⟨some 45,.binOp .gtr 3 (.tmp 44) (.const (.int .i64 0)) 3,some (some 40,false)⟩,⟨some 46,.pick (.tmp 40) (.const (.bool true)) (.tmp 45),none⟩]) (.cond (.tmp 46) (.seq (.reg [⟨some 4,.assign (.const (.int .i64 5)),none⟩]) .ret) .skip)) (.seq (.seq (.reg [⟨some 47,.fieldAddr 64 (.tmp 2) 3,none⟩,⟨some 48,.load 62 (.tmp 47),none⟩,⟨some 49,.call ⟨.builtin .len,#[.tmp 48],#[62]⟩,none⟩,⟨some 50,.binOp .neq 3 (.tmp 49) (.const (.int .i64 1)) 3,none⟩]) (.cond (.tmp 50) (.seq (.reg [⟨some 4,.assign (.const (.int .i64 9)),none⟩]) .ret) .skip)) (.seq (.seq (.drawn 8 [⟨some 51,.fieldAddr 64 (.tmp 2) 3,none⟩,⟨some 52,.load 62 (.tmp 51),none⟩,⟨some 53,.indexAddr 62 (.tmp 52) (.const (.int .i64 0)),none⟩,⟨some 54,.fieldAddr 64 (.tmp 53) 2,none⟩,⟨some 55,.fieldAddr 61 (.tmp 54) 0,none⟩,⟨some 56,.load 57 (.tmp 55),none⟩,⟨some 57,.fieldAddr 64 (.tmp 2) 2,none⟩,⟨some 58,.fieldAddr 61 (.tmp 57) 0,none⟩,⟨some 59,.load 57 (.tmp 58),none⟩,⟨some 60,.call ⟨.value (.func 128),#[.tmp 56,.tmp 59],#[57,57]⟩,none⟩,⟨some 61,.unOp .not 4 (.tmp 60),none⟩,⟨some 62,.move (.tmp 61),none⟩,⟨some 63,.fieldAddr 64 (.tmp 2) 3,some (some 62,false)⟩,⟨some 64,.load 62 (.tmp 63),some (some 62,false)⟩,⟨some 65,.indexAddr 62 (.tmp 64) (.const (.int .i64 0)),some (some 62,false)⟩,⟨some 66,.fieldAddr 64 (.tmp 65) 2,some (some 62,false)⟩,⟨some 67,.fieldAddr 61 (.tmp 66) 1,some (some 62,false)⟩,⟨some 68,.load 57 (.tmp 67),some (some 62,false)⟩,⟨some 69,.fieldAddr 64 (.tmp 2) 2,some (some 62,false)⟩,⟨some 70,.fieldAddr 61 (.tmp 69) 1,some (some 62,false)⟩,⟨some 71,.load 57 (.tmp 70),some (some 62,false)⟩,⟨some 72,.call ⟨.value (.func 128),#[.tmp 68,.tmp 71],#[57,57]⟩,some (some 62,false)⟩,⟨some 73,.unOp .not 4 (.tmp 72),some (some 62,false)⟩,⟨some 74,.pick (.tmp 62) (.const (.bool true)) (.tmp 73),none⟩]) (.cond (.tmp 74) (.seq (.reg [⟨some 4,.assign (.const (.int .i64 7)),none⟩]) .ret) .skip)) (.seq (.reg [⟨some 4,.assign (.const (.int .i64 0)),none⟩]) .ret)))) .skip)) (.seq (.reg [⟨some 76,.fieldAddr 64 (.tmp 2) 0,none⟩,⟨some 77,.load 9 (.tmp 76),none⟩,⟨some 78,.build 59 #[],none⟩,⟨some 79,.fieldAddr 64 (.tmp 2) 2,none⟩,⟨some 80,.load 61 (.tmp 79),none⟩,⟨some 81,.move (.tmp 1),none⟩,⟨some 82,.call ⟨.value (.func 129),#[.tmp 77,.tmp 78,.tmp 80,.tmp 81],#[9,59,61,4]⟩,none⟩,⟨some 75,.move (.tmp 82),none⟩,⟨some 83,.extract (.tmp 75) 0,none⟩,⟨some 84,.extract (.tmp 75) 1,none⟩,⟨some 85,.extract (.tmp 75) 2,none⟩,⟨some 5,.assign (.tmp 83),none⟩,⟨some 6,.assign (.tmp 84),none⟩,⟨some 7,.assign (.tmp 85),none⟩]) (.seq (.seq (.reg [⟨some 86,.move (.tmp 6),none⟩,⟨some 87,.unOp .not 4 (.tmp 86),none⟩]) (.cond (.tmp 87) (.seq (.reg [⟨some 4,.assign (.const (.int .i64 4)),none⟩]) .ret) .skip)) (.seq (.seq (.reg [⟨some 88,.fieldAddr 64 (.tmp 2) 1,none⟩,⟨some 89,.load 59 (.tmp 88),none⟩,⟨some 90,.buildSlice 57 1 #[(0,.tmp 89)],none⟩,⟨some 91,.call ⟨.value (.func 130),#[.tmp 90],#[57]⟩,none⟩,⟨some 92,.field 33 (.tmp 91) 0,none⟩,⟨some 93,.binOp .neq 3 (.tmp 92) (.const (.int .i64 0)) 3,none⟩]) (.cond (.tmp 93) (.seq (.reg [⟨some 4,.assign (.const (.int .i64 5)),none⟩]) .ret) .skip)) (.seq (.reg [⟨some 95,.fieldAddr 64 (.tmp 2) 0,none⟩,⟨some 96,.load 9 (.tmp 95),none⟩,⟨some 97,.fieldAddr 64 (.tmp 2) 1,none⟩,⟨some 98,.load 59 (.tmp 97),none⟩,⟨some 99,.fieldAddr 64 (.tmp 2) 2,none⟩,⟨some 100,.load 61 (.tmp 99),none⟩,⟨some 101,.move (.tmp 1),none⟩,⟨some 102,.call ⟨.value (.func 129),#[.tmp 96,.tmp 98,.tmp 100,.tmp 101],#[9,59,61,4]⟩,none⟩,⟨some 94,.move (.tmp 102),none⟩,⟨some 103,.extract (.tmp 94) 0,none⟩,⟨some 104,.extract (.tmp 94) 1,none⟩,⟨some 105,.extract (.tmp 94) 2,none⟩,⟨some 8,.assign (.tmp 103),none⟩,⟨some 9,.assign (.tmp 104),none⟩,⟨some 10,.assign (.tmp 105),none⟩]) (.seq (.seq (.reg [⟨some 106,.move (.tmp 10),none⟩,⟨some 107,.unOp .not 4 (.tmp 106),none⟩]) (.cond (.tmp 107) (.seq (.reg [⟨some 4,.assign (.const (.int .i64 7)),none⟩]) .ret) .skip)) (.seq (.seq (.reg [⟨some 108,.fieldAddr 64 (.tmp 2) 3,none⟩,⟨some 109,.load 62 (.tmp 108),none⟩,⟨some 110,.call ⟨.builtin .len,#[.tmp 109],#[62]⟩,none⟩,⟨some 111,.move (.tmp 8),none⟩,⟨some 112,.call ⟨.builtin .len,#[.tmp 111],#[192]⟩,none⟩,⟨some 113,.binOp .neq 3 (.tmp 110) (.tmp 112) 3,none⟩]) (.cond (.tmp 113) (.seq (.reg [⟨some 4,.assign (.const (.int .i64 9)),none⟩]) .ret) .skip)) (.seq (.seq (.reg [⟨some 11,.assign (.const (.int .i64 0)),none⟩]) (.bloop 0 x89_L0)) (.seq (.reg [⟨some 4,.assign (.const (.int .i64 0)),none⟩]) .ret))))))))))
@[simp] theorem x89_s {C e s K} : type_of% (@X_at C e s K _ _ x89_L0.eq_1) ∧ type_of% (@X_at C e s K _ _ x89.eq_1) := ⟨X_at x89_L0.eq_1, X_at x89.eq_1⟩
def an89 : Ann := ⟨[(8, .mix 21), (24, .mix 27)], [(0, [], [2, 8, 11], [4])], []⟩
@[simp] theorem an89_a : an89.clsOf 8 = .mix 21 ∧ an89.clsOf 24 = .mix 27 ∧ an89.frzOf 8 = [] ∧ an89.frzOf 24 = [] ∧ an89.loopOf 0 = ([], [2, 8, 11], [4]) := ⟨rfl, rfl, rfl, rfl, rfl⟩
theorem fi89 : FI Try.prog 89 (cxA an89) x89 [.tmp 4] Try.f89 := fiA Try.func89 mixed
theorem stepCode_weak (u : Bool) (p : Pf) (hp : Sz p) (hk : ∀ k ∈ p.kids, Sz k) (h0 : (sequentF p.l p.r).1 = 0) (h1 : u = false ∨ (u = true ∧ ¬ (1 : Int) < (p.r.length : Int))) (hw : p.rule = ⟨#[119, 101, 97, 107]⟩) : CallOK Try.prog 89 [.agg (prf p), .bool u] [] (.int .i64 (stepF u p)) [] := by
 have hp1 := hp.l
 have hp2 := hp.r
 have hs := SequentFault_ref p.l p.r (by omega) (by omega)
 generalize hV : stepF u p = V
 unfold stepF at hV
 rw [if_pos hw] at hV
 generalize sequentF p.l p.r = W at *
 refine fi89.op ?_
 cases hn : noneF p.f with
 | false =>
  rw [if_pos hn] at hV
  unfold noneF at hn
  simp only [Bool.and_eq_false_iff, decide_eq_false_iff_not] at hn
  subst hV
  by_cases e1 : p.f.kind = 0
  ·by_cases e2 : p.f.name = ⟨#[]⟩
   ·have e3 : (0 : Int) < (p.f.kids.length : Int) := by
     rcases hn with (h | h) | h
     ·exact absurd e1 h
     ·exact absurd e2 h
     ·omega
    rcases h1 with rfl | ⟨rfl, h1⟩
    ·((refine Sg.h ?_); try repeat' ((first | (with_reducible first | refine brA ?_ | refine brE fun _ => ?_ | (refine spl ⟨?_, ?_⟩ <;> intro _)) | refine clo hs ?_) <;> ((try simp -implicitDefEqProofs [h0, hw, e1, e2, e3]); (try simp -implicitDefEqProofs (disch := first | assumption | (try simp only [lens]); omega -splitDisjunctions) [h0, hw, e1, e2, e3]))))
    ·((refine Sg.h ?_); try repeat' ((first | (with_reducible first | refine brA ?_ | refine brE fun _ => ?_ | (refine spl ⟨?_, ?_⟩ <;> intro _)) | refine clo hs ?_) <;> ((try simp -implicitDefEqProofs [h0, h1, hw, e1, e2, e3]); (try simp -implicitDefEqProofs (disch := first | assumption | (try simp only [lens]); omega -splitDisjunctions) [h0, h1, hw, e1, e2, e3]))))
   ·rcases h1 with rfl | ⟨rfl, h1⟩
    ·((refine Sg.h ?_); try repeat' ((first | (with_reducible first | refine brA ?_ | refine brE fun _ => ?_ | (refine spl ⟨?_, ?_⟩ <;> intro _)) | refine clo hs ?_) <;> ((try simp -implicitDefEqProofs [h0, hw, e1, e2]); (try simp -implicitDefEqProofs (disch := first | assumption | (try simp only [lens]); omega -splitDisjunctions) [h0, hw, e1, e2]))))
    ·((refine Sg.h ?_); try repeat' ((first | (with_reducible first | refine brA ?_ | refine brE fun _ => ?_ | (refine spl ⟨?_, ?_⟩ <;> intro _)) | refine clo hs ?_) <;> ((try simp -implicitDefEqProofs [h0, h1, hw, e1, e2]); (try simp -implicitDefEqProofs (disch := first | assumption | (try simp only [lens]); omega -splitDisjunctions) [h0, h1, hw, e1, e2]))))
  ·rcases h1 with rfl | ⟨rfl, h1⟩
   ·((refine Sg.h ?_); try repeat' ((first | (with_reducible first | refine brA ?_ | refine brE fun _ => ?_ | (refine spl ⟨?_, ?_⟩ <;> intro _)) | refine clo hs ?_) <;> ((try simp -implicitDefEqProofs [h0, hw, e1]); (try simp -implicitDefEqProofs (disch := first | assumption | (try simp only [lens]); omega -splitDisjunctions) [h0, hw, e1]))))
   ·((refine Sg.h ?_); try repeat' ((first | (with_reducible first | refine brA ?_ | refine brE fun _ => ?_ | (refine spl ⟨?_, ?_⟩ <;> intro _)) | refine clo hs ?_) <;> ((try simp -implicitDefEqProofs [h0, h1, hw, e1]); (try simp -implicitDefEqProofs (disch := first | assumption | (try simp only [lens]); omega -splitDisjunctions) [h0, h1, hw, e1]))))
 | true =>
  rw [if_neg (by rw [hn]; simp)] at hV
  unfold noneF at hn
  simp only [Bool.and_eq_true, decide_eq_true_eq] at hn
  obtain ⟨⟨e1, e2⟩, e3⟩ := hn
  have e3i : ¬ (0 : Int) < (p.f.kids.length : Int) := by omega
  by_cases hl : p.kids.length = 1
  ·obtain ⟨k, hks⟩ : ∃ k, p.kids = [k] := List.length_eq_one_iff.1 hl
   have hk := hk k (by simp [hks])
   have hk1 := hk.l
   have hk2 := hk.r
   have w1 := NoMore_ref k.l p.l (by omega) (by omega)
   have w2 := NoMore_ref k.r p.r (by omega) (by omega)
   rw [hks] at hV
   dsimp only at hV
   cases b1 : withinF k.l p.l <;> rw [b1] at w1 hV
   ·rw [if_neg (by simp)] at hV
    subst hV
    rcases h1 with rfl | ⟨rfl, h1⟩
    ·((refine Sg.h ?_); try repeat' ((first | (with_reducible first | refine brA ?_ | refine brE fun _ => ?_ | (refine spl ⟨?_, ?_⟩ <;> intro _)) | refine clo hs ?_ | refine clo w1 ?_) <;> ((try simp -implicitDefEqProofs [h0, hw, e1, e2, e3i, hks]); (try simp -implicitDefEqProofs (disch := first | assumption | (try simp only [lens]); omega -splitDisjunctions) [h0, hw, e1, e2, e3i, hks]))))
    ·((refine Sg.h ?_); try repeat' ((first | (with_reducible first | refine brA ?_ | refine brE fun _ => ?_ | (refine spl ⟨?_, ?_⟩ <;> intro _)) | refine clo hs ?_ | refine clo w1 ?_) <;> ((try simp -implicitDefEqProofs [h0, h1, hw, e1, e2, e3i, hks]); (try simp -implicitDefEqProofs (disch := first | assumption | (try simp only [lens]); omega -splitDisjunctions) [h0, h1, hw, e1, e2, e3i, hks]))))
   ·cases b2 : withinF k.r p.r <;> rw [b2] at w2 hV
    ·rw [if_neg (by simp)] at hV
     subst hV
     rcases h1 with rfl | ⟨rfl, h1⟩
     ·((refine Sg.h ?_); try repeat' ((first | (with_reducible first | refine brA ?_ | refine brE fun _ => ?_ | (refine spl ⟨?_, ?_⟩ <;> intro _)) | refine clo hs ?_ | refine clo w1 ?_ | refine clo w2 ?_) <;> ((try simp -implicitDefEqProofs [h0, hw, e1, e2, e3i, hks]); (try simp -implicitDefEqProofs (disch := first | assumption | (try simp only [lens]); omega -splitDisjunctions) [h0, hw, e1, e2, e3i, hks]))))
     ·((refine Sg.h ?_); try repeat' ((first | (with_reducible first | refine brA ?_ | refine brE fun _ => ?_ | (refine spl ⟨?_, ?_⟩ <;> intro _)) | refine clo hs ?_ | refine clo w1 ?_ | refine clo w2 ?_) <;> ((try simp -implicitDefEqProofs [h0, h1, hw, e1, e2, e3i, hks]); (try simp -implicitDefEqProofs (disch := first | assumption | (try simp only [lens]); omega -splitDisjunctions) [h0, h1, hw, e1, e2, e3i, hks]))))
    ·rw [if_pos (by simp)] at hV
     subst hV
     rcases h1 with rfl | ⟨rfl, h1⟩
     ·((refine Sg.h ?_); try repeat' ((first | (with_reducible first | refine brA ?_ | refine brE fun _ => ?_ | (refine spl ⟨?_, ?_⟩ <;> intro _)) | refine clo hs ?_ | refine clo w1 ?_ | refine clo w2 ?_) <;> ((try simp -implicitDefEqProofs [h0, hw, e1, e2, e3i, hks]); (try simp -implicitDefEqProofs (disch := first | assumption | (try simp only [lens]); omega -splitDisjunctions) [h0, hw, e1, e2, e3i, hks]))))
     ·((refine Sg.h ?_); try repeat' ((first | (with_reducible first | refine brA ?_ | refine brE fun _ => ?_ | (refine spl ⟨?_, ?_⟩ <;> intro _)) | refine clo hs ?_ | refine clo w1 ?_ | refine clo w2 ?_) <;> ((try simp -implicitDefEqProofs [h0, h1, hw, e1, e2, e3i, hks]); (try simp -implicitDefEqProofs (disch := first | assumption | (try simp only [lens]); omega -splitDisjunctions) [h0, h1, hw, e1, e2, e3i, hks]))))
  ·have hli : ¬ (p.kids.length : Int) = 1 := by omega
   have he : V = 9 := by
    rw [← hV]
    split
    ·rename_i hks; rw [hks] at hl; simp at hl
    ·rfl
   subst he
   rcases h1 with rfl | ⟨rfl, h1⟩
   ·((refine Sg.h ?_); try repeat' ((first | (with_reducible first | refine brA ?_ | refine brE fun _ => ?_ | (refine spl ⟨?_, ?_⟩ <;> intro _)) | refine clo hs ?_) <;> ((try simp -implicitDefEqProofs [h0, hw, e1, e2, e3i, hli]); (try simp -implicitDefEqProofs (disch := first | assumption | (try simp only [lens]); omega -splitDisjunctions) [h0, hw, e1, e2, e3i, hli]))))
   ·((refine Sg.h ?_); try repeat' ((first | (with_reducible first | refine brA ?_ | refine brE fun _ => ?_ | (refine spl ⟨?_, ?_⟩ <;> intro _)) | refine clo hs ?_) <;> ((try simp -implicitDefEqProofs [h0, h1, hw, e1, e2, e3i, hli]); (try simp -implicitDefEqProofs (disch := first | assumption | (try simp only [lens]); omega -splitDisjunctions) [h0, h1, hw, e1, e2, e3i, hli]))))
theorem stepCode_rule (u : Bool) (p : Pf) (hp : Sz p) (hk : ∀ k ∈ p.kids, Sz k) (h0 : (sequentF p.l p.r).1 = 0) (h1 : u = false ∨ (u = true ∧ ¬ (1 : Int) < (p.r.length : Int))) (hw : ¬ p.rule = ⟨#[119, 101, 97, 107]⟩) : CallOK Try.prog 89 [.agg (prf p), .bool u] [] (.int .i64 (stepF u p)) [] := by
 have hp1 := hp.l
 have hp2 := hp.r
 have hs := SequentFault_ref p.l p.r (by omega) (by omega)
 have hz := callOK_softA (args := [.str p.rule, .agg [.int .i64 0, .str ⟨#[]⟩, .nilsl], .agg [.list (p.l.map frm), .list (p.r.map frm)], .bool u]) (premises_ref u p.rule zF p.l p.r (by omega) (by omega) (by simp [zF])) (by
  rw [frm_eq]
  exact .cons .refl (.cons (.agg (.cons .refl (.cons .refl (.cons .nil .nil)))) (.cons .refl (.cons .refl .nil))))
 rw [prem_is] at hz
 generalize (premM u p.rule zF p.l p.r (zF.kids.headD zF) (zF.kids.getLastD zF)) = Z at hz
 have hpl := PlainFault_ref [p.f] (by simp)
 rw [plainL_one] at hpl
 generalize hV : stepF u p = V
 unfold stepF at hV
 rw [if_neg hw] at hV
 generalize sequentF p.l p.r = S0 at *
 refine fi89.op ?_
 cases hR : ruleT u p.rule with
 | none =>
  rw [hR] at hz hV
  subst hV
  rcases h1 with rfl | ⟨rfl, h1⟩
  ·((refine Sg.h ?_); try repeat' ((first | (with_reducible first | refine brA ?_ | refine brE fun _ => ?_ | (refine spl ⟨?_, ?_⟩ <;> intro _)) | refine clo hs ?_ | refine clo hz ?_) <;> ((try simp -implicitDefEqProofs [h0, hw]); (try simp -implicitDefEqProofs (disch := first | assumption | (try simp only [lens]); omega -splitDisjunctions) [h0, hw]))))
  ·((refine Sg.h ?_); try repeat' ((first | (with_reducible first | refine brA ?_ | refine brE fun _ => ?_ | (refine spl ⟨?_, ?_⟩ <;> intro _)) | refine clo hs ?_ | refine clo hz ?_) <;> ((try simp -implicitDefEqProofs [h0, h1, hw]); (try simp -implicitDefEqProofs (disch := first | assumption | (try simp only [lens]); omega -splitDisjunctions) [h0, h1, hw]))))
 | some e =>
  rw [hR] at hz hV
  dsimp only [Option.isSome_some] at hz hV
  by_cases h5 : (plainF p.f).1 = 0
  ·rw [if_neg (by simpa using h5)] at hV
   have hA := Ar.of_plain h5
   have hkl : p.f.kids.length ≤ 2 := by
    rcases ((plainF_iff p.f).1 h5).1.seven with ⟨nm, _, h⟩ | h | h | ⟨a, _, h⟩ | ⟨a, b, _, _, h⟩ | ⟨a, b, _, _, h⟩ | ⟨a, b, _, _, h⟩ <;> rw [h] <;> simp
   have hq := premises_ref u p.rule p.f p.l p.r (by omega) (by omega) hkl
   obtain ⟨m1, m2⟩ := prem_rule hR p.f hA p.l p.r
   have hlen := ent_len hR p.f hA p.l p.r
   rw [m1] at hq
   generalize (premM u p.rule p.f p.l p.r (p.f.kids.headD zF) (p.f.kids.getLastD zF)) = M at *
   generalize e.R p.f p.l p.r = E at *
   obtain ⟨ps, b⟩ := E
   dsimp only at m1 m2 hlen hq hV
   generalize plainF p.f = P at *
   cases b with
   | false =>
    rw [if_pos rfl] at hV
    subst hV
    rcases h1 with rfl | ⟨rfl, h1⟩
    ·((refine Sg.h ?_); try repeat' ((first | (with_reducible first | refine brA ?_ | refine brE fun _ => ?_ | (refine spl ⟨?_, ?_⟩ <;> intro _)) | refine clo hs ?_ | refine clo hz ?_) <;> ((try simp -implicitDefEqProofs [h0, hw]); (try simp -implicitDefEqProofs (disch := first | assumption | (try simp only [lens]); omega -splitDisjunctions) [h0, hw]))))
     refine CL.giv [1] ?_
     ((refine Sg.h ?_); try repeat' ((first | (with_reducible first | refine brA ?_ | refine brE fun _ => ?_ | (refine spl ⟨?_, ?_⟩ <;> intro _)) | refine clo hpl ?_ | refine clo hq ?_) <;> ((try simp -implicitDefEqProofs [h5]); (try simp -implicitDefEqProofs (disch := first | assumption | (try simp only [lens]); omega -splitDisjunctions) [h5]))))
    ·((refine Sg.h ?_); try repeat' ((first | (with_reducible first | refine brA ?_ | refine brE fun _ => ?_ | (refine spl ⟨?_, ?_⟩ <;> intro _)) | refine clo hs ?_ | refine clo hz ?_) <;> ((try simp -implicitDefEqProofs [h0, h1, hw]); (try simp -implicitDefEqProofs (disch := first | assumption | (try simp only [lens]); omega -splitDisjunctions) [h0, h1, hw]))))
     refine CL.giv [1] ?_
     ((refine Sg.h ?_); try repeat' ((first | (with_reducible first | refine brA ?_ | refine brE fun _ => ?_ | (refine spl ⟨?_, ?_⟩ <;> intro _)) | refine clo hpl ?_ | refine clo hq ?_) <;> ((try simp -implicitDefEqProofs [h5]); (try simp -implicitDefEqProofs (disch := first | assumption | (try simp only [lens]); omega -splitDisjunctions) [h5]))))
   | true =>
    rw [if_neg (by simp)] at hV
    rw [m2 rfl] at hq
    have row : premRow = fun q => [.list (q.1.map frm), .list (q.2.map frm)] := rfl
    by_cases h9 : p.kids.length = ps.length
    ·rw [if_neg (by simpa using h9)] at hV
     have h9i : (p.kids.length : Int) = (ps.length : Int) := by omega
     have main : W ((cxA an89) Try.prog 0) 0 x89_L0 (KS.seq ((XC.reg [⟨some 4, .assign (.const (.int .i64 0)), none⟩]).seq XC.ret) (KS.fin [.tmp 4] fun v1 s1 => deref s1 6 v1 = .int .i64 V)) [(2, .ptr 0 0 0), (8, .list (ps.map premRow)), (11, .int .i64 0)] [.rows 7 [prf p]] := by
      clear hs hz hpl hq
      refine W_of fun Q hQ => ?_
      have key : ∀ n i, i + n = p.kids.length → (if meetB (ps.drop i) (p.kids.drop i) = true then (0 : Int) else 7) = V → Q [(2, .ptr 0 0 0), (8, .list (ps.map premRow)), (11, .int .i64 (i : Int))] [.rows 7 [prf p]] := by
       intro n
       induction n with
       | zero =>
        intro i hi he
        rw [List.drop_of_length_le (show p.kids.length ≤ i by omega), List.drop_of_length_le (show ps.length ≤ i by omega), meetB, if_pos rfl] at he
        ·have hii : ¬ (i : Int) < (ps.length : Int) := by omega
         apply hQ
         clear hQ
         subst he
         ((refine Sg.h ?_); try repeat' ((first | (with_reducible first | refine brA ?_ | refine brE fun _ => ?_ | (refine spl ⟨?_, ?_⟩ <;> intro _))) <;> ((try simp -implicitDefEqProofs [hii]); (try simp -implicitDefEqProofs (disch := first | assumption | (try simp only [lens]); omega -splitDisjunctions) [hii]))))
        ·simp
       | succ n ih =>
        intro i hi he
        have hil : i < p.kids.length := by omega
        have hip : i < ps.length := by omega
        have ih := ih (i + 1) (by omega)
        rw [List.drop_eq_getElem_cons hil, List.drop_eq_getElem_cons hip, meetB] at he
        have hl2 := hlen _ (List.getElem_mem hip)
        have hz := hk _ (List.getElem_mem hil)
        have hz1 := hz.l
        have hz2 := hz.r
        have s1 := Bag_ref ps[i].1 p.kids[i].l (by omega) (by omega)
        have s2 := Bag_ref ps[i].2 p.kids[i].r (by omega) (by omega)
        apply hQ
        clear hQ
        cases b1 : sameF ps[i].1 p.kids[i].l with
        | false =>
         rw [b1] at s1 he
         rw [Bool.false_and, Bool.false_and, if_neg (by simp)] at he
         subst he
         ((refine Sg.h ?_); try repeat' ((first | (with_reducible first | refine brA ?_ | refine brE fun _ => ?_ | (refine spl ⟨?_, ?_⟩ <;> intro _)) | refine clo s1 ?_) <;> ((try simp -implicitDefEqProofs [hil, hip, row]); (try simp -implicitDefEqProofs (disch := first | assumption | (try simp only [lens]); omega -splitDisjunctions) [hil, hip, row]))))
        | true =>
         rw [b1] at s1 he
         cases b2 : sameF ps[i].2 p.kids[i].r with
         | false =>
          rw [b2] at s2 he
          rw [Bool.true_and, Bool.false_and, if_neg (by simp)] at he
          subst he
          ((refine Sg.h ?_); try repeat' ((first | (with_reducible first | refine brA ?_ | refine brE fun _ => ?_ | (refine spl ⟨?_, ?_⟩ <;> intro _)) | refine clo s1 ?_ | refine clo s2 ?_) <;> ((try simp -implicitDefEqProofs [hil, hip, row]); (try simp -implicitDefEqProofs (disch := first | assumption | (try simp only [lens]); omega -splitDisjunctions) [hil, hip, row]))))
         | true =>
          rw [b2] at s2 he
          rw [Bool.true_and, Bool.true_and] at he
          have ih := ih he
          ((refine Sg.h ?_); try repeat' ((first | (with_reducible first | refine brA ?_ | refine brE fun _ => ?_ | (refine spl ⟨?_, ?_⟩ <;> intro _)) | refine clo s1 ?_ | refine clo s2 ?_) <;> ((try simp -implicitDefEqProofs [hil, hip, row]); (try simp -implicitDefEqProofs (disch := first | assumption | (try simp only [lens]); omega -splitDisjunctions) [hil, hip, row]))))
          all_goals first | exact ih | (refine at2 ih ?_ ?_ <;> simp; done) | (exfalso; first | omega | (simp_all; done) | (simp_all; omega))
      have m0 := key _ 0 (Nat.zero_add _) (by simpa using hV)
      all_goals first | exact m0 | (refine at2 m0 ?_ ?_ <;> simp; done) | (exfalso; first | omega | (simp_all; done) | (simp_all; omega))
     rcases h1 with rfl | ⟨rfl, h1⟩
     ·((refine Sg.h ?_); try repeat' ((first | (with_reducible first | refine brA ?_ | refine brE fun _ => ?_ | (refine spl ⟨?_, ?_⟩ <;> intro _)) | refine clo hs ?_ | refine clo hz ?_) <;> ((try simp -implicitDefEqProofs [h0, hw]); (try simp -implicitDefEqProofs (disch := first | assumption | (try simp only [lens]); omega -splitDisjunctions) [h0, hw]))))
      refine CL.giv [1] ?_
      ((refine Sg.h ?_); try repeat' ((first | (with_reducible first | refine brA ?_ | refine brE fun _ => ?_ | (refine spl ⟨?_, ?_⟩ <;> intro _)) | refine clo hpl ?_ | refine clo hq ?_) <;> ((try simp -implicitDefEqProofs [h5, h9i]); (try simp -implicitDefEqProofs (disch := first | assumption | (try simp only [lens]); omega -splitDisjunctions) [h5, h9i]))))
      all_goals exact main
     ·((refine Sg.h ?_); try repeat' ((first | (with_reducible first | refine brA ?_ | refine brE fun _ => ?_ | (refine spl ⟨?_, ?_⟩ <;> intro _)) | refine clo hs ?_ | refine clo hz ?_) <;> ((try simp -implicitDefEqProofs [h0, h1, hw]); (try simp -implicitDefEqProofs (disch := first | assumption | (try simp only [lens]); omega -splitDisjunctions) [h0, h1, hw]))))
      refine CL.giv [1] ?_
      ((refine Sg.h ?_); try repeat' ((first | (with_reducible first | refine brA ?_ | refine brE fun _ => ?_ | (refine spl ⟨?_, ?_⟩ <;> intro _)) | refine clo hpl ?_ | refine clo hq ?_) <;> ((try simp -implicitDefEqProofs [h5, h9i]); (try simp -implicitDefEqProofs (disch := first | assumption | (try simp only [lens]); omega -splitDisjunctions) [h5, h9i]))))
      all_goals exact main
    ·rw [if_pos h9] at hV
     have h9i : ¬ (p.kids.length : Int) = (ps.length : Int) := by omega
     subst hV
     rcases h1 with rfl | ⟨rfl, h1⟩
     ·((refine Sg.h ?_); try repeat' ((first | (with_reducible first | refine brA ?_ | refine brE fun _ => ?_ | (refine spl ⟨?_, ?_⟩ <;> intro _)) | refine clo hs ?_ | refine clo hz ?_) <;> ((try simp -implicitDefEqProofs [h0, hw]); (try simp -implicitDefEqProofs (disch := first | assumption | (try simp only [lens]); omega -splitDisjunctions) [h0, hw]))))
      refine CL.giv [1] ?_
      ((refine Sg.h ?_); try repeat' ((first | (with_reducible first | refine brA ?_ | refine brE fun _ => ?_ | (refine spl ⟨?_, ?_⟩ <;> intro _)) | refine clo hpl ?_ | refine clo hq ?_) <;> ((try simp -implicitDefEqProofs [h5, h9i]); (try simp -implicitDefEqProofs (disch := first | assumption | (try simp only [lens]); omega -splitDisjunctions) [h5, h9i]))))
     ·((refine Sg.h ?_); try repeat' ((first | (with_reducible first | refine brA ?_ | refine brE fun _ => ?_ | (refine spl ⟨?_, ?_⟩ <;> intro _)) | refine clo hs ?_ | refine clo hz ?_) <;> ((try simp -implicitDefEqProofs [h0, h1, hw]); (try simp -implicitDefEqProofs (disch := first | assumption | (try simp only [lens]); omega -splitDisjunctions) [h0, h1, hw]))))
      refine CL.giv [1] ?_
      ((refine Sg.h ?_); try repeat' ((first | (with_reducible first | refine brA ?_ | refine brE fun _ => ?_ | (refine spl ⟨?_, ?_⟩ <;> intro _)) | refine clo hpl ?_ | refine clo hq ?_) <;> ((try simp -implicitDefEqProofs [h5, h9i]); (try simp -implicitDefEqProofs (disch := first | assumption | (try simp only [lens]); omega -splitDisjunctions) [h5, h9i]))))
  ·rw [if_pos (by simpa using h5)] at hV
   subst hV
   generalize plainF p.f = P at *
   rcases h1 with rfl | ⟨rfl, h1⟩
   ·((refine Sg.h ?_); try repeat' ((first | (with_reducible first | refine brA ?_ | refine brE fun _ => ?_ | (refine spl ⟨?_, ?_⟩ <;> intro _)) | refine clo hs ?_ | refine clo hz ?_) <;> ((try simp -implicitDefEqProofs [h0, hw]); (try simp -implicitDefEqProofs (disch := first | assumption | (try simp only [lens]); omega -splitDisjunctions) [h0, hw]))))
    refine CL.giv [1] ?_
    ((refine Sg.h ?_); try repeat' ((first | (with_reducible first | refine brA ?_ | refine brE fun _ => ?_ | (refine spl ⟨?_, ?_⟩ <;> intro _)) | refine clo hpl ?_) <;> ((try simp -implicitDefEqProofs [h5]); (try simp -implicitDefEqProofs (disch := first | assumption | (try simp only [lens]); omega -splitDisjunctions) [h5]))))
   ·((refine Sg.h ?_); try repeat' ((first | (with_reducible first | refine brA ?_ | refine brE fun _ => ?_ | (refine spl ⟨?_, ?_⟩ <;> intro _)) | refine clo hs ?_ | refine clo hz ?_) <;> ((try simp -implicitDefEqProofs [h0, h1, hw]); (try simp -implicitDefEqProofs (disch := first | assumption | (try simp only [lens]); omega -splitDisjunctions) [h0, h1, hw]))))
    refine CL.giv [1] ?_
    ((refine Sg.h ?_); try repeat' ((first | (with_reducible first | refine brA ?_ | refine brE fun _ => ?_ | (refine spl ⟨?_, ?_⟩ <;> intro _)) | refine clo hpl ?_) <;> ((try simp -implicitDefEqProofs [h5]); (try simp -implicitDefEqProofs (disch := first | assumption | (try simp only [lens]); omega -splitDisjunctions) [h5]))))
theorem stepCode_ref (u : Bool) (p : Pf) (hp : Sz p) (hk : ∀ k ∈ p.kids, Sz k) : CallOK Try.prog 89 [.agg (prf p), .bool u] [] (.int .i64 (codeF u p)) [] := by
 unfold codeF
 by_cases h0 : (sequentF p.l p.r).1 = 0
 ·by_cases h4 : u = true ∧ 1 < p.r.length
  ·rw [if_pos (.inr h4)]
   obtain ⟨rfl, h4⟩ := h4
   have hp1 := hp.l
   have hp2 := hp.r
   have hs := SequentFault_ref p.l p.r (by omega) (by omega)
   have h4i : (1 : Int) < (p.r.length : Int) := by omega
   generalize sequentF p.l p.r = S0 at *
   refine fi89.op ?_
   ((refine Sg.h ?_); try repeat' ((first | (with_reducible first | refine brA ?_ | refine brE fun _ => ?_ | (refine spl ⟨?_, ?_⟩ <;> intro _)) | refine clo hs ?_) <;> ((try simp -implicitDefEqProofs [h0, h4i]); (try simp -implicitDefEqProofs (disch := first | assumption | (try simp only [lens]); omega -splitDisjunctions) [h0, h4i]))))
  ·rw [if_neg (by rintro (h | h); exact h h0; exact h4 h)]
   have h1 : u = false ∨ (u = true ∧ ¬ (1 : Int) < (p.r.length : Int)) := by
    cases u with
    | false => exact .inl rfl
    | true => exact .inr ⟨rfl, fun h => h4 ⟨rfl, by omega⟩⟩
   by_cases hw : p.rule = ⟨#[119, 101, 97, 107]⟩
   ·exact stepCode_weak u p hp hk h0 h1 hw
   ·exact stepCode_rule u p hp hk h0 h1 hw
 ·rw [if_pos (.inl h0)]
  have hp1 := hp.l
  have hp2 := hp.r
  have hs := SequentFault_ref p.l p.r (by omega) (by omega)
  generalize sequentF p.l p.r = S0 at *
  refine fi89.op ?_
  ((refine Sg.h ?_); try repeat' ((first | (with_reducible first | refine brA ?_ | refine brE fun _ => ?_ | (refine spl ⟨?_, ?_⟩ <;> intro _)) | refine clo hs ?_) <;> ((try simp -implicitDefEqProofs [h0]); (try simp -implicitDefEqProofs (disch := first | assumption | (try simp only [lens]); omega -splitDisjunctions) [h0]))))
end Go.Proofs.Ytkadceiolddmhaa
