import Derived.Test.YtnoklmapofogeaaUTPa
import Derived.Test.YtnoklmapofogeaaUPvQt
import Derived.Test.YtnoklmapofogeaaUFormA
set_option linter.unusedVariables false
set_option linter.unusedSimpArgs false
set_option maxRecDepth 100000
set_option maxHeartbeats 4000000
namespace Go.Proofs.Ytnoklmapofogeaa
open Go Go.Pv
def x38 : XC := .seq (.reg [⟨some 4,.alloc 33,none⟩]) (.seq (.reg [⟨some 5,.move (.tmp 0),none⟩,⟨some 6,.move (.tmp 1),none⟩,⟨some 7,.build 33 #[(0,.tmp 5),(1,.tmp 6)],none⟩,⟨none,.store 33 (.tmp 4) (.tmp 7),none⟩]) .ret)
@[simp] theorem x38_s {C e s K} : type_of% (@X_at C e s K _ _ x38.eq_1) := X_at x38.eq_1
def an38 : Ann := ⟨[], [], []⟩
theorem fi38 : FI Try.prog 38 (cxA an38) x38 [.cell 4 33] Try.f38 := fiA Try.func38 mixed
theorem F_ref (a b : Int) : CallOK Try.prog 38 [.int .i64 a, .int .i64 b] [] (.agg [.int .i64 a, .int .i64 b]) [] := by
 refine fi38.op ?_
 ((refine Sg.h ?_); try repeat' ((first | (with_reducible first | refine brA ?_ | refine brE fun _ => ?_ | (refine spl ⟨?_, ?_⟩ <;> intro _))) <;> (try simp -implicitDefEqProofs (disch := first | assumption | (try simp only [lens]); omega -splitDisjunctions))))
def x79 : XC := .seq (.reg [⟨some 2,.assign (.const (.int .i64 0)),none⟩]) (.seq (.seq (.reg [⟨some 3,.move (.tmp 0),none⟩,⟨some 4,.binOp .lss 3 (.tmp 3) (.const (.int .i64 1)) 3,none⟩,⟨some 5,.move (.tmp 4),none⟩,⟨some 6,.move (.tmp 0),some (some 5,false)⟩,⟨some 7,.binOp .gtr 3 (.tmp 6) (.const (.int .i64 9)) 3,some (some 5,false)⟩,⟨some 8,.pick (.tmp 5) (.const (.bool true)) (.tmp 7),none⟩]) (.cond (.tmp 8) (.seq (.reg [⟨some 2,.assign (.const (.int .i64 (-1))),none⟩]) .ret) .skip)) (.seq (.reg [⟨some 9,.buildSlice 43 9 #[(0,.const (.int .i64 0)),(1,.const (.int .i64 0)),(2,.const (.int .i64 0)),(3,.const (.int .i64 1)),(4,.const (.int .i64 2)),(5,.const (.int .i64 2)),(6,.const (.int .i64 2)),(7,.const (.int .i64 1)),(8,.const (.int .i64 1))],none⟩,⟨some 10,.move (.tmp 0),none⟩,⟨some 11,.binOp .sub 3 (.tmp 10) (.const (.int .i64 1)) 3,none⟩,⟨some 12,.indexAddr 43 (.tmp 9) (.tmp 11),none⟩,⟨some 13,.load 3 (.tmp 12),none⟩,⟨some 2,.assign (.tmp 13),none⟩]) .ret))
@[simp] theorem x79_s {C e s K} : type_of% (@X_at C e s K _ _ x79.eq_1) := X_at x79.eq_1
def an79 : Ann := ⟨[], [], []⟩
theorem fi79 : FI Try.prog 79 (cxA an79) x79 [.tmp 2] Try.f79 := fiA Try.func79 mixed
theorem Arity_ref (k : Int) : CallOK Try.prog 79 [.int .i64 k] [] (.int .i64 (kidsN k)) [] := by
 refine fi79.op ?_
 by_cases hk : k < 1 ∨ 9 < k
 ·((refine Sg.h ?_); try repeat' ((first | (with_reducible first | refine brA ?_ | refine brE fun _ => ?_ | (refine spl ⟨?_, ?_⟩ <;> intro _))) <;> (try simp -implicitDefEqProofs (disch := first | assumption | (try simp only [lens]); omega -splitDisjunctions))))
  all_goals (unfold kidsN; simp_all; try omega)
 ·have h9 : k = 1 ∨ k = 2 ∨ k = 3 ∨ k = 4 ∨ k = 5 ∨ k = 6 ∨ k = 7 ∨ k = 8 ∨ k = 9 := by omega
  rcases h9 with rfl | rfl | rfl | rfl | rfl | rfl | rfl | rfl | rfl
  all_goals ((refine Sg.h ?_); try repeat' ((first | (with_reducible first | refine brA ?_ | refine brE fun _ => ?_ | (refine spl ⟨?_, ?_⟩ <;> intro _))) <;> (try simp -implicitDefEqProofs (disch := first | assumption | (try simp only [lens]); omega -splitDisjunctions))))
  all_goals simp [kidsN]
def x24_T1 : XC := .seq (.reg [⟨some 20,.move (.tmp 0),none⟩,⟨some 21,.call ⟨.builtin .len,#[.tmp 20],#[9]⟩,none⟩,⟨some 22,.binOp .gtr 3 (.tmp 21) (.const (.int .i64 0)) 3,none⟩,⟨some 23,.move (.tmp 22),none⟩,⟨some 24,.move (.tmp 0),some (some 23,true)⟩,⟨some 25,.call ⟨.builtin .len,#[.tmp 24],#[9]⟩,some (some 23,true)⟩,⟨some 26,.binOp .lss 3 (.tmp 25) (.const (.int .i64 9)) 3,some (some 23,true)⟩,⟨some 27,.pick (.tmp 23) (.tmp 26) (.const (.bool false)),none⟩,⟨some 2,.assign (.tmp 27),none⟩]) .ret
def x24_L0 : XC := .seq (.seq (.reg [⟨some 4,.move (.tmp 3),none⟩,⟨some 5,.move (.tmp 0),none⟩,⟨some 6,.call ⟨.builtin .len,#[.tmp 5],#[9]⟩,none⟩,⟨some 7,.binOp .lss 3 (.tmp 4) (.tmp 6) 3,none⟩]) (.cond (.tmp 7) .skip (.exit 0))) (.seq (.block 1 (.seq (.reg [⟨some 10,.move (.tmp 0),none⟩,⟨some 11,.move (.tmp 3),none⟩,⟨some 12,.index 9 (.tmp 10) (.tmp 11),none⟩,⟨some 13,.binOp .lss 5 (.tmp 12) (.const (.int .u8 97)) 5,none⟩,⟨some 14,.move (.tmp 13),none⟩,⟨some 15,.move (.tmp 0),some (some 14,false)⟩,⟨some 16,.move (.tmp 3),some (some 14,false)⟩,⟨some 17,.index 9 (.tmp 15) (.tmp 16),some (some 14,false)⟩,⟨some 18,.binOp .gtr 5 (.tmp 17) (.const (.int .u8 122)) 5,some (some 14,false)⟩,⟨some 19,.pick (.tmp 14) (.const (.bool true)) (.tmp 18),none⟩]) (.cond (.tmp 19) (.seq (.reg [⟨some 2,.assign (.const (.bool false)),none⟩]) .ret) .skip))) (.reg [⟨some 8,.move (.tmp 3),none⟩,⟨some 9,.binOp .add 3 (.tmp 8) (.const (.int .i64 1)) 3,none⟩,⟨some 3,.assign (.tmp 9),none⟩]))
def x24 : XC := .seq (.reg [⟨some 2,.assign (.const (.bool false)),none⟩]) (.seq (.seq (.reg [⟨some 3,.assign (.const (.int .i64 0)),none⟩]) (.bloop 0 x24_L0)) (x24_T1))
@[simp] theorem x24_s {C e s K} : type_of% (@X_at C e s K _ _ x24_T1.eq_1) ∧ type_of% (@X_at C e s K _ _ x24_L0.eq_1) ∧ type_of% (@X_at C e s K _ _ x24.eq_1) := ⟨X_at x24_T1.eq_1, X_at x24_L0.eq_1, X_at x24.eq_1⟩
def an24 : Ann := ⟨[], [(0, [], [0, 3], [0, 2])], []⟩
@[simp] theorem an24_a : an24.loopOf 0 = ([], [0, 3], [0, 2]) := rfl
theorem fi24 : FI Try.prog 24 (cxA an24) x24 [.tmp 2] Try.f24 := fiA Try.func24 mixed
theorem IsName_ref (t : ByteArray) : CallOK Try.prog 24 [.str t] [] (.bool (isNameB t)) [] := by
 refine fi24.op ?_
 ((refine Sg.h ?_); try repeat' ((first | (with_reducible first | refine brA ?_ | refine brE fun _ => ?_ | (refine spl ⟨?_, ?_⟩ <;> intro _))) <;> (try simp -implicitDefEqProofs (disch := first | assumption | (try simp only [lens]); omega -splitDisjunctions))))
 refine W_of fun Q hQ => ?_
 have main : ∀ n i, i + n = t.size → (∀ j (h : j < t.size), j < i → letterB t[j] = true) → Q [(0, .str t), (3, .int .i64 (i : Int))] [] := by
  intro n
  induction n with
  | zero =>
   intro i hi hl
   have hall : t.data.toList.all letterB = true := by
    rw [all_letter]; intro j hj; exact hl j hj (by omega)
   apply hQ
   ((refine Sg.h ?_); try repeat' ((first | (with_reducible first | refine brA ?_ | refine brE fun _ => ?_ | (refine spl ⟨?_, ?_⟩ <;> intro _))) <;> (try simp -implicitDefEqProofs (disch := first | assumption | (try simp only [lens]); omega -splitDisjunctions))))
   all_goals (rw [Bool.eq_iff_iff]; simp [isNameB, hall]; omega)
  | succ n ih =>
   intro i hi hl
   have hlt : i < t.size := by omega
   by_cases hb : letterB t[i] = true
   ·have hb' := hb
    simp only [letterB, decide_eq_true_eq] at hb'
    have ih := ih (i + 1) (by omega) (fun j hj hji => by
     by_cases e : j = i
     ·subst e; exact hb
     ·exact hl j hj (by omega))
    apply hQ
    ((refine Sg.h ?_); try repeat' ((first | (with_reducible first | refine brA ?_ | refine brE fun _ => ?_ | (refine spl ⟨?_, ?_⟩ <;> intro _))) <;> (try simp -implicitDefEqProofs (disch := first | assumption | (try simp only [lens]); omega -splitDisjunctions))))
    all_goals simpa using ih
   ·have hno : isNameB t = false := by
     have h2 : ¬ t.data.toList.all letterB = true := by
      rw [all_letter]; intro h3; exact hb (h3 i hlt)
     simp [isNameB, h2]
    simp only [letterB, decide_eq_true_eq] at hb
    apply hQ
    ((refine Sg.h ?_); try repeat' ((first | (with_reducible first | refine brA ?_ | refine brE fun _ => ?_ | (refine spl ⟨?_, ?_⟩ <;> intro _))) <;> (try simp -implicitDefEqProofs (disch := first | assumption | (try simp only [lens]); omega -splitDisjunctions))))
    all_goals first | (exfalso; have := hb (by omega); omega; done) | simp_all
 refine at2 (main _ 0 (Nat.zero_add _) (fun j h hj => by omega)) ?_ ?_ <;> simp
def x46_T1 : XC := .seq (.reg [⟨some 70,.build 33 #[],none⟩,⟨none,.store 33 (.tmp 2) (.tmp 70),none⟩]) .ret
def x46_L0 : XC := .seq (.seq (.reg [⟨some 8,.move (.tmp 4),none⟩,⟨some 9,.move (.tmp 3),none⟩,⟨some 10,.call ⟨.builtin .len,#[.tmp 9],#[22]⟩,none⟩,⟨some 11,.binOp .lss 3 (.tmp 8) (.tmp 10) 3,none⟩]) (.cond (.tmp 11) .skip (.exit 0))) (.seq (.block 1 (.seq (.reg [⟨some 14,.move (.tmp 3),none⟩,⟨some 15,.move (.tmp 4),none⟩,⟨some 16,.indexAddr 22 (.tmp 14) (.tmp 15),none⟩,⟨some 17,.fieldAddr 24 (.tmp 16) 0,none⟩,⟨some 18,.load 3 (.tmp 17),none⟩,⟨some 19,.call ⟨.value (.func 79),#[.tmp 18],#[3]⟩,none⟩,⟨some 5,.assign (.tmp 19),none⟩]) (.seq (.seq (.reg [⟨some 20,.move (.tmp 4),none⟩,⟨some 21,.binOp .eql 3 (.tmp 20) (.const (.int .i64 200)) 3,none⟩]) (.cond (.tmp 21) (.seq (.reg [⟨some 22,.call ⟨.value (.func 38),#[.const (.int .i64 2),.const (.int .i64 0)],#[3,3]⟩,none⟩,⟨none,.store 33 (.tmp 2) (.tmp 22),none⟩]) .ret) .skip)) (.seq (.seq (.reg [⟨some 23,.move (.tmp 5),none⟩,⟨some 24,.binOp .lss 3 (.tmp 23) (.const (.int .i64 0)) 3,none⟩]) (.cond (.tmp 24) (.seq (.reg [⟨some 25,.move (.tmp 4),none⟩,⟨some 26,.call ⟨.value (.func 38),#[.const (.int .i64 4),.tmp 25],#[3,3]⟩,none⟩,⟨none,.store 33 (.tmp 2) (.tmp 26),none⟩]) .ret) .skip)) (.seq (.seq (.reg [⟨some 27,.move (.tmp 3),none⟩,⟨some 28,.move (.tmp 4),none⟩,⟨some 29,.indexAddr 22 (.tmp 27) (.tmp 28),none⟩,⟨some 30,.fieldAddr 24 (.tmp 29) 2,none⟩,⟨some 31,.load 22 (.tmp 30),none⟩,⟨some 32,.call ⟨.builtin .len,#[.tmp 31],#[22]⟩,none⟩,⟨some 33,.move (.tmp 5),none⟩,⟨some 34,.binOp .neq 3 (.tmp 32) (.tmp 33) 3,none⟩]) (.cond (.tmp 34) (.seq (.reg [⟨some 35,.move (.tmp 4),none⟩,⟨some 36,.call ⟨.value (.func 38),#[.const (.int .i64 9),.tmp 35],#[3,3]⟩,none⟩,⟨none,.store 33 (.tmp 2) (.tmp 36),none⟩]) .ret) .skip)) (.seq (.reg [⟨some 37,.move (.tmp 3),none⟩,⟨some 38,.move (.tmp 4),none⟩,⟨some 39,.indexAddr 22 (.tmp 37) (.tmp 38),none⟩,⟨some 40,.fieldAddr 24 (.tmp 39) 0,none⟩,⟨some 41,.load 3 (.tmp 40),none⟩,⟨some 42,.binOp .eql 3 (.tmp 41) (.const (.int .i64 1)) 3,none⟩,⟨some 43,.move (.tmp 42),none⟩,⟨some 44,.move (.tmp 3),some (some 43,true)⟩,⟨some 45,.move (.tmp 4),some (some 43,true)⟩,⟨some 46,.indexAddr 22 (.tmp 44) (.tmp 45),some (some 43,true)⟩,⟨some 47,.fieldAddr 24 (.tmp 46) 1,some (some 43,true)⟩,⟨some 48,.load 9 (.tmp 47),some (some 43,true)⟩,⟨some 49,.call ⟨.value (.func 24),#[.tmp 48],#[9]⟩,some (some 43,true)⟩,⟨some 50,.unOp .not 4 (.tmp 49),some (some 43,true)⟩,⟨some 51,.pick (.tmp 43) (.tmp 50) (.const (.bool false)),none⟩,⟨some 52,.move (.tmp 51),none⟩,⟨some 53,.move (.tmp 3),some (some 52,false)⟩,⟨some 54,.move (.tmp 4),some (some 52,false)⟩,⟨some 55,.indexAddr 22 (.tmp 53) (.tmp 54),some (some 52,false)⟩,⟨some 56,.fieldAddr 24 (.tmp 55) 0,some (some 52,false)⟩,⟨some 57,.load 3 (.tmp 56),some (some 52,false)⟩,⟨some 58,.binOp .neq 3 (.tmp 57) (.const (.int .i64 1)) 3,some (some 52,false)⟩,⟨some 59,.move (.tmp 58),some (some 52,false)⟩,⟨some 60,.move (.tmp 3),some (some 59,true)⟩,⟨some 61,.move (.tmp 4),some (some 59,true)⟩,⟨some 62,.indexAddr 22 (.tmp 60) (.tmp 61),some (some 59,true)⟩,⟨some 63,.fieldAddr 24 (.tmp 62) 1,some (some 59,true)⟩,⟨some 64,.load 9 (.tmp 63),some (some 59,true)⟩,⟨some 65,.binOp .neq 9 (.tmp 64) (.const (.string ⟨#[]⟩)) 9,some (some 59,true)⟩,⟨some 66,.pick (.tmp 59) (.tmp 65) (.const (.bool false)),some (some 52,false)⟩,⟨some 67,.pick (.tmp 52) (.const (.bool true)) (.tmp 66),none⟩]) (.cond (.tmp 67) (.seq (.reg [⟨some 68,.move (.tmp 4),none⟩,⟨some 69,.call ⟨.value (.func 38),#[.const (.int .i64 8),.tmp 68],#[3,3]⟩,none⟩,⟨none,.store 33 (.tmp 2) (.tmp 69),none⟩]) .ret) .skip))))))) (.reg [⟨some 12,.move (.tmp 4),none⟩,⟨some 13,.binOp .add 3 (.tmp 12) (.const (.int .i64 1)) 3,none⟩,⟨some 4,.assign (.tmp 13),none⟩]))
def x46 : XC := .seq (.reg [⟨some 1,.box 24 (.tmp 0),none⟩,⟨some 2,.alloc 33,none⟩]) (.seq (.reg [⟨some 6,.load 24 (.tmp 1),none⟩,⟨some 7,.call ⟨.value (.func 62),#[.tmp 6,.const (.int .i64 201)],#[24,3]⟩,none⟩,⟨some 3,.assign (.tmp 7),none⟩]) (.seq (.seq (.reg [⟨some 4,.assign (.const (.int .i64 0)),none⟩]) (.bloop 0 x46_L0)) (x46_T1)))
@[simp] theorem x46_s {C e s K} : type_of% (@X_at C e s K _ _ x46_T1.eq_1) ∧ type_of% (@X_at C e s K _ _ x46_L0.eq_1) ∧ type_of% (@X_at C e s K _ _ x46.eq_1) := ⟨X_at x46_T1.eq_1, X_at x46_L0.eq_1, X_at x46.eq_1⟩
def an46 : Ann := ⟨[], [(0, [], [2, 3, 4], [2])], []⟩
@[simp] theorem an46_a : an46.loopOf 0 = ([], [2, 3, 4], [2]) := rfl
theorem fi46 : FI Try.prog 46 (cxA an46) x46 [.cell 2 33] Try.f46 := fiA Try.func46 mixed
theorem FormulaFault_ref (f : Fm) : CallOK Try.prog 46 [.agg (frm f)] [] (.agg [.int .i64 (formulaCheck f).1, .int .i64 (formulaCheck f).2]) [] := by
 rw [← refFault_eq]
 have hw := walk_ref f 201 (by omega) (by omega) []
 unfold refFault
 obtain ⟨l, hl0⟩ : ∃ l, l = walkL f 201 := ⟨_, rfl⟩
 rw [← hl0] at hw ⊢
 refine fi46.op ?_
 ((refine Sg.h ?_); try repeat' ((first | (with_reducible first | refine brA ?_ | refine brE fun _ => ?_ | (refine spl ⟨?_, ?_⟩ <;> intro _)) | refine clo hw ?_) <;> (try simp -implicitDefEqProofs (disch := first | assumption | (try simp only [lens]); omega -splitDisjunctions))))
 clear hl0 hw
 refine W_of fun Q hQ => ?_
 have main : ∀ n i, i + n = l.length → checkNodes l 0 = checkNodes (l.drop i) i → Q [(2, .ptr 0 0 0), (3, .list (l.map frm)), (4, .int .i64 (i : Int))] [.rows 2 [[.int .i64 0, .int .i64 0]]] := by
  intro n
  induction n with
  | zero =>
   intro i hi hc
   rw [List.drop_of_length_le (by omega)] at hc
   apply hQ
   ((refine Sg.h ?_); try repeat' ((first | (with_reducible first | refine brA ?_ | refine brE fun _ => ?_ | (refine spl ⟨?_, ?_⟩ <;> intro _))) <;> (try simp -implicitDefEqProofs (disch := first | assumption | (try simp only [lens]); omega -splitDisjunctions))))
   all_goals simp [hc, checkNodes]
  | succ n ih =>
   intro i hi hc
   have hlt : i < l.length := by omega
   have ih := ih (i + 1) (by omega)
   rw [checkNodes_drop l i hlt i] at hc
   apply hQ
   ((refine Sg.h ?_); try repeat' ((first | (with_reducible first | refine brA ?_ | refine brE fun _ => ?_ | (refine spl ⟨?_, ?_⟩ <;> intro _)) | refine clo (Arity_ref _) ?_ | refine clo (IsName_ref _) ?_ | refine clo (F_ref _ _) ?_) <;> (try simp -implicitDefEqProofs (disch := first | assumption | (try simp only [lens]); omega -splitDisjunctions))))
   all_goals (repeat' split at hc)
   all_goals first | (rw [hc]; simp; done) | (refine at2 (ih hc) ?_ ?_ <;> simp; done) | (exfalso; clear ih hc; first | omega | (simp_all; done) | (simp_all; omega))
 refine at2 (main _ 0 (Nat.zero_add _) rfl) ?_ ?_ <;> simp
end Go.Proofs.Ytnoklmapofogeaa
namespace Go.Proofs.Ytnoklmapofogeaa
open Go Go.Pv
def x59_L0 : XC := .seq (.seq (.reg [⟨some 6,.move (.tmp 5),none⟩,⟨some 7,.move (.tmp 0),none⟩,⟨some 8,.call ⟨.builtin .len,#[.tmp 7],#[35]⟩,none⟩,⟨some 9,.binOp .lss 3 (.tmp 6) (.tmp 8) 3,none⟩]) (.cond (.tmp 9) .skip (.exit 0))) (.seq (.block 1 (.seq (.reg [⟨some 12,.move (.tmp 0),none⟩,⟨some 13,.move (.tmp 5),none⟩,⟨some 14,.indexAddr 35 (.tmp 12) (.tmp 13),none⟩,⟨some 15,.load 9 (.tmp 14),none⟩,⟨some 16,.move (.tmp 1),none⟩,⟨some 17,.binOp .eql 9 (.tmp 15) (.tmp 16) 9,none⟩]) (.cond (.tmp 17) (.seq (.reg [⟨some 4,.assign (.const (.bool true)),none⟩]) .ret) .skip))) (.reg [⟨some 10,.move (.tmp 5),none⟩,⟨some 11,.binOp .add 3 (.tmp 10) (.const (.int .i64 1)) 3,none⟩,⟨some 5,.assign (.tmp 11),none⟩]))
def x59 : XC := .seq (.reg [⟨some 4,.assign (.const (.bool false)),none⟩]) (.seq (.seq (.reg [⟨some 5,.assign (.const (.int .i64 0)),none⟩]) (.bloop 0 x59_L0)) (.seq (.reg [⟨some 4,.assign (.const (.bool false)),none⟩]) .ret))
@[simp] theorem x59_s {C e s K} : type_of% (@X_at C e s K _ _ x59_L0.eq_1) ∧ type_of% (@X_at C e s K _ _ x59.eq_1) := ⟨X_at x59_L0.eq_1, X_at x59.eq_1⟩
def an59 : Ann := ⟨[], [(0, [], [0, 1, 5], [4])], []⟩
@[simp] theorem an59_a : an59.loopOf 0 = ([], [0, 1, 5], [4]) := rfl
theorem fi59 : FI Try.prog 59 (cxA an59) x59 [.tmp 4] Try.f59 := fiA Try.func59 mixed
theorem HasText_ref (l : List ByteArray) (u : ByteArray) : CallOK Try.prog 59 [.list (l.map strRow), .str u] [] (.bool (memB u l)) [] := by
 refine fi59.op ?_
 ((refine Sg.h ?_); try repeat' ((first | (with_reducible first | refine brA ?_ | refine brE fun _ => ?_ | (refine spl ⟨?_, ?_⟩ <;> intro _))) <;> ((try simp -implicitDefEqProofs); (try simp -implicitDefEqProofs (disch := first | assumption | (try simp only [lens]); omega -splitDisjunctions)))))
 refine W_of fun Q hQ => ?_
 have main : ∀ n i, i + n = l.length → (∀ j (h : j < l.length), j < i → l[j] ≠ u) → Q [(0, .list (l.map strRow)), (1, .str u), (5, .int .i64 (i : Int))] [] := by
  intro n
  induction n with
  | zero =>
   intro i hi hl
   have hno : memB u l = false := by
    rw [Bool.eq_false_iff, Ne, memB_iff]
    intro h
    obtain ⟨j, hj, e⟩ := List.mem_iff_getElem.1 h
    exact hl j hj (by omega) e
   apply hQ
   ((refine Sg.h ?_); try repeat' ((first | (with_reducible first | refine brA ?_ | refine brE fun _ => ?_ | (refine spl ⟨?_, ?_⟩ <;> intro _))) <;> ((try simp -implicitDefEqProofs); (try simp -implicitDefEqProofs (disch := first | assumption | (try simp only [lens]); omega -splitDisjunctions)))))
   all_goals simp [hno]
  | succ n ih =>
   intro i hi hl
   have hlt : i < l.length := by omega
   by_cases hb : l[i] = u
   ·have hyes : memB u l = true := memB_iff.2 (hb ▸ List.getElem_mem hlt)
    apply hQ
    ((refine Sg.h ?_); try repeat' ((first | (with_reducible first | refine brA ?_ | refine brE fun _ => ?_ | (refine spl ⟨?_, ?_⟩ <;> intro _))) <;> ((try simp -implicitDefEqProofs); (try simp -implicitDefEqProofs (disch := first | assumption | (try simp only [lens]); omega -splitDisjunctions)))))
    all_goals simp_all
   ·have ih := ih (i + 1) (by omega) (fun j hj hji => by
     by_cases e : j = i
     ·subst e; exact hb
     ·exact hl j hj (by omega))
    apply hQ
    ((refine Sg.h ?_); try repeat' ((first | (with_reducible first | refine brA ?_ | refine brE fun _ => ?_ | (refine spl ⟨?_, ?_⟩ <;> intro _))) <;> ((try simp -implicitDefEqProofs); (try simp -implicitDefEqProofs (disch := first | assumption | (try simp only [lens]); omega -splitDisjunctions)))))
    all_goals first | (exfalso; simp_all; done) | simpa using ih
 refine at2 (main _ 0 (Nat.zero_add _) (fun j h hj => by omega)) ?_ ?_ <;> simp
end Go.Proofs.Ytnoklmapofogeaa
namespace Go.Proofs.Ytnoklmapofogeaa
open Go Go.Pv
def varsL (l : List Fm) : List ByteArray := (l.filter fun x => decide (x.kind = 1)).map Fm.name
theorem varsL_append (a b : List Fm) : varsL (a ++ b) = varsL a ++ varsL b := by simp [varsL]
theorem varsL_le (l : List Fm) : (varsL l).length ≤ l.length := by
 unfold varsL; rw [List.length_map]; exact List.length_filter_le _ _
theorem nodesGo_len (M : Nat) : ∀ (n : Nat) (st : List Fm), (nodesGo M n st).length ≤ n
 | 0, st => by simp [nodesGo]
 | n + 1, [] => by simp [nodesGo]
 | n + 1, x :: r => by rw [nodesGo_succ]; have := nodesGo_len M n (x.kids.take M ++ r); simp; omega
theorem callOK_done {P : Program} {f : FuncId} {args : List PV} {v v' : PV} {s1 : Store} (h : CallOK P f args [] v s1) (e : deref s1 6 v = v') : CallOK P f args [] v' [] := by
 intro pub σ w cargs hb ha
 refine Calls.mono (h pub σ w cargs hb ha) ?_
 rintro en w' ⟨cv, pub', σ', rfl, hs, hr⟩
 have hσ : σ = noSig := funext fun i => hb.sig i (Nat.zero_le _)
 obtain ⟨p, t, h1, h2⟩ := RetView.done 6 e ⟨w, pub, σ, dom [] σ⟩ pub' σ' w' cv (fun i _ => by rw [hσ]; rfl) hs hr
 exact ⟨cv, p, t, rfl, h1, h2⟩
theorem less_eq (a b : ByteArray) : Op.bytesLess a.toList b.toList = decide (toL a < toL b) := by
 rw [Go.Proofs.bytesLess_eq, ByteArray.toList_eq, ByteArray.toList_eq]; rfl
end Go.Proofs.Ytnoklmapofogeaa
namespace Go.Proofs.Ytnoklmapofogeaa
open Go Go.Pv
theorem flat_len_le {α : Type} : ∀ (l : List (List α)) (i : Nat), (l.take i).flatten.length ≤ l.flatten.length
 | [], i => by simp
 | a :: r, 0 => by simp
 | a :: r, i + 1 => by simp only [List.take_succ_cons, List.flatten_cons, List.length_append]; have := flat_len_le r i; omega
def x97 : XC := .seq (.reg [⟨some 4,.assign (.const (.slice none 0 0)),none⟩]) (.seq (.seq (.reg [⟨some 5,.move (.tmp 1),none⟩,⟨some 6,.binOp .lss 3 (.tmp 5) (.const (.int .i64 0)) 3,none⟩]) (.cond (.tmp 6) (.reg [⟨some 7,.makeInterface 9 (.const (.string ⟨#[99,97,110,110,111,116,32,98,101,32,110,101,103,97,116,105,118,101]⟩)),none⟩,⟨none,.panic (.tmp 7),none⟩]) .skip)) (.seq (.seq (.reg [⟨some 8,.move (.tmp 1),none⟩,⟨some 9,.move (.tmp 0),none⟩,⟨some 10,.call ⟨.builtin .cap,#[.tmp 9],#[22]⟩,none⟩,⟨some 11,.move (.tmp 0),none⟩,⟨some 12,.call ⟨.builtin .len,#[.tmp 11],#[22]⟩,none⟩,⟨some 13,.binOp .sub 3 (.tmp 10) (.tmp 12) 3,none⟩,⟨some 14,.binOp .sub 3 (.tmp 8) (.tmp 13) 3,none⟩,⟨some 1,.assign (.tmp 14),none⟩]) (.seq (.reg [⟨some 15,.move (.tmp 1),none⟩,⟨some 16,.binOp .gtr 3 (.tmp 15) (.const (.int .i64 0)) 3,none⟩]) (.cond (.tmp 16) (.reg [⟨some 17,.move (.tmp 0),none⟩,⟨some 18,.move (.tmp 0),none⟩,⟨some 19,.call ⟨.builtin .cap,#[.tmp 18],#[22]⟩,none⟩,⟨some 20,.slice 22 (.tmp 17) none (some (.tmp 19)) none,none⟩,⟨some 21,.move (.tmp 1),none⟩,⟨some 22,.call ⟨.builtin .append,#[.tmp 20,.tmp 21],#[22,3]⟩,none⟩,⟨some 23,.move (.tmp 0),none⟩,⟨some 24,.call ⟨.builtin .len,#[.tmp 23],#[22]⟩,none⟩,⟨some 25,.slice 22 (.tmp 22) none (some (.tmp 24)) none,none⟩,⟨some 0,.assign (.tmp 25),none⟩]) .skip))) (.seq (.reg [⟨some 26,.move (.tmp 0),none⟩,⟨some 4,.assign (.tmp 26),none⟩]) .ret)))
@[simp] theorem x97_s {C e s K} : type_of% (@X_at C e s K _ _ x97.eq_1) := X_at x97.eq_1
def an97 : Ann := ⟨[], [], []⟩
theorem fi97 : FI Try.prog 97 (cxA an97) x97 [.tmp 4] Try.f97 := fiA Try.func97 mixed
theorem Grow_fms (n : Nat) (hn : n ≤ 1000000) (h0 : 0 < n) : CallOK Try.prog 97 [.nilsl, .int .i64 (n : Int)] [] (.sl 0 0 0) [.rows 3 (List.replicate n [.int .i64 0, .str ⟨#[]⟩, .nilsl])] := by
 have h1 : (0 : Int) < n := by omega
 have h2 : ¬ ((n : Int) < 0) := by omega
 refine fi97.og ?_
 ((refine Sg.h ?_); try repeat' ((first | (with_reducible first | refine brA ?_ | refine brE fun _ => ?_ | (refine spl ⟨?_, ?_⟩ <;> intro _))) <;> ((try simp -implicitDefEqProofs [h1, h2]); (try simp -implicitDefEqProofs (disch := first | assumption | (try simp only [lens]); omega -splitDisjunctions) [h1, h2]))))
theorem Grow_fms0 : CallOK Try.prog 97 [.nilsl, .int .i64 0] [] .nilsl [] := by
 refine fi97.og ?_
 ((refine Sg.h ?_); try repeat' ((first | (with_reducible first | refine brA ?_ | refine brE fun _ => ?_ | (refine spl ⟨?_, ?_⟩ <;> intro _))) <;> ((try simp -implicitDefEqProofs); (try simp -implicitDefEqProofs (disch := first | assumption | (try simp only [lens]); omega -splitDisjunctions)))))
def x69_T3 : XC := .seq (.reg [⟨some 35,.move (.tmp 6),none⟩,⟨some 2,.assign (.tmp 35),none⟩]) .ret
def x69_L2 : XC := .seq (.reg [⟨some 28,.binOp .lss 3 (.tmp 27) (.tmp 26) 3,none⟩]) (.seq (.cond (.tmp 28) .skip (.exit 2)) (.seq (.block 3 (.seq (.reg [⟨some 29,.indexAddr 114 (.tmp 25) (.tmp 27),none⟩,⟨some 30,.load 22 (.tmp 29),none⟩,⟨some 8,.assign (.tmp 30),none⟩]) (.reg [⟨some 31,.move (.tmp 6),none⟩,⟨some 32,.move (.tmp 8),none⟩,⟨some 33,.call ⟨.builtin .append,#[.tmp 31,.tmp 32],#[22,22]⟩,none⟩,⟨some 6,.assign (.tmp 33),none⟩]))) (.reg [⟨some 34,.binOp .add 3 (.tmp 27) (.const (.int .i64 1)) 3,none⟩,⟨some 27,.move (.tmp 34),none⟩])))
def x69_T1 : XC := .seq (.reg [⟨some 23,.move (.tmp 3),none⟩,⟨some 24,.call ⟨.value (.func 97),#[.const (.slice none 0 0),.tmp 23],#[22,3]⟩,none⟩,⟨some 6,.assign (.tmp 24),none⟩]) (.seq (.seq (.reg [⟨some 25,.move (.tmp 0),none⟩,⟨some 26,.call ⟨.builtin .len,#[.tmp 25],#[114]⟩,none⟩,⟨some 27,.move (.const (.int .i64 0)),none⟩]) (.bloop 2 x69_L2)) (x69_T3))
def x69_L0 : XC := .seq (.reg [⟨some 12,.binOp .lss 3 (.tmp 11) (.tmp 10) 3,none⟩]) (.seq (.cond (.tmp 12) .skip (.exit 0)) (.seq (.block 1 (.seq (.reg [⟨some 13,.indexAddr 114 (.tmp 9) (.tmp 11),none⟩,⟨some 14,.load 22 (.tmp 13),none⟩,⟨some 5,.assign (.tmp 14),none⟩]) (.seq (.reg [⟨some 15,.move (.tmp 3),none⟩,⟨some 16,.move (.tmp 5),none⟩,⟨some 17,.call ⟨.builtin .len,#[.tmp 16],#[22]⟩,none⟩,⟨some 18,.binOp .add 3 (.tmp 15) (.tmp 17) 3,none⟩,⟨some 3,.assign (.tmp 18),none⟩]) (.seq (.reg [⟨some 19,.move (.tmp 3),none⟩,⟨some 20,.binOp .lss 3 (.tmp 19) (.const (.int .i64 0)) 3,none⟩]) (.cond (.tmp 20) (.reg [⟨some 21,.makeInterface 9 (.const (.string ⟨#[108,101,110,32,111,117,116,32,111,102,32,114,97,110,103,101]⟩)),none⟩,⟨none,.panic (.tmp 21),none⟩]) .skip))))) (.reg [⟨some 22,.binOp .add 3 (.tmp 11) (.const (.int .i64 1)) 3,none⟩,⟨some 11,.move (.tmp 22),none⟩])))
def x69 : XC := .seq (.reg [⟨some 2,.assign (.const (.slice none 0 0)),none⟩]) (.seq (.reg [⟨some 3,.assign (.const (.int .i64 0)),none⟩]) (.seq (.seq (.reg [⟨some 9,.move (.tmp 0),none⟩,⟨some 10,.call ⟨.builtin .len,#[.tmp 9],#[114]⟩,none⟩,⟨some 11,.move (.const (.int .i64 0)),none⟩]) (.bloop 0 x69_L0)) (x69_T1)))
@[simp] theorem x69_s {C e s K} : type_of% (@X_at C e s K _ _ x69_T3.eq_1) ∧ type_of% (@X_at C e s K _ _ x69_L2.eq_1) ∧ type_of% (@X_at C e s K _ _ x69_T1.eq_1) ∧ type_of% (@X_at C e s K _ _ x69_L0.eq_1) ∧ type_of% (@X_at C e s K _ _ x69.eq_1) := ⟨X_at x69_T3.eq_1, X_at x69_L2.eq_1, X_at x69_T1.eq_1, X_at x69_L0.eq_1, X_at x69.eq_1⟩
def an69 : Ann := ⟨[], [(2, [(6, none, 3)], [6, 25, 26, 27], [6]), (0, [], [0, 3, 9, 10, 11], [0, 3])], []⟩
@[simp] theorem an69_a : an69.loopOf 2 = ([(6, none, 3)], [6, 25, 26, 27], [6]) ∧ an69.loopOf 0 = ([], [0, 3, 9, 10, 11], [0, 3]) := ⟨rfl, rfl⟩
theorem fi69 : FI Try.prog 69 (cxA an69) x69 [.tmp 2] Try.f69 := fiA Try.func69 mixed
theorem Concat_fms (xss : List (List Fm)) (hl : xss.length ≤ 1000) (ht : xss.flatten.length ≤ 1000000) : CallOK Try.prog 69 [.list (xss.map fun xs => [.list (xs.map frm)])] [] (.list (xss.flatten.map frm)) [] := by
 refine fi69.os ?_
 ((refine Sg.h ?_); try repeat' ((first | (with_reducible first | refine brA ?_ | refine brE fun _ => ?_ | (refine spl ⟨?_, ?_⟩ <;> intro _))) <;> ((try simp -implicitDefEqProofs); (try simp -implicitDefEqProofs (disch := first | assumption | (try simp only [lens]); omega -splitDisjunctions)))))
 refine W_of fun Q hQ => ?_
 have main : ∀ n i, i + n = xss.length → Q [(0, .list (xss.map fun xs => [.list (xs.map frm)])), (3, .int .i64 ((xss.take i).flatten.length : Int)), (9, .list (xss.map fun xs => [.list (xs.map frm)])), (10, .int .i64 (xss.length : Int)), (11, .int .i64 (i : Int))] [] := by
  intro n
  induction n with
  | zero =>
   intro i hi
   obtain rfl : i = xss.length := by omega
   rw [List.take_length]
   have hg := Grow_fms xss.flatten.length ht
   have hg0 := Grow_fms0
   rcases Nat.eq_zero_or_pos xss.flatten.length with h0 | h0
   ·rw [h0]
    apply hQ
    clear hQ
    ((refine Sg.h ?_); try repeat' ((first | (with_reducible first | refine brA ?_ | refine brE fun _ => ?_ | (refine spl ⟨?_, ?_⟩ <;> intro _)) | refine clo hg0 ?_) <;> ((try simp -implicitDefEqProofs); (try simp -implicitDefEqProofs (disch := first | assumption | (try simp only [lens]); omega -splitDisjunctions)))))
    refine W_of fun Q hQ => ?_
    have main : ∀ n i rest, i + n = xss.length → Q [(6, .sl 0 0 (xss.take i).flatten.length), (25, .list (xss.map fun xs => [.list (xs.map frm)])), (26, .int .i64 (xss.length : Int)), (27, .int .i64 (i : Int))] [.rows 3 ((xss.take i).flatten.map frm ++ rest)] := by
     intro n
     induction n with
     | zero =>
      intro i rest hi
      obtain rfl : i = xss.length := by omega
      rw [List.take_length]
      have hLm : (xss.map (List.map frm)).flatten = xss.flatten.map frm := by simp [List.map_flatten]
      generalize xss.flatten = L at *
      apply hQ
      clear hQ
      ((refine Sg.h ?_); try repeat' ((first | (with_reducible first | refine brA ?_ | refine brE fun _ => ?_ | (refine spl ⟨?_, ?_⟩ <;> intro _))) <;> ((try simp -implicitDefEqProofs [hLm]); (try simp -implicitDefEqProofs (disch := first | assumption | (try simp only [lens]); omega -splitDisjunctions) [hLm]))))
     | succ n ih =>
      intro i rest hi
      have hil : i < xss.length := by omega
      have ih := ih (i + 1) [] (by omega)
      have hle := flat_len_le xss (i + 1)
      rw [take_snoc hil, List.flatten_append] at ih hle
      simp only [List.flatten_cons, List.flatten_nil, List.append_nil] at ih hle
      rw [List.length_append] at hle
      generalize (xss.take i).flatten = T at *
      apply hQ
      clear hQ
      ((refine Sg.h ?_); try repeat' ((first | (with_reducible first | refine brA ?_ | refine brE fun _ => ?_ | (refine spl ⟨?_, ?_⟩ <;> intro _))) <;> ((try simp -implicitDefEqProofs [hil]); (try simp -implicitDefEqProofs (disch := first | assumption | (try simp only [lens]); omega -splitDisjunctions) [hil]))))
      all_goals first | exact ih | (refine at2 ih ?_ ?_ <;> simp; done) | (exfalso; first | omega | (simp_all; done) | (simp_all; omega))
    have m0 := main xss.length 0 [] (by omega)
    all_goals first | exact m0 | (refine at2 m0 ?_ ?_ <;> simp; done) | (exfalso; first | omega | (simp_all; done) | (simp_all; omega))
   ·have hg := hg h0
    generalize hT : xss.flatten.length = T at *
    apply hQ
    clear hQ
    ((refine Sg.h ?_); try repeat' ((first | (with_reducible first | refine brA ?_ | refine brE fun _ => ?_ | (refine spl ⟨?_, ?_⟩ <;> intro _))) <;> ((try simp -implicitDefEqProofs); (try simp -implicitDefEqProofs (disch := first | assumption | (try simp only [lens]); omega -splitDisjunctions)))))
    refine CL.of hg ?_
    ((refine Sg.h ?_); try repeat' ((first | (with_reducible first | refine brA ?_ | refine brE fun _ => ?_ | (refine spl ⟨?_, ?_⟩ <;> intro _))) <;> ((try simp -implicitDefEqProofs); (try simp -implicitDefEqProofs (disch := first | assumption | (try simp only [lens]); omega -splitDisjunctions)))))
    refine W_of fun Q hQ => ?_
    have main : ∀ n i rest, i + n = xss.length → Q [(6, .sl 0 0 (xss.take i).flatten.length), (25, .list (xss.map fun xs => [.list (xs.map frm)])), (26, .int .i64 (xss.length : Int)), (27, .int .i64 (i : Int))] [.rows 3 ((xss.take i).flatten.map frm ++ rest)] := by
     intro n
     induction n with
     | zero =>
      intro i rest hi
      obtain rfl : i = xss.length := by omega
      rw [List.take_length]
      have hLm : (xss.map (List.map frm)).flatten = xss.flatten.map frm := by simp [List.map_flatten]
      generalize xss.flatten = L at *
      apply hQ
      clear hQ
      ((refine Sg.h ?_); try repeat' ((first | (with_reducible first | refine brA ?_ | refine brE fun _ => ?_ | (refine spl ⟨?_, ?_⟩ <;> intro _))) <;> ((try simp -implicitDefEqProofs [hLm]); (try simp -implicitDefEqProofs (disch := first | assumption | (try simp only [lens]); omega -splitDisjunctions) [hLm]))))
     | succ n ih =>
      intro i rest hi
      have hil : i < xss.length := by omega
      have ih := ih (i + 1) [] (by omega)
      have hle := flat_len_le xss (i + 1)
      rw [take_snoc hil, List.flatten_append] at ih hle
      simp only [List.flatten_cons, List.flatten_nil, List.append_nil] at ih hle
      rw [List.length_append] at hle
      generalize (xss.take i).flatten = T at *
      apply hQ
      clear hQ
      ((refine Sg.h ?_); try repeat' ((first | (with_reducible first | refine brA ?_ | refine brE fun _ => ?_ | (refine spl ⟨?_, ?_⟩ <;> intro _))) <;> ((try simp -implicitDefEqProofs [hil]); (try simp -implicitDefEqProofs (disch := first | assumption | (try simp only [lens]); omega -splitDisjunctions) [hil]))))
      all_goals first | exact ih | (refine at2 ih ?_ ?_ <;> simp; done) | (exfalso; first | omega | (simp_all; done) | (simp_all; omega))
    have m0 := main xss.length 0 (List.replicate T [.int .i64 0, .str ⟨#[]⟩, .nilsl]) (by omega)
    all_goals first | exact m0 | (refine at2 m0 ?_ ?_ <;> simp; done) | (exfalso; first | omega | (simp_all; done) | (simp_all; omega))
  | succ n ih =>
   intro i hi
   have hil : i < xss.length := by omega
   have ih := ih (i + 1) (by omega)
   rw [take_snoc hil, List.flatten_append, List.length_append] at ih
   simp only [List.flatten_cons, List.flatten_nil, List.append_nil] at ih
   have hle : ((xss.take i).flatten.length : Int) + (xss[i].length : Int) ≤ 1000000 := by
    have := flat_len_le xss (i + 1)
    rw [take_snoc hil, List.flatten_append, List.length_append] at this
    simp only [List.flatten_cons, List.flatten_nil, List.append_nil] at this
    omega
   generalize (xss.take i).flatten.length = T at *
   apply hQ
   clear hQ
   ((refine Sg.h ?_); try repeat' ((first | (with_reducible first | refine brA ?_ | refine brE fun _ => ?_ | (refine spl ⟨?_, ?_⟩ <;> intro _))) <;> ((try simp -implicitDefEqProofs [hil]); (try simp -implicitDefEqProofs (disch := first | assumption | (try simp only [lens]); omega -splitDisjunctions) [hil]))))
   all_goals first | exact ih | (refine at2 ih ?_ ?_ <;> simp; done) | (exfalso; first | omega | (simp_all; done) | (simp_all; omega))
 all_goals first | exact main _ 0 (Nat.zero_add _) | (refine at2 main _ 0 (Nat.zero_add _) ?_ ?_ <;> simp; done) | (exfalso; first | omega | (simp_all; done) | (simp_all; omega))
end Go.Proofs.Ytnoklmapofogeaa
