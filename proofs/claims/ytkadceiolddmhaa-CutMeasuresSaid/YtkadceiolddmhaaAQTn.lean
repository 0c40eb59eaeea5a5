import Derived.Test.YtkadceiolddmhaaATPa
import Derived.Test.YtkadceiolddmhaaAPvQt
import Derived.Test.YtkadceiolddmhaaATy
import Derived.Ground.NamesProg
import Derived.Shelf.Slices.In.CompactS
import Derived.Shelf.Slices.In.SortAlone
import Derived.Shelf.Slices.In.SortNone
import Derived.Sort.EveryDepth
import Derived.Sort.Grow
import Derived.Lib.RowBridge
import Derived.Sort.Walk0
set_option linter.unusedVariables false
set_option linter.unusedSimpArgs false
set_option maxRecDepth 100000
set_option maxHeartbeats 4000000
namespace Go.Proofs.Ytkadceiolddmhaa
open Go Go.Pv
def x56 : XC := .seq (.reg [⟨some 4,.alloc 33,none⟩]) (.seq (.reg [⟨some 5,.move (.tmp 0),none⟩,⟨some 6,.move (.tmp 1),none⟩,⟨some 7,.build 33 #[(0,.tmp 5),(1,.tmp 6)],none⟩,⟨none,.store 33 (.tmp 4) (.tmp 7),none⟩]) .ret)
@[simp] theorem x56_s {C e s K} : type_of% (@X_at C e s K _ _ x56.eq_1) := X_at x56.eq_1
def an56 : Ann := ⟨[], [], []⟩
theorem fi56 : FI Try.prog 56 (cxA an56) x56 [.cell 4 33] Try.f56 := fiA Try.func56 mixed
theorem F_ref (a b : Int) : CallOK Try.prog 56 [.int .i64 a, .int .i64 b] [] (.agg [.int .i64 a, .int .i64 b]) [] := by
 refine fi56.op ?_
 ((refine Sg.h ?_); try repeat' ((first | (with_reducible first | refine brA ?_ | refine brE fun _ => ?_ | (refine spl ⟨?_, ?_⟩ <;> intro _))) <;> (try simp -implicitDefEqProofs (disch := first | assumption | (try simp only [lens]); omega -splitDisjunctions))))
def x59 : XC := .seq (.reg [⟨some 2,.assign (.const (.int .i64 0)),none⟩]) (.seq (.seq (.reg [⟨some 3,.move (.tmp 0),none⟩,⟨some 4,.binOp .lss 3 (.tmp 3) (.const (.int .i64 1)) 3,none⟩,⟨some 5,.move (.tmp 4),none⟩,⟨some 6,.move (.tmp 0),some (some 5,false)⟩,⟨some 7,.binOp .gtr 3 (.tmp 6) (.const (.int .i64 9)) 3,some (some 5,false)⟩,⟨some 8,.pick (.tmp 5) (.const (.bool true)) (.tmp 7),none⟩]) (.cond (.tmp 8) (.seq (.reg [⟨some 2,.assign (.const (.int .i64 (-1))),none⟩]) .ret) .skip)) (.seq (.reg [⟨some 9,.buildSlice 46 9 #[(0,.const (.int .i64 0)),(1,.const (.int .i64 0)),(2,.const (.int .i64 0)),(3,.const (.int .i64 1)),(4,.const (.int .i64 2)),(5,.const (.int .i64 2)),(6,.const (.int .i64 2)),(7,.const (.int .i64 1)),(8,.const (.int .i64 1))],none⟩,⟨some 10,.move (.tmp 0),none⟩,⟨some 11,.binOp .sub 3 (.tmp 10) (.const (.int .i64 1)) 3,none⟩,⟨some 12,.indexAddr 46 (.tmp 9) (.tmp 11),none⟩,⟨some 13,.load 3 (.tmp 12),none⟩,⟨some 2,.assign (.tmp 13),none⟩]) .ret))
@[simp] theorem x59_s {C e s K} : type_of% (@X_at C e s K _ _ x59.eq_1) := X_at x59.eq_1
def an59 : Ann := ⟨[], [], []⟩
theorem fi59 : FI Try.prog 59 (cxA an59) x59 [.tmp 2] Try.f59 := fiA Try.func59 mixed
theorem Arity_ref (k : Int) : CallOK Try.prog 59 [.int .i64 k] [] (.int .i64 (kidsN k)) [] := by
 refine fi59.op ?_
 by_cases hk : k < 1 ∨ 9 < k
 ·((refine Sg.h ?_); try repeat' ((first | (with_reducible first | refine brA ?_ | refine brE fun _ => ?_ | (refine spl ⟨?_, ?_⟩ <;> intro _))) <;> (try simp -implicitDefEqProofs (disch := first | assumption | (try simp only [lens]); omega -splitDisjunctions))))
  all_goals (unfold kidsN; simp_all; try omega)
 ·have h9 : k = 1 ∨ k = 2 ∨ k = 3 ∨ k = 4 ∨ k = 5 ∨ k = 6 ∨ k = 7 ∨ k = 8 ∨ k = 9 := by omega
  rcases h9 with rfl | rfl | rfl | rfl | rfl | rfl | rfl | rfl | rfl
  all_goals ((refine Sg.h ?_); try repeat' ((first | (with_reducible first | refine brA ?_ | refine brE fun _ => ?_ | (refine spl ⟨?_, ?_⟩ <;> intro _))) <;> (try simp -implicitDefEqProofs (disch := first | assumption | (try simp only [lens]); omega -splitDisjunctions))))
  all_goals simp [kidsN]
def x31_T1 : XC := .seq (.reg [⟨some 20,.move (.tmp 0),none⟩,⟨some 21,.call ⟨.builtin .len,#[.tmp 20],#[9]⟩,none⟩,⟨some 22,.binOp .gtr 3 (.tmp 21) (.const (.int .i64 0)) 3,none⟩,⟨some 23,.move (.tmp 22),none⟩,⟨some 24,.move (.tmp 0),some (some 23,true)⟩,⟨some 25,.call ⟨.builtin .len,#[.tmp 24],#[9]⟩,some (some 23,true)⟩,⟨some 26,.binOp .lss 3 (.tmp 25) (.const (.int .i64 9)) 3,some (some 23,true)⟩,⟨some 27,.pick (.tmp 23) (.tmp 26) (.const (.bool false)),none⟩,⟨some 2,.assign (.tmp 27),none⟩]) .ret
def x31_L0 : XC := .seq (.seq (.reg [⟨some 4,.move (.tmp 3),none⟩,⟨some 5,.move (.tmp 0),none⟩,⟨some 6,.call ⟨.builtin .len,#[.tmp 5],#[9]⟩,none⟩,⟨some 7,.binOp .lss 3 (.tmp 4) (.tmp 6) 3,none⟩]) (.cond (.tmp 7) .skip (.exit 0))) (.seq (.block 1 (.seq (.reg [⟨some 10,.move (.tmp 0),none⟩,⟨some 11,.move (.tmp 3),none⟩,⟨some 12,.index 9 (.tmp 10) (.tmp 11),none⟩,⟨some 13,.binOp .lss 5 (.tmp 12) (.const (.int .u8 97)) 5,none⟩,⟨some 14,.move (.tmp 13),none⟩,⟨some 15,.move (.tmp 0),some (some 14,false)⟩,⟨some 16,.move (.tmp 3),some (some 14,false)⟩,⟨some 17,.index 9 (.tmp 15) (.tmp 16),some (some 14,false)⟩,⟨some 18,.binOp .gtr 5 (.tmp 17) (.const (.int .u8 122)) 5,some (some 14,false)⟩,⟨some 19,.pick (.tmp 14) (.const (.bool true)) (.tmp 18),none⟩]) (.cond (.tmp 19) (.seq (.reg [⟨some 2,.assign (.const (.bool false)),none⟩]) .ret) .skip))) (.reg [⟨some 8,.move (.tmp 3),none⟩,⟨some 9,.binOp .add 3 (.tmp 8) (.const (.int .i64 1)) 3,none⟩,⟨some 3,.assign (.tmp 9),none⟩]))
def x31 : XC := .seq (.reg [⟨some 2,.assign (.const (.bool false)),none⟩]) (.seq (.seq (.reg [⟨some 3,.assign (.const (.int .i64 0)),none⟩]) (.bloop 0 x31_L0)) (x31_T1))
@[simp] theorem x31_s {C e s K} : type_of% (@X_at C e s K _ _ x31_T1.eq_1) ∧ type_of% (@X_at C e s K _ _ x31_L0.eq_1) ∧ type_of% (@X_at C e s K _ _ x31.eq_1) := ⟨X_at x31_T1.eq_1, X_at x31_L0.eq_1, X_at x31.eq_1⟩
def an31 : Ann := ⟨[], [(0, [], [0, 3], [0, 2])], []⟩
@[simp] theorem an31_a : an31.loopOf 0 = ([], [0, 3], [0, 2]) := rfl
theorem fi31 : FI Try.prog 31 (cxA an31) x31 [.tmp 2] Try.f31 := fiA Try.func31 mixed
theorem IsName_ref (t : ByteArray) : CallOK Try.prog 31 [.str t] [] (.bool (isNameB t)) [] := by
 refine fi31.op ?_
 ((refine Sg.h ?_); try repeat' ((first | (with_reducible first | refine brA ?_ | refine brE fun _ => ?_ | (refine spl ⟨?_, ?_⟩ <;> intro _))) <;> (try simp -implicitDefEqProofs (disch := first | assumption | (try simp only [lens]); omega -splitDisjunctions))))
 refine W_of fun Q hQ => ?_
 have main : ∀ n i, i + n = t.size → (∀ j (h : j < t.size), j < i → letterB t[j] = true) → Q [(0, .str t), (3, .int .i64 (i : Int))] [] := by
  intro n
  induction n with
  | zero =>
   intro i hi hl
   have hall : t.data.toList.all letterB = true := by
    rw [all_letter]; intro j hj; exact hl j hj (by omega)
   apply hQ
   ((refine Sg.h ?_); try repeat' ((first | (with_reducible first | refine brA ?_ | refine brE fun _ => ?_ | (refine spl ⟨?_, ?_⟩ <;> intro _))) <;> (try simp -implicitDefEqProofs (disch := first | assumption | (try simp only [lens]); omega -splitDisjunctions))))
   all_goals (rw [Bool.eq_iff_iff]; simp [isNameB, hall]; omega)
  | succ n ih =>
   intro i hi hl
   have hlt : i < t.size := by omega
   by_cases hb : letterB t[i] = true
   ·have hb' := hb
    simp only [letterB, decide_eq_true_eq] at hb'
    have ih := ih (i + 1) (by omega) (fun j hj hji => by
     by_cases e : j = i
     ·subst e; exact hb
     ·exact hl j hj (by omega))
    apply hQ
    ((refine Sg.h ?_); try repeat' ((first | (with_reducible first | refine brA ?_ | refine brE fun _ => ?_ | (refine spl ⟨?_, ?_⟩ <;> intro _))) <;> (try simp -implicitDefEqProofs (disch := first | assumption | (try simp only [lens]); omega -splitDisjunctions))))
    all_goals simpa using ih
   ·have hno : isNameB t = false := by
     have h2 : ¬ t.data.toList.all letterB = true := by
      rw [all_letter]; intro h3; exact hb (h3 i hlt)
     simp [isNameB, h2]
    simp only [letterB, decide_eq_true_eq] at hb
    apply hQ
    ((refine Sg.h ?_); try repeat' ((first | (with_reducible first | refine brA ?_ | refine brE fun _ => ?_ | (refine spl ⟨?_, ?_⟩ <;> intro _))) <;> (try simp -implicitDefEqProofs (disch := first | assumption | (try simp only [lens]); omega -splitDisjunctions))))
    all_goals first | (exfalso; have := hb (by omega); omega; done) | simp_all
 refine at2 (main _ 0 (Nat.zero_add _) (fun j h hj => by omega)) ?_ ?_ <;> simp
def x53_T1 : XC := .seq (.reg [⟨some 70,.build 33 #[],none⟩,⟨none,.store 33 (.tmp 2) (.tmp 70),none⟩]) .ret
def x53_L0 : XC := .seq (.seq (.reg [⟨some 8,.move (.tmp 4),none⟩,⟨some 9,.move (.tmp 3),none⟩,⟨some 10,.call ⟨.builtin .len,#[.tmp 9],#[57]⟩,none⟩,⟨some 11,.binOp .lss 3 (.tmp 8) (.tmp 10) 3,none⟩]) (.cond (.tmp 11) .skip (.exit 0))) (.seq (.block 1 (.seq (.reg [⟨some 14,.move (.tmp 3),none⟩,⟨some 15,.move (.tmp 4),none⟩,⟨some 16,.indexAddr 57 (.tmp 14) (.tmp 15),none⟩,⟨some 17,.fieldAddr 59 (.tmp 16) 0,none⟩,⟨some 18,.load 3 (.tmp 17),none⟩,⟨some 19,.call ⟨.value (.func 59),#[.tmp 18],#[3]⟩,none⟩,⟨some 5,.assign (.tmp 19),none⟩]) (.seq (.seq (.reg [⟨some 20,.move (.tmp 4),none⟩,⟨some 21,.binOp .eql 3 (.tmp 20) (.const (.int .i64 200)) 3,none⟩]) (.cond (.tmp 21) (.seq (.reg [⟨some 22,.call ⟨.value (.func 56),#[.const (.int .i64 2),.const (.int .i64 0)],#[3,3]⟩,none⟩,⟨none,.store 33 (.tmp 2) (.tmp 22),none⟩]) .ret) .skip)) (.seq (.seq (.reg [⟨some 23,.move (.tmp 5),none⟩,⟨some 24,.binOp .lss 3 (.tmp 23) (.const (.int .i64 0)) 3,none⟩]) (.cond (.tmp 24) (.seq (.reg [⟨some 25,.move (.tmp 4),none⟩,⟨some 26,.call ⟨.value (.func 56),#[.const (.int .i64 4),.tmp 25],#[3,3]⟩,none⟩,⟨none,.store 33 (.tmp 2) (.tmp 26),none⟩]) .ret) .skip)) (.seq (.seq (.reg [⟨some 27,.move (.tmp 3),none⟩,⟨some 28,.move (.tmp 4),none⟩,⟨some 29,.indexAddr 57 (.tmp 27) (.tmp 28),none⟩,⟨some 30,.fieldAddr 59 (.tmp 29) 2,none⟩,⟨some 31,.load 57 (.tmp 30),none⟩,⟨some 32,.call ⟨.builtin .len,#[.tmp 31],#[57]⟩,none⟩,⟨some 33,.move (.tmp 5),none⟩,⟨some 34,.binOp .neq 3 (.tmp 32) (.tmp 33) 3,none⟩]) (.cond (.tmp 34) (.seq (.reg [⟨some 35,.move (.tmp 4),none⟩,⟨some 36,.call ⟨.value (.func 56),#[.const (.int .i64 9),.tmp 35],#[3,3]⟩,none⟩,⟨none,.store 33 (.tmp 2) (.tmp 36),none⟩]) .ret) .skip)) (.seq (.reg [⟨some 37,.move (.tmp 3),none⟩,⟨some 38,.move (.tmp 4),none⟩,⟨some 39,.indexAddr 57 (.tmp 37) (.tmp 38),none⟩,⟨some 40,.fieldAddr 59 (.tmp 39) 0,none⟩,⟨some 41,.load 3 (.tmp 40),none⟩,⟨some 42,.binOp .eql 3 (.tmp 41) (.const (.int .i64 1)) 3,none⟩,⟨some 43,.move (.tmp 42),none⟩,⟨some 44,.move (.tmp 3),some (some 43,true)⟩,⟨some 45,.move (.tmp 4),some (some 43,true)⟩,⟨some 46,.indexAddr 57 (.tmp 44) (.tmp 45),some (some 43,true)⟩,⟨some 47,.fieldAddr 59 (.tmp 46) 1,some (some 43,true)⟩,⟨some 48,.load 9 (.tmp 47),some (some 43,true)⟩,⟨some 49,.call ⟨.value (.func 31),#[.tmp 48],#[9]⟩,some (some 43,true)⟩,⟨some 50,.unOp .not 4 (.tmp 49),some (some 43,true)⟩,⟨some 51,.pick (.tmp 43) (.tmp 50) (.const (.bool false)),none⟩,⟨some 52,.move (.tmp 51),none⟩,⟨some 53,.move (.tmp 3),some (some 52,false)⟩,⟨some 54,.move (.tmp 4),some (some 52,false)⟩,⟨some 55,.indexAddr 57 (.tmp 53) (.tmp 54),some (some 52,false)⟩,⟨some 56,.fieldAddr 59 (.tmp 55) 0,some (some 52,false)⟩,⟨some 57,.load 3 (.tmp 56),some (some 52,false)⟩,⟨some 58,.binOp .neq 3 (.tmp 57) (.const (.int .i64 1)) 3,some (some 52,false)⟩,⟨some 59,.move (.tmp 58),some (some 52,false)⟩,⟨some 60,.move (.tmp 3),some (some 59,true)⟩,⟨some 61,.move (.tmp 4),some (some 59,true)⟩,⟨some 62,.indexAddr 57 (.tmp 60) (.tmp 61),some (some 59,true)⟩,⟨some 63,.fieldAddr 59 (.tmp 62) 1,some (some 59,true)⟩,⟨some 64,.load 9 (.tmp 63),some (some 59,true)⟩,⟨some 65,.binOp .neq 9 (.tmp 64) (.const (.string ⟨#[]⟩)) 9,some (some 59,true)⟩,⟨some 66,.pick (.tmp 59) (.tmp 65) (.const (.bool false)),some (some 52,false)⟩,⟨some 67,.pick (.tmp 52) (.const (.bool true)) (.tmp 66),none⟩]) (.cond (.tmp 67) (.seq (.reg [⟨some 68,.move (.tmp 4),none⟩,⟨some 69,.call ⟨.value (.func 56),#[.const (.int .i64 8),.tmp 68],#[3,3]⟩,none⟩,⟨none,.store 33 (.tmp 2) (.tmp 69),none⟩]) .ret) .skip))))))) (.reg [⟨some 12,.move (.tmp 4),none⟩,⟨some 13,.binOp .add 3 (.tmp 12) (.const (.int .i64 1)) 3,none⟩,⟨some 4,.assign (.tmp 13),none⟩]))
def x53 : XC := .seq (.reg [⟨some 1,.box 59 (.tmp 0),none⟩,⟨some 2,.alloc 33,none⟩]) (.seq (.reg [⟨some 6,.load 59 (.tmp 1),none⟩,⟨some 7,.call ⟨.value (.func 40),#[.tmp 6,.const (.int .i64 201)],#[59,3]⟩,none⟩,⟨some 3,.assign (.tmp 7),none⟩]) (.seq (.seq (.reg [⟨some 4,.assign (.const (.int .i64 0)),none⟩]) (.bloop 0 x53_L0)) (x53_T1)))
@[simp] theorem x53_s {C e s K} : type_of% (@X_at C e s K _ _ x53_T1.eq_1) ∧ type_of% (@X_at C e s K _ _ x53_L0.eq_1) ∧ type_of% (@X_at C e s K _ _ x53.eq_1) := ⟨X_at x53_T1.eq_1, X_at x53_L0.eq_1, X_at x53.eq_1⟩
def an53 : Ann := ⟨[], [(0, [], [2, 3, 4], [2])], []⟩
@[simp] theorem an53_a : an53.loopOf 0 = ([], [2, 3, 4], [2]) := rfl
theorem fi53 : FI Try.prog 53 (cxA an53) x53 [.cell 2 33] Try.f53 := fiA Try.func53 mixed
theorem FormulaFault_ref (f : Fm) : CallOK Try.prog 53 [.agg (frm f)] [] (.agg [.int .i64 (formulaCheck f).1, .int .i64 (formulaCheck f).2]) [] := by
 rw [← refFault_eq]
 have hw := walk_ref f 201 (by omega) (by omega) []
 unfold refFault
 obtain ⟨l, hl0⟩ : ∃ l, l = walkL f 201 := ⟨_, rfl⟩
 rw [← hl0] at hw ⊢
 refine fi53.op ?_
 ((refine Sg.h ?_); try repeat' ((first | (with_reducible first | refine brA ?_ | refine brE fun _ => ?_ | (refine spl ⟨?_, ?_⟩ <;> intro _)) | refine clo hw ?_) <;> (try simp -implicitDefEqProofs (disch := first | assumption | (try simp only [lens]); omega -splitDisjunctions))))
 clear hl0 hw
 refine W_of fun Q hQ => ?_
 have main : ∀ n i, i + n = l.length → checkNodes l 0 = checkNodes (l.drop i) i → Q [(2, .ptr 0 0 0), (3, .list (l.map frm)), (4, .int .i64 (i : Int))] [.rows 2 [[.int .i64 0, .int .i64 0]]] := by
  intro n
  induction n with
  | zero =>
   intro i hi hc
   rw [List.drop_of_length_le (by omega)] at hc
   apply hQ
   ((refine Sg.h ?_); try repeat' ((first | (with_reducible first | refine brA ?_ | refine brE fun _ => ?_ | (refine spl ⟨?_, ?_⟩ <;> intro _))) <;> (try simp -implicitDefEqProofs (disch := first | assumption | (try simp only [lens]); omega -splitDisjunctions))))
   all_goals simp [hc, checkNodes]
  | succ n ih =>
   intro i hi hc
   have hlt : i < l.length := by omega
   have ih := ih (i + 1) (by omega)
   rw [checkNodes_drop l i hlt i] at hc
   apply hQ
   ((refine Sg.h ?_); try repeat' ((first | (with_reducible first | refine brA ?_ | refine brE fun _ => ?_ | (refine spl ⟨?_, ?_⟩ <;> intro _)) | refine clo (Arity_ref _) ?_ | refine clo (IsName_ref _) ?_ | refine clo (F_ref _ _) ?_) <;> (try simp -implicitDefEqProofs (disch := first | assumption | (try simp only [lens]); omega -splitDisjunctions))))
   all_goals (repeat' split at hc)
   all_goals first | (rw [hc]; simp; done) | (refine at2 (ih hc) ?_ ?_ <;> simp; done) | (exfalso; clear ih hc; first | omega | (simp_all; done) | (simp_all; omega))
 refine at2 (main _ 0 (Nat.zero_add _) rfl) ?_ ?_ <;> simp
end Go.Proofs.Ytkadceiolddmhaa
namespace Go.Proofs.Ytkadceiolddmhaa
open Go Go.Pv
theorem nodesGo_len (M : Nat) : ∀ (n : Nat) (st : List Fm), (nodesGo M n st).length ≤ n
 | 0, st => by simp [nodesGo]
 | n + 1, [] => by simp [nodesGo]
 | n + 1, x :: r => by rw [nodesGo_succ]; have := nodesGo_len M n (x.kids.take M ++ r); simp; omega
end Go.Proofs.Ytkadceiolddmhaa
