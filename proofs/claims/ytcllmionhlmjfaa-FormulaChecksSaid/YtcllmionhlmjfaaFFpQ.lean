import Derived.Test.YtcllmionhlmjfaaFQMA
import Derived.Test.YtcllmionhlmjfaaFModE
import Derived.Test.YtcllmionhlmjfaaFPvRec
import Derived.Test.YtcllmionhlmjfaaFFormA
import Derived.Ground.NamesProg
import Derived.Shelf.Slices.In.CompactS
import Derived.Shelf.Slices.In.SortAlone
import Derived.Shelf.Slices.In.SortNone
import Derived.Sort.EveryDepth
import Derived.Sort.Grow
import Derived.Lib.RowBridge
import Derived.Sort.Walk0
import Derived.Test.YtcllmionhlmjfaaFPvQg
import Derived.Test.YtcllmionhlmjfaaFFpP
set_option linter.unusedVariables false
set_option linter.unusedSimpArgs false
set_option maxRecDepth 100000
set_option maxHeartbeats 4000000
namespace Go.Proofs.Ytcllmionhlmjfaa
open Go Go.Pv
def x45 : XC := .seq (.reg [⟨some 4,.alloc 29,none⟩]) (.seq (.reg [⟨some 5,.move (.tmp 0),none⟩,⟨some 6,.move (.tmp 1),none⟩,⟨some 7,.build 29 #[(0,.tmp 5),(1,.tmp 6)],none⟩,⟨none,.store 29 (.tmp 4) (.tmp 7),none⟩]) .ret)
@[simp] theorem x45_s {C e s K} : type_of% (@X_at C e s K _ _ x45.eq_1) := X_at x45.eq_1
def an45 : Ann := ⟨[], [], []⟩
theorem fi45 : FI Try.prog 45 (cxA an45) x45 [.cell 4 29] Try.f45 := fiA Try.func45 mixed
theorem F_ref (a b : Int) : CallOK Try.prog 45 [.int .i64 a, .int .i64 b] [] (.agg [.int .i64 a, .int .i64 b]) [] := by
 refine fi45.op ?_
 ((refine Sg.h ?_); try repeat' ((first | (with_reducible first | refine brA ?_ | refine brE fun _ => ?_ | (refine spl ⟨?_, ?_⟩ <;> intro _))) <;> (try simp -implicitDefEqProofs (disch := first | assumption | (try simp only [lens]); omega -splitDisjunctions))))
def x53 : XC := .seq (.reg [⟨some 2,.assign (.const (.int .i64 0)),none⟩]) (.seq (.seq (.reg [⟨some 3,.move (.tmp 0),none⟩,⟨some 4,.binOp .lss 3 (.tmp 3) (.const (.int .i64 1)) 3,none⟩,⟨some 5,.move (.tmp 4),none⟩,⟨some 6,.move (.tmp 0),some (some 5,false)⟩,⟨some 7,.binOp .gtr 3 (.tmp 6) (.const (.int .i64 9)) 3,some (some 5,false)⟩,⟨some 8,.pick (.tmp 5) (.const (.bool true)) (.tmp 7),none⟩]) (.cond (.tmp 8) (.seq (.reg [⟨some 2,.assign (.const (.int .i64 (-1))),none⟩]) .ret) .skip)) (.seq (.reg [⟨some 9,.buildSlice 107 9 #[(0,.const (.int .i64 0)),(1,.const (.int .i64 0)),(2,.const (.int .i64 0)),(3,.const (.int .i64 1)),(4,.const (.int .i64 2)),(5,.const (.int .i64 2)),(6,.const (.int .i64 2)),(7,.const (.int .i64 1)),(8,.const (.int .i64 1))],none⟩,⟨some 10,.move (.tmp 0),none⟩,⟨some 11,.binOp .sub 3 (.tmp 10) (.const (.int .i64 1)) 3,none⟩,⟨some 12,.indexAddr 107 (.tmp 9) (.tmp 11),none⟩,⟨some 13,.load 3 (.tmp 12),none⟩,⟨some 2,.assign (.tmp 13),none⟩]) .ret))
@[simp] theorem x53_s {C e s K} : type_of% (@X_at C e s K _ _ x53.eq_1) := X_at x53.eq_1
def an53 : Ann := ⟨[], [], []⟩
theorem fi53 : FI Try.prog 53 (cxA an53) x53 [.tmp 2] Try.f53 := fiA Try.func53 mixed
theorem Arity_ref (k : Int) : CallOK Try.prog 53 [.int .i64 k] [] (.int .i64 (kidsN k)) [] := by
 refine fi53.op ?_
 by_cases hk : k < 1 ∨ 9 < k
 ·((refine Sg.h ?_); try repeat' ((first | (with_reducible first | refine brA ?_ | refine brE fun _ => ?_ | (refine spl ⟨?_, ?_⟩ <;> intro _))) <;> (try simp -implicitDefEqProofs (disch := first | assumption | (try simp only [lens]); omega -splitDisjunctions))))
  all_goals (unfold kidsN; simp_all; try omega)
 ·have h9 : k = 1 ∨ k = 2 ∨ k = 3 ∨ k = 4 ∨ k = 5 ∨ k = 6 ∨ k = 7 ∨ k = 8 ∨ k = 9 := by omega
  rcases h9 with rfl | rfl | rfl | rfl | rfl | rfl | rfl | rfl | rfl
  all_goals ((refine Sg.h ?_); try repeat' ((first | (with_reducible first | refine brA ?_ | refine brE fun _ => ?_ | (refine spl ⟨?_, ?_⟩ <;> intro _))) <;> (try simp -implicitDefEqProofs (disch := first | assumption | (try simp only [lens]); omega -splitDisjunctions))))
  all_goals simp [kidsN]
def x44_T1 : XC := .seq (.reg [⟨some 20,.move (.tmp 0),none⟩,⟨some 21,.call ⟨.builtin .len,#[.tmp 20],#[9]⟩,none⟩,⟨some 22,.binOp .gtr 3 (.tmp 21) (.const (.int .i64 0)) 3,none⟩,⟨some 23,.move (.tmp 22),none⟩,⟨some 24,.move (.tmp 0),some (some 23,true)⟩,⟨some 25,.call ⟨.builtin .len,#[.tmp 24],#[9]⟩,some (some 23,true)⟩,⟨some 26,.binOp .lss 3 (.tmp 25) (.const (.int .i64 9)) 3,some (some 23,true)⟩,⟨some 27,.pick (.tmp 23) (.tmp 26) (.const (.bool false)),none⟩,⟨some 2,.assign (.tmp 27),none⟩]) .ret
def x44_L0 : XC := .seq (.seq (.reg [⟨some 4,.move (.tmp 3),none⟩,⟨some 5,.move (.tmp 0),none⟩,⟨some 6,.call ⟨.builtin .len,#[.tmp 5],#[9]⟩,none⟩,⟨some 7,.binOp .lss 3 (.tmp 4) (.tmp 6) 3,none⟩]) (.cond (.tmp 7) .skip (.exit 0))) (.seq (.block 1 (.seq (.reg [⟨some 10,.move (.tmp 0),none⟩,⟨some 11,.move (.tmp 3),none⟩,⟨some 12,.index 9 (.tmp 10) (.tmp 11),none⟩,⟨some 13,.binOp .lss 5 (.tmp 12) (.const (.int .u8 97)) 5,none⟩,⟨some 14,.move (.tmp 13),none⟩,⟨some 15,.move (.tmp 0),some (some 14,false)⟩,⟨some 16,.move (.tmp 3),some (some 14,false)⟩,⟨some 17,.index 9 (.tmp 15) (.tmp 16),some (some 14,false)⟩,⟨some 18,.binOp .gtr 5 (.tmp 17) (.const (.int .u8 122)) 5,some (some 14,false)⟩,⟨some 19,.pick (.tmp 14) (.const (.bool true)) (.tmp 18),none⟩]) (.cond (.tmp 19) (.seq (.reg [⟨some 2,.assign (.const (.bool false)),none⟩]) .ret) .skip))) (.reg [⟨some 8,.move (.tmp 3),none⟩,⟨some 9,.binOp .add 3 (.tmp 8) (.const (.int .i64 1)) 3,none⟩,⟨some 3,.assign (.tmp 9),none⟩]))
def x44 : XC := .seq (.reg [⟨some 2,.assign (.const (.bool false)),none⟩]) (.seq (.seq (.reg [⟨some 3,.assign (.const (.int .i64 0)),none⟩]) (.bloop 0 x44_L0)) (x44_T1))
@[simp] theorem x44_s {C e s K} : type_of% (@X_at C e s K _ _ x44_T1.eq_1) ∧ type_of% (@X_at C e s K _ _ x44_L0.eq_1) ∧ type_of% (@X_at C e s K _ _ x44.eq_1) := ⟨X_at x44_T1.eq_1, X_at x44_L0.eq_1, X_at x44.eq_1⟩
def an44 : Ann := ⟨[], [(0, [], [0, 3], [0, 2])], []⟩
@[simp] theorem an44_a : an44.loopOf 0 = ([], [0, 3], [0, 2]) := rfl
theorem fi44 : FI Try.prog 44 (cxA an44) x44 [.tmp 2] Try.f44 := fiA Try.func44 mixed
theorem IsName_ref (t : ByteArray) : CallOK Try.prog 44 [.str t] [] (.bool (isNameB t)) [] := by
 refine fi44.op ?_
 ((refine Sg.h ?_); try repeat' ((first | (with_reducible first | refine brA ?_ | refine brE fun _ => ?_ | (refine spl ⟨?_, ?_⟩ <;> intro _))) <;> (try simp -implicitDefEqProofs (disch := first | assumption | (try simp only [lens]); omega -splitDisjunctions))))
 refine W_of fun Q hQ => ?_
 have main : ∀ n i, i + n = t.size → (∀ j (h : j < t.size), j < i → letterB t[j] = true) → Q [(0, .str t), (3, .int .i64 (i : Int))] [] := by
  intro n
  induction n with
  | zero =>
   intro i hi hl
   have hall : t.data.toList.all letterB = true := by
    rw [all_letter]; intro j hj; exact hl j hj (by omega)
   apply hQ
   ((refine Sg.h ?_); try repeat' ((first | (with_reducible first | refine brA ?_ | refine brE fun _ => ?_ | (refine spl ⟨?_, ?_⟩ <;> intro _))) <;> (try simp -implicitDefEqProofs (disch := first | assumption | (try simp only [lens]); omega -splitDisjunctions))))
   all_goals (rw [Bool.eq_iff_iff]; simp [isNameB, hall]; omega)
  | succ n ih =>
   intro i hi hl
   have hlt : i < t.size := by omega
   by_cases hb : letterB t[i] = true
   ·have hb' := hb
    simp only [letterB, decide_eq_true_eq] at hb'
    have ih := ih (i + 1) (by omega) (fun j hj hji => by
     by_cases e : j = i
     ·subst e; exact hb
     ·exact hl j hj (by omega))
    apply hQ
    ((refine Sg.h ?_); try repeat' ((first | (with_reducible first | refine brA ?_ | refine brE fun _ => ?_ | (refine spl ⟨?_, ?_⟩ <;> intro _))) <;> (try simp -implicitDefEqProofs (disch := first | assumption | (try simp only [lens]); omega -splitDisjunctions))))
    all_goals simpa using ih
   ·have hno : isNameB t = false := by
     have h2 : ¬ t.data.toList.all letterB = true := by
      rw [all_letter]; intro h3; exact hb (h3 i hlt)
     simp [isNameB, h2]
    simp only [letterB, decide_eq_true_eq] at hb
    apply hQ
    ((refine Sg.h ?_); try repeat' ((first | (with_reducible first | refine brA ?_ | refine brE fun _ => ?_ | (refine spl ⟨?_, ?_⟩ <;> intro _))) <;> (try simp -implicitDefEqProofs (disch := first | assumption | (try simp only [lens]); omega -splitDisjunctions))))
    all_goals first | (exfalso; have := hb (by omega); omega; done) | simp_all
 refine at2 (main _ 0 (Nat.zero_add _) (fun j h hj => by omega)) ?_ ?_ <;> simp
def x16_T1 : XC := .seq (.reg [⟨some 70,.build 29 #[],none⟩,⟨none,.store 29 (.tmp 2) (.tmp 70),none⟩]) .ret
def x16_L0 : XC := .seq (.seq (.reg [⟨some 8,.move (.tmp 4),none⟩,⟨some 9,.move (.tmp 3),none⟩,⟨some 10,.call ⟨.builtin .len,#[.tmp 9],#[22]⟩,none⟩,⟨some 11,.binOp .lss 3 (.tmp 8) (.tmp 10) 3,none⟩]) (.cond (.tmp 11) .skip (.exit 0))) (.seq (.block 1 (.seq (.reg [⟨some 14,.move (.tmp 3),none⟩,⟨some 15,.move (.tmp 4),none⟩,⟨some 16,.indexAddr 22 (.tmp 14) (.tmp 15),none⟩,⟨some 17,.fieldAddr 24 (.tmp 16) 0,none⟩,⟨some 18,.load 3 (.tmp 17),none⟩,⟨some 19,.call ⟨.value (.func 53),#[.tmp 18],#[3]⟩,none⟩,⟨some 5,.assign (.tmp 19),none⟩]) (.seq (.seq (.reg [⟨some 20,.move (.tmp 4),none⟩,⟨some 21,.binOp .eql 3 (.tmp 20) (.const (.int .i64 200)) 3,none⟩]) (.cond (.tmp 21) (.seq (.reg [⟨some 22,.call ⟨.value (.func 45),#[.const (.int .i64 2),.const (.int .i64 0)],#[3,3]⟩,none⟩,⟨none,.store 29 (.tmp 2) (.tmp 22),none⟩]) .ret) .skip)) (.seq (.seq (.reg [⟨some 23,.move (.tmp 5),none⟩,⟨some 24,.binOp .lss 3 (.tmp 23) (.const (.int .i64 0)) 3,none⟩]) (.cond (.tmp 24) (.seq (.reg [⟨some 25,.move (.tmp 4),none⟩,⟨some 26,.call ⟨.value (.func 45),#[.const (.int .i64 4),.tmp 25],#[3,3]⟩,none⟩,⟨none,.store 29 (.tmp 2) (.tmp 26),none⟩]) .ret) .skip)) (.seq (.seq (.reg [⟨some 27,.move (.tmp 3),none⟩,⟨some 28,.move (.tmp 4),none⟩,⟨some 29,.indexAddr 22 (.tmp 27) (.tmp 28),none⟩,⟨some 30,.fieldAddr 24 (.tmp 29) 2,none⟩,⟨some 31,.load 22 (.tmp 30),none⟩,⟨some 32,.call ⟨.builtin .len,#[.tmp 31],#[22]⟩,none⟩,⟨some 33,.move (.tmp 5),none⟩,⟨some 34,.binOp .neq 3 (.tmp 32) (.tmp 33) 3,none⟩]) (.cond (.tmp 34) (.seq (.reg [⟨some 35,.move (.tmp 4),none⟩,⟨some 36,.call ⟨.value (.func 45),#[.const (.int .i64 9),.tmp 35],#[3,3]⟩,none⟩,⟨none,.store 29 (.tmp 2) (.tmp 36),none⟩]) .ret) .skip)) (.seq (.reg [⟨some 37,.move (.tmp 3),none⟩,⟨some 38,.move (.tmp 4),none⟩,⟨some 39,.indexAddr 22 (.tmp 37) (.tmp 38),none⟩,⟨some 40,.fieldAddr 24 (.tmp 39) 0,none⟩,⟨some 41,.load 3 (.tmp 40),none⟩,⟨some 42,.binOp .eql 3 (.tmp 41) (.const (.int .i64 1)) 3,none⟩,⟨some 43,.move (.tmp 42),none⟩,⟨some 44,.move (.tmp 3),some (some 43,true)⟩,⟨some 45,.move (.tmp 4),some (some 43,true)⟩,⟨some 46,.indexAddr 22 (.tmp 44) (.tmp 45),some (some 43,true)⟩,⟨some 47,.fieldAddr 24 (.tmp 46) 1,some (some 43,true)⟩,⟨some 48,.load 9 (.tmp 47),some (some 43,true)⟩,⟨some 49,.call ⟨.value (.func 44),#[.tmp 48],#[9]⟩,some (some 43,true)⟩,⟨some 50,.unOp .not 4 (.tmp 49),some (some 43,true)⟩,⟨some 51,.pick (.tmp 43) (.tmp 50) (.const (.bool false)),none⟩,⟨some 52,.move (.tmp 51),none⟩,⟨some 53,.move (.tmp 3),some (some 52,false)⟩,⟨some 54,.move (.tmp 4),some (some 52,false)⟩,⟨some 55,.indexAddr 22 (.tmp 53) (.tmp 54),some (some 52,false)⟩,⟨some 56,.fieldAddr 24 (.tmp 55) 0,some (some 52,false)⟩,⟨some 57,.load 3 (.tmp 56),some (some 52,false)⟩,⟨some 58,.binOp .neq 3 (.tmp 57) (.const (.int .i64 1)) 3,some (some 52,false)⟩,⟨some 59,.move (.tmp 58),some (some 52,false)⟩,⟨some 60,.move (.tmp 3),some (some 59,true)⟩,⟨some 61,.move (.tmp 4),some (some 59,true)⟩,⟨some 62,.indexAddr 22 (.tmp 60) (.tmp 61),some (some 59,true)⟩,⟨some 63,.fieldAddr 24 (.tmp 62) 1,some (some 59,true)⟩,⟨some 64,.load 9 (.tmp 63),some (some 59,true)⟩,⟨some 65,.binOp .neq 9 (.tmp 64) (.const (.string ⟨#[]⟩)) 9,some (some 59,true)⟩,⟨some 66,.pick (.tmp 59) (.tmp 65) (.const (.bool false)),some (some 52,false)⟩,⟨some 67,.pick (.tmp 52) (.const (.bool true)) (.tmp 66),none⟩]) (.cond (.tmp 67) (.seq (.reg [⟨some 68,.move (.tmp 4),none⟩,⟨some 69,.call ⟨.value (.func 45),#[.const (.int .i64 8),.tmp 68],#[3,3]⟩,none⟩,⟨none,.store 29 (.tmp 2) (.tmp 69),none⟩]) .ret) .skip))))))) (.reg [⟨some 12,.move (.tmp 4),none⟩,⟨some 13,.binOp .add 3 (.tmp 12) (.const (.int .i64 1)) 3,none⟩,⟨some 4,.assign (.tmp 13),none⟩]))
def x16 : XC := .seq (.reg [⟨some 1,.box 24 (.tmp 0),none⟩,⟨some 2,.alloc 29,none⟩]) (.seq (.reg [⟨some 6,.load 24 (.tmp 1),none⟩,⟨some 7,.call ⟨.value (.func 47),#[.tmp 6,.const (.int .i64 201)],#[24,3]⟩,none⟩,⟨some 3,.assign (.tmp 7),none⟩]) (.seq (.seq (.reg [⟨some 4,.assign (.const (.int .i64 0)),none⟩]) (.bloop 0 x16_L0)) (x16_T1)))
@[simp] theorem x16_s {C e s K} : type_of% (@X_at C e s K _ _ x16_T1.eq_1) ∧ type_of% (@X_at C e s K _ _ x16_L0.eq_1) ∧ type_of% (@X_at C e s K _ _ x16.eq_1) := ⟨X_at x16_T1.eq_1, X_at x16_L0.eq_1, X_at x16.eq_1⟩
def an16 : Ann := ⟨[], [(0, [], [2, 3, 4], [2])], []⟩
@[simp] theorem an16_a : an16.loopOf 0 = ([], [2, 3, 4], [2]) := rfl
theorem fi16 : FI Try.prog 16 (cxA an16) x16 [.cell 2 29] Try.f16 := fiA Try.func16 mixed
theorem FormulaFault_ref (f : Fm) : CallOK Try.prog 16 [.agg (frm f)] [] (.agg [.int .i64 (formulaCheck f).1, .int .i64 (formulaCheck f).2]) [] := by
 rw [← refFault_eq]
 have hw := walk_ref f 201 (by omega) (by omega) []
 unfold refFault
 obtain ⟨l, hl0⟩ : ∃ l, l = walkL f 201 := ⟨_, rfl⟩
 rw [← hl0] at hw ⊢
 refine fi16.op ?_
 ((refine Sg.h ?_); try repeat' ((first | (with_reducible first | refine brA ?_ | refine brE fun _ => ?_ | (refine spl ⟨?_, ?_⟩ <;> intro _)) | refine clo hw ?_) <;> (try simp -implicitDefEqProofs (disch := first | assumption | (try simp only [lens]); omega -splitDisjunctions))))
 clear hl0 hw
 refine W_of fun Q hQ => ?_
 have main : ∀ n i, i + n = l.length → checkNodes l 0 = checkNodes (l.drop i) i → Q [(2, .ptr 0 0 0), (3, .list (l.map frm)), (4, .int .i64 (i : Int))] [.rows 2 [[.int .i64 0, .int .i64 0]]] := by
  intro n
  induction n with
  | zero =>
   intro i hi hc
   rw [List.drop_of_length_le (by omega)] at hc
   apply hQ
   ((refine Sg.h ?_); try repeat' ((first | (with_reducible first | refine brA ?_ | refine brE fun _ => ?_ | (refine spl ⟨?_, ?_⟩ <;> intro _))) <;> (try simp -implicitDefEqProofs (disch := first | assumption | (try simp only [lens]); omega -splitDisjunctions))))
   all_goals simp [hc, checkNodes]
  | succ n ih =>
   intro i hi hc
   have hlt : i < l.length := by omega
   have ih := ih (i + 1) (by omega)
   rw [checkNodes_drop l i hlt i] at hc
   apply hQ
   ((refine Sg.h ?_); try repeat' ((first | (with_reducible first | refine brA ?_ | refine brE fun _ => ?_ | (refine spl ⟨?_, ?_⟩ <;> intro _)) | refine clo (Arity_ref _) ?_ | refine clo (IsName_ref _) ?_ | refine clo (F_ref _ _) ?_) <;> (try simp -implicitDefEqProofs (disch := first | assumption | (try simp only [lens]); omega -splitDisjunctions))))
   all_goals (repeat' split at hc)
   all_goals first | (rw [hc]; simp; done) | (refine at2 (ih hc) ?_ ?_ <;> simp; done) | (exfalso; clear ih hc; first | omega | (simp_all; done) | (simp_all; omega))
 refine at2 (main _ 0 (Nat.zero_add _) rfl) ?_ ?_ <;> simp
end Go.Proofs.Ytcllmionhlmjfaa
namespace Go.Proofs.Ytcllmionhlmjfaa
open Go Go.Pv
def Pl (f : Fm) : Prop := Td f ∧ ∀ x ∈ pre f, x.kind ≤ 7
theorem Pl.kid {f g : Fm} (h : Pl f) (hg : g ∈ f.kids) : Pl g := ⟨h.1.kid hg, fun x hx => h.2 x (by rw [pre_eq]; exact List.mem_cons_of_mem _ (pres_mem hx _ hg))⟩
section
variable {h : ByteArray → Bool} {nm : ByteArray} {l : List Fm} {a b : Fm}
end
end Go.Proofs.Ytcllmionhlmjfaa
namespace Go.Proofs.Ytcllmionhlmjfaa
open Go Go.Pv
def x15 : XC := .seq (.reg [⟨some 1,.box 24 (.tmp 0),none⟩,⟨some 2,.assign (.const (.string ⟨#[]⟩)),none⟩,⟨some 3,.alloc 29,none⟩]) (.seq (.seq (.reg [⟨some 5,.load 24 (.tmp 1),none⟩,⟨some 6,.call ⟨.value (.func 14),#[.tmp 5],#[24]⟩,none⟩,⟨some 4,.alloc 29,none⟩,⟨none,.store 29 (.tmp 4) (.tmp 6),none⟩]) (.seq (.reg [⟨some 7,.fieldAddr 29 (.tmp 4) 0,none⟩,⟨some 8,.load 3 (.tmp 7),none⟩,⟨some 9,.binOp .neq 3 (.tmp 8) (.const (.int .i64 0)) 3,none⟩]) (.cond (.tmp 9) (.seq (.drawn 3 [⟨some 10,.load 29 (.tmp 4),none⟩,⟨some 2,.assign (.const (.string ⟨#[]⟩)),none⟩,⟨none,.store 29 (.tmp 3) (.tmp 10),none⟩]) .ret) .skip))) (.seq (.reg [⟨some 11,.load 24 (.tmp 1),none⟩,⟨some 12,.call ⟨.value (.func 52),#[.tmp 11],#[24]⟩,none⟩,⟨some 13,.build 29 #[],none⟩,⟨some 2,.assign (.tmp 12),none⟩,⟨none,.store 29 (.tmp 3) (.tmp 13),none⟩]) .ret))
@[simp] theorem x15_s {C e s K} : type_of% (@X_at C e s K _ _ x15.eq_1) := X_at x15.eq_1
def an15 : Ann := ⟨[], [], []⟩
@[simp] theorem an15_a : an15.clsOf 3 = .draw ∧ an15.frzOf 3 = [] := ⟨rfl, rfl⟩
theorem fi15 : FI Try.prog 15 (cxA an15) x15 [.tmp 2, .cell 3 29] Try.f15 := fiA Try.func15 mixed
theorem Print_bad (f : Fm) (h : (formulaCheck f).1 ≠ 0) : CallOK Try.prog 15 [.agg (frm f)] [] (.tuple [.str ⟨#[]⟩, .agg [.int .i64 (formulaCheck f).1, .int .i64 (formulaCheck f).2]]) [] := by
 have h1 := check_formula f []
 generalize (formulaCheck f).1 = c at *
 generalize (formulaCheck f).2 = a at *
 refine fi15.op ?_
 ((refine Sg.h ?_); try repeat' ((first | (with_reducible first | refine brA ?_ | refine brE fun _ => ?_ | (refine spl ⟨?_, ?_⟩ <;> intro _)) | refine clo h1 ?_) <;> ((try simp -implicitDefEqProofs [h]); (try simp -implicitDefEqProofs (disch := first | assumption | (try simp only [lens]); omega -splitDisjunctions) [h]))))
theorem Print_ok (f : Fm) (h : formulaCheck f = (0, 0)) (hf : OkF (fun n => isNameB n = true) f) (hl : (pre f).length ≤ 1000) : CallOK Try.prog 15 [.agg (frm f)] [] (.tuple [.str (said f 1), .agg [.int .i64 0, .int .i64 0]]) [] := by
 have h1 := check_formula f []
 rw [h] at h1
 have h2 := Said_formula f hf hl
 generalize said f 1 = s at *
 refine fi15.op ?_
 ((refine Sg.h ?_); try repeat' ((first | (with_reducible first | refine brA ?_ | refine brE fun _ => ?_ | (refine spl ⟨?_, ?_⟩ <;> intro _)) | refine clo h1 ?_ | refine clo h2 ?_) <;> ((try simp -implicitDefEqProofs); (try simp -implicitDefEqProofs (disch := first | assumption | (try simp only [lens]); omega -splitDisjunctions)))))
def tB : ByteArray := ⟨#[40, 112, 32, 45, 62, 32, 113, 41, 32, 45, 62, 32, 112, 32, 38, 32, 126, 49]⟩
def nB (c : UInt8) : Fm := .mk 1 ⟨#[c]⟩ []
def fB : Fm := .mk 7 ⟨#[]⟩ [.mk 7 ⟨#[]⟩ [nB 112, nB 113], .mk 5 ⟨#[]⟩ [nB 112, .mk 4 ⟨#[]⟩ [.mk 2 ⟨#[]⟩ []]]]
theorem parse_tB : parseO tB = (fB, 0, 0) := by kernel_rfl
theorem check_fB : formulaCheck fB = (0, 0) := by kernel_rfl
theorem said_fB : said fB 1 = tB := by kernel_rfl
def x11 : XC := .seq (.reg [⟨some 0,.assign (.const (.bool false)),none⟩]) (.seq (.reg [⟨some 6,.call ⟨.value (.func 19),#[.const (.string ⟨#[40,112,32,45,62,32,113,41,32,45,62,32,112,32,38,32,126,49]⟩)],#[9]⟩,none⟩,⟨some 5,.move (.tmp 6),none⟩,⟨some 7,.extract (.tmp 5) 0,none⟩,⟨some 8,.extract (.tmp 5) 1,none⟩,⟨some 1,.alloc 24,none⟩,⟨some 2,.alloc 29,none⟩,⟨none,.store 24 (.tmp 1) (.tmp 7),none⟩,⟨none,.store 29 (.tmp 2) (.tmp 8),none⟩]) (.seq (.reg [⟨some 10,.load 24 (.tmp 1),none⟩,⟨some 11,.call ⟨.value (.func 15),#[.tmp 10],#[24]⟩,none⟩,⟨some 9,.move (.tmp 11),none⟩,⟨some 12,.extract (.tmp 9) 0,none⟩,⟨some 13,.extract (.tmp 9) 1,none⟩,⟨some 4,.alloc 29,none⟩,⟨some 3,.assign (.tmp 12),none⟩,⟨none,.store 29 (.tmp 4) (.tmp 13),none⟩]) (.seq (.reg [⟨some 14,.fieldAddr 29 (.tmp 2) 0,none⟩,⟨some 15,.load 3 (.tmp 14),none⟩,⟨some 16,.binOp .eql 3 (.tmp 15) (.const (.int .i64 0)) 3,none⟩,⟨some 17,.move (.tmp 16),none⟩,⟨some 18,.fieldAddr 29 (.tmp 4) 0,some (some 17,true)⟩,⟨some 19,.load 3 (.tmp 18),some (some 17,true)⟩,⟨some 20,.binOp .eql 3 (.tmp 19) (.const (.int .i64 0)) 3,some (some 17,true)⟩,⟨some 21,.pick (.tmp 17) (.tmp 20) (.const (.bool false)),none⟩,⟨some 22,.move (.tmp 21),none⟩,⟨some 23,.move (.tmp 3),some (some 22,true)⟩,⟨some 24,.binOp .eql 9 (.tmp 23) (.const (.string ⟨#[40,112,32,45,62,32,113,41,32,45,62,32,112,32,38,32,126,49]⟩)) 9,some (some 22,true)⟩,⟨some 25,.pick (.tmp 22) (.tmp 24) (.const (.bool false)),none⟩,⟨some 0,.assign (.tmp 25),none⟩]) .ret)))
@[simp] theorem x11_s {C e s K} : type_of% (@X_at C e s K _ _ x11.eq_1) := X_at x11.eq_1
def an11 : Ann := ⟨[], [], []⟩
theorem fi11 : FI Try.prog 11 (cxA an11) x11 [.tmp 0] Try.f11 := fiA Try.func11 mixed
theorem formulaBegun_law : CallOK Try.prog 11 [] [] (.bool true) [] := by
 have h1 := Parse_formula tB
 rw [parse_tB] at h1
 have hc := check_fB
 have h2 := Print_ok fB hc (td_check (by rw [hc])).ok (by have := ((formulaCheck_iff fB).1 (by rw [hc])).2; omega)
 rw [said_fB] at h2
 unfold tB at h1 h2
 generalize fB = f at *
 refine fi11.op ?_
 ((refine Sg.h ?_); try repeat' ((first | (with_reducible first | refine brA ?_ | refine brE fun _ => ?_ | (refine spl ⟨?_, ?_⟩ <;> intro _)) | refine clo h1 ?_ | refine clo h2 ?_) <;> ((try simp -implicitDefEqProofs); (try simp -implicitDefEqProofs (disch := first | assumption | (try simp only [lens]); omega -splitDisjunctions)))))
end Go.Proofs.Ytcllmionhlmjfaa
namespace Go.Proofs.Ytcllmionhlmjfaa
open Go Go.Pv
def x13_T1 : XC := .seq (.reg [⟨some 28,.load 24 (.tmp 3),none⟩,⟨none,.store 24 (.tmp 2) (.tmp 28),none⟩]) .ret
def x13_L0 : XC := .seq (.seq (.reg [⟨some 10,.move (.tmp 4),none⟩,⟨some 11,.fieldAddr 24 (.tmp 1) 2,none⟩,⟨some 12,.load 22 (.tmp 11),none⟩,⟨some 13,.call ⟨.builtin .len,#[.tmp 12],#[22]⟩,none⟩,⟨some 14,.binOp .lss 3 (.tmp 10) (.tmp 13) 3,none⟩]) (.cond (.tmp 14) .skip (.exit 0))) (.seq (.block 1 (.drawn 5 [⟨some 17,.fieldAddr 24 (.tmp 3) 2,none⟩,⟨some 18,.load 22 (.tmp 17),none⟩,⟨some 19,.fieldAddr 24 (.tmp 1) 2,none⟩,⟨some 20,.load 22 (.tmp 19),none⟩,⟨some 21,.move (.tmp 4),none⟩,⟨some 22,.indexAddr 22 (.tmp 20) (.tmp 21),none⟩,⟨some 23,.load 24 (.tmp 22),none⟩,⟨some 24,.call ⟨.value (.func 13),#[.tmp 23],#[24]⟩,none⟩,⟨some 25,.buildSlice 22 1 #[(0,.tmp 24)],none⟩,⟨some 26,.call ⟨.builtin .append,#[.tmp 18,.tmp 25],#[22,22]⟩,none⟩,⟨some 27,.fieldAddr 24 (.tmp 3) 2,none⟩,⟨none,.store 22 (.tmp 27) (.tmp 26),none⟩])) (.reg [⟨some 15,.move (.tmp 4),none⟩,⟨some 16,.binOp .add 3 (.tmp 15) (.const (.int .i64 1)) 3,none⟩,⟨some 4,.assign (.tmp 16),none⟩]))
def x13 : XC := .seq (.reg [⟨some 1,.box 24 (.tmp 0),none⟩,⟨some 2,.alloc 24,none⟩]) (.seq (.reg [⟨some 5,.fieldAddr 24 (.tmp 1) 0,none⟩,⟨some 6,.load 3 (.tmp 5),none⟩,⟨some 7,.fieldAddr 24 (.tmp 1) 1,none⟩,⟨some 8,.load 9 (.tmp 7),none⟩,⟨some 9,.build 24 #[(0,.tmp 6),(1,.tmp 8)],none⟩,⟨some 3,.alloc 24,none⟩,⟨none,.store 24 (.tmp 3) (.tmp 9),none⟩]) (.seq (.seq (.reg [⟨some 4,.assign (.const (.int .i64 0)),none⟩]) (.bloop 0 x13_L0)) (x13_T1)))
@[simp] theorem x13_s {C e s K} : type_of% (@X_at C e s K _ _ x13_T1.eq_1) ∧ type_of% (@X_at C e s K _ _ x13_L0.eq_1) ∧ type_of% (@X_at C e s K _ _ x13.eq_1) := ⟨X_at x13_T1.eq_1, X_at x13_L0.eq_1, X_at x13.eq_1⟩
def an13 : Ann := ⟨[(5, .mix 9)], [(0, [(3, some 2, 3)], [1, 2, 3, 4], [2, 3])], []⟩
@[simp] theorem an13_a : an13.clsOf 5 = .mix 9 ∧ an13.frzOf 5 = [] ∧ an13.loopOf 0 = ([(3, some 2, 3)], [1, 2, 3, 4], [2, 3]) := ⟨rfl, rfl, rfl⟩
theorem fi13 : FI Try.prog 13 (cxA an13) x13 [.cell 2 24] Try.f13 := fiA Try.func13 mixed
theorem vast_kids {f : Fm} {d : Int} (h : vastB f d = false) : f.kids.length ≤ 25000 ∧ ∀ g ∈ f.kids, vastB g (d + 1) = false := by
 rw [vastB_eq] at h
 simp only [Bool.or_eq_false_iff, decide_eq_false_iff_not] at h
 refine ⟨by omega, ?_⟩
 have h2 := h.2.2
 generalize f.kids = l at h2
 induction l with
 | nil => intro g hg; cases hg
 | cons a r ih =>
  intro g hg
  rw [vastsB, Bool.or_eq_false_iff] at h2
  cases hg with
  | head => exact h2.1
  | tail _ hg => exact ih h2.2 g hg
theorem own_law (f : Fm) : ∀ d, vastB f d = false → CallOK Try.prog 13 [.agg (frm f)] [] (.agg (frm f)) [] := by
 induction f using Fm.ind with
 | h f ih =>
  intro d hv
  obtain ⟨hk, hv⟩ := vast_kids hv
  refine fi13.os ?_
  ((refine Sg.h ?_); try repeat' ((first | (with_reducible first | refine brA ?_ | refine brE fun _ => ?_ | (refine spl ⟨?_, ?_⟩ <;> intro _))) <;> ((try simp -implicitDefEqProofs); (try simp -implicitDefEqProofs (disch := first | assumption | (try simp only [lens]); omega -splitDisjunctions)))))
  refine W_of fun Q hQ => ?_
  have main : ∀ n i, i + n = f.kids.length → Q [(1, .ptr 0 0 0), (2, .ptr 1 0 0), (3, .ptr 2 0 0), (4, .int .i64 (i : Int))]
    [.rows 3 [frm f], .rows 3 [[.int .i64 0, .str ⟨#[]⟩, .nilsl]], .rows 3 [[.int .i64 f.kind, .str f.name, .sl 3 0 i]], .rows 3 ((f.kids.take i).map frm)] := by
   intro n
   induction n with
   | zero =>
    intro i hi
    apply hQ
    ((refine Sg.h ?_); try repeat' ((first | (with_reducible first | refine brA ?_ | refine brE fun _ => ?_ | (refine spl ⟨?_, ?_⟩ <;> intro _))) <;> ((try simp -implicitDefEqProofs); (try simp -implicitDefEqProofs (disch := first | assumption | (try simp only [lens]); omega -splitDisjunctions)))))
    rw [frm_eq]
    simp [List.take_of_length_le, show f.kids.length ≤ i by omega]
   | succ n ihn =>
    intro i hi
    apply hQ
    ((refine Sg.h ?_); try repeat' ((first | (with_reducible first | refine brA ?_ | refine brE fun _ => ?_ | (refine spl ⟨?_, ?_⟩ <;> intro _)) | refine clo (ih _ (List.getElem_mem _) _ (hv _ (List.getElem_mem _))) ?_) <;> ((try simp -implicitDefEqProofs); (try simp -implicitDefEqProofs (disch := first | assumption | (try simp only [lens]); omega -splitDisjunctions)))))
    refine at2 (ihn (i + 1) (by omega)) ?_ ?_
    ·simp
    ·simp only [List.map_take]
     rw [take_snoc (l := f.kids.map frm) (i := i) (by simp; omega)]; simp only [List.getElem_map, List.take_take, Nat.min_self]
  refine at2 (main _ 0 (Nat.zero_add _)) ?_ ?_ <;> simp
def x17_L0 : XC := .seq (.seq (.reg [⟨some 27,.move (.tmp 5),none⟩,⟨some 28,.fieldAddr 24 (.tmp 2) 2,none⟩,⟨some 29,.load 22 (.tmp 28),none⟩,⟨some 30,.call ⟨.builtin .len,#[.tmp 29],#[22]⟩,none⟩,⟨some 31,.binOp .lss 3 (.tmp 27) (.tmp 30) 3,none⟩]) (.cond (.tmp 31) .skip (.exit 0))) (.seq (.block 1 (.seq (.drawn 6 [⟨some 34,.fieldAddr 24 (.tmp 2) 2,none⟩,⟨some 35,.load 22 (.tmp 34),none⟩,⟨some 36,.move (.tmp 5),none⟩,⟨some 37,.indexAddr 22 (.tmp 35) (.tmp 36),none⟩,⟨some 38,.load 24 (.tmp 37),none⟩,⟨some 39,.fieldAddr 24 (.tmp 3) 2,none⟩,⟨some 40,.load 22 (.tmp 39),none⟩,⟨some 41,.move (.tmp 5),none⟩,⟨some 42,.indexAddr 22 (.tmp 40) (.tmp 41),none⟩,⟨some 43,.load 24 (.tmp 42),none⟩,⟨some 44,.call ⟨.value (.func 17),#[.tmp 38,.tmp 43],#[24,24]⟩,none⟩,⟨some 45,.unOp .not 4 (.tmp 44),none⟩]) (.cond (.tmp 45) (.seq (.reg [⟨some 4,.assign (.const (.bool false)),none⟩]) .ret) .skip))) (.reg [⟨some 32,.move (.tmp 5),none⟩,⟨some 33,.binOp .add 3 (.tmp 32) (.const (.int .i64 1)) 3,none⟩,⟨some 5,.assign (.tmp 33),none⟩]))
def x17 : XC := .seq (.reg [⟨some 2,.box 24 (.tmp 0),none⟩,⟨some 3,.box 24 (.tmp 1),none⟩,⟨some 4,.assign (.const (.bool false)),none⟩]) (.seq (.seq (.reg [⟨some 6,.fieldAddr 24 (.tmp 2) 0,none⟩,⟨some 7,.load 3 (.tmp 6),none⟩,⟨some 8,.fieldAddr 24 (.tmp 3) 0,none⟩,⟨some 9,.load 3 (.tmp 8),none⟩,⟨some 10,.binOp .neq 3 (.tmp 7) (.tmp 9) 3,none⟩,⟨some 11,.move (.tmp 10),none⟩,⟨some 12,.fieldAddr 24 (.tmp 2) 1,some (some 11,false)⟩,⟨some 13,.load 9 (.tmp 12),some (some 11,false)⟩,⟨some 14,.fieldAddr 24 (.tmp 3) 1,some (some 11,false)⟩,⟨some 15,.load 9 (.tmp 14),some (some 11,false)⟩,⟨some 16,.binOp .neq 9 (.tmp 13) (.tmp 15) 9,some (some 11,false)⟩,⟨some 17,.pick (.tmp 11) (.const (.bool true)) (.tmp 16),none⟩,⟨some 18,.move (.tmp 17),none⟩,⟨some 19,.fieldAddr 24 (.tmp 2) 2,some (some 18,false)⟩,⟨some 20,.load 22 (.tmp 19),some (some 18,false)⟩,⟨some 21,.call ⟨.builtin .len,#[.tmp 20],#[22]⟩,some (some 18,false)⟩,⟨some 22,.fieldAddr 24 (.tmp 3) 2,some (some 18,false)⟩,⟨some 23,.load 22 (.tmp 22),some (some 18,false)⟩,⟨some 24,.call ⟨.builtin .len,#[.tmp 23],#[22]⟩,some (some 18,false)⟩,⟨some 25,.binOp .neq 3 (.tmp 21) (.tmp 24) 3,some (some 18,false)⟩,⟨some 26,.pick (.tmp 18) (.const (.bool true)) (.tmp 25),none⟩]) (.cond (.tmp 26) (.seq (.reg [⟨some 4,.assign (.const (.bool false)),none⟩]) .ret) .skip)) (.seq (.seq (.reg [⟨some 5,.assign (.const (.int .i64 0)),none⟩]) (.bloop 0 x17_L0)) (.seq (.reg [⟨some 4,.assign (.const (.bool true)),none⟩]) .ret)))
@[simp] theorem x17_s {C e s K} : type_of% (@X_at C e s K _ _ x17_L0.eq_1) ∧ type_of% (@X_at C e s K _ _ x17.eq_1) := ⟨X_at x17_L0.eq_1, X_at x17.eq_1⟩
def an17 : Ann := ⟨[(6, .mix 10)], [(0, [], [2, 3, 5], [4])], []⟩
@[simp] theorem an17_a : an17.clsOf 6 = .mix 10 ∧ an17.frzOf 6 = [] ∧ an17.loopOf 0 = ([], [2, 3, 5], [4]) := ⟨rfl, rfl, rfl⟩
theorem fi17 : FI Try.prog 17 (cxA an17) x17 [.tmp 4] Try.f17 := fiA Try.func17 mixed
theorem Same_ref (f : Fm) : ∀ g : Fm, CallOK Try.prog 17 [.agg (frm f), .agg (frm g)] [] (.bool (sameB f g)) [] := by
 induction f using Fm.ind with
 | h f ih =>
  intro g
  have he := sameB_eq f g
  refine fi17.op ?_
  ((refine Sg.h ?_); try repeat' ((first | (with_reducible first | refine brA ?_ | refine brE fun _ => ?_ | (refine spl ⟨?_, ?_⟩ <;> intro _))) <;> ((try simp -implicitDefEqProofs); (try simp -implicitDefEqProofs (disch := first | assumption | (try simp only [lens]); omega -splitDisjunctions)))))
  all_goals try (rw [he, eqL_len (by omega), Bool.and_false]; done)
  all_goals try (rw [he]; simp_all; done)
  all_goals (
   rename_i hlen
   refine W_of fun Q hQ => ?_
   have main : ∀ n i, i + n = f.kids.length → eqL sameB f.kids g.kids = eqL sameB (f.kids.drop i) (g.kids.drop i) → Q [(2, .ptr 0 0 0), (3, .ptr 1 0 0), (5, .int .i64 (i : Int))] [.rows 3 [frm f], .rows 3 [frm g]] := by
    intro n
    induction n with
    | zero =>
     intro i hi hd
     rw [List.drop_of_length_le (by omega), List.drop_of_length_le (by omega)] at hd
     apply hQ
     ((refine Sg.h ?_); try repeat' ((first | (with_reducible first | refine brA ?_ | refine brE fun _ => ?_ | (refine spl ⟨?_, ?_⟩ <;> intro _))) <;> ((try simp -implicitDefEqProofs); (try simp -implicitDefEqProofs (disch := first | assumption | (try simp only [lens]); omega -splitDisjunctions)))))
     all_goals (rw [he, hd]; simp_all [eqL])
    | succ n ihn =>
     intro i hi hd
     rw [eqL_drop (by omega) (by omega)] at hd
     have ihn := ihn (i + 1) (by omega)
     apply hQ
     ((refine Sg.h ?_); try repeat' ((first | (with_reducible first | refine brA ?_ | refine brE fun _ => ?_ | (refine spl ⟨?_, ?_⟩ <;> intro _)) | refine clo (ih _ (List.getElem_mem _) _) ?_) <;> ((try simp -implicitDefEqProofs); (try simp -implicitDefEqProofs (disch := first | assumption | (try simp only [lens]); omega -splitDisjunctions)))))
     all_goals first | (rw [he, hd]; simp_all; done) | (refine at2 (ihn ?_) ?_ ?_; (· rw [hd]; simp_all); (· simp); (· rfl))
   refine at2 (main _ 0 (Nat.zero_add _) rfl) ?_ ?_ <;> simp)
end Go.Proofs.Ytcllmionhlmjfaa
namespace Go.Proofs.Ytcllmionhlmjfaa
open Go Go.Pv
theorem td_one {k : Int} {f : Fm} (hk : k = 4 ∨ k = 8 ∨ k = 9) (h : Td f) : Td (.mk k ⟨#[]⟩ [f]) := by
 intro x hx
 have : pre (.mk k ⟨#[]⟩ [f]) = .mk k ⟨#[]⟩ [f] :: pre f := pre_of1 k f
 rw [this] at hx
 cases hx with
 | head => exact ok_of1 hk
 | tail _ hx => exact h x hx
theorem td_two {k : Int} {f g : Fm} (hk : k = 5 ∨ k = 6 ∨ k = 7) (h : Td f) (h2 : Td g) : Td (.mk k ⟨#[]⟩ [f, g]) := by
 intro x hx
 have : pre (.mk k ⟨#[]⟩ [f, g]) = .mk k ⟨#[]⟩ [f, g] :: (pre f ++ pre g) := pre_of2 k f g
 rw [this] at hx
 cases hx with
 | head => exact ok_of2 hk
 | tail _ hx =>
  rcases List.mem_append.1 hx with hx | hx
  ·exact h x hx
  ·exact h2 x hx
theorem td_leaf {k : Int} {nm : ByteArray} (h : okN (.mk k nm [])) : Td (.mk k nm []) := by
 intro x hx
 rw [pre_eq] at hx
 have : (Fm.mk k nm []).kids = [] := rfl
 rw [this, pres_nil, List.mem_singleton] at hx
 rw [hx]; exact h
end Go.Proofs.Ytcllmionhlmjfaa
