import Derived.Test.YtkadceiolddmhaaCCcB
set_option linter.unusedVariables false
set_option linter.unusedSimpArgs false
set_option maxRecDepth 100000
set_option maxHeartbeats 4000000
namespace Go.Proofs.Ytkadceiolddmhaa
open Go Go.Pv
def x157 : XC := .seq (.reg [⟨some 4,.alloc 33,none⟩]) (.seq (.reg [⟨some 5,.move (.tmp 0),none⟩,⟨some 6,.move (.tmp 1),none⟩,⟨some 7,.build 33 #[(0,.tmp 5),(1,.tmp 6)],none⟩,⟨none,.store 33 (.tmp 4) (.tmp 7),none⟩]) .ret)
@[simp] theorem x157_s {C e s K} : type_of% (@X_at C e s K _ _ x157.eq_1) := X_at x157.eq_1
def an157 : Ann := ⟨[], [], []⟩
theorem fi157 : FI Try.prog 157 (cxA an157) x157 [.cell 4 33] Try.f157 := fiA Try.func157 mixed
theorem fault_calculus (a b : Int) : CallOK Try.prog 157 [.int .i64 a, .int .i64 b] [] (.agg [.int .i64 a, .int .i64 b]) [] := by
 refine fi157.op ?_
 ((refine Sg.h ?_); try repeat' ((first | (with_reducible first | refine brA ?_ | refine brE fun _ => ?_ | (refine spl ⟨?_, ?_⟩ <;> intro _))) <;> ((try simp -implicitDefEqProofs); (try simp -implicitDefEqProofs (disch := first | assumption | (try simp only [lens]); omega -splitDisjunctions)))))
noncomputable def withinF : List Fm → List Fm → Bool
 | [], _ => true
 | f :: b, c => hasF c f && withinF b (c.erase f)
def x171_L0 : XC := .seq (.reg [⟨some 10,.binOp .lss 3 (.tmp 9) (.tmp 8) 3,none⟩]) (.seq (.cond (.tmp 10) .skip (.exit 0)) (.seq (.block 1 (.seq (.reg [⟨some 11,.indexAddr 226 (.tmp 7) (.tmp 9),none⟩,⟨some 12,.load 59 (.tmp 11),none⟩,⟨some 6,.alloc 59,none⟩,⟨none,.store 59 (.tmp 6) (.tmp 12),none⟩]) (.seq (.seq (.reg [⟨some 13,.move (.tmp 1),none⟩,⟨some 14,.load 59 (.tmp 6),none⟩,⟨some 15,.call ⟨.value (.func 199),#[.tmp 13,.tmp 14],#[226,59]⟩,none⟩,⟨some 16,.unOp .not 4 (.tmp 15),none⟩]) (.cond (.tmp 16) (.seq (.reg [⟨some 4,.assign (.const (.bool false)),none⟩]) .ret) .skip)) (.reg [⟨some 17,.move (.tmp 1),none⟩,⟨some 18,.load 59 (.tmp 6),none⟩,⟨some 19,.call ⟨.value (.func 200),#[.tmp 17,.tmp 18],#[226,59]⟩,none⟩,⟨some 1,.assign (.tmp 19),none⟩])))) (.reg [⟨some 20,.binOp .add 3 (.tmp 9) (.const (.int .i64 1)) 3,none⟩,⟨some 9,.move (.tmp 20),none⟩])))
def x171 : XC := .seq (.reg [⟨some 4,.assign (.const (.bool false)),none⟩]) (.seq (.seq (.reg [⟨some 7,.move (.tmp 0),none⟩,⟨some 8,.call ⟨.builtin .len,#[.tmp 7],#[226]⟩,none⟩,⟨some 9,.move (.const (.int .i64 0)),none⟩]) (.bloop 0 x171_L0)) (.seq (.reg [⟨some 4,.assign (.const (.bool true)),none⟩]) .ret))
@[simp] theorem x171_s {C e s K} : type_of% (@X_at C e s K _ _ x171_L0.eq_1) ∧ type_of% (@X_at C e s K _ _ x171.eq_1) := ⟨X_at x171_L0.eq_1, X_at x171.eq_1⟩
def an171 : Ann := ⟨[], [(0, [], [1, 7, 8, 9], [4])], []⟩
@[simp] theorem an171_a : an171.loopOf 0 = ([], [1, 7, 8, 9], [4]) := rfl
theorem fi171 : FI Try.prog 171 (cxA an171) x171 [.tmp 4] Try.f171 := fiA Try.func171 mixed
theorem within_bag (b c : List Fm) (hb : b.length ≤ 100000) (hc : c.length ≤ 100000) : CallOK Try.prog 171 [.list (b.map frm), .list (c.map frm)] [] (.bool (withinF b c)) [] := by
 generalize hV : withinF b c = V
 refine fi171.op ?_
 ((refine Sg.h ?_); try repeat' ((first | (with_reducible first | refine brA ?_ | refine brE fun _ => ?_ | (refine spl ⟨?_, ?_⟩ <;> intro _))) <;> ((try simp -implicitDefEqProofs); (try simp -implicitDefEqProofs (disch := first | assumption | (try simp only [lens]); omega -splitDisjunctions)))))
 refine W_of fun Q hQ => ?_
 have main : ∀ n i c, i + n = b.length → c.length ≤ 100000 → withinF (b.drop i) c = V → Q [(1, .list (c.map frm)), (7, .list (b.map frm)), (8, .int .i64 (b.length : Int)), (9, .int .i64 (i : Int))] [] := by
  intro n
  induction n with
  | zero =>
   intro i c hi hc he
   rw [List.drop_of_length_le (by omega), withinF] at he
   apply hQ
   clear hQ
   subst he
   ((refine Sg.h ?_); try repeat' ((first | (with_reducible first | refine brA ?_ | refine brE fun _ => ?_ | (refine spl ⟨?_, ?_⟩ <;> intro _))) <;> ((try simp -implicitDefEqProofs); (try simp -implicitDefEqProofs (disch := first | assumption | (try simp only [lens]); omega -splitDisjunctions)))))
  | succ n ih =>
   intro i c hi hc he
   have hil : i < b.length := by omega
   have ih := ih (i + 1) (c.erase b[i]) (by omega) (by have := List.length_erase_le (a := b[i]) (l := c); omega)
   rw [List.drop_eq_getElem_cons hil, withinF] at he
   have h1 := has_bag c (by omega) b[i]
   have h2 := less_bag c hc b[i]
   apply hQ
   clear hQ
   cases hh : hasF c b[i] with
   | false =>
    rw [hh, Bool.false_and] at he
    rw [hh] at h1
    subst he
    ((refine Sg.h ?_); try repeat' ((first | (with_reducible first | refine brA ?_ | refine brE fun _ => ?_ | (refine spl ⟨?_, ?_⟩ <;> intro _)) | refine clo h1 ?_) <;> ((try simp -implicitDefEqProofs [hil]); (try simp -implicitDefEqProofs (disch := first | assumption | (try simp only [lens]); omega -splitDisjunctions) [hil]))))
   | true =>
    rw [hh, Bool.true_and] at he
    rw [hh] at h1
    have ih := ih he
    have h2 := h2 (hasF_iff.1 hh)
    ((refine Sg.h ?_); try repeat' ((first | (with_reducible first | refine brA ?_ | refine brE fun _ => ?_ | (refine spl ⟨?_, ?_⟩ <;> intro _)) | refine clo h1 ?_ | refine clo h2 ?_) <;> ((try simp -implicitDefEqProofs [hil]); (try simp -implicitDefEqProofs (disch := first | assumption | (try simp only [lens]); omega -splitDisjunctions) [hil]))))
    all_goals first | exact ih | (refine at2 ih ?_ ?_ <;> simp; done) | (exfalso; first | omega | (simp_all; done) | (simp_all; omega))
 all_goals first | exact main _ 0 c (Nat.zero_add _) hc (by simpa using hV) | (refine at2 main _ 0 c (Nat.zero_add _) hc (by simpa using hV) ?_ ?_ <;> simp; done) | (exfalso; first | omega | (simp_all; done) | (simp_all; omega))
def x175 : XC := .seq (.reg [⟨some 4,.assign (.const (.bool false)),none⟩]) (.seq (.reg [⟨some 5,.move (.tmp 0),none⟩,⟨some 6,.call ⟨.builtin .len,#[.tmp 5],#[226]⟩,none⟩,⟨some 7,.move (.tmp 1),none⟩,⟨some 8,.call ⟨.builtin .len,#[.tmp 7],#[226]⟩,none⟩,⟨some 9,.binOp .eql 3 (.tmp 6) (.tmp 8) 3,none⟩,⟨some 10,.move (.tmp 9),none⟩,⟨some 11,.move (.tmp 0),some (some 10,true)⟩,⟨some 12,.move (.tmp 1),some (some 10,true)⟩,⟨some 13,.call ⟨.value (.func 171),#[.tmp 11,.tmp 12],#[226,226]⟩,some (some 10,true)⟩,⟨some 14,.pick (.tmp 10) (.tmp 13) (.const (.bool false)),none⟩,⟨some 4,.assign (.tmp 14),none⟩]) .ret)
@[simp] theorem x175_s {C e s K} : type_of% (@X_at C e s K _ _ x175.eq_1) := X_at x175.eq_1
def an175 : Ann := ⟨[], [], []⟩
theorem fi175 : FI Try.prog 175 (cxA an175) x175 [.tmp 4] Try.f175 := fiA Try.func175 mixed
theorem same_bag (b c : List Fm) (hb : b.length ≤ 100000) (hc : c.length ≤ 100000) : CallOK Try.prog 175 [.list (b.map frm), .list (c.map frm)] [] (.bool (decide (b.length = c.length) && withinF b c)) [] := by
 have h := within_bag b c hb hc
 refine fi175.op ?_
 by_cases hk : b.length = c.length
 ·((refine Sg.h ?_); try repeat' ((first | (with_reducible first | refine brA ?_ | refine brE fun _ => ?_ | (refine spl ⟨?_, ?_⟩ <;> intro _)) | refine clo h ?_) <;> ((try simp -implicitDefEqProofs [hk]); (try simp -implicitDefEqProofs (disch := first | assumption | (try simp only [lens]); omega -splitDisjunctions) [hk]))))
 ·have hki : ¬ ((b.length : Int) = (c.length : Int)) := by omega
  ((refine Sg.h ?_); try repeat' ((first | (with_reducible first | refine brA ?_ | refine brE fun _ => ?_ | (refine spl ⟨?_, ?_⟩ <;> intro _)) | refine clo h ?_) <;> ((try simp -implicitDefEqProofs [hk, hki]); (try simp -implicitDefEqProofs (disch := first | assumption | (try simp only [lens]); omega -splitDisjunctions) [hk, hki]))))
noncomputable def noneF (f : Fm) : Bool := decide (f.kind = 0) && decide (f.name = ⟨#[]⟩) && decide (f.kids.length = 0)
def x170 : XC := .seq (.reg [⟨some 1,.box 59 (.tmp 0),none⟩,⟨some 2,.assign (.const (.bool false)),none⟩]) (.seq (.reg [⟨some 3,.fieldAddr 59 (.tmp 1) 0,none⟩,⟨some 4,.load 3 (.tmp 3),none⟩,⟨some 5,.binOp .eql 3 (.tmp 4) (.const (.int .i64 0)) 3,none⟩,⟨some 6,.move (.tmp 5),none⟩,⟨some 7,.fieldAddr 59 (.tmp 1) 1,some (some 6,true)⟩,⟨some 8,.load 9 (.tmp 7),some (some 6,true)⟩,⟨some 9,.binOp .eql 9 (.tmp 8) (.const (.string ⟨#[]⟩)) 9,some (some 6,true)⟩,⟨some 10,.pick (.tmp 6) (.tmp 9) (.const (.bool false)),none⟩,⟨some 11,.move (.tmp 10),none⟩,⟨some 12,.fieldAddr 59 (.tmp 1) 2,some (some 11,true)⟩,⟨some 13,.load 57 (.tmp 12),some (some 11,true)⟩,⟨some 14,.call ⟨.builtin .len,#[.tmp 13],#[57]⟩,some (some 11,true)⟩,⟨some 15,.binOp .eql 3 (.tmp 14) (.const (.int .i64 0)) 3,some (some 11,true)⟩,⟨some 16,.pick (.tmp 11) (.tmp 15) (.const (.bool false)),none⟩,⟨some 2,.assign (.tmp 16),none⟩]) .ret)
@[simp] theorem x170_s {C e s K} : type_of% (@X_at C e s K _ _ x170.eq_1) := X_at x170.eq_1
def an170 : Ann := ⟨[], [], []⟩
theorem fi170 : FI Try.prog 170 (cxA an170) x170 [.tmp 2] Try.f170 := fiA Try.func170 mixed
theorem none_calculus (f : Fm) : CallOK Try.prog 170 [.agg (frm f)] [] (.bool (noneF f)) [] := by
 refine fi170.op ?_
 unfold noneF
 by_cases h1 : f.kind = 0 <;> by_cases h2 : f.name = ⟨#[]⟩ <;> by_cases h3 : f.kids.length = 0
 all_goals (have h3i : (f.kids.length : Int) = (0 : Int) ∨ ¬ ((f.kids.length : Int) = 0) := by omega)
 all_goals ((refine Sg.h ?_); try repeat' ((first | (with_reducible first | refine brA ?_ | refine brE fun _ => ?_ | (refine spl ⟨?_, ?_⟩ <;> intro _))) <;> ((try simp -implicitDefEqProofs [h1, h2, h3]); (try simp -implicitDefEqProofs (disch := first | assumption | (try simp only [lens]); omega -splitDisjunctions) [h1, h2, h3]))))
 all_goals trace_state
end Go.Proofs.Ytkadceiolddmhaa
