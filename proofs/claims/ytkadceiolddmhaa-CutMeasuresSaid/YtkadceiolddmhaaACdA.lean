import Derived.Test.YtkadceiolddmhaaACcV
set_option linter.unusedVariables false
set_option linter.unusedSimpArgs false
set_option maxRecDepth 100000
set_option maxHeartbeats 4000000
namespace Go.Proofs.Ytkadceiolddmhaa
open Go Go.Pv
theorem count_snoc {l : List Fm} {i : Nat} (h : i < l.length) (f : Fm) : (l.take (i + 1)).count f = (l.take i).count f + if sameB l[i] f = true then 1 else 0 := by
 rw [List.take_succ_eq_append_getElem h, List.count_append, List.count_cons, List.count_nil, Nat.zero_add]; rfl
def x160_T1 : XC := .seq (.reg [⟨some 21,.move (.tmp 5),none⟩,⟨some 4,.assign (.tmp 21),none⟩]) .ret
def x160_L0 : XC := .seq (.seq (.reg [⟨some 7,.move (.tmp 6),none⟩,⟨some 8,.move (.tmp 0),none⟩,⟨some 9,.call ⟨.builtin .len,#[.tmp 8],#[57]⟩,none⟩,⟨some 10,.binOp .lss 3 (.tmp 7) (.tmp 9) 3,none⟩]) (.cond (.tmp 10) .skip (.exit 0))) (.seq (.block 1 (.seq (.drawn 5 [⟨some 13,.move (.tmp 0),none⟩,⟨some 14,.move (.tmp 6),none⟩,⟨some 15,.indexAddr 57 (.tmp 13) (.tmp 14),none⟩,⟨some 16,.load 59 (.tmp 15),none⟩,⟨some 17,.load 59 (.tmp 3),none⟩,⟨some 18,.call ⟨.value (.func 132),#[.tmp 16,.tmp 17],#[59,59]⟩,none⟩]) (.cond (.tmp 18) (.reg [⟨some 19,.move (.tmp 5),none⟩,⟨some 20,.binOp .add 3 (.tmp 19) (.const (.int .i64 1)) 3,none⟩,⟨some 5,.assign (.tmp 20),none⟩]) .skip))) (.reg [⟨some 11,.move (.tmp 6),none⟩,⟨some 12,.binOp .add 3 (.tmp 11) (.const (.int .i64 1)) 3,none⟩,⟨some 6,.assign (.tmp 12),none⟩]))
def x160 : XC := .seq (.reg [⟨some 3,.box 59 (.tmp 1),none⟩,⟨some 4,.assign (.const (.int .i64 0)),none⟩]) (.seq (.reg [⟨some 5,.assign (.const (.int .i64 0)),none⟩]) (.seq (.seq (.reg [⟨some 6,.assign (.const (.int .i64 0)),none⟩]) (.bloop 0 x160_L0)) (x160_T1)))
@[simp] theorem x160_s {C e s K} : type_of% (@X_at C e s K _ _ x160_T1.eq_1) ∧ type_of% (@X_at C e s K _ _ x160_L0.eq_1) ∧ type_of% (@X_at C e s K _ _ x160.eq_1) := ⟨X_at x160_T1.eq_1, X_at x160_L0.eq_1, X_at x160.eq_1⟩
def an160 : Ann := ⟨[], [(0, [], [0, 3, 5, 6], [5])], []⟩
@[simp] theorem an160_a : an160.clsOf 5 = .draw ∧ an160.frzOf 5 = [] ∧ an160.loopOf 0 = ([], [0, 3, 5, 6], [5]) := ⟨rfl, rfl, rfl⟩
theorem fi160 : FI Try.prog 160 (cxA an160) x160 [.tmp 4] Try.f160 := fiA Try.func160 mixed
theorem Often_ref (l : List Fm) (hl : l.length ≤ 1000000) (f : Fm) : CallOK Try.prog 160 [.list (l.map frm), .agg (frm f)] [] (.int .i64 (l.count f : Int)) [] := by
 refine fi160.op ?_
 ((refine Sg.h ?_); try repeat' ((first | (with_reducible first | refine brA ?_ | refine brE fun _ => ?_ | (refine spl ⟨?_, ?_⟩ <;> intro _))) <;> ((try simp -implicitDefEqProofs); (try simp -implicitDefEqProofs (disch := first | assumption | (try simp only [lens]); omega -splitDisjunctions)))))
 refine W_of fun Q hQ => ?_
 have main : ∀ r i, i + r = l.length → Q [(0, .list (l.map frm)), (3, .ptr 0 0 0), (5, .int .i64 ((l.take i).count f : Int)), (6, .int .i64 (i : Int))] [.rows 3 [frm f]] := by
  intro r
  induction r with
  | zero =>
   intro i hi
   obtain rfl : i = l.length := by omega
   rw [List.take_length]
   generalize l.count f = c at *
   apply hQ
   clear hQ
   ((refine Sg.h ?_); try repeat' ((first | (with_reducible first | refine brA ?_ | refine brE fun _ => ?_ | (refine spl ⟨?_, ?_⟩ <;> intro _))) <;> ((try simp -implicitDefEqProofs); (try simp -implicitDefEqProofs (disch := first | assumption | (try simp only [lens]); omega -splitDisjunctions)))))
  | succ r ih =>
   intro i hi
   have hil : i < l.length := by omega
   have ih := ih (i + 1) (by omega)
   have hc := Same_ref l[i] f
   have hle : (l.take i).count f ≤ i := Nat.le_trans List.count_le_length (by rw [List.length_take]; omega)
   rw [count_snoc hil] at ih
   generalize (l.take i).count f = c at *
   generalize sameB l[i] f = b at *
   apply hQ
   clear hQ
   cases b with
   | false =>
    rw [if_neg (by simp)] at ih
    ((refine Sg.h ?_); try repeat' ((first | (with_reducible first | refine brA ?_ | refine brE fun _ => ?_ | (refine spl ⟨?_, ?_⟩ <;> intro _)) | refine clo hc ?_) <;> ((try simp -implicitDefEqProofs [hil]); (try simp -implicitDefEqProofs (disch := first | assumption | (try simp only [lens]); omega -splitDisjunctions) [hil]))))
    all_goals first | exact ih | (refine at2 ih ?_ ?_ <;> simp; done) | (exfalso; first | omega | (simp_all; done) | (simp_all; omega))
   | true =>
    rw [if_pos rfl] at ih
    ((refine Sg.h ?_); try repeat' ((first | (with_reducible first | refine brA ?_ | refine brE fun _ => ?_ | (refine spl ⟨?_, ?_⟩ <;> intro _)) | refine clo hc ?_) <;> ((try simp -implicitDefEqProofs [hil]); (try simp -implicitDefEqProofs (disch := first | assumption | (try simp only [lens]); omega -splitDisjunctions) [hil]))))
    all_goals first | exact ih | (refine at2 ih ?_ ?_ <;> simp; done) | (exfalso; first | omega | (simp_all; done) | (simp_all; omega))
 refine at2 (main _ 0 (Nat.zero_add _)) ?_ ?_ <;> simp
def x128_L0 : XC := .seq (.seq (.reg [⟨some 6,.move (.tmp 5),none⟩,⟨some 7,.move (.tmp 0),none⟩,⟨some 8,.call ⟨.builtin .len,#[.tmp 7],#[57]⟩,none⟩,⟨some 9,.binOp .lss 3 (.tmp 6) (.tmp 8) 3,none⟩]) (.cond (.tmp 9) .skip (.exit 0))) (.seq (.block 1 (.seq (.drawn 4 [⟨some 12,.move (.tmp 0),none⟩,⟨some 13,.move (.tmp 0),none⟩,⟨some 14,.move (.tmp 5),none⟩,⟨some 15,.indexAddr 57 (.tmp 13) (.tmp 14),none⟩,⟨some 16,.load 59 (.tmp 15),none⟩,⟨some 17,.call ⟨.value (.func 160),#[.tmp 12,.tmp 16],#[57,59]⟩,none⟩,⟨some 18,.move (.tmp 1),none⟩,⟨some 19,.move (.tmp 0),none⟩,⟨some 20,.move (.tmp 5),none⟩,⟨some 21,.indexAddr 57 (.tmp 19) (.tmp 20),none⟩,⟨some 22,.load 59 (.tmp 21),none⟩,⟨some 23,.call ⟨.value (.func 160),#[.tmp 18,.tmp 22],#[57,59]⟩,none⟩,⟨some 24,.binOp .gtr 3 (.tmp 17) (.tmp 23) 3,none⟩]) (.cond (.tmp 24) (.seq (.reg [⟨some 4,.assign (.const (.bool false)),none⟩]) .ret) .skip))) (.reg [⟨some 10,.move (.tmp 5),none⟩,⟨some 11,.binOp .add 3 (.tmp 10) (.const (.int .i64 1)) 3,none⟩,⟨some 5,.assign (.tmp 11),none⟩]))
def x128 : XC := .seq (.reg [⟨some 4,.assign (.const (.bool false)),none⟩]) (.seq (.seq (.reg [⟨some 5,.assign (.const (.int .i64 0)),none⟩]) (.bloop 0 x128_L0)) (.seq (.reg [⟨some 4,.assign (.const (.bool true)),none⟩]) .ret))
@[simp] theorem x128_s {C e s K} : type_of% (@X_at C e s K _ _ x128_L0.eq_1) ∧ type_of% (@X_at C e s K _ _ x128.eq_1) := ⟨X_at x128_L0.eq_1, X_at x128.eq_1⟩
def an128 : Ann := ⟨[(4, .mix 11)], [(0, [], [0, 1, 5], [4])], []⟩
@[simp] theorem an128_a : an128.clsOf 4 = .mix 11 ∧ an128.frzOf 4 = [] ∧ an128.loopOf 0 = ([], [0, 1, 5], [4]) := ⟨rfl, rfl, rfl⟩
theorem fi128 : FI Try.prog 128 (cxA an128) x128 [.tmp 4] Try.f128 := fiA Try.func128 mixed
theorem NoMore_ref (a b : List Fm) (ha : a.length ≤ 1000000) (hb : b.length ≤ 1000000) : CallOK Try.prog 128 [.list (a.map frm), .list (b.map frm)] [] (.bool (withinF a b)) [] := by
 rw [← noMoreB_eq]
 generalize hV : noMoreB a b = V
 unfold noMoreB at hV
 refine fi128.op ?_
 ((refine Sg.h ?_); try repeat' ((first | (with_reducible first | refine brA ?_ | refine brE fun _ => ?_ | (refine spl ⟨?_, ?_⟩ <;> intro _))) <;> ((try simp -implicitDefEqProofs); (try simp -implicitDefEqProofs (disch := first | assumption | (try simp only [lens]); omega -splitDisjunctions)))))
 refine W_of fun Q hQ => ?_
 have main : ∀ r i, i + r = a.length → ((a.drop i).all fun x => decide (a.count x ≤ b.count x)) = V → Q [(0, .list (a.map frm)), (1, .list (b.map frm)), (5, .int .i64 (i : Int))] [] := by
  intro r
  induction r with
  | zero =>
   intro i hi he
   rw [List.drop_of_length_le (by omega), List.all_nil] at he
   subst he
   apply hQ
   clear hQ
   ((refine Sg.h ?_); try repeat' ((first | (with_reducible first | refine brA ?_ | refine brE fun _ => ?_ | (refine spl ⟨?_, ?_⟩ <;> intro _))) <;> ((try simp -implicitDefEqProofs); (try simp -implicitDefEqProofs (disch := first | assumption | (try simp only [lens]); omega -splitDisjunctions)))))
  | succ r ih =>
   intro i hi he
   have hil : i < a.length := by omega
   have ih := ih (i + 1) (by omega)
   rw [List.drop_eq_getElem_cons hil, List.all_cons] at he
   have h1 := Often_ref a ha a[i]
   have h2 := Often_ref b hb a[i]
   apply hQ
   clear hQ
   by_cases h : a.count a[i] ≤ b.count a[i]
   ·rw [decide_eq_true h, Bool.true_and] at he
    have ih := ih he
    have hi2 : ¬ ((b.count a[i] : Nat) : Int) < ((a.count a[i] : Nat) : Int) := by omega
    generalize a.count a[i] = x at *
    generalize b.count a[i] = y at *
    ((refine Sg.h ?_); try repeat' ((first | (with_reducible first | refine brA ?_ | refine brE fun _ => ?_ | (refine spl ⟨?_, ?_⟩ <;> intro _)) | refine clo h1 ?_ | refine clo h2 ?_) <;> ((try simp -implicitDefEqProofs [hil, hi2]); (try simp -implicitDefEqProofs (disch := first | assumption | (try simp only [lens]); omega -splitDisjunctions) [hil, hi2]))))
    all_goals first | exact ih | (refine at2 ih ?_ ?_ <;> simp; done) | (exfalso; first | omega | (simp_all; done) | (simp_all; omega))
   ·rw [decide_eq_false h, Bool.false_and] at he
    subst he
    have hi2 : ((b.count a[i] : Nat) : Int) < ((a.count a[i] : Nat) : Int) := by omega
    generalize a.count a[i] = x at *
    generalize b.count a[i] = y at *
    ((refine Sg.h ?_); try repeat' ((first | (with_reducible first | refine brA ?_ | refine brE fun _ => ?_ | (refine spl ⟨?_, ?_⟩ <;> intro _)) | refine clo h1 ?_ | refine clo h2 ?_) <;> ((try simp -implicitDefEqProofs [hil, hi2]); (try simp -implicitDefEqProofs (disch := first | assumption | (try simp only [lens]); omega -splitDisjunctions) [hil, hi2]))))
 refine at2 (main _ 0 (Nat.zero_add _) (by simpa using hV)) ?_ ?_ <;> simp
def x131 : XC := .seq (.reg [⟨some 4,.assign (.const (.bool false)),none⟩]) (.seq (.reg [⟨some 5,.move (.tmp 0),none⟩,⟨some 6,.call ⟨.builtin .len,#[.tmp 5],#[57]⟩,none⟩,⟨some 7,.move (.tmp 1),none⟩,⟨some 8,.call ⟨.builtin .len,#[.tmp 7],#[57]⟩,none⟩,⟨some 9,.binOp .eql 3 (.tmp 6) (.tmp 8) 3,none⟩,⟨some 10,.move (.tmp 9),none⟩,⟨some 11,.move (.tmp 0),some (some 10,true)⟩,⟨some 12,.move (.tmp 1),some (some 10,true)⟩,⟨some 13,.call ⟨.value (.func 128),#[.tmp 11,.tmp 12],#[57,57]⟩,some (some 10,true)⟩,⟨some 14,.pick (.tmp 10) (.tmp 13) (.const (.bool false)),none⟩,⟨some 4,.assign (.tmp 14),none⟩]) .ret)
@[simp] theorem x131_s {C e s K} : type_of% (@X_at C e s K _ _ x131.eq_1) := X_at x131.eq_1
def an131 : Ann := ⟨[], [], []⟩
theorem fi131 : FI Try.prog 131 (cxA an131) x131 [.tmp 4] Try.f131 := fiA Try.func131 mixed
theorem Bag_ref (a b : List Fm) (ha : a.length ≤ 1000000) (hb : b.length ≤ 1000000) : CallOK Try.prog 131 [.list (a.map frm), .list (b.map frm)] [] (.bool (sameF a b)) [] := by
 have h1 := NoMore_ref a b ha hb
 refine fi131.op ?_
 unfold sameF
 by_cases hl : a.length = b.length
 ·((refine Sg.h ?_); try repeat' ((first | (with_reducible first | refine brA ?_ | refine brE fun _ => ?_ | (refine spl ⟨?_, ?_⟩ <;> intro _)) | refine clo h1 ?_) <;> ((try simp -implicitDefEqProofs [hl]); (try simp -implicitDefEqProofs (disch := first | assumption | (try simp only [lens]); omega -splitDisjunctions) [hl]))))
 ·have hli : ¬ (a.length : Int) = (b.length : Int) := by omega
  ((refine Sg.h ?_); try repeat' ((first | (with_reducible first | refine brA ?_ | refine brE fun _ => ?_ | (refine spl ⟨?_, ?_⟩ <;> intro _)) | refine clo h1 ?_) <;> ((try simp -implicitDefEqProofs [hl, hli]); (try simp -implicitDefEqProofs (disch := first | assumption | (try simp only [lens]); omega -splitDisjunctions) [hl, hli]))))
def x163 : XC := .seq (.reg [⟨some 4,.assign (.const (.slice none 0 0)),none⟩]) (.seq (.reg [⟨some 5,.move (.tmp 0),none⟩,⟨some 6,.call ⟨.builtin .append,#[.const (.slice none 0 0),.tmp 5],#[57,57]⟩,none⟩,⟨some 7,.move (.tmp 1),none⟩,⟨some 8,.call ⟨.builtin .append,#[.tmp 6,.tmp 7],#[57,57]⟩,none⟩,⟨some 4,.assign (.tmp 8),none⟩]) .ret)
@[simp] theorem x163_s {C e s K} : type_of% (@X_at C e s K _ _ x163.eq_1) := X_at x163.eq_1
def an163 : Ann := ⟨[], [], []⟩
theorem fi163 : FI Try.prog 163 (cxA an163) x163 [.tmp 4] Try.f163 := fiA Try.func163 mixed
theorem plus_ref (a b : List Fm) (ha : a.length ≤ 1000000) (hb : b.length ≤ 1000000) : CallOK Try.prog 163 [.list (a.map frm), .list (b.map frm)] [] (.list ((a ++ b).map frm)) [] := by
 refine fi163.os ?_
 ((refine Sg.h ?_); try repeat' ((first | (with_reducible first | refine brA ?_ | refine brE fun _ => ?_ | (refine spl ⟨?_, ?_⟩ <;> intro _))) <;> ((try simp -implicitDefEqProofs); (try simp -implicitDefEqProofs (disch := first | assumption | (try simp only [lens]); omega -splitDisjunctions)))))
 all_goals exact List.take_of_length_le (by simp)
theorem erase_at {l : List Fm} {f : Fm} {i : Nat} (h : i < l.length) (hb : ∀ x ∈ l.take i, sameB x f = false) (he : sameB l[i] f = true) : l.erase f = l.take i ++ l.drop (i + 1) := by
 have hf : l[i] = f := sameB_iff.1 he
 have hn : f ∉ l.take i := fun hm => by
  have := hb f hm
  rw [sameB_iff.2 rfl] at this; cases this
 have e : l = l.take i ++ f :: l.drop (i + 1) := by
  rw [← hf, ← List.drop_eq_getElem_cons h, List.take_append_drop]
 rw [show l.erase f = (l.take i ++ f :: l.drop (i + 1)).erase f from by rw [← e], List.erase_append_right _ hn, List.erase_cons_head]
theorem row_cells {l : List Fm} : ∀ row ∈ l.map frm, row.length = 3 ∧ ∀ x ∈ row, isCell x = true := by
 intro row hr
 obtain ⟨f, _, rfl⟩ := List.mem_map.1 hr
 rw [frm_eq]; simp
def x161_T1 : XC := .seq (.reg [⟨some 27,.move (.tmp 0),none⟩,⟨some 28,.call ⟨.builtin .append,#[.const (.slice none 0 0),.tmp 27],#[57,57]⟩,none⟩,⟨some 4,.assign (.tmp 28),none⟩]) .ret
def x161_L0 : XC := .seq (.seq (.reg [⟨some 6,.move (.tmp 5),none⟩,⟨some 7,.move (.tmp 0),none⟩,⟨some 8,.call ⟨.builtin .len,#[.tmp 7],#[57]⟩,none⟩,⟨some 9,.binOp .lss 3 (.tmp 6) (.tmp 8) 3,none⟩]) (.cond (.tmp 9) .skip (.exit 0))) (.seq (.block 1 (.seq (.drawn 4 [⟨some 12,.move (.tmp 0),none⟩,⟨some 13,.move (.tmp 5),none⟩,⟨some 14,.indexAddr 57 (.tmp 12) (.tmp 13),none⟩,⟨some 15,.load 59 (.tmp 14),none⟩,⟨some 16,.load 59 (.tmp 3),none⟩,⟨some 17,.call ⟨.value (.func 132),#[.tmp 15,.tmp 16],#[59,59]⟩,none⟩]) (.cond (.tmp 17) (.seq (.drawn 5 [⟨some 18,.move (.tmp 0),none⟩,⟨some 19,.move (.tmp 5),none⟩,⟨some 20,.slice 57 (.tmp 18) none (some (.tmp 19)) none,none⟩,⟨some 21,.call ⟨.builtin .append,#[.const (.slice none 0 0),.tmp 20],#[57,57]⟩,none⟩,⟨some 22,.move (.tmp 0),none⟩,⟨some 23,.move (.tmp 5),none⟩,⟨some 24,.binOp .add 3 (.tmp 23) (.const (.int .i64 1)) 3,none⟩,⟨some 25,.slice 57 (.tmp 22) (some (.tmp 24)) none none,none⟩,⟨some 26,.call ⟨.builtin .append,#[.tmp 21,.tmp 25],#[57,57]⟩,none⟩,⟨some 4,.assign (.tmp 26),none⟩]) .ret) .skip))) (.reg [⟨some 10,.move (.tmp 5),none⟩,⟨some 11,.binOp .add 3 (.tmp 10) (.const (.int .i64 1)) 3,none⟩,⟨some 5,.assign (.tmp 11),none⟩]))
def x161 : XC := .seq (.reg [⟨some 3,.box 59 (.tmp 1),none⟩,⟨some 4,.assign (.const (.slice none 0 0)),none⟩]) (.seq (.seq (.reg [⟨some 5,.assign (.const (.int .i64 0)),none⟩]) (.bloop 0 x161_L0)) (x161_T1))
@[simp] theorem x161_s {C e s K} : type_of% (@X_at C e s K _ _ x161_T1.eq_1) ∧ type_of% (@X_at C e s K _ _ x161_L0.eq_1) ∧ type_of% (@X_at C e s K _ _ x161.eq_1) := ⟨X_at x161_T1.eq_1, X_at x161_L0.eq_1, X_at x161.eq_1⟩
def an161 : Ann := ⟨[(5, .mix 8)], [(0, [], [0, 3, 5], [0, 4])], []⟩
@[simp] theorem an161_a : an161.clsOf 4 = .draw ∧ an161.clsOf 5 = .mix 8 ∧ an161.frzOf 4 = [] ∧ an161.frzOf 5 = [] ∧ an161.loopOf 0 = ([], [0, 3, 5], [0, 4]) := ⟨rfl, rfl, rfl, rfl, rfl⟩
theorem fi161 : FI Try.prog 161 (cxA an161) x161 [.tmp 4] Try.f161 := fiA Try.func161 mixed
theorem Rest_ref (l : List Fm) (hl : l.length ≤ 1000000) (f : Fm) : CallOK Try.prog 161 [.list (l.map frm), .agg (frm f)] [] (.list ((l.erase f).map frm)) [] := by
 generalize hE : l.erase f = E
 refine fi161.os ?_
 ((refine Sg.h ?_); try repeat' ((first | (with_reducible first | refine brA ?_ | refine brE fun _ => ?_ | (refine spl ⟨?_, ?_⟩ <;> intro _))) <;> ((try simp -implicitDefEqProofs); (try simp -implicitDefEqProofs (disch := first | assumption | (try simp only [lens]); omega -splitDisjunctions)))))
 refine W_of fun Q hQ => ?_
 have main : ∀ r i, i + r = l.length → (∀ x ∈ l.take i, sameB x f = false) → Q [(0, .list (l.map frm)), (3, .ptr 0 0 0), (5, .int .i64 (i : Int))] [.rows 3 [frm f]] := by
  intro r
  induction r with
  | zero =>
   intro i hi he
   have hn : l.erase f = l := List.erase_of_not_mem fun hm => by
    have := he f (by rwa [List.take_of_length_le (by omega)])
    rw [sameB_iff.2 rfl] at this; cases this
   rw [hn] at hE
   subst hE
   apply hQ
   clear hQ
   ((refine Sg.h ?_); try repeat' ((first | (with_reducible first | refine brA ?_ | refine brE fun _ => ?_ | (refine spl ⟨?_, ?_⟩ <;> intro _))) <;> ((try simp -implicitDefEqProofs); (try simp -implicitDefEqProofs (disch := first | assumption | (try simp only [lens]); omega -splitDisjunctions)))))
  | succ r ih =>
   intro i hi he
   have hil : i < l.length := by omega
   have ih := ih (i + 1) (by omega)
   have hc := Same_ref l[i] f
   apply hQ
   clear hQ
   cases hb : sameB l[i] f with
   | false =>
    rw [hb] at hc
    have ih := ih fun x hx => by
     rw [take_snoc hil] at hx
     rcases List.mem_append.1 hx with hx | hx
     ·exact he x hx
     ·rw [List.mem_singleton.1 hx]; exact hb
    ((refine Sg.h ?_); try repeat' ((first | (with_reducible first | refine brA ?_ | refine brE fun _ => ?_ | (refine spl ⟨?_, ?_⟩ <;> intro _)) | refine clo hc ?_) <;> ((try simp -implicitDefEqProofs [hil]); (try simp -implicitDefEqProofs (disch := first | assumption | (try simp only [lens]); omega -splitDisjunctions) [hil]))))
    all_goals first | exact ih | (refine at2 ih ?_ ?_ <;> simp; done) | (exfalso; first | omega | (simp_all; done) | (simp_all; omega))
   | true =>
    rw [hb] at hc
    have hEi := erase_at hil he hb
    rw [hE] at hEi
    subst hEi
    have c1 : ∀ row ∈ (l.map frm).take i, row.length = 3 ∧ ∀ x ∈ row, isCell x = true := fun row hr => row_cells row (List.mem_of_mem_take hr)
    have c2 : ∀ row ∈ (l.map frm).drop (i + 1), row.length = 3 ∧ ∀ x ∈ row, isCell x = true := fun row hr => row_cells row (List.mem_of_mem_drop hr)
    have c3 : ((l.map frm).take i ++ (l.map frm).drop (i + 1)).take (i + (l.length - (i + 1))) = (l.map frm).take i ++ (l.map frm).drop (i + 1) := List.take_of_length_le (by simp; omega)
    ((refine Sg.h ?_); try repeat' ((first | (with_reducible first | refine brA ?_ | refine brE fun _ => ?_ | (refine spl ⟨?_, ?_⟩ <;> intro _)) | refine clo hc ?_) <;> ((try simp -implicitDefEqProofs [hil]); (try simp -implicitDefEqProofs (disch := first | assumption | (try simp only [lens]); omega -splitDisjunctions) [hil]))))
    exact ⟨⟨c1, by omega⟩, ⟨by omega, by omega⟩, ⟨c2, by omega⟩, by rw [c3]⟩
 refine at2 (main _ 0 (Nat.zero_add _) (by simp)) ?_ ?_ <;> simp
end Go.Proofs.Ytkadceiolddmhaa
