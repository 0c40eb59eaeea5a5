import Derived.Test.YtnoklmapofogeaaUBwQ
import Derived.Test.YtnoklmapofogeaaUCcV
import Derived.Test.YtnoklmapofogeaaUCdB
set_option linter.unusedVariables false
set_option linter.unusedSimpArgs false
set_option maxRecDepth 100000
set_option maxHeartbeats 4000000
namespace Go.Proofs.Ytnoklmapofogeaa
open Go Go.Pv
def nodeN : List Fm → Nat
 | [] => 0
 | f :: r => (walkL f 300).length + nodeN r
theorem nodeN_app : ∀ (a b : List Fm), nodeN (a ++ b) = nodeN a + nodeN b
 | [], b => by simp [nodeN]
 | x :: a, b => by rw [List.cons_append, nodeN, nodeN, nodeN_app a b]; omega
theorem nodeN_le : ∀ (a : List Fm), nodeN a ≤ 301 * a.length
 | [] => by simp [nodeN]
 | x :: a => by
  have := (walk_len x 300 (by decide)).2
  have := nodeN_le a
  rw [nodeN, List.length_cons]; omega
theorem nodeN_take {l : List Fm} {i : Nat} (h : i < l.length) : nodeN (l.take (i + 1)) = nodeN (l.take i) + (walkL l[i] 300).length := by
 rw [List.take_succ_eq_append_getElem h, nodeN_app]; simp [nodeN]
def x53_T3 : XC := .seq (.reg [⟨some 38,.move (.tmp 3),none⟩,⟨some 2,.assign (.tmp 38),none⟩]) .ret
def x53_L2 : XC := .seq (.seq (.reg [⟨some 22,.move (.tmp 5),none⟩,⟨some 23,.fieldAddr 26 (.tmp 1) 1,none⟩,⟨some 24,.load 22 (.tmp 23),none⟩,⟨some 25,.call ⟨.builtin .len,#[.tmp 24],#[22]⟩,none⟩,⟨some 26,.binOp .lss 3 (.tmp 22) (.tmp 25) 3,none⟩]) (.cond (.tmp 26) .skip (.exit 2))) (.seq (.block 3 (.reg [⟨some 29,.move (.tmp 3),none⟩,⟨some 30,.fieldAddr 26 (.tmp 1) 1,none⟩,⟨some 31,.load 22 (.tmp 30),none⟩,⟨some 32,.move (.tmp 5),none⟩,⟨some 33,.indexAddr 22 (.tmp 31) (.tmp 32),none⟩,⟨some 34,.load 24 (.tmp 33),none⟩,⟨some 35,.call ⟨.value (.func 62),#[.tmp 34,.const (.int .i64 300)],#[24,3]⟩,none⟩,⟨some 36,.call ⟨.builtin .len,#[.tmp 35],#[22]⟩,none⟩,⟨some 37,.binOp .add 3 (.tmp 29) (.tmp 36) 3,none⟩,⟨some 3,.assign (.tmp 37),none⟩])) (.reg [⟨some 27,.move (.tmp 5),none⟩,⟨some 28,.binOp .add 3 (.tmp 27) (.const (.int .i64 1)) 3,none⟩,⟨some 5,.assign (.tmp 28),none⟩]))
def x53_T1 : XC := .seq (.seq (.reg [⟨some 5,.assign (.const (.int .i64 0)),none⟩]) (.bloop 2 x53_L2)) (x53_T3)
def x53_L0 : XC := .seq (.seq (.reg [⟨some 6,.move (.tmp 4),none⟩,⟨some 7,.fieldAddr 26 (.tmp 1) 0,none⟩,⟨some 8,.load 22 (.tmp 7),none⟩,⟨some 9,.call ⟨.builtin .len,#[.tmp 8],#[22]⟩,none⟩,⟨some 10,.binOp .lss 3 (.tmp 6) (.tmp 9) 3,none⟩]) (.cond (.tmp 10) .skip (.exit 0))) (.seq (.block 1 (.reg [⟨some 13,.move (.tmp 3),none⟩,⟨some 14,.fieldAddr 26 (.tmp 1) 0,none⟩,⟨some 15,.load 22 (.tmp 14),none⟩,⟨some 16,.move (.tmp 4),none⟩,⟨some 17,.indexAddr 22 (.tmp 15) (.tmp 16),none⟩,⟨some 18,.load 24 (.tmp 17),none⟩,⟨some 19,.call ⟨.value (.func 62),#[.tmp 18,.const (.int .i64 300)],#[24,3]⟩,none⟩,⟨some 20,.call ⟨.builtin .len,#[.tmp 19],#[22]⟩,none⟩,⟨some 21,.binOp .add 3 (.tmp 13) (.tmp 20) 3,none⟩,⟨some 3,.assign (.tmp 21),none⟩])) (.reg [⟨some 11,.move (.tmp 4),none⟩,⟨some 12,.binOp .add 3 (.tmp 11) (.const (.int .i64 1)) 3,none⟩,⟨some 4,.assign (.tmp 12),none⟩]))
def x53 : XC := .seq (.reg [⟨some 1,.box 26 (.tmp 0),none⟩,⟨some 2,.assign (.const (.int .i64 0)),none⟩]) (.seq (.reg [⟨some 3,.assign (.const (.int .i64 0)),none⟩]) (.seq (.seq (.reg [⟨some 4,.assign (.const (.int .i64 0)),none⟩]) (.bloop 0 x53_L0)) (x53_T1)))
@[simp] theorem x53_s {C e s K} : type_of% (@X_at C e s K _ _ x53_T3.eq_1) ∧ type_of% (@X_at C e s K _ _ x53_L2.eq_1) ∧ type_of% (@X_at C e s K _ _ x53_T1.eq_1) ∧ type_of% (@X_at C e s K _ _ x53_L0.eq_1) ∧ type_of% (@X_at C e s K _ _ x53.eq_1) := ⟨X_at x53_T3.eq_1, X_at x53_L2.eq_1, X_at x53_T1.eq_1, X_at x53_L0.eq_1, X_at x53.eq_1⟩
def an53 : Ann := ⟨[], [(2, [], [1, 3, 5], [3]), (0, [], [1, 3, 4], [1, 3])], []⟩
@[simp] theorem an53_a : an53.loopOf 2 = ([], [1, 3, 5], [3]) ∧ an53.loopOf 0 = ([], [1, 3, 4], [1, 3]) := ⟨rfl, rfl⟩
theorem fi53 : FI Try.prog 53 (cxA an53) x53 [.tmp 2] Try.f53 := fiA Try.func53 mixed
theorem NodesIn_ref (l r : List Fm) (hl : l.length ≤ 50000) (hr : r.length ≤ 50000) : CallOK Try.prog 53 [.agg [.list (l.map frm), .list (r.map frm)]] [] (.int .i64 ((nodeN l + nodeN r : Nat) : Int)) [] := by
 refine fi53.op ?_
 have hnl := nodeN_le l
 have hnr := nodeN_le r
 ((refine Sg.h ?_); try repeat' ((first | (with_reducible first | refine brA ?_ | refine brE fun _ => ?_ | (refine spl ⟨?_, ?_⟩ <;> intro _))) <;> ((try simp -implicitDefEqProofs); (try simp -implicitDefEqProofs (disch := first | assumption | (try simp only [lens]); omega -splitDisjunctions)))))
 refine W_of fun Q hQ => ?_
 have main : ∀ n i, i + n = l.length → Q [(1, .ptr 0 0 0), (3, .int .i64 (nodeN (l.take i) : Int)), (4, .int .i64 (i : Int))] [.rows 2 [[.list (l.map frm), .list (r.map frm)]]] := by
  intro n
  induction n with
  | zero =>
   intro i hi
   obtain rfl : i = l.length := by omega
   rw [List.take_length]
   apply hQ
   clear hQ
   ((refine Sg.h ?_); try repeat' ((first | (with_reducible first | refine brA ?_ | refine brE fun _ => ?_ | (refine spl ⟨?_, ?_⟩ <;> intro _))) <;> ((try simp -implicitDefEqProofs); (try simp -implicitDefEqProofs (disch := first | assumption | (try simp only [lens]); omega -splitDisjunctions)))))
   refine W_of fun Q hQ => ?_
   have main2 : ∀ n i, i + n = r.length → Q [(1, .ptr 0 0 0), (3, .int .i64 ((nodeN l + nodeN (r.take i) : Nat) : Int)), (5, .int .i64 (i : Int))] [.rows 2 [[.list (l.map frm), .list (r.map frm)]]] := by
    intro n
    induction n with
    | zero =>
     intro i hi
     obtain rfl : i = r.length := by omega
     rw [List.take_length]
     apply hQ
     clear hQ
     ((refine Sg.h ?_); try repeat' ((first | (with_reducible first | refine brA ?_ | refine brE fun _ => ?_ | (refine spl ⟨?_, ?_⟩ <;> intro _))) <;> ((try simp -implicitDefEqProofs); (try simp -implicitDefEqProofs (disch := first | assumption | (try simp only [lens]); omega -splitDisjunctions)))))
    | succ n ih =>
     intro i hi
     have hil : i < r.length := by omega
     have ih := ih (i + 1) (by omega)
     have hw := walk_ref r[i] 300 (by decide) (by decide) []
     have hwl := (walk_len r[i] 300 (by decide)).2
     have hb : nodeN (r.take i) ≤ 301 * i := Nat.le_trans (nodeN_le _) (by rw [List.length_take]; exact Nat.mul_le_mul_left _ (Nat.min_le_left _ _))
     rw [nodeN_take hil] at ih
     generalize nodeN (r.take i) = T at *
     generalize walkL r[i] 300 = W at *
     apply hQ
     clear hQ
     ((refine Sg.h ?_); try repeat' ((first | (with_reducible first | refine brA ?_ | refine brE fun _ => ?_ | (refine spl ⟨?_, ?_⟩ <;> intro _)) | refine clo hw ?_) <;> ((try simp -implicitDefEqProofs [hil]); (try simp -implicitDefEqProofs (disch := first | assumption | (try simp only [lens]); omega -splitDisjunctions) [hil]))))
     all_goals first | exact ih | (refine at2 ih ?_ ?_ <;> simp [Int.add_assoc]; done) | (exfalso; first | omega | (simp_all; done) | (simp_all; omega))
   all_goals first | exact main2 _ 0 (Nat.zero_add _) | (refine at2 main2 _ 0 (Nat.zero_add _) ?_ ?_ <;> simp [nodeN]; done) | (exfalso; first | omega | (simp_all; done) | (simp_all; omega))
  | succ n ih =>
   intro i hi
   have hil : i < l.length := by omega
   have ih := ih (i + 1) (by omega)
   have hw := walk_ref l[i] 300 (by decide) (by decide) []
   have hwl := (walk_len l[i] 300 (by decide)).2
   have hb : nodeN (l.take i) ≤ 301 * i := Nat.le_trans (nodeN_le _) (by rw [List.length_take]; exact Nat.mul_le_mul_left _ (Nat.min_le_left _ _))
   rw [nodeN_take hil] at ih
   generalize nodeN (l.take i) = T at *
   generalize walkL l[i] 300 = W at *
   apply hQ
   clear hQ
   ((refine Sg.h ?_); try repeat' ((first | (with_reducible first | refine brA ?_ | refine brE fun _ => ?_ | (refine spl ⟨?_, ?_⟩ <;> intro _)) | refine clo hw ?_) <;> ((try simp -implicitDefEqProofs [hil]); (try simp -implicitDefEqProofs (disch := first | assumption | (try simp only [lens]); omega -splitDisjunctions) [hil]))))
   all_goals first | exact ih | (refine at2 ih ?_ ?_ <;> simp; done) | (exfalso; first | omega | (simp_all; done) | (simp_all; omega))
 all_goals first | exact main _ 0 (Nat.zero_add _) | (refine at2 main _ 0 (Nat.zero_add _) ?_ ?_ <;> simp; done) | (exfalso; first | omega | (simp_all; done) | (simp_all; omega))
def x55_L2 : XC := .seq (.seq (.reg [⟨some 22,.move (.tmp 6),none⟩,⟨some 23,.fieldAddr 26 (.tmp 2) 1,none⟩,⟨some 24,.load 22 (.tmp 23),none⟩,⟨some 25,.call ⟨.builtin .len,#[.tmp 24],#[22]⟩,none⟩,⟨some 26,.binOp .lss 3 (.tmp 22) (.tmp 25) 3,none⟩]) (.cond (.tmp 26) .skip (.exit 2))) (.seq (.block 3 (.seq (.reg [⟨some 29,.fieldAddr 26 (.tmp 2) 1,none⟩,⟨some 30,.load 22 (.tmp 29),none⟩,⟨some 31,.move (.tmp 6),none⟩,⟨some 32,.indexAddr 22 (.tmp 30) (.tmp 31),none⟩,⟨some 33,.load 24 (.tmp 32),none⟩,⟨some 34,.move (.tmp 1),none⟩,⟨some 35,.call ⟨.value (.func 44),#[.tmp 33,.tmp 34],#[24,35]⟩,none⟩]) (.cond (.tmp 35) (.seq (.reg [⟨some 4,.assign (.const (.bool false)),none⟩]) .ret) .skip))) (.reg [⟨some 27,.move (.tmp 6),none⟩,⟨some 28,.binOp .add 3 (.tmp 27) (.const (.int .i64 1)) 3,none⟩,⟨some 6,.assign (.tmp 28),none⟩]))
def x55_T1 : XC := .seq (.seq (.reg [⟨some 6,.assign (.const (.int .i64 0)),none⟩]) (.bloop 2 x55_L2)) (.seq (.reg [⟨some 4,.assign (.const (.bool true)),none⟩]) .ret)
def x55_L0 : XC := .seq (.seq (.reg [⟨some 7,.move (.tmp 5),none⟩,⟨some 8,.fieldAddr 26 (.tmp 2) 0,none⟩,⟨some 9,.load 22 (.tmp 8),none⟩,⟨some 10,.call ⟨.builtin .len,#[.tmp 9],#[22]⟩,none⟩,⟨some 11,.binOp .lss 3 (.tmp 7) (.tmp 10) 3,none⟩]) (.cond (.tmp 11) .skip (.exit 0))) (.seq (.block 1 (.seq (.reg [⟨some 14,.fieldAddr 26 (.tmp 2) 0,none⟩,⟨some 15,.load 22 (.tmp 14),none⟩,⟨some 16,.move (.tmp 5),none⟩,⟨some 17,.indexAddr 22 (.tmp 15) (.tmp 16),none⟩,⟨some 18,.load 24 (.tmp 17),none⟩,⟨some 19,.move (.tmp 1),none⟩,⟨some 20,.call ⟨.value (.func 44),#[.tmp 18,.tmp 19],#[24,35]⟩,none⟩,⟨some 21,.unOp .not 4 (.tmp 20),none⟩]) (.cond (.tmp 21) (.seq (.reg [⟨some 4,.assign (.const (.bool false)),none⟩]) .ret) .skip))) (.reg [⟨some 12,.move (.tmp 5),none⟩,⟨some 13,.binOp .add 3 (.tmp 12) (.const (.int .i64 1)) 3,none⟩,⟨some 5,.assign (.tmp 13),none⟩]))
def x55 : XC := .seq (.reg [⟨some 2,.box 26 (.tmp 0),none⟩,⟨some 4,.assign (.const (.bool false)),none⟩]) (.seq (.seq (.reg [⟨some 5,.assign (.const (.int .i64 0)),none⟩]) (.bloop 0 x55_L0)) (x55_T1))
@[simp] theorem x55_s {C e s K} : type_of% (@X_at C e s K _ _ x55_L2.eq_1) ∧ type_of% (@X_at C e s K _ _ x55_T1.eq_1) ∧ type_of% (@X_at C e s K _ _ x55_L0.eq_1) ∧ type_of% (@X_at C e s K _ _ x55.eq_1) := ⟨X_at x55_L2.eq_1, X_at x55_T1.eq_1, X_at x55_L0.eq_1, X_at x55.eq_1⟩
def an55 : Ann := ⟨[], [(2, [], [1, 2, 6], [4]), (0, [], [1, 2, 5], [1, 2, 4])], []⟩
@[simp] theorem an55_a : an55.loopOf 2 = ([], [1, 2, 6], [4]) ∧ an55.loopOf 0 = ([], [1, 2, 5], [1, 2, 4]) := ⟨rfl, rfl⟩
theorem fi55 : FI Try.prog 55 (cxA an55) x55 [.tmp 4] Try.f55 := fiA Try.func55 mixed
theorem Counters_ref (l r : List Fm) (hs : List ByteArray) (hl : ∀ f ∈ l, Pl f) (hr : ∀ f ∈ r, Pl f) (hll : l.length ≤ 50000) (hrl : r.length ≤ 50000) (hc : Ct (fun x => memB x hs) l r) : CallOK Try.prog 55 [.agg [.list (l.map frm), .list (r.map frm)], .list (hs.map strRow)] [] (.bool true) [] := by
 refine fi55.op ?_
 ((refine Sg.h ?_); try repeat' ((first | (with_reducible first | refine brA ?_ | refine brE fun _ => ?_ | (refine spl ⟨?_, ?_⟩ <;> intro _))) <;> ((try simp -implicitDefEqProofs); (try simp -implicitDefEqProofs (disch := first | assumption | (try simp only [lens]); omega -splitDisjunctions)))))
 refine W_of fun Q hQ => ?_
 have main : ∀ n i, i + n = l.length → Q [(1, .list (hs.map strRow)), (2, .ptr 0 0 0), (5, .int .i64 (i : Int))] [.rows 2 [[.list (l.map frm), .list (r.map frm)]]] := by
  intro n
  induction n with
  | zero =>
   intro i hi
   obtain rfl : i = l.length := by omega
   apply hQ
   clear hQ
   ((refine Sg.h ?_); try repeat' ((first | (with_reducible first | refine brA ?_ | refine brE fun _ => ?_ | (refine spl ⟨?_, ?_⟩ <;> intro _))) <;> ((try simp -implicitDefEqProofs); (try simp -implicitDefEqProofs (disch := first | assumption | (try simp only [lens]); omega -splitDisjunctions)))))
   refine W_of fun Q hQ => ?_
   have main2 : ∀ n i, i + n = r.length → Q [(1, .list (hs.map strRow)), (2, .ptr 0 0 0), (6, .int .i64 (i : Int))] [.rows 2 [[.list (l.map frm), .list (r.map frm)]]] := by
    intro n
    induction n with
    | zero =>
     intro i hi
     obtain rfl : i = r.length := by omega
     apply hQ
     clear hQ
     ((refine Sg.h ?_); try repeat' ((first | (with_reducible first | refine brA ?_ | refine brE fun _ => ?_ | (refine spl ⟨?_, ?_⟩ <;> intro _))) <;> ((try simp -implicitDefEqProofs); (try simp -implicitDefEqProofs (disch := first | assumption | (try simp only [lens]); omega -splitDisjunctions)))))
    | succ n ih =>
     intro i hi
     have hil : i < r.length := by omega
     have ih := ih (i + 1) (by omega)
     have hw := True_ref hs r[i] (hr _ (List.getElem_mem hil))
     rw [hc.2 _ (List.getElem_mem hil)] at hw
     apply hQ
     clear hQ
     ((refine Sg.h ?_); try repeat' ((first | (with_reducible first | refine brA ?_ | refine brE fun _ => ?_ | (refine spl ⟨?_, ?_⟩ <;> intro _)) | refine clo hw ?_) <;> ((try simp -implicitDefEqProofs [hil]); (try simp -implicitDefEqProofs (disch := first | assumption | (try simp only [lens]); omega -splitDisjunctions) [hil]))))
     all_goals first | exact ih | (refine at2 ih ?_ ?_ <;> simp; done) | (exfalso; first | omega | (simp_all; done) | (simp_all; omega))
   all_goals first | exact main2 _ 0 (Nat.zero_add _) | (refine at2 main2 _ 0 (Nat.zero_add _) ?_ ?_ <;> simp; done) | (exfalso; first | omega | (simp_all; done) | (simp_all; omega))
  | succ n ih =>
   intro i hi
   have hil : i < l.length := by omega
   have ih := ih (i + 1) (by omega)
   have hw := True_ref hs l[i] (hl _ (List.getElem_mem hil))
   rw [hc.1 _ (List.getElem_mem hil)] at hw
   apply hQ
   clear hQ
   ((refine Sg.h ?_); try repeat' ((first | (with_reducible first | refine brA ?_ | refine brE fun _ => ?_ | (refine spl ⟨?_, ?_⟩ <;> intro _)) | refine clo hw ?_) <;> ((try simp -implicitDefEqProofs [hil]); (try simp -implicitDefEqProofs (disch := first | assumption | (try simp only [lens]); omega -splitDisjunctions) [hil]))))
   all_goals first | exact ih | (refine at2 ih ?_ ?_ <;> simp; done) | (exfalso; first | omega | (simp_all; done) | (simp_all; omega))
 all_goals first | exact main _ 0 (Nat.zero_add _) | (refine at2 main _ 0 (Nat.zero_add _) ?_ ?_ <;> simp; done) | (exfalso; first | omega | (simp_all; done) | (simp_all; omega))
def x54_L0 : XC := .seq (.seq (.reg [⟨some 4,.move (.tmp 3),none⟩,⟨some 5,.move (.tmp 0),none⟩,⟨some 6,.call ⟨.builtin .len,#[.tmp 5],#[35]⟩,none⟩,⟨some 7,.binOp .lss 3 (.tmp 4) (.tmp 6) 3,none⟩]) (.cond (.tmp 7) .skip (.exit 0))) (.seq (.block 1 (.seq (.drawn 4 [⟨some 10,.move (.tmp 0),none⟩,⟨some 11,.move (.tmp 3),none⟩,⟨some 12,.indexAddr 35 (.tmp 10) (.tmp 11),none⟩,⟨some 13,.load 9 (.tmp 12),none⟩,⟨some 14,.call ⟨.value (.func 24),#[.tmp 13],#[9]⟩,none⟩,⟨some 15,.unOp .not 4 (.tmp 14),none⟩,⟨some 16,.move (.tmp 15),none⟩,⟨some 17,.move (.tmp 3),some (some 16,false)⟩,⟨some 18,.binOp .gtr 3 (.tmp 17) (.const (.int .i64 0)) 3,some (some 16,false)⟩,⟨some 19,.move (.tmp 18),some (some 16,false)⟩,⟨some 20,.move (.tmp 0),some (some 19,true)⟩,⟨some 21,.move (.tmp 3),some (some 19,true)⟩,⟨some 22,.binOp .sub 3 (.tmp 21) (.const (.int .i64 1)) 3,some (some 19,true)⟩,⟨some 23,.indexAddr 35 (.tmp 20) (.tmp 22),some (some 19,true)⟩,⟨some 24,.load 9 (.tmp 23),some (some 19,true)⟩,⟨some 25,.move (.tmp 0),some (some 19,true)⟩,⟨some 26,.move (.tmp 3),some (some 19,true)⟩,⟨some 27,.indexAddr 35 (.tmp 25) (.tmp 26),some (some 19,true)⟩,⟨some 28,.load 9 (.tmp 27),some (some 19,true)⟩,⟨some 29,.binOp .geq 9 (.tmp 24) (.tmp 28) 9,some (some 19,true)⟩,⟨some 30,.pick (.tmp 19) (.tmp 29) (.const (.bool false)),some (some 16,false)⟩,⟨some 31,.pick (.tmp 16) (.const (.bool true)) (.tmp 30),none⟩]) (.cond (.tmp 31) (.seq (.reg [⟨some 2,.assign (.const (.bool false)),none⟩]) .ret) .skip))) (.reg [⟨some 8,.move (.tmp 3),none⟩,⟨some 9,.binOp .add 3 (.tmp 8) (.const (.int .i64 1)) 3,none⟩,⟨some 3,.assign (.tmp 9),none⟩]))
def x54 : XC := .seq (.reg [⟨some 2,.assign (.const (.bool false)),none⟩]) (.seq (.seq (.reg [⟨some 3,.assign (.const (.int .i64 0)),none⟩]) (.bloop 0 x54_L0)) (.seq (.reg [⟨some 2,.assign (.const (.bool true)),none⟩]) .ret))
@[simp] theorem x54_s {C e s K} : type_of% (@X_at C e s K _ _ x54_L0.eq_1) ∧ type_of% (@X_at C e s K _ _ x54.eq_1) := ⟨X_at x54_L0.eq_1, X_at x54.eq_1⟩
def an54 : Ann := ⟨[(4, .mix 19)], [(0, [], [0, 3], [2])], []⟩
@[simp] theorem an54_a : an54.clsOf 4 = .mix 19 ∧ an54.frzOf 4 = [] ∧ an54.loopOf 0 = ([], [0, 3], [2]) := ⟨rfl, rfl, rfl⟩
theorem fi54 : FI Try.prog 54 (cxA an54) x54 [.tmp 2] Try.f54 := fiA Try.func54 mixed
theorem Rising_ref (hs : List ByteArray) (hr : Ris hs) (hn : ∀ x ∈ hs, isNameB x = true) : CallOK Try.prog 54 [.list (hs.map strRow)] [] (.bool true) [] := by
 refine fi54.op ?_
 ((refine Sg.h ?_); try repeat' ((first | (with_reducible first | refine brA ?_ | refine brE fun _ => ?_ | (refine spl ⟨?_, ?_⟩ <;> intro _))) <;> ((try simp -implicitDefEqProofs); (try simp -implicitDefEqProofs (disch := first | assumption | (try simp only [lens]); omega -splitDisjunctions)))))
 refine W_of fun Q hQ => ?_
 have main : ∀ n i, i + n = hs.length → Q [(0, .list (hs.map strRow)), (3, .int .i64 (i : Int))] [] := by
  intro n
  induction n with
  | zero =>
   intro i hi
   obtain rfl : i = hs.length := by omega
   apply hQ
   clear hQ
   ((refine Sg.h ?_); try repeat' ((first | (with_reducible first | refine brA ?_ | refine brE fun _ => ?_ | (refine spl ⟨?_, ?_⟩ <;> intro _))) <;> ((try simp -implicitDefEqProofs); (try simp -implicitDefEqProofs (disch := first | assumption | (try simp only [lens]); omega -splitDisjunctions)))))
  | succ n ih =>
   intro i hi
   have hil : i < hs.length := by omega
   have ih := ih (i + 1) (by omega)
   have hw := IsName_ref hs[i]
   rw [hn _ (List.getElem_mem hil)] at hw
   apply hQ
   clear hQ
   by_cases h0 : i = 0
   ·subst h0
    ((refine Sg.h ?_); try repeat' ((first | (with_reducible first | refine brA ?_ | refine brE fun _ => ?_ | (refine spl ⟨?_, ?_⟩ <;> intro _)) | refine clo hw ?_) <;> ((try simp -implicitDefEqProofs [hil, strRow]); (try simp -implicitDefEqProofs (disch := first | assumption | (try simp only [lens]); omega -splitDisjunctions) [hil, strRow]))))
    all_goals first | exact ih | (refine at2 ih ?_ ?_ <;> simp; done) | (exfalso; first | omega | (simp_all; done) | (simp_all; omega))
   ·have h1 : 0 < i := by omega
    have hi1 : i - 1 < hs.length := by omega
    have e1 : (i : Int) - 1 = ((i - 1 : Nat) : Int) := by omega
    have hlt : Op.bytesLess hs[i - 1].toList hs[i].toList = true := by
     rw [less_eq]; simpa using List.pairwise_iff_getElem.1 hr (i - 1) i hi1 hil (by omega)
    ((refine Sg.h ?_); try repeat' ((first | (with_reducible first | refine brA ?_ | refine brE fun _ => ?_ | (refine spl ⟨?_, ?_⟩ <;> intro _)) | refine clo hw ?_) <;> ((try simp -implicitDefEqProofs [hil, h1, hi1, e1, hlt, strRow]); (try simp -implicitDefEqProofs (disch := first | assumption | (try simp only [lens]); omega -splitDisjunctions) [hil, h1, hi1, e1, hlt, strRow]))))
    all_goals first | exact ih | (refine at2 ih ?_ ?_ <;> simp; done) | (exfalso; first | omega | (simp_all; done) | (simp_all; omega))
 all_goals first | exact main _ 0 (Nat.zero_add _) | (refine at2 main _ 0 (Nat.zero_add _) ?_ ?_ <;> simp; done) | (exfalso; first | omega | (simp_all; done) | (simp_all; omega))
theorem none0_law : CallOK Try.prog 39 [.agg [.int .i64 0, .str ⟨#[]⟩, .nilsl]] [] (.bool true) [] := by
 refine fi39.op ?_
 ((refine Sg.h ?_); try repeat' ((first | (with_reducible first | refine brA ?_ | refine brE fun _ => ?_ | (refine spl ⟨?_, ?_⟩ <;> intro _))) <;> ((try simp -implicitDefEqProofs); (try simp -implicitDefEqProofs (disch := first | assumption | (try simp only [lens]); omega -splitDisjunctions)))))
def x52 : XC := .seq (.reg [⟨some 1,.box 29 (.tmp 0),none⟩,⟨some 2,.assign (.const (.bool false)),none⟩]) (.seq (.reg [⟨some 3,.fieldAddr 29 (.tmp 1) 0,none⟩,⟨some 4,.load 9 (.tmp 3),none⟩,⟨some 5,.binOp .eql 9 (.tmp 4) (.const (.string ⟨#[]⟩)) 9,none⟩,⟨some 6,.move (.tmp 5),none⟩,⟨some 7,.fieldAddr 29 (.tmp 1) 1,some (some 6,true)⟩,⟨some 8,.load 24 (.tmp 7),some (some 6,true)⟩,⟨some 9,.call ⟨.value (.func 39),#[.tmp 8],#[24]⟩,some (some 6,true)⟩,⟨some 10,.pick (.tmp 6) (.tmp 9) (.const (.bool false)),none⟩,⟨some 11,.move (.tmp 10),none⟩,⟨some 12,.fieldAddr 29 (.tmp 1) 2,some (some 11,true)⟩,⟨some 13,.fieldAddr 26 (.tmp 12) 0,some (some 11,true)⟩,⟨some 14,.load 22 (.tmp 13),some (some 11,true)⟩,⟨some 15,.call ⟨.builtin .len,#[.tmp 14],#[22]⟩,some (some 11,true)⟩,⟨some 16,.binOp .eql 3 (.tmp 15) (.const (.int .i64 0)) 3,some (some 11,true)⟩,⟨some 17,.pick (.tmp 11) (.tmp 16) (.const (.bool false)),none⟩,⟨some 18,.move (.tmp 17),none⟩,⟨some 19,.fieldAddr 29 (.tmp 1) 2,some (some 18,true)⟩,⟨some 20,.fieldAddr 26 (.tmp 19) 1,some (some 18,true)⟩,⟨some 21,.load 22 (.tmp 20),some (some 18,true)⟩,⟨some 22,.call ⟨.builtin .len,#[.tmp 21],#[22]⟩,some (some 18,true)⟩,⟨some 23,.binOp .eql 3 (.tmp 22) (.const (.int .i64 0)) 3,some (some 18,true)⟩,⟨some 24,.pick (.tmp 18) (.tmp 23) (.const (.bool false)),none⟩,⟨some 25,.move (.tmp 24),none⟩,⟨some 26,.fieldAddr 29 (.tmp 1) 3,some (some 25,true)⟩,⟨some 27,.load 27 (.tmp 26),some (some 25,true)⟩,⟨some 28,.call ⟨.builtin .len,#[.tmp 27],#[27]⟩,some (some 25,true)⟩,⟨some 29,.binOp .eql 3 (.tmp 28) (.const (.int .i64 0)) 3,some (some 25,true)⟩,⟨some 30,.pick (.tmp 25) (.tmp 29) (.const (.bool false)),none⟩,⟨some 2,.assign (.tmp 30),none⟩]) .ret)
@[simp] theorem x52_s {C e s K} : type_of% (@X_at C e s K _ _ x52.eq_1) := X_at x52.eq_1
def an52 : Ann := ⟨[], [], []⟩
theorem fi52 : FI Try.prog 52 (cxA an52) x52 [.tmp 2] Try.f52 := fiA Try.func52 mixed
theorem noProof_law : CallOK Try.prog 52 [.agg noPf] [] (.bool true) [] := by
 have h := none0_law
 refine fi52.op ?_
 unfold noPf
 ((refine Sg.h ?_); try repeat' ((first | (with_reducible first | refine brA ?_ | refine brE fun _ => ?_ | (refine spl ⟨?_, ?_⟩ <;> intro _)) | refine clo h ?_) <;> ((try simp -implicitDefEqProofs); (try simp -implicitDefEqProofs (disch := first | assumption | (try simp only [lens]); omega -splitDisjunctions)))))
def x48 : XC := .seq (.reg [⟨some 1,.box 26 (.tmp 0),none⟩,⟨some 2,.assign (.const (.bool false)),none⟩]) (.seq (.reg [⟨some 3,.load 26 (.tmp 1),none⟩,⟨some 4,.build 29 #[(2,.tmp 3)],none⟩,⟨some 5,.call ⟨.value (.func 15),#[.tmp 4,.const (.int .i64 0)],#[29,3]⟩,none⟩,⟨some 2,.assign (.tmp 5),none⟩]) .ret)
@[simp] theorem x48_s {C e s K} : type_of% (@X_at C e s K _ _ x48.eq_1) := X_at x48.eq_1
def an48 : Ann := ⟨[], [], []⟩
theorem fi48 : FI Try.prog 48 (cxA an48) x48 [.tmp 2] Try.f48 := fiA Try.func48 mixed
theorem vastSequent_law (l r : List Fm) : CallOK Try.prog 48 [.agg [.list (l.map frm), .list (r.map frm)]] [] (.bool (vastP (.mk ⟨#[]⟩ (.mk 0 ⟨#[]⟩ []) l r []) 0)) [] := by
 have h := callOK_softA (VastProof_ref (.mk ⟨#[]⟩ (.mk 0 ⟨#[]⟩ []) l r []) 0 (by decide) (by decide)) (args := [.agg [.str ⟨#[]⟩, .int .i64 0, .str ⟨#[]⟩, .nilsl, .list (l.map frm), .list (r.map frm), .nilsl], .int .i64 0]) (by rw [prf_eq]; exact .cons (.agg (.cons .refl (.cons .refl (.cons .refl (.cons .nil (.cons .refl (.cons .refl (.cons .nil .nil)))))))) (.cons .refl .nil))
 generalize vastP (.mk ⟨#[]⟩ (.mk 0 ⟨#[]⟩ []) l r []) 0 = V at *
 refine fi48.op ?_
 ((refine Sg.h ?_); try repeat' ((first | (with_reducible first | refine brA ?_ | refine brE fun _ => ?_ | (refine spl ⟨?_, ?_⟩ <;> intro _)) | refine clo h ?_) <;> ((try simp -implicitDefEqProofs); (try simp -implicitDefEqProofs (disch := first | assumption | (try simp only [lens]); omega -splitDisjunctions)))))
end Go.Proofs.Ytnoklmapofogeaa
