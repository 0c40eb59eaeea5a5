import Derived.Test.YtnoklmapofogeaaUCcA
set_option linter.unusedVariables false
set_option linter.unusedSimpArgs false
set_option maxRecDepth 100000
set_option maxHeartbeats 4000000
namespace Go.Proofs.Ytnoklmapofogeaa
open Go Go.Pv
def x100 : XC := .seq (.reg [⟨some 4,.alloc 33,none⟩]) (.seq (.reg [⟨some 5,.move (.tmp 0),none⟩,⟨some 6,.move (.tmp 1),none⟩,⟨some 7,.build 33 #[(0,.tmp 5),(1,.tmp 6)],none⟩,⟨none,.store 33 (.tmp 4) (.tmp 7),none⟩]) .ret)
@[simp] theorem x100_s {C e s K} : type_of% (@X_at C e s K _ _ x100.eq_1) := X_at x100.eq_1
def an100 : Ann := ⟨[], [], []⟩
theorem fi100 : FI Try.prog 100 (cxA an100) x100 [.cell 4 33] Try.f100 := fiA Try.func100 mixed
theorem fault_truth (a b : Int) : CallOK Try.prog 100 [.int .i64 a, .int .i64 b] [] (.agg [.int .i64 a, .int .i64 b]) [] := by
 refine fi100.op ?_
 ((refine Sg.h ?_); try repeat' ((first | (with_reducible first | refine brA ?_ | refine brE fun _ => ?_ | (refine spl ⟨?_, ?_⟩ <;> intro _))) <;> ((try simp -implicitDefEqProofs); (try simp -implicitDefEqProofs (disch := first | assumption | (try simp only [lens]); omega -splitDisjunctions)))))
def kindBad : List Fm → Nat → Option (Int × Int)
 | [], _ => none
 | x :: r, i => if 7 < x.kind then some (4, (i : Int)) else kindBad r (i + 1)
def plainF (f : Fm) : Int × Int := if (formulaCheck f).1 ≠ 0 then formulaCheck f else (kindBad (nodesGo 200 200 [f]) 0).getD (0, 0)
def plainL : List Fm → Int × Int
 | [] => (0, 0)
 | f :: r => if (plainF f).1 ≠ 0 then plainF f else plainL r
theorem kindBad_drop {l : List Fm} {i : Nat} (h : i < l.length) : kindBad (l.drop i) i = if 7 < l[i].kind then some (4, (i : Int)) else kindBad (l.drop (i + 1)) (i + 1) := by
 rw [List.drop_eq_getElem_cons h, kindBad]
def x70_T2 : XC := .seq (.reg [⟨some 35,.build 33 #[],none⟩,⟨none,.store 33 (.tmp 2) (.tmp 35),none⟩]) .ret
def x70_L2 : XC := .seq (.reg [⟨some 24,.binOp .lss 3 (.tmp 23) (.tmp 22) 3,none⟩]) (.seq (.cond (.tmp 24) .skip (.exit 2)) (.seq (.block 3 (.seq (.reg [⟨some 25,.move (.tmp 23),none⟩,⟨some 26,.indexAddr 22 (.tmp 21) (.tmp 23),none⟩,⟨some 27,.load 24 (.tmp 26),none⟩,⟨some 7,.alloc 24,none⟩,⟨some 6,.assign (.tmp 25),none⟩,⟨none,.store 24 (.tmp 7) (.tmp 27),none⟩]) (.seq (.reg [⟨some 28,.fieldAddr 24 (.tmp 7) 0,none⟩,⟨some 29,.load 3 (.tmp 28),none⟩,⟨some 30,.binOp .gtr 3 (.tmp 29) (.const (.int .i64 7)) 3,none⟩]) (.cond (.tmp 30) (.seq (.reg [⟨some 31,.move (.tmp 6),none⟩,⟨some 32,.call ⟨.value (.func 100),#[.const (.int .i64 4),.tmp 31],#[3,3]⟩,none⟩,⟨none,.store 33 (.tmp 2) (.tmp 32),none⟩]) .ret) .skip)))) (.reg [⟨some 33,.binOp .add 3 (.tmp 23) (.const (.int .i64 1)) 3,none⟩,⟨some 23,.move (.tmp 33),none⟩])))
def x70_L0 : XC := .seq (.reg [⟨some 11,.binOp .lss 3 (.tmp 10) (.tmp 9) 3,none⟩]) (.seq (.cond (.tmp 11) .skip (.exit 0)) (.seq (.block 1 (.seq (.reg [⟨some 12,.indexAddr 22 (.tmp 8) (.tmp 10),none⟩,⟨some 13,.load 24 (.tmp 12),none⟩,⟨some 4,.alloc 24,none⟩,⟨none,.store 24 (.tmp 4) (.tmp 13),none⟩]) (.seq (.seq (.reg [⟨some 14,.load 24 (.tmp 4),none⟩,⟨some 15,.call ⟨.value (.func 98),#[.tmp 14],#[24]⟩,none⟩,⟨some 5,.alloc 33,none⟩,⟨none,.store 33 (.tmp 5) (.tmp 15),none⟩]) (.seq (.reg [⟨some 16,.fieldAddr 33 (.tmp 5) 0,none⟩,⟨some 17,.load 3 (.tmp 16),none⟩,⟨some 18,.binOp .neq 3 (.tmp 17) (.const (.int .i64 0)) 3,none⟩]) (.cond (.tmp 18) (.seq (.reg [⟨some 19,.load 33 (.tmp 5),none⟩,⟨none,.store 33 (.tmp 2) (.tmp 19),none⟩]) .ret) .skip))) (.seq (.reg [⟨some 20,.load 24 (.tmp 4),none⟩,⟨some 21,.call ⟨.value (.func 99),#[.tmp 20,.const (.int .i64 200)],#[24,3]⟩,none⟩,⟨some 22,.call ⟨.builtin .len,#[.tmp 21],#[22]⟩,none⟩,⟨some 23,.move (.const (.int .i64 0)),none⟩]) (.bloop 2 x70_L2))))) (.reg [⟨some 34,.binOp .add 3 (.tmp 10) (.const (.int .i64 1)) 3,none⟩,⟨some 10,.move (.tmp 34),none⟩])))
def x70 : XC := .seq (.reg [⟨some 2,.alloc 33,none⟩]) (.seq (.seq (.reg [⟨some 8,.move (.tmp 0),none⟩,⟨some 9,.call ⟨.builtin .len,#[.tmp 8],#[22]⟩,none⟩,⟨some 10,.move (.const (.int .i64 0)),none⟩]) (.bloop 0 x70_L0)) (x70_T2))
@[simp] theorem x70_s {C e s K} : type_of% (@X_at C e s K _ _ x70_T2.eq_1) ∧ type_of% (@X_at C e s K _ _ x70_L2.eq_1) ∧ type_of% (@X_at C e s K _ _ x70_L0.eq_1) ∧ type_of% (@X_at C e s K _ _ x70.eq_1) := ⟨X_at x70_T2.eq_1, X_at x70_L2.eq_1, X_at x70_L0.eq_1, X_at x70.eq_1⟩
def an70 : Ann := ⟨[], [(2, [], [2, 8, 9, 10, 21, 22, 23], [2, 8, 9, 10]), (0, [], [2, 8, 9, 10], [2])], []⟩
@[simp] theorem an70_a : an70.loopOf 2 = ([], [2, 8, 9, 10, 21, 22, 23], [2, 8, 9, 10]) ∧ an70.loopOf 0 = ([], [2, 8, 9, 10], [2]) := ⟨rfl, rfl⟩
theorem fi70 : FI Try.prog 70 (cxA an70) x70 [.cell 2 33] Try.f70 := fiA Try.func70 mixed
theorem Plain_truth (l : List Fm) (hl : l.length ≤ 100000) : CallOK Try.prog 70 [.list (l.map frm)] [] (.agg [.int .i64 (plainL l).1, .int .i64 (plainL l).2]) [] := by
 refine fi70.op ?_
 generalize hR : plainL l = R
 ((refine Sg.h ?_); try repeat' ((first | (with_reducible first | refine brA ?_ | refine brE fun _ => ?_ | (refine spl ⟨?_, ?_⟩ <;> intro _))) <;> ((try simp -implicitDefEqProofs); (try simp -implicitDefEqProofs (disch := first | assumption | (try simp only [lens]); omega -splitDisjunctions)))))
 refine W_of fun Q hQ => ?_
 have main : ∀ r i, i + r = l.length → plainL (l.drop i) = R → Q [(2, .ptr 0 0 0), (8, .list (l.map frm)), (9, .int .i64 (l.length : Int)), (10, .int .i64 (i : Int))] [.rows 2 [[.int .i64 0, .int .i64 0]]] := by
  intro r
  induction r with
  | zero =>
   intro i hi hb
   rw [List.drop_of_length_le (by omega), plainL] at hb
   subst hb
   apply hQ
   ((refine Sg.h ?_); try repeat' ((first | (with_reducible first | refine brA ?_ | refine brE fun _ => ?_ | (refine spl ⟨?_, ?_⟩ <;> intro _))) <;> ((try simp -implicitDefEqProofs); (try simp -implicitDefEqProofs (disch := first | assumption | (try simp only [lens]); omega -splitDisjunctions)))))
  | succ r ih =>
   intro i hi hb
   have hil : i < l.length := by omega
   have ih := ih (i + 1) (by omega)
   rw [List.drop_eq_getElem_cons hil, plainL] at hb
   have hc := check_formula l[i] []
   have hn := nodes_formula l[i] 200 (by decide) []
   apply hQ
   clear hQ
   by_cases h1 : (formulaCheck l[i]).1 = 0
   ·rw [show plainF l[i] = (kindBad (nodesGo 200 200 [l[i]]) 0).getD (0, 0) from by unfold plainF; rw [if_neg (by simpa using h1)]] at hb
    have hL := nodesGo_len 200 200 [l[i]]
    generalize nodesGo 200 200 [l[i]] = L at *
    ((refine Sg.h ?_); try repeat' ((first | (with_reducible first | refine brA ?_ | refine brE fun _ => ?_ | (refine spl ⟨?_, ?_⟩ <;> intro _)) | refine clo hc ?_ | refine clo hn ?_) <;> ((try simp -implicitDefEqProofs [hil, h1]); (try simp -implicitDefEqProofs (disch := first | assumption | (try simp only [lens]); omega -splitDisjunctions) [hil, h1]))))
    refine W_of fun Q2 hQ2 => ?_
    have main2 : ∀ r j, j + r = L.length → kindBad L 0 = kindBad (L.drop j) j → Q2 [(2, .ptr 0 0 0), (8, .list (l.map frm)), (9, .int .i64 (l.length : Int)), (10, .int .i64 (i : Int)), (21, .list (L.map frm)), (22, .int .i64 (L.length : Int)), (23, .int .i64 (j : Int))] [.rows 2 [[.int .i64 0, .int .i64 0]]] := by
     intro r
     induction r with
     | zero =>
      intro j hj hk
      rw [List.drop_of_length_le (by omega), kindBad] at hk
      rw [hk] at hb
      have ih := ih (by simpa using hb)
      apply hQ2
      clear hQ2 hc hn
      ((refine Sg.h ?_); try repeat' ((first | (with_reducible first | refine brA ?_ | refine brE fun _ => ?_ | (refine spl ⟨?_, ?_⟩ <;> intro _))) <;> ((try simp -implicitDefEqProofs); (try simp -implicitDefEqProofs (disch := first | assumption | (try simp only [lens]); omega -splitDisjunctions)))))
      all_goals first | exact ih | (refine at2 ih ?_ ?_ <;> simp; done) | (exfalso; first | omega | (simp_all; done) | (simp_all; omega))
     | succ r ih2 =>
      intro j hj hk
      have hjl : j < L.length := by omega
      have ih2 := ih2 (j + 1) (by omega)
      rw [kindBad_drop hjl] at hk
      apply hQ2
      clear hQ2 hc hn ih
      by_cases h7 : 7 < L[j].kind
      ·rw [if_pos h7] at hk
       rw [hk] at hb
       simp at hb
       subst hb
       ((refine Sg.h ?_); try repeat' ((first | (with_reducible first | refine brA ?_ | refine brE fun _ => ?_ | (refine spl ⟨?_, ?_⟩ <;> intro _)) | refine clo (fault_truth 4 _) ?_) <;> ((try simp -implicitDefEqProofs [hjl, h7]); (try simp -implicitDefEqProofs (disch := first | assumption | (try simp only [lens]); omega -splitDisjunctions) [hjl, h7]))))
      ·rw [if_neg h7] at hk
       have ih2 := ih2 hk
       ((refine Sg.h ?_); try repeat' ((first | (with_reducible first | refine brA ?_ | refine brE fun _ => ?_ | (refine spl ⟨?_, ?_⟩ <;> intro _))) <;> ((try simp -implicitDefEqProofs [hjl, h7]); (try simp -implicitDefEqProofs (disch := first | assumption | (try simp only [lens]); omega -splitDisjunctions) [hjl, h7]))))
       all_goals first | exact ih2 | (refine at2 ih2 ?_ ?_ <;> simp; done) | (exfalso; first | omega | (simp_all; done) | (simp_all; omega))
    all_goals first | exact main2 _ 0 (Nat.zero_add _) rfl | (refine at2 main2 _ 0 (Nat.zero_add _) rfl ?_ ?_ <;> simp; done) | (exfalso; first | omega | (simp_all; done) | (simp_all; omega))
   ·rw [show plainF l[i] = formulaCheck l[i] from by unfold plainF; rw [if_pos (by simpa using h1)], if_pos (by simpa using h1)] at hb
    subst hb
    ((refine Sg.h ?_); try repeat' ((first | (with_reducible first | refine brA ?_ | refine brE fun _ => ?_ | (refine spl ⟨?_, ?_⟩ <;> intro _)) | refine clo hc ?_) <;> ((try simp -implicitDefEqProofs [hil, h1]); (try simp -implicitDefEqProofs (disch := first | assumption | (try simp only [lens]); omega -splitDisjunctions) [hil, h1]))))
 all_goals first | exact main _ 0 (Nat.zero_add _) (by simpa using hR) | (refine at2 main _ 0 (Nat.zero_add _) (by simpa using hR) ?_ ?_ <;> simp; done) | (exfalso; first | omega | (simp_all; done) | (simp_all; omega))
def kindBadR : List Fm → Nat → Option (Int × Int)
 | [], _ => none
 | x :: r, i => if x.kind = 8 ∨ x.kind = 9 then some (4, (i : Int)) else kindBadR r (i + 1)
theorem kindBadR_eq : ∀ (l : List Fm) (i : Nat), (∀ x ∈ l, x.kind ≤ 9) → kindBadR l i = kindBad l i
 | [], _, _ => rfl
 | x :: r, i, h => by
  rw [kindBadR, kindBad, kindBadR_eq r (i + 1) fun y hy => h y (List.mem_cons_of_mem _ hy)]
  have := h x List.mem_cons_self
  by_cases h7 : 7 < x.kind
  ·rw [if_pos h7, if_pos (by omega)]
  ·rw [if_neg h7, if_neg (by omega)]
theorem okN_kind {x : Fm} (h : okN x) : x.kind ≤ 9 := by
 have h1 := h.1
 unfold kidsN at h1
 (repeat' split at h1) <;> omega
theorem plainF_ref (f : Fm) : plainF f = if (formulaCheck f).1 ≠ 0 then formulaCheck f else (kindBadR (walkL f 300) 0).getD (0, 0) := by
 unfold plainF
 by_cases h : (formulaCheck f).1 = 0
 ·rw [if_neg (by simpa using h), if_neg (by simpa using h)]
  obtain ⟨h1, h2⟩ := (formulaCheck_iff f).1 h
  have e1 : nodesGo 200 200 [f] = pre f := by rw [nodesGo_take 200 200 [f] (by omega), pres_cons, pres_nil, List.append_nil, List.take_of_length_le h2]
  have e2 : walkL f 300 = pre f := by rw [show (300 : Int) = ((300 : Nat) : Int) from rfl, walk_take, List.take_of_length_le (by omega)]
  rw [e1, e2, kindBadR_eq _ _ fun x hx => okN_kind (h1 x hx)]
 ·rw [if_pos (by simpa using h), if_pos (by simpa using h)]
theorem kindBadR_drop {l : List Fm} {i : Nat} (h : i < l.length) : kindBadR (l.drop i) i = if l[i].kind = 8 ∨ l[i].kind = 9 then some (4, (i : Int)) else kindBadR (l.drop (i + 1)) (i + 1) := by
 rw [List.drop_eq_getElem_cons h, kindBadR]
def x21_T2 : XC := .seq (.reg [⟨some 49,.build 33 #[],none⟩,⟨none,.store 33 (.tmp 2) (.tmp 49),none⟩]) .ret
def x21_L2 : XC := .seq (.seq (.reg [⟨some 27,.move (.tmp 6),none⟩,⟨some 28,.move (.tmp 5),none⟩,⟨some 29,.call ⟨.builtin .len,#[.tmp 28],#[22]⟩,none⟩,⟨some 30,.binOp .lss 3 (.tmp 27) (.tmp 29) 3,none⟩]) (.cond (.tmp 30) .skip (.exit 2))) (.seq (.block 3 (.seq (.reg [⟨some 33,.move (.tmp 5),none⟩,⟨some 34,.move (.tmp 6),none⟩,⟨some 35,.indexAddr 22 (.tmp 33) (.tmp 34),none⟩,⟨some 36,.fieldAddr 24 (.tmp 35) 0,none⟩,⟨some 37,.load 3 (.tmp 36),none⟩,⟨some 38,.binOp .eql 3 (.tmp 37) (.const (.int .i64 8)) 3,none⟩,⟨some 39,.move (.tmp 38),none⟩,⟨some 40,.move (.tmp 5),some (some 39,false)⟩,⟨some 41,.move (.tmp 6),some (some 39,false)⟩,⟨some 42,.indexAddr 22 (.tmp 40) (.tmp 41),some (some 39,false)⟩,⟨some 43,.fieldAddr 24 (.tmp 42) 0,some (some 39,false)⟩,⟨some 44,.load 3 (.tmp 43),some (some 39,false)⟩,⟨some 45,.binOp .eql 3 (.tmp 44) (.const (.int .i64 9)) 3,some (some 39,false)⟩,⟨some 46,.pick (.tmp 39) (.const (.bool true)) (.tmp 45),none⟩]) (.cond (.tmp 46) (.seq (.reg [⟨some 47,.move (.tmp 6),none⟩,⟨some 48,.call ⟨.value (.func 38),#[.const (.int .i64 4),.tmp 47],#[3,3]⟩,none⟩,⟨none,.store 33 (.tmp 2) (.tmp 48),none⟩]) .ret) .skip))) (.reg [⟨some 31,.move (.tmp 6),none⟩,⟨some 32,.binOp .add 3 (.tmp 31) (.const (.int .i64 1)) 3,none⟩,⟨some 6,.assign (.tmp 32),none⟩]))
def x21_L0 : XC := .seq (.seq (.reg [⟨some 7,.move (.tmp 3),none⟩,⟨some 8,.move (.tmp 0),none⟩,⟨some 9,.call ⟨.builtin .len,#[.tmp 8],#[22]⟩,none⟩,⟨some 10,.binOp .lss 3 (.tmp 7) (.tmp 9) 3,none⟩]) (.cond (.tmp 10) .skip (.exit 0))) (.seq (.block 1 (.seq (.reg [⟨some 13,.move (.tmp 0),none⟩,⟨some 14,.move (.tmp 3),none⟩,⟨some 15,.indexAddr 22 (.tmp 13) (.tmp 14),none⟩,⟨some 16,.load 24 (.tmp 15),none⟩,⟨some 17,.call ⟨.value (.func 46),#[.tmp 16],#[24]⟩,none⟩,⟨some 4,.alloc 33,none⟩,⟨none,.store 33 (.tmp 4) (.tmp 17),none⟩]) (.seq (.seq (.reg [⟨some 18,.fieldAddr 33 (.tmp 4) 0,none⟩,⟨some 19,.load 3 (.tmp 18),none⟩,⟨some 20,.binOp .neq 3 (.tmp 19) (.const (.int .i64 0)) 3,none⟩]) (.cond (.tmp 20) (.seq (.reg [⟨some 21,.load 33 (.tmp 4),none⟩,⟨none,.store 33 (.tmp 2) (.tmp 21),none⟩]) .ret) .skip)) (.seq (.reg [⟨some 22,.move (.tmp 0),none⟩,⟨some 23,.move (.tmp 3),none⟩,⟨some 24,.indexAddr 22 (.tmp 22) (.tmp 23),none⟩,⟨some 25,.load 24 (.tmp 24),none⟩,⟨some 26,.call ⟨.value (.func 62),#[.tmp 25,.const (.int .i64 300)],#[24,3]⟩,none⟩,⟨some 5,.assign (.tmp 26),none⟩]) (.seq (.reg [⟨some 6,.assign (.const (.int .i64 0)),none⟩]) (.bloop 2 x21_L2)))))) (.reg [⟨some 11,.move (.tmp 3),none⟩,⟨some 12,.binOp .add 3 (.tmp 11) (.const (.int .i64 1)) 3,none⟩,⟨some 3,.assign (.tmp 12),none⟩]))
def x21 : XC := .seq (.reg [⟨some 2,.alloc 33,none⟩]) (.seq (.seq (.reg [⟨some 3,.assign (.const (.int .i64 0)),none⟩]) (.bloop 0 x21_L0)) (x21_T2))
@[simp] theorem x21_s {C e s K} : type_of% (@X_at C e s K _ _ x21_T2.eq_1) ∧ type_of% (@X_at C e s K _ _ x21_L2.eq_1) ∧ type_of% (@X_at C e s K _ _ x21_L0.eq_1) ∧ type_of% (@X_at C e s K _ _ x21.eq_1) := ⟨X_at x21_T2.eq_1, X_at x21_L2.eq_1, X_at x21_L0.eq_1, X_at x21.eq_1⟩
def an21 : Ann := ⟨[], [(2, [], [0, 2, 3, 5, 6], [0, 2, 3]), (0, [], [0, 2, 3], [2])], []⟩
@[simp] theorem an21_a : an21.loopOf 2 = ([], [0, 2, 3, 5, 6], [0, 2, 3]) ∧ an21.loopOf 0 = ([], [0, 2, 3], [2]) := ⟨rfl, rfl⟩
theorem fi21 : FI Try.prog 21 (cxA an21) x21 [.cell 2 33] Try.f21 := fiA Try.func21 mixed
theorem PlainFault_ref (l : List Fm) (hl : l.length ≤ 100000) : CallOK Try.prog 21 [.list (l.map frm)] [] (.agg [.int .i64 (plainL l).1, .int .i64 (plainL l).2]) [] := by
 refine fi21.op ?_
 generalize hR : plainL l = R
 ((refine Sg.h ?_); try repeat' ((first | (with_reducible first | refine brA ?_ | refine brE fun _ => ?_ | (refine spl ⟨?_, ?_⟩ <;> intro _))) <;> ((try simp -implicitDefEqProofs); (try simp -implicitDefEqProofs (disch := first | assumption | (try simp only [lens]); omega -splitDisjunctions)))))
 refine W_of fun Q hQ => ?_
 have main : ∀ r i, i + r = l.length → plainL (l.drop i) = R → Q [(0, .list (l.map frm)), (2, .ptr 0 0 0), (3, .int .i64 (i : Int))] [.rows 2 [[.int .i64 0, .int .i64 0]]] := by
  intro r
  induction r with
  | zero =>
   intro i hi hb
   rw [List.drop_of_length_le (by omega), plainL] at hb
   subst hb
   apply hQ
   ((refine Sg.h ?_); try repeat' ((first | (with_reducible first | refine brA ?_ | refine brE fun _ => ?_ | (refine spl ⟨?_, ?_⟩ <;> intro _))) <;> ((try simp -implicitDefEqProofs); (try simp -implicitDefEqProofs (disch := first | assumption | (try simp only [lens]); omega -splitDisjunctions)))))
  | succ r ih =>
   intro i hi hb
   have hil : i < l.length := by omega
   have ih := ih (i + 1) (by omega)
   rw [List.drop_eq_getElem_cons hil, plainL] at hb
   have hc := FormulaFault_ref l[i]
   have hn := walk_ref l[i] 300 (by decide) (by decide) []
   have hpr := plainF_ref l[i]
   apply hQ
   clear hQ
   by_cases h1 : (formulaCheck l[i]).1 = 0
   ·rw [if_neg (by simpa using h1)] at hpr
    rw [hpr] at hb
    clear hpr
    have hL := (walk_len l[i] 300 (by decide)).2
    generalize walkL l[i] 300 = L at *
    ((refine Sg.h ?_); try repeat' ((first | (with_reducible first | refine brA ?_ | refine brE fun _ => ?_ | (refine spl ⟨?_, ?_⟩ <;> intro _)) | refine clo hc ?_ | refine clo hn ?_) <;> ((try simp -implicitDefEqProofs [hil, h1]); (try simp -implicitDefEqProofs (disch := first | assumption | (try simp only [lens]); omega -splitDisjunctions) [hil, h1]))))
    refine W_of fun Q2 hQ2 => ?_
    have main2 : ∀ r j, j + r = L.length → kindBadR L 0 = kindBadR (L.drop j) j → Q2 [(0, .list (l.map frm)), (2, .ptr 0 0 0), (3, .int .i64 (i : Int)), (5, .list (L.map frm)), (6, .int .i64 (j : Int))] [.rows 2 [[.int .i64 0, .int .i64 0]]] := by
     intro r
     induction r with
     | zero =>
      intro j hj hk
      rw [List.drop_of_length_le (by omega), kindBadR] at hk
      rw [hk] at hb
      have ih := ih (by simpa using hb)
      apply hQ2
      clear hQ2 hc hn
      ((refine Sg.h ?_); try repeat' ((first | (with_reducible first | refine brA ?_ | refine brE fun _ => ?_ | (refine spl ⟨?_, ?_⟩ <;> intro _))) <;> ((try simp -implicitDefEqProofs); (try simp -implicitDefEqProofs (disch := first | assumption | (try simp only [lens]); omega -splitDisjunctions)))))
      all_goals first | exact ih | (refine at2 ih ?_ ?_ <;> simp; done) | (exfalso; first | omega | (simp_all; done) | (simp_all; omega))
     | succ r ih2 =>
      intro j hj hk
      have hjl : j < L.length := by omega
      have ih2 := ih2 (j + 1) (by omega)
      rw [kindBadR_drop hjl] at hk
      apply hQ2
      clear hQ2 hc hn ih
      by_cases h8 : L[j].kind = 8
      ·rw [if_pos (.inl h8)] at hk
       rw [hk] at hb
       simp at hb
       subst hb
       ((refine Sg.h ?_); try repeat' ((first | (with_reducible first | refine brA ?_ | refine brE fun _ => ?_ | (refine spl ⟨?_, ?_⟩ <;> intro _)) | refine clo (F_ref 4 _) ?_) <;> ((try simp -implicitDefEqProofs [hjl, h8]); (try simp -implicitDefEqProofs (disch := first | assumption | (try simp only [lens]); omega -splitDisjunctions) [hjl, h8]))))
      ·by_cases h9 : L[j].kind = 9
       ·rw [if_pos (.inr h9)] at hk
        rw [hk] at hb
        simp at hb
        subst hb
        ((refine Sg.h ?_); try repeat' ((first | (with_reducible first | refine brA ?_ | refine brE fun _ => ?_ | (refine spl ⟨?_, ?_⟩ <;> intro _)) | refine clo (F_ref 4 _) ?_) <;> ((try simp -implicitDefEqProofs [hjl, h8, h9]); (try simp -implicitDefEqProofs (disch := first | assumption | (try simp only [lens]); omega -splitDisjunctions) [hjl, h8, h9]))))
       ·rw [if_neg (by omega)] at hk
        have ih2 := ih2 hk
        ((refine Sg.h ?_); try repeat' ((first | (with_reducible first | refine brA ?_ | refine brE fun _ => ?_ | (refine spl ⟨?_, ?_⟩ <;> intro _))) <;> ((try simp -implicitDefEqProofs [hjl, h8, h9]); (try simp -implicitDefEqProofs (disch := first | assumption | (try simp only [lens]); omega -splitDisjunctions) [hjl, h8, h9]))))
        all_goals first | exact ih2 | (refine at2 ih2 ?_ ?_ <;> simp; done) | (exfalso; first | omega | (simp_all; done) | (simp_all; omega))
    all_goals first | exact main2 _ 0 (Nat.zero_add _) rfl | (refine at2 main2 _ 0 (Nat.zero_add _) rfl ?_ ?_ <;> simp; done) | (exfalso; first | omega | (simp_all; done) | (simp_all; omega))
   ·rw [if_pos (by simpa using h1)] at hpr
    rw [hpr, if_pos (by simpa using h1)] at hb
    subst hb
    ((refine Sg.h ?_); try repeat' ((first | (with_reducible first | refine brA ?_ | refine brE fun _ => ?_ | (refine spl ⟨?_, ?_⟩ <;> intro _)) | refine clo hc ?_) <;> ((try simp -implicitDefEqProofs [hil, h1]); (try simp -implicitDefEqProofs (disch := first | assumption | (try simp only [lens]); omega -splitDisjunctions) [hil, h1]))))
 all_goals first | exact main _ 0 (Nat.zero_add _) (by simpa using hR) | (refine at2 main _ 0 (Nat.zero_add _) (by simpa using hR) ?_ ?_ <;> simp; done) | (exfalso; first | omega | (simp_all; done) | (simp_all; omega))
end Go.Proofs.Ytnoklmapofogeaa
namespace Go.Proofs.Ytnoklmapofogeaa
open Go Go.Pv
def Pl (f : Fm) : Prop := Td f ∧ ∀ x ∈ pre f, x.kind ≤ 7
theorem Pl.kid {f g : Fm} (h : Pl f) (hg : g ∈ f.kids) : Pl g := ⟨h.1.kid hg, fun x hx => h.2 x (by rw [pre_eq]; exact List.mem_cons_of_mem _ (pres_mem hx _ hg))⟩
theorem Pl.seven {f : Fm} (h : Pl f) : (∃ nm, isNameB nm = true ∧ f = .mk 1 nm []) ∨ (f = .mk 2 ⟨#[]⟩ []) ∨ (f = .mk 3 ⟨#[]⟩ []) ∨ (∃ a, Pl a ∧ f = .mk 4 ⟨#[]⟩ [a]) ∨ (∃ a b, Pl a ∧ Pl b ∧ f = .mk 5 ⟨#[]⟩ [a, b]) ∨
  (∃ a b, Pl a ∧ Pl b ∧ f = .mk 6 ⟨#[]⟩ [a, b]) ∨ (∃ a b, Pl a ∧ Pl b ∧ f = .mk 7 ⟨#[]⟩ [a, b]) := by
 have hk := h.2 f (by rw [pre_eq]; exact List.mem_cons_self)
 have hp := fun g hg => h.kid (g := g) hg
 rcases h.1.nine with ⟨nm, hN, rfl⟩ | rfl | rfl | ⟨a, ha, rfl⟩ | ⟨a, b, ha, hb, rfl⟩ | ⟨a, b, ha, hb, rfl⟩ | ⟨a, b, ha, hb, rfl⟩ | ⟨a, ha, rfl⟩ | ⟨a, ha, rfl⟩
 ·exact .inl ⟨nm, hN, rfl⟩
 ·exact .inr (.inl rfl)
 ·exact .inr (.inr (.inl rfl))
 ·exact .inr (.inr (.inr (.inl ⟨a, hp a (by simp), rfl⟩)))
 ·exact .inr (.inr (.inr (.inr (.inl ⟨a, b, hp a (by simp), hp b (by simp), rfl⟩))))
 ·exact .inr (.inr (.inr (.inr (.inr (.inl ⟨a, b, hp a (by simp), hp b (by simp), rfl⟩)))))
 ·exact .inr (.inr (.inr (.inr (.inr (.inr ⟨a, b, hp a (by simp), hp b (by simp), rfl⟩)))))
 ·simp at hk
 ·simp at hk
theorem kindBad_none : ∀ (l : List Fm) (i : Nat), kindBad l i = none ↔ ∀ x ∈ l, x.kind ≤ 7
 | [], i => by simp [kindBad]
 | x :: r, i => by
  rw [kindBad]
  by_cases h : 7 < x.kind
  ·rw [if_pos h]; simp; intro h2; omega
  ·rw [if_neg h, kindBad_none r (i + 1)]; simp; intro _; omega
theorem kindBad_code : ∀ (l : List Fm) (i : Nat) x, kindBad l i = some x → x.1 = 4
 | [], _, x, h => by cases h
 | a :: r, i, x, h => by
  unfold kindBad at h
  split at h
  ·cases h; rfl
  ·exact kindBad_code r _ x h
theorem namesF_preA {f : Fm} (h : (pre f).length ≤ 200) : nodesGo 200 200 [f] = pre f := by
 rw [nodesGo_take 200 200 [f] (by omega), pres_cons, pres_nil, List.append_nil, List.take_of_length_le h]
theorem plainF_iff (f : Fm) : (plainF f).1 = 0 ↔ Pl f ∧ (pre f).length ≤ 200 := by
 unfold plainF
 by_cases h : (formulaCheck f).1 = 0
 ·rw [if_neg (by simpa using h)]
  have h0 := (formulaCheck_iff f).1 h
  rw [namesF_preA h0.2]
  cases hk : kindBad (pre f) 0 with
  | none => simp only [Option.getD_none, true_iff]; exact ⟨⟨h0.1, (kindBad_none _ _).1 hk⟩, h0.2⟩
  | some x =>
   have := kindBad_code _ _ _ hk
   simp only [Option.getD_some]
   refine ⟨fun g => by omega, fun g => ?_⟩
   rw [(kindBad_none _ _).2 g.1.2] at hk; cases hk
 ·rw [if_pos (by simpa using h)]
  exact ⟨fun g => absurd g h, fun g => (formulaCheck_iff f).2 ⟨g.1.1, g.2⟩⟩
theorem plainF_zero {f : Fm} (h : (plainF f).1 = 0) : plainF f = (0, 0) := by
 have h1 := (plainF_iff f).1 h
 have h2 := (formulaCheck_iff f).2 ⟨h1.1.1, h1.2⟩
 unfold plainF
 rw [if_neg (by simpa using h2), namesF_preA h1.2, (kindBad_none _ _).2 h1.1.2]; rfl
theorem plainL_one (f : Fm) : plainL [f] = plainF f := by
 rw [plainL, plainL]
 split
 ·rfl
 ·rename_i h; rw [plainF_zero (by simpa using h)]
def tv (h : ByteArray → Bool) (f : Fm) : Bool := ev 0 (fun _ _ => false) (fun _ => h) f 0
section
variable {h : ByteArray → Bool} {nm : ByteArray} {l : List Fm} {a b : Fm}
theorem tv_1 : tv h (.mk 1 nm l) = h nm := ev_1
theorem tv_2 : tv h (.mk 2 nm l) = true := ev_2
theorem tv_3 : tv h (.mk 3 nm l) = false := ev_3
theorem tv_4 : tv h (.mk 4 nm [a]) = !tv h a := ev_4
theorem tv_5 : tv h (.mk 5 nm [a, b]) = (tv h a && tv h b) := ev_5
theorem tv_6 : tv h (.mk 6 nm [a, b]) = (tv h a || tv h b) := ev_6
theorem tv_7 : tv h (.mk 7 nm [a, b]) = (!tv h a || tv h b) := ev_7
end
def x44_T1 : XC := .seq (.seq (.reg [⟨some 24,.fieldAddr 24 (.tmp 2) 0,none⟩,⟨some 25,.load 3 (.tmp 24),none⟩]) (.block 2 (.seq (.reg [⟨some 27,.binOp .eql 3 (.tmp 25) (.const (.int .i64 1)) 3,none⟩,⟨some 26,.assign (.tmp 27),none⟩]) (.cond (.tmp 26) (.seq (.reg [⟨some 28,.move (.tmp 1),none⟩,⟨some 29,.fieldAddr 24 (.tmp 2) 1,none⟩,⟨some 30,.load 9 (.tmp 29),none⟩,⟨some 31,.call ⟨.value (.func 59),#[.tmp 28,.tmp 30],#[35,9]⟩,none⟩,⟨some 4,.assign (.tmp 31),none⟩]) .ret) (.seq (.reg [⟨some 33,.binOp .eql 3 (.tmp 25) (.const (.int .i64 4)) 3,none⟩,⟨some 32,.assign (.tmp 33),none⟩]) (.cond (.tmp 32) (.seq (.reg [⟨some 34,.move (.tmp 5),none⟩,⟨some 35,.indexAddr 101 (.tmp 34) (.const (.int .i64 0)),none⟩,⟨some 36,.load 4 (.tmp 35),none⟩,⟨some 37,.unOp .not 4 (.tmp 36),none⟩,⟨some 4,.assign (.tmp 37),none⟩]) .ret) (.seq (.reg [⟨some 39,.binOp .eql 3 (.tmp 25) (.const (.int .i64 5)) 3,none⟩,⟨some 38,.assign (.tmp 39),none⟩]) (.cond (.tmp 38) (.seq (.reg [⟨some 40,.move (.tmp 5),none⟩,⟨some 41,.indexAddr 101 (.tmp 40) (.const (.int .i64 0)),none⟩,⟨some 42,.load 4 (.tmp 41),none⟩,⟨some 43,.move (.tmp 42),none⟩,⟨some 44,.move (.tmp 5),some (some 43,true)⟩,⟨some 45,.indexAddr 101 (.tmp 44) (.const (.int .i64 1)),some (some 43,true)⟩,⟨some 46,.load 4 (.tmp 45),some (some 43,true)⟩,⟨some 47,.pick (.tmp 43) (.tmp 46) (.const (.bool false)),none⟩,⟨some 4,.assign (.tmp 47),none⟩]) .ret) (.seq (.reg [⟨some 49,.binOp .eql 3 (.tmp 25) (.const (.int .i64 6)) 3,none⟩,⟨some 48,.assign (.tmp 49),none⟩]) (.cond (.tmp 48) (.seq (.reg [⟨some 50,.move (.tmp 5),none⟩,⟨some 51,.indexAddr 101 (.tmp 50) (.const (.int .i64 0)),none⟩,⟨some 52,.load 4 (.tmp 51),none⟩,⟨some 53,.move (.tmp 52),none⟩,⟨some 54,.move (.tmp 5),some (some 53,false)⟩,⟨some 55,.indexAddr 101 (.tmp 54) (.const (.int .i64 1)),some (some 53,false)⟩,⟨some 56,.load 4 (.tmp 55),some (some 53,false)⟩,⟨some 57,.pick (.tmp 53) (.const (.bool true)) (.tmp 56),none⟩,⟨some 4,.assign (.tmp 57),none⟩]) .ret) (.seq (.reg [⟨some 59,.binOp .eql 3 (.tmp 25) (.const (.int .i64 7)) 3,none⟩,⟨some 58,.assign (.tmp 59),none⟩]) (.cond (.tmp 58) (.seq (.reg [⟨some 60,.move (.tmp 5),none⟩,⟨some 61,.indexAddr 101 (.tmp 60) (.const (.int .i64 1)),none⟩,⟨some 62,.load 4 (.tmp 61),none⟩,⟨some 63,.move (.tmp 62),none⟩,⟨some 64,.move (.tmp 5),some (some 63,false)⟩,⟨some 65,.indexAddr 101 (.tmp 64) (.const (.int .i64 0)),some (some 63,false)⟩,⟨some 66,.load 4 (.tmp 65),some (some 63,false)⟩,⟨some 67,.unOp .not 4 (.tmp 66),some (some 63,false)⟩,⟨some 68,.pick (.tmp 63) (.const (.bool true)) (.tmp 67),none⟩,⟨some 4,.assign (.tmp 68),none⟩]) .ret) .skip)))))))))))) (.seq (.reg [⟨some 69,.fieldAddr 24 (.tmp 2) 0,none⟩,⟨some 70,.load 3 (.tmp 69),none⟩,⟨some 71,.binOp .eql 3 (.tmp 70) (.const (.int .i64 2)) 3,none⟩,⟨some 4,.assign (.tmp 71),none⟩]) .ret)
def x44_L0 : XC := .seq (.seq (.reg [⟨some 7,.move (.tmp 6),none⟩,⟨some 8,.fieldAddr 24 (.tmp 2) 2,none⟩,⟨some 9,.load 22 (.tmp 8),none⟩,⟨some 10,.call ⟨.builtin .len,#[.tmp 9],#[22]⟩,none⟩,⟨some 11,.binOp .lss 3 (.tmp 7) (.tmp 10) 3,none⟩]) (.cond (.tmp 11) .skip (.exit 0))) (.seq (.block 1 (.reg [⟨some 14,.move (.tmp 5),none⟩,⟨some 15,.fieldAddr 24 (.tmp 2) 2,none⟩,⟨some 16,.load 22 (.tmp 15),none⟩,⟨some 17,.move (.tmp 6),none⟩,⟨some 18,.indexAddr 22 (.tmp 16) (.tmp 17),none⟩,⟨some 19,.load 24 (.tmp 18),none⟩,⟨some 20,.move (.tmp 1),none⟩,⟨some 21,.call ⟨.value (.func 44),#[.tmp 19,.tmp 20],#[24,35]⟩,none⟩,⟨some 22,.buildSlice 101 1 #[(0,.tmp 21)],none⟩,⟨some 23,.call ⟨.builtin .append,#[.tmp 14,.tmp 22],#[101,101]⟩,none⟩,⟨some 5,.assign (.tmp 23),none⟩])) (.reg [⟨some 12,.move (.tmp 6),none⟩,⟨some 13,.binOp .add 3 (.tmp 12) (.const (.int .i64 1)) 3,none⟩,⟨some 6,.assign (.tmp 13),none⟩]))
def x44 : XC := .seq (.reg [⟨some 2,.box 24 (.tmp 0),none⟩,⟨some 4,.assign (.const (.bool false)),none⟩]) (.seq (.reg [⟨some 5,.assign (.const (.slice none 0 0)),none⟩]) (.seq (.seq (.reg [⟨some 6,.assign (.const (.int .i64 0)),none⟩]) (.bloop 0 x44_L0)) (x44_T1)))
@[simp] theorem x44_s {C e s K} : type_of% (@X_at C e s K _ _ x44_T1.eq_1) ∧ type_of% (@X_at C e s K _ _ x44_L0.eq_1) ∧ type_of% (@X_at C e s K _ _ x44.eq_1) := ⟨X_at x44_T1.eq_1, X_at x44_L0.eq_1, X_at x44.eq_1⟩
def an44 : Ann := ⟨[], [(0, [(5, none, 1)], [1, 2, 5, 6], [1, 2, 5])], []⟩
@[simp] theorem an44_a : an44.loopOf 0 = ([(5, none, 1)], [1, 2, 5, 6], [1, 2, 5]) := rfl
theorem fi44 : FI Try.prog 44 (cxA an44) x44 [.tmp 4] Try.f44 := fiA Try.func44 mixed
theorem True_ref (hs : List ByteArray) (f : Fm) (hf : Pl f) : CallOK Try.prog 44 [.agg (frm f), .list (hs.map strRow)] [] (.bool (tv (fun x => memB x hs) f)) [] := by
 induction f using Fm.ind with
 | h f ih =>
  refine fi44.op ?_
  have ih := fun g hg => ih g hg (hf.kid hg)
  ((refine Sg.h ?_); try repeat' ((first | (with_reducible first | refine brA ?_ | refine brE fun _ => ?_ | (refine spl ⟨?_, ?_⟩ <;> intro _))) <;> ((try simp -implicitDefEqProofs); (try simp -implicitDefEqProofs (disch := first | assumption | (try simp only [lens]); omega -splitDisjunctions)))))
  refine W_of fun Q hQ => ?_
  have hkl := hf.1.ok.kids_le
  have main : ∀ r i, i + r = f.kids.length → Q [(1, .list (hs.map strRow)), (2, .ptr 0 0 0), (5, .sl 1 0 i), (6, .int .i64 (i : Int))] [.rows 3 [frm f], .rows 1 (((f.kids.take i).map (tv fun x => memB x hs)).map boolRow)] := by
   intro r
   induction r with
   | zero =>
    intro i hi
    obtain rfl : i = f.kids.length := by omega
    rw [List.take_length]
    apply hQ
    clear hQ
    rcases hf.seven with ⟨nm, hn, rfl⟩ | rfl | rfl | ⟨a, ha, rfl⟩ | ⟨a, b, ha, hb, rfl⟩ | ⟨a, b, ha, hb, rfl⟩ | ⟨a, b, ha, hb, rfl⟩
    ·rw [tv_1]
     have hx := HasText_ref hs nm
     generalize memB nm hs = x at *
     simp only [frm_eq, fm_kind, fm_name, fm_kids, List.map_nil, List.map_cons]
     ((refine Sg.h ?_); try repeat' ((first | (with_reducible first | refine brA ?_ | refine brE fun _ => ?_ | (refine spl ⟨?_, ?_⟩ <;> intro _)) | refine clo hx ?_) <;> ((try simp -implicitDefEqProofs); (try simp -implicitDefEqProofs (disch := first | assumption | (try simp only [lens]); omega -splitDisjunctions)))))
    ·rw [tv_2]
     simp only [frm_eq, fm_kind, fm_name, fm_kids, List.map_nil, List.map_cons]
     ((refine Sg.h ?_); try repeat' ((first | (with_reducible first | refine brA ?_ | refine brE fun _ => ?_ | (refine spl ⟨?_, ?_⟩ <;> intro _))) <;> ((try simp -implicitDefEqProofs); (try simp -implicitDefEqProofs (disch := first | assumption | (try simp only [lens]); omega -splitDisjunctions)))))
    ·rw [tv_3]
     simp only [frm_eq, fm_kind, fm_name, fm_kids, List.map_nil, List.map_cons]
     ((refine Sg.h ?_); try repeat' ((first | (with_reducible first | refine brA ?_ | refine brE fun _ => ?_ | (refine spl ⟨?_, ?_⟩ <;> intro _))) <;> ((try simp -implicitDefEqProofs); (try simp -implicitDefEqProofs (disch := first | assumption | (try simp only [lens]); omega -splitDisjunctions)))))
    ·rw [tv_4]
     rw [frm_eq (.mk _ _ _)]
     simp only [fm_kind, fm_name, fm_kids, List.map_nil, List.map_cons]
     generalize tv (fun x => memB x hs) a = x at *
     cases x <;> ((refine Sg.h ?_); try repeat' ((first | (with_reducible first | refine brA ?_ | refine brE fun _ => ?_ | (refine spl ⟨?_, ?_⟩ <;> intro _))) <;> ((try simp -implicitDefEqProofs); (try simp -implicitDefEqProofs (disch := first | assumption | (try simp only [lens]); omega -splitDisjunctions)))))
    ·rw [tv_5]
     rw [frm_eq (.mk _ _ _)]
     simp only [fm_kind, fm_name, fm_kids, List.map_nil, List.map_cons]
     generalize tv (fun x => memB x hs) a = x at *
     generalize tv (fun x => memB x hs) b = y at *
     cases x <;> ((refine Sg.h ?_); try repeat' ((first | (with_reducible first | refine brA ?_ | refine brE fun _ => ?_ | (refine spl ⟨?_, ?_⟩ <;> intro _))) <;> ((try simp -implicitDefEqProofs); (try simp -implicitDefEqProofs (disch := first | assumption | (try simp only [lens]); omega -splitDisjunctions)))))
    ·rw [tv_6]
     rw [frm_eq (.mk _ _ _)]
     simp only [fm_kind, fm_name, fm_kids, List.map_nil, List.map_cons]
     generalize tv (fun x => memB x hs) a = x at *
     generalize tv (fun x => memB x hs) b = y at *
     cases x <;> ((refine Sg.h ?_); try repeat' ((first | (with_reducible first | refine brA ?_ | refine brE fun _ => ?_ | (refine spl ⟨?_, ?_⟩ <;> intro _))) <;> ((try simp -implicitDefEqProofs); (try simp -implicitDefEqProofs (disch := first | assumption | (try simp only [lens]); omega -splitDisjunctions)))))
    ·rw [tv_7]
     rw [frm_eq (.mk _ _ _)]
     simp only [fm_kind, fm_name, fm_kids, List.map_nil, List.map_cons]
     generalize tv (fun x => memB x hs) a = x at *
     generalize tv (fun x => memB x hs) b = y at *
     cases x <;> cases y <;> ((refine Sg.h ?_); try repeat' ((first | (with_reducible first | refine brA ?_ | refine brE fun _ => ?_ | (refine spl ⟨?_, ?_⟩ <;> intro _))) <;> ((try simp -implicitDefEqProofs); (try simp -implicitDefEqProofs (disch := first | assumption | (try simp only [lens]); omega -splitDisjunctions)))))
   | succ r ihr =>
    intro i hi
    have hik : i < f.kids.length := by omega
    have ihr := ihr (i + 1) (by omega)
    have hc := ih f.kids[i] (List.getElem_mem hik)
    rw [take_snoc hik, List.map_append, List.map_append, List.map_cons, List.map_nil] at ihr
    apply hQ
    clear hQ
    generalize tv (fun x => memB x hs) f.kids[i] = x at *
    ((refine Sg.h ?_); try repeat' ((first | (with_reducible first | refine brA ?_ | refine brE fun _ => ?_ | (refine spl ⟨?_, ?_⟩ <;> intro _)) | refine clo hc ?_) <;> ((try simp -implicitDefEqProofs [hik]); (try simp -implicitDefEqProofs (disch := first | assumption | (try simp only [lens]); omega -splitDisjunctions) [hik]))))
    all_goals first | exact ihr | (refine at2 ihr ?_ ?_ <;> simp; done) | (exfalso; first | omega | (simp_all; done) | (simp_all; omega))
  refine at2 (main _ 0 (Nat.zero_add _)) ?_ ?_ <;> simp
end Go.Proofs.Ytnoklmapofogeaa
