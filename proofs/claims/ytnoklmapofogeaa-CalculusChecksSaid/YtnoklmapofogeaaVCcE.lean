/-
  calculus: CheckSequent; the tables of rules.
-/
import Derived.Test.YtnoklmapofogeaaVCcD
import Derived.Test.YtnoklmapofogeaaVTrB
namespace Go.Proofs.Ytnoklmapofogeaa
open Go Go.Pv
set_option linter.unusedVariables false
set_option linter.unusedSimpArgs false
set_option maxRecDepth 100000
set_option maxHeartbeats 4000000

def seqGo : List Fm → Nat → Int × Int
  | [], _ => (0, 0)
  | f :: r, i => if (plainF f).1 ≠ 0 then ((plainF f).1, (i : Int)) else seqGo r (i + 1)
def sequentF (l r : List Fm) : Int × Int := if 60 < l.length + r.length then (2, 0) else seqGo (l ++ r) 0
theorem plainL_sgl (f : Fm) : plainL [f] = if (plainF f).1 ≠ 0 then plainF f else (0, 0) := rfl
def x30_T1 : XC := .seq (.reg [⟨some 38,.build 33 #[],none⟩,⟨none,.store 33 (.tmp 2) (.tmp 38),none⟩]) (.ret)
def x30_L0 : XC := .seq (.reg [⟨some 23,.binOp .lss 3 (.tmp 22) (.tmp 21) 3,none⟩]) (.seq (.cond (.tmp 23) (.skip) (.exit 0)) (.seq (.block 1 (.seq (.reg [⟨some 24,.move (.tmp 22),none⟩,⟨some 25,.indexAddr 22 (.tmp 20) (.tmp 22),none⟩,⟨some 26,.load 24 (.tmp 25),none⟩,⟨some 4,.alloc 24,none⟩,⟨some 3,.assign (.tmp 24),none⟩,⟨none,.store 24 (.tmp 4) (.tmp 26),none⟩]) (.seq (.reg [⟨some 27,.load 24 (.tmp 4),none⟩,⟨some 28,.buildSlice 22 1 #[(0,.tmp 27)],none⟩,⟨some 29,.call ⟨.value (.func 70),#[.tmp 28],#[22]⟩,none⟩,⟨some 5,.alloc 33,none⟩,⟨none,.store 33 (.tmp 5) (.tmp 29),none⟩]) (.seq (.reg [⟨some 30,.fieldAddr 33 (.tmp 5) 0,none⟩,⟨some 31,.load 3 (.tmp 30),none⟩,⟨some 32,.binOp .neq 3 (.tmp 31) (.const (.int .i64 0)) 3,none⟩]) (.cond (.tmp 32) (.seq (.reg [⟨some 33,.fieldAddr 33 (.tmp 5) 0,none⟩,⟨some 34,.load 3 (.tmp 33),none⟩,⟨some 35,.move (.tmp 3),none⟩,⟨some 36,.call ⟨.value (.func 68),#[.tmp 34,.tmp 35],#[3,3]⟩,none⟩,⟨none,.store 33 (.tmp 2) (.tmp 36),none⟩]) (.ret)) (.skip)))))) (.reg [⟨some 37,.binOp .add 3 (.tmp 22) (.const (.int .i64 1)) 3,none⟩,⟨some 22,.move (.tmp 37),none⟩])))
def x30 : XC := .seq (.reg [⟨some 1,.box 26 (.tmp 0),none⟩,⟨some 2,.alloc 33,none⟩]) (.seq (.seq (.reg [⟨some 6,.fieldAddr 26 (.tmp 1) 0,none⟩,⟨some 7,.load 22 (.tmp 6),none⟩,⟨some 8,.call ⟨.builtin .len,#[.tmp 7],#[22]⟩,none⟩,⟨some 9,.fieldAddr 26 (.tmp 1) 1,none⟩,⟨some 10,.load 22 (.tmp 9),none⟩,⟨some 11,.call ⟨.builtin .len,#[.tmp 10],#[22]⟩,none⟩,⟨some 12,.binOp .add 3 (.tmp 8) (.tmp 11) 3,none⟩,⟨some 13,.binOp .gtr 3 (.tmp 12) (.const (.int .i64 60)) 3,none⟩]) (.cond (.tmp 13) (.seq (.reg [⟨some 14,.call ⟨.value (.func 68),#[.const (.int .i64 2),.const (.int .i64 0)],#[3,3]⟩,none⟩,⟨none,.store 33 (.tmp 2) (.tmp 14),none⟩]) (.ret)) (.skip))) (.seq (.seq (.reg [⟨some 15,.fieldAddr 26 (.tmp 1) 0,none⟩,⟨some 16,.load 22 (.tmp 15),none⟩,⟨some 17,.fieldAddr 26 (.tmp 1) 1,none⟩,⟨some 18,.load 22 (.tmp 17),none⟩,⟨some 19,.buildSlice 114 2 #[(0,.tmp 16),(1,.tmp 18)],none⟩,⟨some 20,.call ⟨.value (.func 69),#[.tmp 19],#[114]⟩,none⟩,⟨some 21,.call ⟨.builtin .len,#[.tmp 20],#[22]⟩,none⟩,⟨some 22,.move (.const (.int .i64 0)),none⟩]) (.bloop 0 x30_L0)) (x30_T1)))
@[simp] theorem x30_s {C : WC} {e : AE} {s : Store} {K : KS} : type_of% (@X_at C e s K _ _ x30_T1.eq_1) ∧ type_of% (@X_at C e s K _ _ x30_L0.eq_1) ∧ type_of% (@X_at C e s K _ _ x30.eq_1) := ⟨X_at x30_T1.eq_1, X_at x30_L0.eq_1, X_at x30.eq_1⟩
def an30 : Ann := ⟨[], [(0, [], [2, 20, 21, 22], [2])], []⟩
def cx30 (P : Program) (m : Nat) : WC := ⟨P, m, an30⟩
@[simp] theorem cx30_a {P : Program} {m : Nat} : (cx30 P m).P = P ∧ (cx30 P m).m = m ∧ (cx30 P m).A.loopOf 0 = ([], [2, 20, 21, 22], [2]) := ⟨rfl, rfl, rfl⟩
instance {P : Program} {m f : Nat} [h : EnT P f] : EnT (cx30 P m).P f := h
theorem fi30 : FI Try.prog 30 cx30 x30 [.cell 2 33] Try.f30 := fiOf (fun _ _ => rfl) (by decide +kernel) Try.func30 (by kernel_rfl) (by kernel_rfl) mixed

theorem CheckSequent_calculus (l r : List Fm) (hl : l.length ≤ 50000) (hr : r.length ≤ 50000) : CallOK Try.prog 30 [.agg [.list (l.map frm), .list (r.map frm)]] [] (.agg [.int .i64 (sequentF l r).1, .int .i64 (sequentF l r).2]) [] := by
  refine fi30.op ?_
  unfold sequentF
  by_cases h6 : 60 < l.length + r.length
  · have h6i : (60 : Int) < (l.length : Int) + (r.length : Int) := by omega
    rw [if_pos h6]
    ((refine Sg.h ?_); try repeat' ((first | (with_reducible first | refine Sg.mk ?_ | refine brA ?_ | refine brE fun _ => ?_ | (refine spl (And.intro ?_ ?_) <;> intro _)) | (refine clo (fault_calculus 2 0) ?_)) <;> ((try simp (implicitDefEqProofs := false) [h6i]); (try simp (implicitDefEqProofs := false) (disch := first | assumption | (try simp only [lens]); omega -splitDisjunctions) [h6i]))))
  · have h6i : ¬ (60 : Int) < (l.length : Int) + (r.length : Int) := by omega
    rw [if_neg h6]
    have hc := Concat_fms [l, r] (by simp) (by simp; omega)
    rw [show [l, r].flatten = l ++ r from by simp] at hc
    simp only [List.map_cons, List.map_nil] at hc
    have hL : (l ++ r).length ≤ 60 := by simp; omega
    generalize hE : seqGo (l ++ r) 0 = E
    generalize l ++ r = L at *
    ((refine Sg.h ?_); try repeat' ((first | (with_reducible first | refine Sg.mk ?_ | refine brA ?_ | refine brE fun _ => ?_ | (refine spl (And.intro ?_ ?_) <;> intro _))) <;> ((try simp (implicitDefEqProofs := false) [h6i]); (try simp (implicitDefEqProofs := false) (disch := first | assumption | (try simp only [lens]); omega -splitDisjunctions) [h6i]))))
    refine CL.giv [2] ?_
    ((refine Sg.h ?_); try repeat' ((first | (with_reducible first | refine Sg.mk ?_ | refine brA ?_ | refine brE fun _ => ?_ | (refine spl (And.intro ?_ ?_) <;> intro _)) | (refine clo hc ?_)) <;> ((try simp (implicitDefEqProofs := false)); (try simp (implicitDefEqProofs := false) (disch := first | assumption | (try simp only [lens]); omega -splitDisjunctions)))))
    refine W_of fun Q hQ => ?_
    have main : ∀ n i, i + n = L.length → seqGo (L.drop i) i = E → Q [(2, .ptr 0 0 0), (20, .list (L.map frm)), (21, .int .i64 (L.length : Int)), (22, .int .i64 (i : Int))] [.rows 2 [[.int .i64 0, .int .i64 0]]] := by
      intro n
      induction n with
      | zero =>
        intro i hi he
        rw [List.drop_of_length_le (by omega), seqGo] at he
        apply hQ
        clear hQ
        subst he
        ((refine Sg.h ?_); try repeat' ((first | (with_reducible first | refine Sg.mk ?_ | refine brA ?_ | refine brE fun _ => ?_ | (refine spl (And.intro ?_ ?_) <;> intro _))) <;> ((try simp (implicitDefEqProofs := false)); (try simp (implicitDefEqProofs := false) (disch := first | assumption | (try simp only [lens]); omega -splitDisjunctions)))))
      | succ n ih =>
        intro i hi he
        have hil : i < L.length := by omega
        have ih := ih (i + 1) (by omega)
        rw [List.drop_eq_getElem_cons hil, seqGo] at he
        have hp := Plain_truth [L[i]] (by simp)
        rw [plainL_sgl] at hp
        apply hQ
        clear hQ
        by_cases h0 : (plainF L[i]).1 = 0
        · rw [if_neg (by simpa using h0)] at he hp
          have ih := ih he
          ((refine Sg.h ?_); try repeat' ((first | (with_reducible first | refine Sg.mk ?_ | refine brA ?_ | refine brE fun _ => ?_ | (refine spl (And.intro ?_ ?_) <;> intro _))) <;> ((try simp (implicitDefEqProofs := false) [hil]); (try simp (implicitDefEqProofs := false) (disch := first | assumption | (try simp only [lens]); omega -splitDisjunctions) [hil]))))
          refine CL.giv [2] ?_
          ((refine Sg.h ?_); try repeat' ((first | (with_reducible first | refine Sg.mk ?_ | refine brA ?_ | refine brE fun _ => ?_ | (refine spl (And.intro ?_ ?_) <;> intro _)) | (refine clo hp ?_)) <;> ((try simp (implicitDefEqProofs := false) [hil]); (try simp (implicitDefEqProofs := false) (disch := first | assumption | (try simp only [lens]); omega -splitDisjunctions) [hil]))))
          all_goals first | exact ih | (refine at2 ih ?_ ?_ <;> simp; done) | (exfalso; first | omega | (simp_all; done) | (simp_all; omega))
        · rw [if_pos (by simpa using h0)] at he hp
          have hf := fault_calculus (plainF L[i]).1 (i : Int)
          subst he
          generalize plainF L[i] = P at *
          ((refine Sg.h ?_); try repeat' ((first | (with_reducible first | refine Sg.mk ?_ | refine brA ?_ | refine brE fun _ => ?_ | (refine spl (And.intro ?_ ?_) <;> intro _))) <;> ((try simp (implicitDefEqProofs := false) [hil]); (try simp (implicitDefEqProofs := false) (disch := first | assumption | (try simp only [lens]); omega -splitDisjunctions) [hil]))))
          refine CL.giv [2] ?_
          ((refine Sg.h ?_); try repeat' ((first | (with_reducible first | refine Sg.mk ?_ | refine brA ?_ | refine brE fun _ => ?_ | (refine spl (And.intro ?_ ?_) <;> intro _)) | (refine clo hp ?_) | (refine clo hf ?_)) <;> ((try simp (implicitDefEqProofs := false) [h0]); (try simp (implicitDefEqProofs := false) (disch := first | assumption | (try simp only [lens]); omega -splitDisjunctions) [h0]))))
    all_goals first | exact main _ 0 (Nat.zero_add _) hE | (refine at2 main _ 0 (Nat.zero_add _) hE ?_ ?_ <;> simp; done) | (exfalso; first | omega | (simp_all; done) | (simp_all; omega))
def x178 : XC := .seq (.reg [⟨some 4,.box 24 (.tmp 0),none⟩,⟨some 7,.assign (.const (.slice none 0 0)),none⟩,⟨some 8,.assign (.const (.bool false)),none⟩]) (.seq (.seq (.reg [⟨some 9,.load 24 (.tmp 4),none⟩,⟨some 10,.move (.tmp 2),none⟩,⟨some 11,.call ⟨.value (.func 147),#[.tmp 9,.const (.int .i64 6),.tmp 10],#[24,3,129]⟩,none⟩,⟨some 12,.unOp .not 4 (.tmp 11),none⟩]) (.cond (.tmp 12) (.seq (.reg [⟨some 7,.assign (.const (.slice none 0 0)),none⟩,⟨some 8,.assign (.const (.bool false)),none⟩]) (.ret)) (.skip))) (.seq (.reg [⟨some 13,.move (.tmp 1),none⟩,⟨some 14,.fieldAddr 24 (.tmp 4) 2,none⟩,⟨some 15,.load 22 (.tmp 14),none⟩,⟨some 16,.load 3 (.tmp 3),none⟩,⟨some 17,.indexAddr 22 (.tmp 15) (.tmp 16),none⟩,⟨some 18,.load 24 (.tmp 17),none⟩,⟨some 19,.buildSlice 129 1 #[(0,.tmp 18)],none⟩,⟨some 20,.build 139 #[(0,.tmp 13),(1,.tmp 19)],none⟩,⟨some 21,.buildSlice 136 1 #[(0,.tmp 20)],none⟩,⟨some 7,.assign (.tmp 21),none⟩,⟨some 8,.assign (.const (.bool true)),none⟩]) (.ret)))
@[simp] theorem x178_s {C : WC} {e : AE} {s : Store} {K : KS} : type_of% (@X_at C e s K _ _ x178.eq_1) := X_at x178.eq_1
def an178 : Ann := ⟨[], [], []⟩
def cx178 (P : Program) (m : Nat) : WC := ⟨P, m, an178⟩
@[simp] theorem cx178_a {P : Program} {m : Nat} : (cx178 P m).P = P ∧ (cx178 P m).m = m := ⟨rfl, rfl⟩
instance {P : Program} {m f : Nat} [h : EnT P f] : EnT (cx178 P m).P f := h
theorem fi178 : FI Try.prog 178 cx178 x178 [.tmp 7, .tmp 8] Try.f178 := fiOf (fun _ _ => rfl) (by decide +kernel) Try.func178 (by kernel_rfl) (by kernel_rfl) mixed

theorem side1_calculus (k : Nat) (hk : k ≤ 1) (f : Fm) (hA : Ar f) (l r : List Fm) (hl : l.length ≤ 50000) (hr : r.length ≤ 50000) : CallOK Try.prog 178 [.agg (frm f), .list (l.map frm), .list (r.map frm), .iptr [.int .i64 (k : Int)]] [] (.tuple [.list ((sideR k f l r).1.map premRow), .bool (sideR k f l r).2]) [] := by
  refine fi178.os ?_
  unfold sideR
  have h0 := kind_calculus f 6 r (by omega)
  cases hh : kindF f 6 r with
  | false =>
    rw [show (decide (f.kind = 6) && hasF r f) = false from hh] at h0
    ((refine Sg.h ?_); try repeat' ((first | (with_reducible first | refine Sg.mk ?_ | refine brA ?_ | refine brE fun _ => ?_ | (refine spl (And.intro ?_ ?_) <;> intro _)) | (refine clo h0 ?_)) <;> ((try simp (implicitDefEqProofs := false)); (try simp (implicitDefEqProofs := false) (disch := first | assumption | (try simp only [lens]); omega -splitDisjunctions)))))
  | true =>
    rw [show (decide (f.kind = 6) && hasF r f) = true from hh] at h0
    obtain ⟨hkd, hm⟩ := kindF_mem hh
    obtain ⟨a, b, hks⟩ := hA.two (by omega)
    have ka : kid f 0 = a := by simp [kid, hks]
    have kb : kid f 1 = b := by simp [kid, hks]
    obtain rfl | rfl : k = 0 ∨ k = 1 := by omega
    · rw [ka]
      ((refine Sg.h ?_); try repeat' ((first | (with_reducible first | refine Sg.mk ?_ | refine brA ?_ | refine brE fun _ => ?_ | (refine spl (And.intro ?_ ?_) <;> intro _)) | (refine clo h0 ?_)) <;> ((try simp (implicitDefEqProofs := false) [hks, premRow]); (try simp (implicitDefEqProofs := false) (disch := first | assumption | (try simp only [lens]); omega -splitDisjunctions) [hks, premRow]))))
    · rw [kb]
      ((refine Sg.h ?_); try repeat' ((first | (with_reducible first | refine Sg.mk ?_ | refine brA ?_ | refine brE fun _ => ?_ | (refine spl (And.intro ?_ ?_) <;> intro _)) | (refine clo h0 ?_)) <;> ((try simp (implicitDefEqProofs := false) [hks, premRow]); (try simp (implicitDefEqProofs := false) (disch := first | assumption | (try simp only [lens]); omega -splitDisjunctions) [hks, premRow]))))
def x161 : XC := .seq (.reg [⟨some 1,.box 3 (.tmp 0),none⟩,⟨some 2,.assign (.const .nilFunc),none⟩]) (.seq (.reg [⟨some 3,.makeFunc (.func 178) #[] #[.tmp 1],none⟩,⟨some 2,.assign (.tmp 3),none⟩]) (.ret))
@[simp] theorem x161_s {C : WC} {e : AE} {s : Store} {K : KS} : type_of% (@X_at C e s K _ _ x161.eq_1) := X_at x161.eq_1
def an161 : Ann := ⟨[], [], []⟩
def cx161 (P : Program) (m : Nat) : WC := ⟨P, m, an161⟩
@[simp] theorem cx161_a {P : Program} {m : Nat} : (cx161 P m).P = P ∧ (cx161 P m).m = m := ⟨rfl, rfl⟩
instance {P : Program} {m f : Nat} [h : EnT P f] : EnT (cx161 P m).P f := h
theorem fi161 : FI Try.prog 161 cx161 x161 [.tmp 2] Try.f161 := fiOf (fun _ _ => rfl) (by decide +kernel) Try.func161 (by kernel_rfl) (by kernel_rfl) mixed

theorem side_calculus (k : Nat) : CallOK Try.prog 161 [.int .i64 (k : Int)] [] (.fn (.func 178) [] [.iptr [.int .i64 (k : Int)]]) [] := by
  refine fi161.op ?_
  ((refine Sg.h ?_); try repeat' ((first | (with_reducible first | refine Sg.mk ?_ | refine brA ?_ | refine brE fun _ => ?_ | (refine spl (And.intro ?_ ?_) <;> intro _))) <;> ((try simp (implicitDefEqProofs := false)); (try simp (implicitDefEqProofs := false) (disch := first | assumption | (try simp only [lens]); omega -splitDisjunctions)))))
end Go.Proofs.Ytnoklmapofogeaa
