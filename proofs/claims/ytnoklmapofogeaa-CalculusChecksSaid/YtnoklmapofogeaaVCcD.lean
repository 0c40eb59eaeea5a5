/-
  calculus: the rules' premises.
-/
import Derived.Test.YtnoklmapofogeaaVCcC
namespace Go.Proofs.Ytnoklmapofogeaa
open Go Go.Pv
set_option linter.unusedVariables false
set_option linter.unusedSimpArgs false
set_option maxRecDepth 100000
set_option maxHeartbeats 4000000

abbrev Prem := List Fm × List Fm
def premRow (p : Prem) : List PV := [.list (p.1.map frm), .list (p.2.map frm)]
noncomputable def kindF (f : Fm) (k : Int) (l : List Fm) : Bool := decide (f.kind = k) && hasF l f
def kid (f : Fm) (i : Nat) : Fm := f.kids.getD i f
/-- as many kids as its kind has -/
structure Ar (f : Fm) : Prop where
  one : f.kind = 4 → ∃ a, f.kids = [a]
  two : f.kind = 5 ∨ f.kind = 6 ∨ f.kind = 7 → ∃ a b, f.kids = [a, b]
theorem kindF_mem {f : Fm} {k : Int} {l : List Fm} (h : kindF f k l = true) : f.kind = k ∧ f ∈ l := by
  simpa [kindF, hasF_iff] using h
noncomputable def axR (f : Fm) (l r : List Fm) : List Prem × Bool := ([], hasF l f && hasF r f)
noncomputable def trueR (f : Fm) (l r : List Fm) : List Prem × Bool := ([], kindF f 2 r)
noncomputable def falseR (f : Fm) (l r : List Fm) : List Prem × Bool := ([], kindF f 3 l)
noncomputable def sideR (k : Nat) (f : Fm) (l r : List Fm) : List Prem × Bool := if kindF f 6 r = true then ([(l, [kid f k])], true) else ([], false)
def x145 : XC := .seq (.reg [⟨some 3,.box 24 (.tmp 0),none⟩,⟨some 6,.assign (.const (.slice none 0 0)),none⟩,⟨some 7,.assign (.const (.bool false)),none⟩]) (.seq (.reg [⟨some 8,.move (.tmp 1),none⟩,⟨some 9,.load 24 (.tmp 3),none⟩,⟨some 10,.call ⟨.value (.func 143),#[.tmp 8,.tmp 9],#[129,24]⟩,none⟩,⟨some 11,.move (.tmp 10),none⟩,⟨some 12,.move (.tmp 2),some (some 11,true)⟩,⟨some 13,.load 24 (.tmp 3),some (some 11,true)⟩,⟨some 14,.call ⟨.value (.func 143),#[.tmp 12,.tmp 13],#[129,24]⟩,some (some 11,true)⟩,⟨some 15,.pick (.tmp 11) (.tmp 14) (.const (.bool false)),none⟩,⟨some 6,.assign (.const (.slice none 0 0)),none⟩,⟨some 7,.assign (.tmp 15),none⟩]) (.ret))
@[simp] theorem x145_s {C : WC} {e : AE} {s : Store} {K : KS} : type_of% (@X_at C e s K _ _ x145.eq_1) := X_at x145.eq_1
def an145 : Ann := ⟨[], [], []⟩
def cx145 (P : Program) (m : Nat) : WC := ⟨P, m, an145⟩
@[simp] theorem cx145_a {P : Program} {m : Nat} : (cx145 P m).P = P ∧ (cx145 P m).m = m := ⟨rfl, rfl⟩
instance {P : Program} {m f : Nat} [h : EnT P f] : EnT (cx145 P m).P f := h
theorem fi145 : FI Try.prog 145 cx145 x145 [.tmp 6, .tmp 7] Try.f145 := fiOf (fun _ _ => rfl) (by decide +kernel) Try.func145 (by kernel_rfl) (by kernel_rfl) mixed

theorem axR_calculus (f : Fm) (hA : Ar f) (l r : List Fm) (hl : l.length ≤ 50000) (hr : r.length ≤ 50000) : CallOK Try.prog 145 [.agg (frm f), .list (l.map frm), .list (r.map frm)] [] (.tuple [.list ((axR f l r).1.map premRow), .bool (axR f l r).2]) [] := by
  have h1 := has_bag l (by omega) f
  have h2 := has_bag r (by omega) f
  refine fi145.os ?_
  unfold axR
  cases h : hasF l f <;> rw [h] at h1
  · ((refine Sg.h ?_); try repeat' ((first | (with_reducible first | refine Sg.mk ?_ | refine brA ?_ | refine brE fun _ => ?_ | (refine spl (And.intro ?_ ?_) <;> intro _)) | (refine clo h1 ?_)) <;> ((try simp (implicitDefEqProofs := false)); (try simp (implicitDefEqProofs := false) (disch := first | assumption | (try simp only [lens]); omega -splitDisjunctions)))))
  · ((refine Sg.h ?_); try repeat' ((first | (with_reducible first | refine Sg.mk ?_ | refine brA ?_ | refine brE fun _ => ?_ | (refine spl (And.intro ?_ ?_) <;> intro _)) | (refine clo h1 ?_) | (refine clo h2 ?_)) <;> ((try simp (implicitDefEqProofs := false)); (try simp (implicitDefEqProofs := false) (disch := first | assumption | (try simp only [lens]); omega -splitDisjunctions)))))
def x146 : XC := .seq (.reg [⟨some 3,.box 24 (.tmp 0),none⟩,⟨some 6,.assign (.const (.slice none 0 0)),none⟩,⟨some 7,.assign (.const (.bool false)),none⟩]) (.seq (.reg [⟨some 8,.load 24 (.tmp 3),none⟩,⟨some 9,.move (.tmp 2),none⟩,⟨some 10,.call ⟨.value (.func 147),#[.tmp 8,.const (.int .i64 2),.tmp 9],#[24,3,129]⟩,none⟩,⟨some 6,.assign (.const (.slice none 0 0)),none⟩,⟨some 7,.assign (.tmp 10),none⟩]) (.ret))
@[simp] theorem x146_s {C : WC} {e : AE} {s : Store} {K : KS} : type_of% (@X_at C e s K _ _ x146.eq_1) := X_at x146.eq_1
def an146 : Ann := ⟨[], [], []⟩
def cx146 (P : Program) (m : Nat) : WC := ⟨P, m, an146⟩
@[simp] theorem cx146_a {P : Program} {m : Nat} : (cx146 P m).P = P ∧ (cx146 P m).m = m := ⟨rfl, rfl⟩
instance {P : Program} {m f : Nat} [h : EnT P f] : EnT (cx146 P m).P f := h
theorem fi146 : FI Try.prog 146 cx146 x146 [.tmp 6, .tmp 7] Try.f146 := fiOf (fun _ _ => rfl) (by decide +kernel) Try.func146 (by kernel_rfl) (by kernel_rfl) mixed

theorem trueR_calculus (f : Fm) (hA : Ar f) (l r : List Fm) (hl : l.length ≤ 50000) (hr : r.length ≤ 50000) : CallOK Try.prog 146 [.agg (frm f), .list (l.map frm), .list (r.map frm)] [] (.tuple [.list ((trueR f l r).1.map premRow), .bool (trueR f l r).2]) [] := by
  have h1 := kind_calculus f 2 r (by omega)
  refine fi146.os ?_
  unfold trueR
  unfold kindF
  ((refine Sg.h ?_); try repeat' ((first | (with_reducible first | refine Sg.mk ?_ | refine brA ?_ | refine brE fun _ => ?_ | (refine spl (And.intro ?_ ?_) <;> intro _)) | (refine clo h1 ?_)) <;> ((try simp (implicitDefEqProofs := false)); (try simp (implicitDefEqProofs := false) (disch := first | assumption | (try simp only [lens]); omega -splitDisjunctions)))))
def x148 : XC := .seq (.reg [⟨some 3,.box 24 (.tmp 0),none⟩,⟨some 6,.assign (.const (.slice none 0 0)),none⟩,⟨some 7,.assign (.const (.bool false)),none⟩]) (.seq (.reg [⟨some 8,.load 24 (.tmp 3),none⟩,⟨some 9,.move (.tmp 1),none⟩,⟨some 10,.call ⟨.value (.func 147),#[.tmp 8,.const (.int .i64 3),.tmp 9],#[24,3,129]⟩,none⟩,⟨some 6,.assign (.const (.slice none 0 0)),none⟩,⟨some 7,.assign (.tmp 10),none⟩]) (.ret))
@[simp] theorem x148_s {C : WC} {e : AE} {s : Store} {K : KS} : type_of% (@X_at C e s K _ _ x148.eq_1) := X_at x148.eq_1
def an148 : Ann := ⟨[], [], []⟩
def cx148 (P : Program) (m : Nat) : WC := ⟨P, m, an148⟩
@[simp] theorem cx148_a {P : Program} {m : Nat} : (cx148 P m).P = P ∧ (cx148 P m).m = m := ⟨rfl, rfl⟩
instance {P : Program} {m f : Nat} [h : EnT P f] : EnT (cx148 P m).P f := h
theorem fi148 : FI Try.prog 148 cx148 x148 [.tmp 6, .tmp 7] Try.f148 := fiOf (fun _ _ => rfl) (by decide +kernel) Try.func148 (by kernel_rfl) (by kernel_rfl) mixed

theorem falseR_calculus (f : Fm) (hA : Ar f) (l r : List Fm) (hl : l.length ≤ 50000) (hr : r.length ≤ 50000) : CallOK Try.prog 148 [.agg (frm f), .list (l.map frm), .list (r.map frm)] [] (.tuple [.list ((falseR f l r).1.map premRow), .bool (falseR f l r).2]) [] := by
  have h1 := kind_calculus f 3 l (by omega)
  refine fi148.os ?_
  unfold falseR
  unfold kindF
  ((refine Sg.h ?_); try repeat' ((first | (with_reducible first | refine Sg.mk ?_ | refine brA ?_ | refine brE fun _ => ?_ | (refine spl (And.intro ?_ ?_) <;> intro _)) | (refine clo h1 ?_)) <;> ((try simp (implicitDefEqProofs := false)); (try simp (implicitDefEqProofs := false) (disch := first | assumption | (try simp only [lens]); omega -splitDisjunctions)))))
noncomputable def andLR (f : Fm) (l r : List Fm) : List Prem × Bool := if kindF f 5 l = true then ([(l.erase f ++ f.kids, r)], true) else ([], false)
def x149 : XC := .seq (.reg [⟨some 3,.box 24 (.tmp 0),none⟩,⟨some 6,.assign (.const (.slice none 0 0)),none⟩,⟨some 7,.assign (.const (.bool false)),none⟩]) (.seq (.seq (.reg [⟨some 8,.load 24 (.tmp 3),none⟩,⟨some 9,.move (.tmp 1),none⟩,⟨some 10,.call ⟨.value (.func 147),#[.tmp 8,.const (.int .i64 5),.tmp 9],#[24,3,129]⟩,none⟩,⟨some 11,.unOp .not 4 (.tmp 10),none⟩]) (.cond (.tmp 11) (.seq (.reg [⟨some 6,.assign (.const (.slice none 0 0)),none⟩,⟨some 7,.assign (.const (.bool false)),none⟩]) (.ret)) (.skip))) (.seq (.drawn 3 [⟨some 12,.move (.tmp 1),none⟩,⟨some 13,.load 24 (.tmp 3),none⟩,⟨some 14,.call ⟨.value (.func 144),#[.tmp 12,.tmp 13],#[129,24]⟩,none⟩,⟨some 15,.fieldAddr 24 (.tmp 3) 2,none⟩,⟨some 16,.load 22 (.tmp 15),none⟩,⟨some 17,.call ⟨.value (.func 150),#[.tmp 14,.tmp 16],#[129,22]⟩,none⟩,⟨some 18,.move (.tmp 2),none⟩,⟨some 19,.build 139 #[(0,.tmp 17),(1,.tmp 18)],none⟩,⟨some 20,.buildSlice 136 1 #[(0,.tmp 19)],none⟩,⟨some 6,.assign (.tmp 20),none⟩,⟨some 7,.assign (.const (.bool true)),none⟩]) (.ret)))
@[simp] theorem x149_s {C : WC} {e : AE} {s : Store} {K : KS} : type_of% (@X_at C e s K _ _ x149.eq_1) := X_at x149.eq_1
def an149 : Ann := ⟨[(3, .mix 7)], [], []⟩
def cx149 (P : Program) (m : Nat) : WC := ⟨P, m, an149⟩
@[simp] theorem cx149_a {P : Program} {m : Nat} : (cx149 P m).P = P ∧ (cx149 P m).m = m ∧ (cx149 P m).A.clsOf 3 = .mix 7 ∧ (cx149 P m).A.frzOf 3 = [] := ⟨rfl, rfl, rfl, rfl⟩
instance {P : Program} {m f : Nat} [h : EnT P f] : EnT (cx149 P m).P f := h
theorem fi149 : FI Try.prog 149 cx149 x149 [.tmp 6, .tmp 7] Try.f149 := fiOf (fun _ _ => rfl) (by decide +kernel) Try.func149 (by kernel_rfl) (by kernel_rfl) mixed

theorem andLR_calculus (f : Fm) (hA : Ar f) (l r : List Fm) (hl : l.length ≤ 50000) (hr : r.length ≤ 50000) : CallOK Try.prog 149 [.agg (frm f), .list (l.map frm), .list (r.map frm)] [] (.tuple [.list ((andLR f l r).1.map premRow), .bool (andLR f l r).2]) [] := by
  refine fi149.os ?_
  unfold andLR
  have h0 := kind_calculus f 5 l (by omega)
  cases hh : kindF f 5 l with
  | false =>
    rw [show (decide (f.kind = 5) && hasF l f) = false from hh] at h0
    ((refine Sg.h ?_); try repeat' ((first | (with_reducible first | refine Sg.mk ?_ | refine brA ?_ | refine brE fun _ => ?_ | (refine spl (And.intro ?_ ?_) <;> intro _)) | (refine clo h0 ?_)) <;> ((try simp (implicitDefEqProofs := false)); (try simp (implicitDefEqProofs := false) (disch := first | assumption | (try simp only [lens]); omega -splitDisjunctions)))))
  | true =>
    rw [show (decide (f.kind = 5) && hasF l f) = true from hh] at h0
    obtain ⟨hkd, hm⟩ := kindF_mem hh
    obtain ⟨a, b, hks⟩ := hA.two (by omega)
    clear hh
    have c0 := less_bag l (by omega) f hm
    have e1 := List.length_erase_le (a := f) (l := l)
    have c1 := more_bag (l.erase f) f.kids (by omega) (by rw [hks]; simp)
    rw [hks] at c1
    ((refine Sg.h ?_); try repeat' ((first | (with_reducible first | refine Sg.mk ?_ | refine brA ?_ | refine brE fun _ => ?_ | (refine spl (And.intro ?_ ?_) <;> intro _)) | (refine clo h0 ?_) | (refine clo c0 ?_) | (refine clo c1 ?_)) <;> ((try simp (implicitDefEqProofs := false) [hks, premRow]); (try simp (implicitDefEqProofs := false) (disch := first | assumption | (try simp only [lens]); omega -splitDisjunctions) [hks, premRow]))))
noncomputable def andRR (f : Fm) (l r : List Fm) : List Prem × Bool := if kindF f 5 r = true then ([(l, r.erase f ++ [kid f 0]), (l, r.erase f ++ [kid f 1])], true) else ([], false)
def x151 : XC := .seq (.reg [⟨some 3,.box 24 (.tmp 0),none⟩,⟨some 6,.assign (.const (.slice none 0 0)),none⟩,⟨some 7,.assign (.const (.bool false)),none⟩]) (.seq (.seq (.reg [⟨some 8,.load 24 (.tmp 3),none⟩,⟨some 9,.move (.tmp 2),none⟩,⟨some 10,.call ⟨.value (.func 147),#[.tmp 8,.const (.int .i64 5),.tmp 9],#[24,3,129]⟩,none⟩,⟨some 11,.unOp .not 4 (.tmp 10),none⟩]) (.cond (.tmp 11) (.seq (.reg [⟨some 6,.assign (.const (.slice none 0 0)),none⟩,⟨some 7,.assign (.const (.bool false)),none⟩]) (.ret)) (.skip))) (.seq (.drawn 3 [⟨some 12,.move (.tmp 1),none⟩,⟨some 13,.move (.tmp 2),none⟩,⟨some 14,.load 24 (.tmp 3),none⟩,⟨some 15,.call ⟨.value (.func 144),#[.tmp 13,.tmp 14],#[129,24]⟩,none⟩,⟨some 16,.fieldAddr 24 (.tmp 3) 2,none⟩,⟨some 17,.load 22 (.tmp 16),none⟩,⟨some 18,.indexAddr 22 (.tmp 17) (.const (.int .i64 0)),none⟩,⟨some 19,.load 24 (.tmp 18),none⟩,⟨some 20,.buildSlice 22 1 #[(0,.tmp 19)],none⟩,⟨some 21,.call ⟨.value (.func 150),#[.tmp 15,.tmp 20],#[129,22]⟩,none⟩,⟨some 22,.build 139 #[(0,.tmp 12),(1,.tmp 21)],none⟩,⟨some 23,.move (.tmp 1),none⟩,⟨some 24,.move (.tmp 2),none⟩,⟨some 25,.load 24 (.tmp 3),none⟩,⟨some 26,.call ⟨.value (.func 144),#[.tmp 24,.tmp 25],#[129,24]⟩,none⟩,⟨some 27,.fieldAddr 24 (.tmp 3) 2,none⟩,⟨some 28,.load 22 (.tmp 27),none⟩,⟨some 29,.indexAddr 22 (.tmp 28) (.const (.int .i64 1)),none⟩,⟨some 30,.load 24 (.tmp 29),none⟩,⟨some 31,.buildSlice 22 1 #[(0,.tmp 30)],none⟩,⟨some 32,.call ⟨.value (.func 150),#[.tmp 26,.tmp 31],#[129,22]⟩,none⟩,⟨some 33,.build 139 #[(0,.tmp 23),(1,.tmp 32)],none⟩,⟨some 34,.buildSlice 136 2 #[(0,.tmp 22),(1,.tmp 33)],none⟩,⟨some 6,.assign (.tmp 34),none⟩,⟨some 7,.assign (.const (.bool true)),none⟩]) (.ret)))
@[simp] theorem x151_s {C : WC} {e : AE} {s : Store} {K : KS} : type_of% (@X_at C e s K _ _ x151.eq_1) := X_at x151.eq_1
def an151 : Ann := ⟨[(3, .mixz 22)], [], []⟩
def cx151 (P : Program) (m : Nat) : WC := ⟨P, m, an151⟩
@[simp] theorem cx151_a {P : Program} {m : Nat} : (cx151 P m).P = P ∧ (cx151 P m).m = m ∧ (cx151 P m).A.clsOf 3 = .mixz 22 ∧ (cx151 P m).A.frzOf 3 = [] := ⟨rfl, rfl, rfl, rfl⟩
instance {P : Program} {m f : Nat} [h : EnT P f] : EnT (cx151 P m).P f := h
theorem fi151 : FI Try.prog 151 cx151 x151 [.tmp 6, .tmp 7] Try.f151 := fiOf (fun _ _ => rfl) (by decide +kernel) Try.func151 (by kernel_rfl) (by kernel_rfl) mixed

theorem andRR_calculus (f : Fm) (hA : Ar f) (l r : List Fm) (hl : l.length ≤ 50000) (hr : r.length ≤ 50000) : CallOK Try.prog 151 [.agg (frm f), .list (l.map frm), .list (r.map frm)] [] (.tuple [.list ((andRR f l r).1.map premRow), .bool (andRR f l r).2]) [] := by
  refine fi151.os ?_
  unfold andRR
  have h0 := kind_calculus f 5 r (by omega)
  cases hh : kindF f 5 r with
  | false =>
    rw [show (decide (f.kind = 5) && hasF r f) = false from hh] at h0
    ((refine Sg.h ?_); try repeat' ((first | (with_reducible first | refine Sg.mk ?_ | refine brA ?_ | refine brE fun _ => ?_ | (refine spl (And.intro ?_ ?_) <;> intro _)) | (refine clo h0 ?_)) <;> ((try simp (implicitDefEqProofs := false)); (try simp (implicitDefEqProofs := false) (disch := first | assumption | (try simp only [lens]); omega -splitDisjunctions)))))
  | true =>
    rw [show (decide (f.kind = 5) && hasF r f) = true from hh] at h0
    obtain ⟨hkd, hm⟩ := kindF_mem hh
    obtain ⟨a, b, hks⟩ := hA.two (by omega)
    have ka : kid f 0 = a := by simp [kid, hks]
    have kb : kid f 1 = b := by simp [kid, hks]
    rw [ka, kb]
    have c0 := less_bag r (by omega) f hm
    have e1 := List.length_erase_le (a := f) (l := r)
    have c1 := more_bag (r.erase f) [a] (by omega) (by simp)
    have c2 := less_bag r (by omega) f hm
    have e3 := List.length_erase_le (a := f) (l := r)
    have c3 := more_bag (r.erase f) [b] (by omega) (by simp)
    ((refine Sg.h ?_); try repeat' ((first | (with_reducible first | refine Sg.mk ?_ | refine brA ?_ | refine brE fun _ => ?_ | (refine spl (And.intro ?_ ?_) <;> intro _)) | (refine clo h0 ?_) | (refine clo c0 ?_) | (refine clo c1 ?_) | (refine clo c2 ?_) | (refine clo c3 ?_)) <;> ((try simp (implicitDefEqProofs := false) [hks, premRow]); (try simp (implicitDefEqProofs := false) (disch := first | assumption | (try simp only [lens]); omega -splitDisjunctions) [hks, premRow]))))
noncomputable def orLR (f : Fm) (l r : List Fm) : List Prem × Bool := if kindF f 6 l = true then ([(l.erase f ++ [kid f 0], r), (l.erase f ++ [kid f 1], r)], true) else ([], false)
def x152 : XC := .seq (.reg [⟨some 3,.box 24 (.tmp 0),none⟩,⟨some 6,.assign (.const (.slice none 0 0)),none⟩,⟨some 7,.assign (.const (.bool false)),none⟩]) (.seq (.seq (.reg [⟨some 8,.load 24 (.tmp 3),none⟩,⟨some 9,.move (.tmp 1),none⟩,⟨some 10,.call ⟨.value (.func 147),#[.tmp 8,.const (.int .i64 6),.tmp 9],#[24,3,129]⟩,none⟩,⟨some 11,.unOp .not 4 (.tmp 10),none⟩]) (.cond (.tmp 11) (.seq (.reg [⟨some 6,.assign (.const (.slice none 0 0)),none⟩,⟨some 7,.assign (.const (.bool false)),none⟩]) (.ret)) (.skip))) (.seq (.drawn 3 [⟨some 12,.move (.tmp 1),none⟩,⟨some 13,.load 24 (.tmp 3),none⟩,⟨some 14,.call ⟨.value (.func 144),#[.tmp 12,.tmp 13],#[129,24]⟩,none⟩,⟨some 15,.fieldAddr 24 (.tmp 3) 2,none⟩,⟨some 16,.load 22 (.tmp 15),none⟩,⟨some 17,.indexAddr 22 (.tmp 16) (.const (.int .i64 0)),none⟩,⟨some 18,.load 24 (.tmp 17),none⟩,⟨some 19,.buildSlice 22 1 #[(0,.tmp 18)],none⟩,⟨some 20,.call ⟨.value (.func 150),#[.tmp 14,.tmp 19],#[129,22]⟩,none⟩,⟨some 21,.move (.tmp 2),none⟩,⟨some 22,.build 139 #[(0,.tmp 20),(1,.tmp 21)],none⟩,⟨some 23,.move (.tmp 1),none⟩,⟨some 24,.load 24 (.tmp 3),none⟩,⟨some 25,.call ⟨.value (.func 144),#[.tmp 23,.tmp 24],#[129,24]⟩,none⟩,⟨some 26,.fieldAddr 24 (.tmp 3) 2,none⟩,⟨some 27,.load 22 (.tmp 26),none⟩,⟨some 28,.indexAddr 22 (.tmp 27) (.const (.int .i64 1)),none⟩,⟨some 29,.load 24 (.tmp 28),none⟩,⟨some 30,.buildSlice 22 1 #[(0,.tmp 29)],none⟩,⟨some 31,.call ⟨.value (.func 150),#[.tmp 25,.tmp 30],#[129,22]⟩,none⟩,⟨some 32,.move (.tmp 2),none⟩,⟨some 33,.build 139 #[(0,.tmp 31),(1,.tmp 32)],none⟩,⟨some 34,.buildSlice 136 2 #[(0,.tmp 22),(1,.tmp 33)],none⟩,⟨some 6,.assign (.tmp 34),none⟩,⟨some 7,.assign (.const (.bool true)),none⟩]) (.ret)))
@[simp] theorem x152_s {C : WC} {e : AE} {s : Store} {K : KS} : type_of% (@X_at C e s K _ _ x152.eq_1) := X_at x152.eq_1
def an152 : Ann := ⟨[(3, .mixz 22)], [], []⟩
def cx152 (P : Program) (m : Nat) : WC := ⟨P, m, an152⟩
@[simp] theorem cx152_a {P : Program} {m : Nat} : (cx152 P m).P = P ∧ (cx152 P m).m = m ∧ (cx152 P m).A.clsOf 3 = .mixz 22 ∧ (cx152 P m).A.frzOf 3 = [] := ⟨rfl, rfl, rfl, rfl⟩
instance {P : Program} {m f : Nat} [h : EnT P f] : EnT (cx152 P m).P f := h
theorem fi152 : FI Try.prog 152 cx152 x152 [.tmp 6, .tmp 7] Try.f152 := fiOf (fun _ _ => rfl) (by decide +kernel) Try.func152 (by kernel_rfl) (by kernel_rfl) mixed

theorem orLR_calculus (f : Fm) (hA : Ar f) (l r : List Fm) (hl : l.length ≤ 50000) (hr : r.length ≤ 50000) : CallOK Try.prog 152 [.agg (frm f), .list (l.map frm), .list (r.map frm)] [] (.tuple [.list ((orLR f l r).1.map premRow), .bool (orLR f l r).2]) [] := by
  refine fi152.os ?_
  unfold orLR
  have h0 := kind_calculus f 6 l (by omega)
  cases hh : kindF f 6 l with
  | false =>
    rw [show (decide (f.kind = 6) && hasF l f) = false from hh] at h0
    ((refine Sg.h ?_); try repeat' ((first | (with_reducible first | refine Sg.mk ?_ | refine brA ?_ | refine brE fun _ => ?_ | (refine spl (And.intro ?_ ?_) <;> intro _)) | (refine clo h0 ?_)) <;> ((try simp (implicitDefEqProofs := false)); (try simp (implicitDefEqProofs := false) (disch := first | assumption | (try simp only [lens]); omega -splitDisjunctions)))))
  | true =>
    rw [show (decide (f.kind = 6) && hasF l f) = true from hh] at h0
    obtain ⟨hkd, hm⟩ := kindF_mem hh
    obtain ⟨a, b, hks⟩ := hA.two (by omega)
    have ka : kid f 0 = a := by simp [kid, hks]
    have kb : kid f 1 = b := by simp [kid, hks]
    rw [ka, kb]
    have c0 := less_bag l (by omega) f hm
    have e1 := List.length_erase_le (a := f) (l := l)
    have c1 := more_bag (l.erase f) [a] (by omega) (by simp)
    have c2 := less_bag l (by omega) f hm
    have e3 := List.length_erase_le (a := f) (l := l)
    have c3 := more_bag (l.erase f) [b] (by omega) (by simp)
    ((refine Sg.h ?_); try repeat' ((first | (with_reducible first | refine Sg.mk ?_ | refine brA ?_ | refine brE fun _ => ?_ | (refine spl (And.intro ?_ ?_) <;> intro _)) | (refine clo h0 ?_) | (refine clo c0 ?_) | (refine clo c1 ?_) | (refine clo c2 ?_) | (refine clo c3 ?_)) <;> ((try simp (implicitDefEqProofs := false) [hks, premRow]); (try simp (implicitDefEqProofs := false) (disch := first | assumption | (try simp only [lens]); omega -splitDisjunctions) [hks, premRow]))))
noncomputable def thenRR (f : Fm) (l r : List Fm) : List Prem × Bool := if kindF f 7 r = true then ([(l ++ [kid f 0], r.erase f ++ [kid f 1])], true) else ([], false)
def x153 : XC := .seq (.reg [⟨some 3,.box 24 (.tmp 0),none⟩,⟨some 6,.assign (.const (.slice none 0 0)),none⟩,⟨some 7,.assign (.const (.bool false)),none⟩]) (.seq (.seq (.reg [⟨some 8,.load 24 (.tmp 3),none⟩,⟨some 9,.move (.tmp 2),none⟩,⟨some 10,.call ⟨.value (.func 147),#[.tmp 8,.const (.int .i64 7),.tmp 9],#[24,3,129]⟩,none⟩,⟨some 11,.unOp .not 4 (.tmp 10),none⟩]) (.cond (.tmp 11) (.seq (.reg [⟨some 6,.assign (.const (.slice none 0 0)),none⟩,⟨some 7,.assign (.const (.bool false)),none⟩]) (.ret)) (.skip))) (.seq (.drawn 3 [⟨some 12,.move (.tmp 1),none⟩,⟨some 13,.fieldAddr 24 (.tmp 3) 2,none⟩,⟨some 14,.load 22 (.tmp 13),none⟩,⟨some 15,.indexAddr 22 (.tmp 14) (.const (.int .i64 0)),none⟩,⟨some 16,.load 24 (.tmp 15),none⟩,⟨some 17,.buildSlice 22 1 #[(0,.tmp 16)],none⟩,⟨some 18,.call ⟨.value (.func 150),#[.tmp 12,.tmp 17],#[129,22]⟩,none⟩,⟨some 19,.move (.tmp 2),none⟩,⟨some 20,.load 24 (.tmp 3),none⟩,⟨some 21,.call ⟨.value (.func 144),#[.tmp 19,.tmp 20],#[129,24]⟩,none⟩,⟨some 22,.fieldAddr 24 (.tmp 3) 2,none⟩,⟨some 23,.load 22 (.tmp 22),none⟩,⟨some 24,.indexAddr 22 (.tmp 23) (.const (.int .i64 1)),none⟩,⟨some 25,.load 24 (.tmp 24),none⟩,⟨some 26,.buildSlice 22 1 #[(0,.tmp 25)],none⟩,⟨some 27,.call ⟨.value (.func 150),#[.tmp 21,.tmp 26],#[129,22]⟩,none⟩,⟨some 28,.build 139 #[(0,.tmp 18),(1,.tmp 27)],none⟩,⟨some 29,.buildSlice 136 1 #[(0,.tmp 28)],none⟩,⟨some 6,.assign (.tmp 29),none⟩,⟨some 7,.assign (.const (.bool true)),none⟩]) (.ret)))
@[simp] theorem x153_s {C : WC} {e : AE} {s : Store} {K : KS} : type_of% (@X_at C e s K _ _ x153.eq_1) := X_at x153.eq_1
def an153 : Ann := ⟨[(3, .mixz 15)], [], []⟩
def cx153 (P : Program) (m : Nat) : WC := ⟨P, m, an153⟩
@[simp] theorem cx153_a {P : Program} {m : Nat} : (cx153 P m).P = P ∧ (cx153 P m).m = m ∧ (cx153 P m).A.clsOf 3 = .mixz 15 ∧ (cx153 P m).A.frzOf 3 = [] := ⟨rfl, rfl, rfl, rfl⟩
instance {P : Program} {m f : Nat} [h : EnT P f] : EnT (cx153 P m).P f := h
theorem fi153 : FI Try.prog 153 cx153 x153 [.tmp 6, .tmp 7] Try.f153 := fiOf (fun _ _ => rfl) (by decide +kernel) Try.func153 (by kernel_rfl) (by kernel_rfl) mixed

theorem thenRR_calculus (f : Fm) (hA : Ar f) (l r : List Fm) (hl : l.length ≤ 50000) (hr : r.length ≤ 50000) : CallOK Try.prog 153 [.agg (frm f), .list (l.map frm), .list (r.map frm)] [] (.tuple [.list ((thenRR f l r).1.map premRow), .bool (thenRR f l r).2]) [] := by
  refine fi153.os ?_
  unfold thenRR
  have h0 := kind_calculus f 7 r (by omega)
  cases hh : kindF f 7 r with
  | false =>
    rw [show (decide (f.kind = 7) && hasF r f) = false from hh] at h0
    ((refine Sg.h ?_); try repeat' ((first | (with_reducible first | refine Sg.mk ?_ | refine brA ?_ | refine brE fun _ => ?_ | (refine spl (And.intro ?_ ?_) <;> intro _)) | (refine clo h0 ?_)) <;> ((try simp (implicitDefEqProofs := false)); (try simp (implicitDefEqProofs := false) (disch := first | assumption | (try simp only [lens]); omega -splitDisjunctions)))))
  | true =>
    rw [show (decide (f.kind = 7) && hasF r f) = true from hh] at h0
    obtain ⟨hkd, hm⟩ := kindF_mem hh
    obtain ⟨a, b, hks⟩ := hA.two (by omega)
    have ka : kid f 0 = a := by simp [kid, hks]
    have kb : kid f 1 = b := by simp [kid, hks]
    rw [ka, kb]
    have c0 := more_bag l [a] (by omega) (by simp)
    have c1 := less_bag r (by omega) f hm
    have e2 := List.length_erase_le (a := f) (l := r)
    have c2 := more_bag (r.erase f) [b] (by omega) (by simp)
    ((refine Sg.h ?_); try repeat' ((first | (with_reducible first | refine Sg.mk ?_ | refine brA ?_ | refine brE fun _ => ?_ | (refine spl (And.intro ?_ ?_) <;> intro _)) | (refine clo h0 ?_) | (refine clo c0 ?_) | (refine clo c1 ?_) | (refine clo c2 ?_)) <;> ((try simp (implicitDefEqProofs := false) [hks, premRow]); (try simp (implicitDefEqProofs := false) (disch := first | assumption | (try simp only [lens]); omega -splitDisjunctions) [hks, premRow]))))
noncomputable def notRR (f : Fm) (l r : List Fm) : List Prem × Bool := if kindF f 4 r = true then ([(l ++ [kid f 0], r.erase f)], true) else ([], false)
def x154 : XC := .seq (.reg [⟨some 3,.box 24 (.tmp 0),none⟩,⟨some 6,.assign (.const (.slice none 0 0)),none⟩,⟨some 7,.assign (.const (.bool false)),none⟩]) (.seq (.seq (.reg [⟨some 8,.load 24 (.tmp 3),none⟩,⟨some 9,.move (.tmp 2),none⟩,⟨some 10,.call ⟨.value (.func 147),#[.tmp 8,.const (.int .i64 4),.tmp 9],#[24,3,129]⟩,none⟩,⟨some 11,.unOp .not 4 (.tmp 10),none⟩]) (.cond (.tmp 11) (.seq (.reg [⟨some 6,.assign (.const (.slice none 0 0)),none⟩,⟨some 7,.assign (.const (.bool false)),none⟩]) (.ret)) (.skip))) (.seq (.drawn 3 [⟨some 12,.move (.tmp 1),none⟩,⟨some 13,.fieldAddr 24 (.tmp 3) 2,none⟩,⟨some 14,.load 22 (.tmp 13),none⟩,⟨some 15,.indexAddr 22 (.tmp 14) (.const (.int .i64 0)),none⟩,⟨some 16,.load 24 (.tmp 15),none⟩,⟨some 17,.buildSlice 22 1 #[(0,.tmp 16)],none⟩,⟨some 18,.call ⟨.value (.func 150),#[.tmp 12,.tmp 17],#[129,22]⟩,none⟩,⟨some 19,.move (.tmp 2),none⟩,⟨some 20,.load 24 (.tmp 3),none⟩,⟨some 21,.call ⟨.value (.func 144),#[.tmp 19,.tmp 20],#[129,24]⟩,none⟩,⟨some 22,.build 139 #[(0,.tmp 18),(1,.tmp 21)],none⟩,⟨some 23,.buildSlice 136 1 #[(0,.tmp 22)],none⟩,⟨some 6,.assign (.tmp 23),none⟩,⟨some 7,.assign (.const (.bool true)),none⟩]) (.ret)))
@[simp] theorem x154_s {C : WC} {e : AE} {s : Store} {K : KS} : type_of% (@X_at C e s K _ _ x154.eq_1) := X_at x154.eq_1
def an154 : Ann := ⟨[(3, .mixz 9)], [], []⟩
def cx154 (P : Program) (m : Nat) : WC := ⟨P, m, an154⟩
@[simp] theorem cx154_a {P : Program} {m : Nat} : (cx154 P m).P = P ∧ (cx154 P m).m = m ∧ (cx154 P m).A.clsOf 3 = .mixz 9 ∧ (cx154 P m).A.frzOf 3 = [] := ⟨rfl, rfl, rfl, rfl⟩
instance {P : Program} {m f : Nat} [h : EnT P f] : EnT (cx154 P m).P f := h
theorem fi154 : FI Try.prog 154 cx154 x154 [.tmp 6, .tmp 7] Try.f154 := fiOf (fun _ _ => rfl) (by decide +kernel) Try.func154 (by kernel_rfl) (by kernel_rfl) mixed

theorem notRR_calculus (f : Fm) (hA : Ar f) (l r : List Fm) (hl : l.length ≤ 50000) (hr : r.length ≤ 50000) : CallOK Try.prog 154 [.agg (frm f), .list (l.map frm), .list (r.map frm)] [] (.tuple [.list ((notRR f l r).1.map premRow), .bool (notRR f l r).2]) [] := by
  refine fi154.os ?_
  unfold notRR
  have h0 := kind_calculus f 4 r (by omega)
  cases hh : kindF f 4 r with
  | false =>
    rw [show (decide (f.kind = 4) && hasF r f) = false from hh] at h0
    ((refine Sg.h ?_); try repeat' ((first | (with_reducible first | refine Sg.mk ?_ | refine brA ?_ | refine brE fun _ => ?_ | (refine spl (And.intro ?_ ?_) <;> intro _)) | (refine clo h0 ?_)) <;> ((try simp (implicitDefEqProofs := false)); (try simp (implicitDefEqProofs := false) (disch := first | assumption | (try simp only [lens]); omega -splitDisjunctions)))))
  | true =>
    rw [show (decide (f.kind = 4) && hasF r f) = true from hh] at h0
    obtain ⟨hkd, hm⟩ := kindF_mem hh
    obtain ⟨a, hks⟩ := hA.one hkd
    have ka : kid f 0 = a := by simp [kid, hks]
    rw [ka]
    have c0 := more_bag l [a] (by omega) (by simp)
    have c1 := less_bag r (by omega) f hm
    ((refine Sg.h ?_); try repeat' ((first | (with_reducible first | refine Sg.mk ?_ | refine brA ?_ | refine brE fun _ => ?_ | (refine spl (And.intro ?_ ?_) <;> intro _)) | (refine clo h0 ?_) | (refine clo c0 ?_) | (refine clo c1 ?_)) <;> ((try simp (implicitDefEqProofs := false) [hks, premRow]); (try simp (implicitDefEqProofs := false) (disch := first | assumption | (try simp only [lens]); omega -splitDisjunctions) [hks, premRow]))))
noncomputable def contrLR (f : Fm) (l r : List Fm) : List Prem × Bool := if hasF l f = true then ([(l ++ [f], r)], true) else ([], false)
def x155 : XC := .seq (.reg [⟨some 3,.box 24 (.tmp 0),none⟩,⟨some 6,.assign (.const (.slice none 0 0)),none⟩,⟨some 7,.assign (.const (.bool false)),none⟩]) (.seq (.seq (.reg [⟨some 8,.move (.tmp 1),none⟩,⟨some 9,.load 24 (.tmp 3),none⟩,⟨some 10,.call ⟨.value (.func 143),#[.tmp 8,.tmp 9],#[129,24]⟩,none⟩,⟨some 11,.unOp .not 4 (.tmp 10),none⟩]) (.cond (.tmp 11) (.seq (.reg [⟨some 6,.assign (.const (.slice none 0 0)),none⟩,⟨some 7,.assign (.const (.bool false)),none⟩]) (.ret)) (.skip))) (.seq (.reg [⟨some 12,.move (.tmp 1),none⟩,⟨some 13,.load 24 (.tmp 3),none⟩,⟨some 14,.buildSlice 22 1 #[(0,.tmp 13)],none⟩,⟨some 15,.call ⟨.value (.func 150),#[.tmp 12,.tmp 14],#[129,22]⟩,none⟩,⟨some 16,.move (.tmp 2),none⟩,⟨some 17,.build 139 #[(0,.tmp 15),(1,.tmp 16)],none⟩,⟨some 18,.buildSlice 136 1 #[(0,.tmp 17)],none⟩,⟨some 6,.assign (.tmp 18),none⟩,⟨some 7,.assign (.const (.bool true)),none⟩]) (.ret)))
@[simp] theorem x155_s {C : WC} {e : AE} {s : Store} {K : KS} : type_of% (@X_at C e s K _ _ x155.eq_1) := X_at x155.eq_1
def an155 : Ann := ⟨[], [], []⟩
def cx155 (P : Program) (m : Nat) : WC := ⟨P, m, an155⟩
@[simp] theorem cx155_a {P : Program} {m : Nat} : (cx155 P m).P = P ∧ (cx155 P m).m = m := ⟨rfl, rfl⟩
instance {P : Program} {m f : Nat} [h : EnT P f] : EnT (cx155 P m).P f := h
theorem fi155 : FI Try.prog 155 cx155 x155 [.tmp 6, .tmp 7] Try.f155 := fiOf (fun _ _ => rfl) (by decide +kernel) Try.func155 (by kernel_rfl) (by kernel_rfl) mixed

theorem contrLR_calculus (f : Fm) (hA : Ar f) (l r : List Fm) (hl : l.length ≤ 50000) (hr : r.length ≤ 50000) : CallOK Try.prog 155 [.agg (frm f), .list (l.map frm), .list (r.map frm)] [] (.tuple [.list ((contrLR f l r).1.map premRow), .bool (contrLR f l r).2]) [] := by
  refine fi155.os ?_
  unfold contrLR
  have h0 := has_bag l (by omega) f
  cases hh : hasF l f with
  | false =>
    rw [hh] at h0
    ((refine Sg.h ?_); try repeat' ((first | (with_reducible first | refine Sg.mk ?_ | refine brA ?_ | refine brE fun _ => ?_ | (refine spl (And.intro ?_ ?_) <;> intro _)) | (refine clo h0 ?_)) <;> ((try simp (implicitDefEqProofs := false)); (try simp (implicitDefEqProofs := false) (disch := first | assumption | (try simp only [lens]); omega -splitDisjunctions)))))
  | true =>
    rw [hh] at h0
    have hm := hasF_iff.1 hh
    have c0 := more_bag l [f] (by omega) (by simp)
    ((refine Sg.h ?_); try repeat' ((first | (with_reducible first | refine Sg.mk ?_ | refine brA ?_ | refine brE fun _ => ?_ | (refine spl (And.intro ?_ ?_) <;> intro _)) | (refine clo h0 ?_)) <;> ((try simp (implicitDefEqProofs := false)); (try simp (implicitDefEqProofs := false) (disch := first | assumption | (try simp only [lens]); omega -splitDisjunctions)))))
    refine CL.giv [1] ?_
    ((refine Sg.h ?_); try repeat' ((first | (with_reducible first | refine Sg.mk ?_ | refine brA ?_ | refine brE fun _ => ?_ | (refine spl (And.intro ?_ ?_) <;> intro _)) | (refine clo c0 ?_)) <;> ((try simp (implicitDefEqProofs := false) [premRow]); (try simp (implicitDefEqProofs := false) (disch := first | assumption | (try simp only [lens]); omega -splitDisjunctions) [premRow]))))
noncomputable def orRR (f : Fm) (l r : List Fm) : List Prem × Bool := if kindF f 6 r = true then ([(l, r.erase f ++ f.kids)], true) else ([], false)
def x156 : XC := .seq (.reg [⟨some 3,.box 24 (.tmp 0),none⟩,⟨some 6,.assign (.const (.slice none 0 0)),none⟩,⟨some 7,.assign (.const (.bool false)),none⟩]) (.seq (.seq (.reg [⟨some 8,.load 24 (.tmp 3),none⟩,⟨some 9,.move (.tmp 2),none⟩,⟨some 10,.call ⟨.value (.func 147),#[.tmp 8,.const (.int .i64 6),.tmp 9],#[24,3,129]⟩,none⟩,⟨some 11,.unOp .not 4 (.tmp 10),none⟩]) (.cond (.tmp 11) (.seq (.reg [⟨some 6,.assign (.const (.slice none 0 0)),none⟩,⟨some 7,.assign (.const (.bool false)),none⟩]) (.ret)) (.skip))) (.seq (.drawn 3 [⟨some 12,.move (.tmp 1),none⟩,⟨some 13,.move (.tmp 2),none⟩,⟨some 14,.load 24 (.tmp 3),none⟩,⟨some 15,.call ⟨.value (.func 144),#[.tmp 13,.tmp 14],#[129,24]⟩,none⟩,⟨some 16,.fieldAddr 24 (.tmp 3) 2,none⟩,⟨some 17,.load 22 (.tmp 16),none⟩,⟨some 18,.call ⟨.value (.func 150),#[.tmp 15,.tmp 17],#[129,22]⟩,none⟩,⟨some 19,.build 139 #[(0,.tmp 12),(1,.tmp 18)],none⟩,⟨some 20,.buildSlice 136 1 #[(0,.tmp 19)],none⟩,⟨some 6,.assign (.tmp 20),none⟩,⟨some 7,.assign (.const (.bool true)),none⟩]) (.ret)))
@[simp] theorem x156_s {C : WC} {e : AE} {s : Store} {K : KS} : type_of% (@X_at C e s K _ _ x156.eq_1) := X_at x156.eq_1
def an156 : Ann := ⟨[(3, .mix 7)], [], []⟩
def cx156 (P : Program) (m : Nat) : WC := ⟨P, m, an156⟩
@[simp] theorem cx156_a {P : Program} {m : Nat} : (cx156 P m).P = P ∧ (cx156 P m).m = m ∧ (cx156 P m).A.clsOf 3 = .mix 7 ∧ (cx156 P m).A.frzOf 3 = [] := ⟨rfl, rfl, rfl, rfl⟩
instance {P : Program} {m f : Nat} [h : EnT P f] : EnT (cx156 P m).P f := h
theorem fi156 : FI Try.prog 156 cx156 x156 [.tmp 6, .tmp 7] Try.f156 := fiOf (fun _ _ => rfl) (by decide +kernel) Try.func156 (by kernel_rfl) (by kernel_rfl) mixed

theorem orRR_calculus (f : Fm) (hA : Ar f) (l r : List Fm) (hl : l.length ≤ 50000) (hr : r.length ≤ 50000) : CallOK Try.prog 156 [.agg (frm f), .list (l.map frm), .list (r.map frm)] [] (.tuple [.list ((orRR f l r).1.map premRow), .bool (orRR f l r).2]) [] := by
  refine fi156.os ?_
  unfold orRR
  have h0 := kind_calculus f 6 r (by omega)
  cases hh : kindF f 6 r with
  | false =>
    rw [show (decide (f.kind = 6) && hasF r f) = false from hh] at h0
    ((refine Sg.h ?_); try repeat' ((first | (with_reducible first | refine Sg.mk ?_ | refine brA ?_ | refine brE fun _ => ?_ | (refine spl (And.intro ?_ ?_) <;> intro _)) | (refine clo h0 ?_)) <;> ((try simp (implicitDefEqProofs := false)); (try simp (implicitDefEqProofs := false) (disch := first | assumption | (try simp only [lens]); omega -splitDisjunctions)))))
  | true =>
    rw [show (decide (f.kind = 6) && hasF r f) = true from hh] at h0
    obtain ⟨hkd, hm⟩ := kindF_mem hh
    obtain ⟨a, b, hks⟩ := hA.two (by omega)
    clear hh
    have c0 := less_bag r (by omega) f hm
    have e1 := List.length_erase_le (a := f) (l := r)
    have c1 := more_bag (r.erase f) f.kids (by omega) (by rw [hks]; simp)
    rw [hks] at c1
    ((refine Sg.h ?_); try repeat' ((first | (with_reducible first | refine Sg.mk ?_ | refine brA ?_ | refine brE fun _ => ?_ | (refine spl (And.intro ?_ ?_) <;> intro _)) | (refine clo h0 ?_) | (refine clo c0 ?_) | (refine clo c1 ?_)) <;> ((try simp (implicitDefEqProofs := false) [hks, premRow]); (try simp (implicitDefEqProofs := false) (disch := first | assumption | (try simp only [lens]); omega -splitDisjunctions) [hks, premRow]))))
noncomputable def thenLR (f : Fm) (l r : List Fm) : List Prem × Bool := if kindF f 7 l = true then ([(l.erase f, r ++ [kid f 0]), (l.erase f ++ [kid f 1], r)], true) else ([], false)
def x157 : XC := .seq (.reg [⟨some 3,.box 24 (.tmp 0),none⟩,⟨some 6,.assign (.const (.slice none 0 0)),none⟩,⟨some 7,.assign (.const (.bool false)),none⟩]) (.seq (.seq (.reg [⟨some 8,.load 24 (.tmp 3),none⟩,⟨some 9,.move (.tmp 1),none⟩,⟨some 10,.call ⟨.value (.func 147),#[.tmp 8,.const (.int .i64 7),.tmp 9],#[24,3,129]⟩,none⟩,⟨some 11,.unOp .not 4 (.tmp 10),none⟩]) (.cond (.tmp 11) (.seq (.reg [⟨some 6,.assign (.const (.slice none 0 0)),none⟩,⟨some 7,.assign (.const (.bool false)),none⟩]) (.ret)) (.skip))) (.seq (.drawn 3 [⟨some 12,.move (.tmp 1),none⟩,⟨some 13,.load 24 (.tmp 3),none⟩,⟨some 14,.call ⟨.value (.func 144),#[.tmp 12,.tmp 13],#[129,24]⟩,none⟩,⟨some 15,.move (.tmp 2),none⟩,⟨some 16,.fieldAddr 24 (.tmp 3) 2,none⟩,⟨some 17,.load 22 (.tmp 16),none⟩,⟨some 18,.indexAddr 22 (.tmp 17) (.const (.int .i64 0)),none⟩,⟨some 19,.load 24 (.tmp 18),none⟩,⟨some 20,.buildSlice 22 1 #[(0,.tmp 19)],none⟩,⟨some 21,.call ⟨.value (.func 150),#[.tmp 15,.tmp 20],#[129,22]⟩,none⟩,⟨some 22,.build 139 #[(0,.tmp 14),(1,.tmp 21)],none⟩,⟨some 23,.move (.tmp 1),none⟩,⟨some 24,.load 24 (.tmp 3),none⟩,⟨some 25,.call ⟨.value (.func 144),#[.tmp 23,.tmp 24],#[129,24]⟩,none⟩,⟨some 26,.fieldAddr 24 (.tmp 3) 2,none⟩,⟨some 27,.load 22 (.tmp 26),none⟩,⟨some 28,.indexAddr 22 (.tmp 27) (.const (.int .i64 1)),none⟩,⟨some 29,.load 24 (.tmp 28),none⟩,⟨some 30,.buildSlice 22 1 #[(0,.tmp 29)],none⟩,⟨some 31,.call ⟨.value (.func 150),#[.tmp 25,.tmp 30],#[129,22]⟩,none⟩,⟨some 32,.move (.tmp 2),none⟩,⟨some 33,.build 139 #[(0,.tmp 31),(1,.tmp 32)],none⟩,⟨some 34,.buildSlice 136 2 #[(0,.tmp 22),(1,.tmp 33)],none⟩,⟨some 6,.assign (.tmp 34),none⟩,⟨some 7,.assign (.const (.bool true)),none⟩]) (.ret)))
@[simp] theorem x157_s {C : WC} {e : AE} {s : Store} {K : KS} : type_of% (@X_at C e s K _ _ x157.eq_1) := X_at x157.eq_1
def an157 : Ann := ⟨[(3, .mixz 22)], [], []⟩
def cx157 (P : Program) (m : Nat) : WC := ⟨P, m, an157⟩
@[simp] theorem cx157_a {P : Program} {m : Nat} : (cx157 P m).P = P ∧ (cx157 P m).m = m ∧ (cx157 P m).A.clsOf 3 = .mixz 22 ∧ (cx157 P m).A.frzOf 3 = [] := ⟨rfl, rfl, rfl, rfl⟩
instance {P : Program} {m f : Nat} [h : EnT P f] : EnT (cx157 P m).P f := h
theorem fi157 : FI Try.prog 157 cx157 x157 [.tmp 6, .tmp 7] Try.f157 := fiOf (fun _ _ => rfl) (by decide +kernel) Try.func157 (by kernel_rfl) (by kernel_rfl) mixed

theorem thenLR_calculus (f : Fm) (hA : Ar f) (l r : List Fm) (hl : l.length ≤ 50000) (hr : r.length ≤ 50000) : CallOK Try.prog 157 [.agg (frm f), .list (l.map frm), .list (r.map frm)] [] (.tuple [.list ((thenLR f l r).1.map premRow), .bool (thenLR f l r).2]) [] := by
  refine fi157.os ?_
  unfold thenLR
  have h0 := kind_calculus f 7 l (by omega)
  cases hh : kindF f 7 l with
  | false =>
    rw [show (decide (f.kind = 7) && hasF l f) = false from hh] at h0
    ((refine Sg.h ?_); try repeat' ((first | (with_reducible first | refine Sg.mk ?_ | refine brA ?_ | refine brE fun _ => ?_ | (refine spl (And.intro ?_ ?_) <;> intro _)) | (refine clo h0 ?_)) <;> ((try simp (implicitDefEqProofs := false)); (try simp (implicitDefEqProofs := false) (disch := first | assumption | (try simp only [lens]); omega -splitDisjunctions)))))
  | true =>
    rw [show (decide (f.kind = 7) && hasF l f) = true from hh] at h0
    obtain ⟨hkd, hm⟩ := kindF_mem hh
    obtain ⟨a, b, hks⟩ := hA.two (by omega)
    have ka : kid f 0 = a := by simp [kid, hks]
    have kb : kid f 1 = b := by simp [kid, hks]
    rw [ka, kb]
    have c0 := less_bag l (by omega) f hm
    have c1 := more_bag r [a] (by omega) (by simp)
    have c2 := less_bag l (by omega) f hm
    have e3 := List.length_erase_le (a := f) (l := l)
    have c3 := more_bag (l.erase f) [b] (by omega) (by simp)
    ((refine Sg.h ?_); try repeat' ((first | (with_reducible first | refine Sg.mk ?_ | refine brA ?_ | refine brE fun _ => ?_ | (refine spl (And.intro ?_ ?_) <;> intro _)) | (refine clo h0 ?_) | (refine clo c0 ?_) | (refine clo c1 ?_) | (refine clo c2 ?_) | (refine clo c3 ?_)) <;> ((try simp (implicitDefEqProofs := false) [hks, premRow]); (try simp (implicitDefEqProofs := false) (disch := first | assumption | (try simp only [lens]); omega -splitDisjunctions) [hks, premRow]))))
noncomputable def notLR (f : Fm) (l r : List Fm) : List Prem × Bool := if kindF f 4 l = true then ([(l.erase f, r ++ [kid f 0])], true) else ([], false)
def x158 : XC := .seq (.reg [⟨some 3,.box 24 (.tmp 0),none⟩,⟨some 6,.assign (.const (.slice none 0 0)),none⟩,⟨some 7,.assign (.const (.bool false)),none⟩]) (.seq (.seq (.reg [⟨some 8,.load 24 (.tmp 3),none⟩,⟨some 9,.move (.tmp 1),none⟩,⟨some 10,.call ⟨.value (.func 147),#[.tmp 8,.const (.int .i64 4),.tmp 9],#[24,3,129]⟩,none⟩,⟨some 11,.unOp .not 4 (.tmp 10),none⟩]) (.cond (.tmp 11) (.seq (.reg [⟨some 6,.assign (.const (.slice none 0 0)),none⟩,⟨some 7,.assign (.const (.bool false)),none⟩]) (.ret)) (.skip))) (.seq (.drawn 3 [⟨some 12,.move (.tmp 1),none⟩,⟨some 13,.load 24 (.tmp 3),none⟩,⟨some 14,.call ⟨.value (.func 144),#[.tmp 12,.tmp 13],#[129,24]⟩,none⟩,⟨some 15,.move (.tmp 2),none⟩,⟨some 16,.fieldAddr 24 (.tmp 3) 2,none⟩,⟨some 17,.load 22 (.tmp 16),none⟩,⟨some 18,.indexAddr 22 (.tmp 17) (.const (.int .i64 0)),none⟩,⟨some 19,.load 24 (.tmp 18),none⟩,⟨some 20,.buildSlice 22 1 #[(0,.tmp 19)],none⟩,⟨some 21,.call ⟨.value (.func 150),#[.tmp 15,.tmp 20],#[129,22]⟩,none⟩,⟨some 22,.build 139 #[(0,.tmp 14),(1,.tmp 21)],none⟩,⟨some 23,.buildSlice 136 1 #[(0,.tmp 22)],none⟩,⟨some 6,.assign (.tmp 23),none⟩,⟨some 7,.assign (.const (.bool true)),none⟩]) (.ret)))
@[simp] theorem x158_s {C : WC} {e : AE} {s : Store} {K : KS} : type_of% (@X_at C e s K _ _ x158.eq_1) := X_at x158.eq_1
def an158 : Ann := ⟨[(3, .mixz 9)], [], []⟩
def cx158 (P : Program) (m : Nat) : WC := ⟨P, m, an158⟩
@[simp] theorem cx158_a {P : Program} {m : Nat} : (cx158 P m).P = P ∧ (cx158 P m).m = m ∧ (cx158 P m).A.clsOf 3 = .mixz 9 ∧ (cx158 P m).A.frzOf 3 = [] := ⟨rfl, rfl, rfl, rfl⟩
instance {P : Program} {m f : Nat} [h : EnT P f] : EnT (cx158 P m).P f := h
theorem fi158 : FI Try.prog 158 cx158 x158 [.tmp 6, .tmp 7] Try.f158 := fiOf (fun _ _ => rfl) (by decide +kernel) Try.func158 (by kernel_rfl) (by kernel_rfl) mixed

theorem notLR_calculus (f : Fm) (hA : Ar f) (l r : List Fm) (hl : l.length ≤ 50000) (hr : r.length ≤ 50000) : CallOK Try.prog 158 [.agg (frm f), .list (l.map frm), .list (r.map frm)] [] (.tuple [.list ((notLR f l r).1.map premRow), .bool (notLR f l r).2]) [] := by
  refine fi158.os ?_
  unfold notLR
  have h0 := kind_calculus f 4 l (by omega)
  cases hh : kindF f 4 l with
  | false =>
    rw [show (decide (f.kind = 4) && hasF l f) = false from hh] at h0
    ((refine Sg.h ?_); try repeat' ((first | (with_reducible first | refine Sg.mk ?_ | refine brA ?_ | refine brE fun _ => ?_ | (refine spl (And.intro ?_ ?_) <;> intro _)) | (refine clo h0 ?_)) <;> ((try simp (implicitDefEqProofs := false)); (try simp (implicitDefEqProofs := false) (disch := first | assumption | (try simp only [lens]); omega -splitDisjunctions)))))
  | true =>
    rw [show (decide (f.kind = 4) && hasF l f) = true from hh] at h0
    obtain ⟨hkd, hm⟩ := kindF_mem hh
    obtain ⟨a, hks⟩ := hA.one hkd
    have ka : kid f 0 = a := by simp [kid, hks]
    rw [ka]
    have c0 := less_bag l (by omega) f hm
    have c1 := more_bag r [a] (by omega) (by simp)
    ((refine Sg.h ?_); try repeat' ((first | (with_reducible first | refine Sg.mk ?_ | refine brA ?_ | refine brE fun _ => ?_ | (refine spl (And.intro ?_ ?_) <;> intro _)) | (refine clo h0 ?_) | (refine clo c0 ?_) | (refine clo c1 ?_)) <;> ((try simp (implicitDefEqProofs := false) [hks, premRow]); (try simp (implicitDefEqProofs := false) (disch := first | assumption | (try simp only [lens]); omega -splitDisjunctions) [hks, premRow]))))
noncomputable def contrRR (f : Fm) (l r : List Fm) : List Prem × Bool := if hasF r f = true then ([(l, r ++ [f])], true) else ([], false)
def x159 : XC := .seq (.reg [⟨some 3,.box 24 (.tmp 0),none⟩,⟨some 6,.assign (.const (.slice none 0 0)),none⟩,⟨some 7,.assign (.const (.bool false)),none⟩]) (.seq (.seq (.reg [⟨some 8,.move (.tmp 2),none⟩,⟨some 9,.load 24 (.tmp 3),none⟩,⟨some 10,.call ⟨.value (.func 143),#[.tmp 8,.tmp 9],#[129,24]⟩,none⟩,⟨some 11,.unOp .not 4 (.tmp 10),none⟩]) (.cond (.tmp 11) (.seq (.reg [⟨some 6,.assign (.const (.slice none 0 0)),none⟩,⟨some 7,.assign (.const (.bool false)),none⟩]) (.ret)) (.skip))) (.seq (.reg [⟨some 12,.move (.tmp 1),none⟩,⟨some 13,.move (.tmp 2),none⟩,⟨some 14,.load 24 (.tmp 3),none⟩,⟨some 15,.buildSlice 22 1 #[(0,.tmp 14)],none⟩,⟨some 16,.call ⟨.value (.func 150),#[.tmp 13,.tmp 15],#[129,22]⟩,none⟩,⟨some 17,.build 139 #[(0,.tmp 12),(1,.tmp 16)],none⟩,⟨some 18,.buildSlice 136 1 #[(0,.tmp 17)],none⟩,⟨some 6,.assign (.tmp 18),none⟩,⟨some 7,.assign (.const (.bool true)),none⟩]) (.ret)))
@[simp] theorem x159_s {C : WC} {e : AE} {s : Store} {K : KS} : type_of% (@X_at C e s K _ _ x159.eq_1) := X_at x159.eq_1
def an159 : Ann := ⟨[], [], []⟩
def cx159 (P : Program) (m : Nat) : WC := ⟨P, m, an159⟩
@[simp] theorem cx159_a {P : Program} {m : Nat} : (cx159 P m).P = P ∧ (cx159 P m).m = m := ⟨rfl, rfl⟩
instance {P : Program} {m f : Nat} [h : EnT P f] : EnT (cx159 P m).P f := h
theorem fi159 : FI Try.prog 159 cx159 x159 [.tmp 6, .tmp 7] Try.f159 := fiOf (fun _ _ => rfl) (by decide +kernel) Try.func159 (by kernel_rfl) (by kernel_rfl) mixed

theorem contrRR_calculus (f : Fm) (hA : Ar f) (l r : List Fm) (hl : l.length ≤ 50000) (hr : r.length ≤ 50000) : CallOK Try.prog 159 [.agg (frm f), .list (l.map frm), .list (r.map frm)] [] (.tuple [.list ((contrRR f l r).1.map premRow), .bool (contrRR f l r).2]) [] := by
  refine fi159.os ?_
  unfold contrRR
  have h0 := has_bag r (by omega) f
  cases hh : hasF r f with
  | false =>
    rw [hh] at h0
    ((refine Sg.h ?_); try repeat' ((first | (with_reducible first | refine Sg.mk ?_ | refine brA ?_ | refine brE fun _ => ?_ | (refine spl (And.intro ?_ ?_) <;> intro _)) | (refine clo h0 ?_)) <;> ((try simp (implicitDefEqProofs := false)); (try simp (implicitDefEqProofs := false) (disch := first | assumption | (try simp only [lens]); omega -splitDisjunctions)))))
  | true =>
    rw [hh] at h0
    have hm := hasF_iff.1 hh
    have c0 := more_bag r [f] (by omega) (by simp)
    ((refine Sg.h ?_); try repeat' ((first | (with_reducible first | refine Sg.mk ?_ | refine brA ?_ | refine brE fun _ => ?_ | (refine spl (And.intro ?_ ?_) <;> intro _)) | (refine clo h0 ?_)) <;> ((try simp (implicitDefEqProofs := false)); (try simp (implicitDefEqProofs := false) (disch := first | assumption | (try simp only [lens]); omega -splitDisjunctions)))))
    refine CL.giv [1] ?_
    ((refine Sg.h ?_); try repeat' ((first | (with_reducible first | refine Sg.mk ?_ | refine brA ?_ | refine brE fun _ => ?_ | (refine spl (And.intro ?_ ?_) <;> intro _)) | (refine clo c0 ?_)) <;> ((try simp (implicitDefEqProofs := false) [premRow]); (try simp (implicitDefEqProofs := false) (disch := first | assumption | (try simp only [lens]); omega -splitDisjunctions) [premRow]))))
noncomputable def cutCR (f : Fm) (l r : List Fm) : List Prem × Bool := ([(l, r ++ [f]), (l ++ [f], r)], true)
def x160 : XC := .seq (.reg [⟨some 3,.box 24 (.tmp 0),none⟩,⟨some 6,.assign (.const (.slice none 0 0)),none⟩,⟨some 7,.assign (.const (.bool false)),none⟩]) (.seq (.drawn 1 [⟨some 8,.move (.tmp 1),none⟩,⟨some 9,.move (.tmp 2),none⟩,⟨some 10,.load 24 (.tmp 3),none⟩,⟨some 11,.buildSlice 22 1 #[(0,.tmp 10)],none⟩,⟨some 12,.call ⟨.value (.func 150),#[.tmp 9,.tmp 11],#[129,22]⟩,none⟩,⟨some 13,.build 139 #[(0,.tmp 8),(1,.tmp 12)],none⟩,⟨some 14,.move (.tmp 1),none⟩,⟨some 15,.load 24 (.tmp 3),none⟩,⟨some 16,.buildSlice 22 1 #[(0,.tmp 15)],none⟩,⟨some 17,.call ⟨.value (.func 150),#[.tmp 14,.tmp 16],#[129,22]⟩,none⟩,⟨some 18,.move (.tmp 2),none⟩,⟨some 19,.build 139 #[(0,.tmp 17),(1,.tmp 18)],none⟩,⟨some 20,.buildSlice 136 2 #[(0,.tmp 13),(1,.tmp 19)],none⟩,⟨some 6,.assign (.tmp 20),none⟩,⟨some 7,.assign (.const (.bool true)),none⟩]) (.ret))
@[simp] theorem x160_s {C : WC} {e : AE} {s : Store} {K : KS} : type_of% (@X_at C e s K _ _ x160.eq_1) := X_at x160.eq_1
def an160 : Ann := ⟨[(1, .mixz 12)], [], []⟩
def cx160 (P : Program) (m : Nat) : WC := ⟨P, m, an160⟩
@[simp] theorem cx160_a {P : Program} {m : Nat} : (cx160 P m).P = P ∧ (cx160 P m).m = m ∧ (cx160 P m).A.clsOf 1 = .mixz 12 ∧ (cx160 P m).A.frzOf 1 = [] := ⟨rfl, rfl, rfl, rfl⟩
instance {P : Program} {m f : Nat} [h : EnT P f] : EnT (cx160 P m).P f := h
theorem fi160 : FI Try.prog 160 cx160 x160 [.tmp 6, .tmp 7] Try.f160 := fiOf (fun _ _ => rfl) (by decide +kernel) Try.func160 (by kernel_rfl) (by kernel_rfl) mixed

theorem cutCR_calculus (f : Fm) (hA : Ar f) (l r : List Fm) (hl : l.length ≤ 50000) (hr : r.length ≤ 50000) : CallOK Try.prog 160 [.agg (frm f), .list (l.map frm), .list (r.map frm)] [] (.tuple [.list ((cutCR f l r).1.map premRow), .bool (cutCR f l r).2]) [] := by
  refine fi160.os ?_
  unfold cutCR
  have c0 := more_bag r [f] (by omega) (by simp)
  have c1 := more_bag l [f] (by omega) (by simp)
  ((refine Sg.h ?_); try repeat' ((first | (with_reducible first | refine Sg.mk ?_ | refine brA ?_ | refine brE fun _ => ?_ | (refine spl (And.intro ?_ ?_) <;> intro _)) | (refine clo c0 ?_) | (refine clo c1 ?_)) <;> ((try simp (implicitDefEqProofs := false) [premRow]); (try simp (implicitDefEqProofs := false) (disch := first | assumption | (try simp only [lens]); omega -splitDisjunctions) [premRow]))))
noncomputable def thenIR (f : Fm) (l r : List Fm) : List Prem × Bool := if kindF f 7 l = true then ([(l.erase f, [kid f 0]), (l.erase f ++ [kid f 1], r)], true) else ([], false)
def x162 : XC := .seq (.reg [⟨some 3,.box 24 (.tmp 0),none⟩,⟨some 6,.assign (.const (.slice none 0 0)),none⟩,⟨some 7,.assign (.const (.bool false)),none⟩]) (.seq (.seq (.reg [⟨some 8,.load 24 (.tmp 3),none⟩,⟨some 9,.move (.tmp 1),none⟩,⟨some 10,.call ⟨.value (.func 147),#[.tmp 8,.const (.int .i64 7),.tmp 9],#[24,3,129]⟩,none⟩,⟨some 11,.unOp .not 4 (.tmp 10),none⟩]) (.cond (.tmp 11) (.seq (.reg [⟨some 6,.assign (.const (.slice none 0 0)),none⟩,⟨some 7,.assign (.const (.bool false)),none⟩]) (.ret)) (.skip))) (.seq (.drawn 3 [⟨some 12,.move (.tmp 1),none⟩,⟨some 13,.load 24 (.tmp 3),none⟩,⟨some 14,.call ⟨.value (.func 144),#[.tmp 12,.tmp 13],#[129,24]⟩,none⟩,⟨some 15,.fieldAddr 24 (.tmp 3) 2,none⟩,⟨some 16,.load 22 (.tmp 15),none⟩,⟨some 17,.indexAddr 22 (.tmp 16) (.const (.int .i64 0)),none⟩,⟨some 18,.load 24 (.tmp 17),none⟩,⟨some 19,.buildSlice 129 1 #[(0,.tmp 18)],none⟩,⟨some 20,.build 139 #[(0,.tmp 14),(1,.tmp 19)],none⟩,⟨some 21,.move (.tmp 1),none⟩,⟨some 22,.load 24 (.tmp 3),none⟩,⟨some 23,.call ⟨.value (.func 144),#[.tmp 21,.tmp 22],#[129,24]⟩,none⟩,⟨some 24,.fieldAddr 24 (.tmp 3) 2,none⟩,⟨some 25,.load 22 (.tmp 24),none⟩,⟨some 26,.indexAddr 22 (.tmp 25) (.const (.int .i64 1)),none⟩,⟨some 27,.load 24 (.tmp 26),none⟩,⟨some 28,.buildSlice 22 1 #[(0,.tmp 27)],none⟩,⟨some 29,.call ⟨.value (.func 150),#[.tmp 23,.tmp 28],#[129,22]⟩,none⟩,⟨some 30,.move (.tmp 2),none⟩,⟨some 31,.build 139 #[(0,.tmp 29),(1,.tmp 30)],none⟩,⟨some 32,.buildSlice 136 2 #[(0,.tmp 20),(1,.tmp 31)],none⟩,⟨some 6,.assign (.tmp 32),none⟩,⟨some 7,.assign (.const (.bool true)),none⟩]) (.ret)))
@[simp] theorem x162_s {C : WC} {e : AE} {s : Store} {K : KS} : type_of% (@X_at C e s K _ _ x162.eq_1) := X_at x162.eq_1
def an162 : Ann := ⟨[(3, .mixz 20)], [], []⟩
def cx162 (P : Program) (m : Nat) : WC := ⟨P, m, an162⟩
@[simp] theorem cx162_a {P : Program} {m : Nat} : (cx162 P m).P = P ∧ (cx162 P m).m = m ∧ (cx162 P m).A.clsOf 3 = .mixz 20 ∧ (cx162 P m).A.frzOf 3 = [] := ⟨rfl, rfl, rfl, rfl⟩
instance {P : Program} {m f : Nat} [h : EnT P f] : EnT (cx162 P m).P f := h
theorem fi162 : FI Try.prog 162 cx162 x162 [.tmp 6, .tmp 7] Try.f162 := fiOf (fun _ _ => rfl) (by decide +kernel) Try.func162 (by kernel_rfl) (by kernel_rfl) mixed

theorem thenIR_calculus (f : Fm) (hA : Ar f) (l r : List Fm) (hl : l.length ≤ 50000) (hr : r.length ≤ 50000) : CallOK Try.prog 162 [.agg (frm f), .list (l.map frm), .list (r.map frm)] [] (.tuple [.list ((thenIR f l r).1.map premRow), .bool (thenIR f l r).2]) [] := by
  refine fi162.os ?_
  unfold thenIR
  have h0 := kind_calculus f 7 l (by omega)
  cases hh : kindF f 7 l with
  | false =>
    rw [show (decide (f.kind = 7) && hasF l f) = false from hh] at h0
    ((refine Sg.h ?_); try repeat' ((first | (with_reducible first | refine Sg.mk ?_ | refine brA ?_ | refine brE fun _ => ?_ | (refine spl (And.intro ?_ ?_) <;> intro _)) | (refine clo h0 ?_)) <;> ((try simp (implicitDefEqProofs := false)); (try simp (implicitDefEqProofs := false) (disch := first | assumption | (try simp only [lens]); omega -splitDisjunctions)))))
  | true =>
    rw [show (decide (f.kind = 7) && hasF l f) = true from hh] at h0
    obtain ⟨hkd, hm⟩ := kindF_mem hh
    obtain ⟨a, b, hks⟩ := hA.two (by omega)
    have ka : kid f 0 = a := by simp [kid, hks]
    have kb : kid f 1 = b := by simp [kid, hks]
    rw [ka, kb]
    have c0 := less_bag l (by omega) f hm
    have c1 := less_bag l (by omega) f hm
    have e2 := List.length_erase_le (a := f) (l := l)
    have c2 := more_bag (l.erase f) [b] (by omega) (by simp)
    ((refine Sg.h ?_); try repeat' ((first | (with_reducible first | refine Sg.mk ?_ | refine brA ?_ | refine brE fun _ => ?_ | (refine spl (And.intro ?_ ?_) <;> intro _)) | (refine clo h0 ?_) | (refine clo c0 ?_) | (refine clo c1 ?_) | (refine clo c2 ?_)) <;> ((try simp (implicitDefEqProofs := false) [hks, premRow]); (try simp (implicitDefEqProofs := false) (disch := first | assumption | (try simp only [lens]); omega -splitDisjunctions) [hks, premRow]))))
noncomputable def notIR (f : Fm) (l r : List Fm) : List Prem × Bool := if kindF f 4 l = true then ([(l.erase f, [kid f 0])], true) else ([], false)
def x163 : XC := .seq (.reg [⟨some 3,.box 24 (.tmp 0),none⟩,⟨some 6,.assign (.const (.slice none 0 0)),none⟩,⟨some 7,.assign (.const (.bool false)),none⟩]) (.seq (.seq (.reg [⟨some 8,.load 24 (.tmp 3),none⟩,⟨some 9,.move (.tmp 1),none⟩,⟨some 10,.call ⟨.value (.func 147),#[.tmp 8,.const (.int .i64 4),.tmp 9],#[24,3,129]⟩,none⟩,⟨some 11,.unOp .not 4 (.tmp 10),none⟩]) (.cond (.tmp 11) (.seq (.reg [⟨some 6,.assign (.const (.slice none 0 0)),none⟩,⟨some 7,.assign (.const (.bool false)),none⟩]) (.ret)) (.skip))) (.seq (.drawn 3 [⟨some 12,.move (.tmp 1),none⟩,⟨some 13,.load 24 (.tmp 3),none⟩,⟨some 14,.call ⟨.value (.func 144),#[.tmp 12,.tmp 13],#[129,24]⟩,none⟩,⟨some 15,.fieldAddr 24 (.tmp 3) 2,none⟩,⟨some 16,.load 22 (.tmp 15),none⟩,⟨some 17,.indexAddr 22 (.tmp 16) (.const (.int .i64 0)),none⟩,⟨some 18,.load 24 (.tmp 17),none⟩,⟨some 19,.buildSlice 129 1 #[(0,.tmp 18)],none⟩,⟨some 20,.build 139 #[(0,.tmp 14),(1,.tmp 19)],none⟩,⟨some 21,.buildSlice 136 1 #[(0,.tmp 20)],none⟩,⟨some 6,.assign (.tmp 21),none⟩,⟨some 7,.assign (.const (.bool true)),none⟩]) (.ret)))
@[simp] theorem x163_s {C : WC} {e : AE} {s : Store} {K : KS} : type_of% (@X_at C e s K _ _ x163.eq_1) := X_at x163.eq_1
def an163 : Ann := ⟨[(3, .mixz 8)], [], []⟩
def cx163 (P : Program) (m : Nat) : WC := ⟨P, m, an163⟩
@[simp] theorem cx163_a {P : Program} {m : Nat} : (cx163 P m).P = P ∧ (cx163 P m).m = m ∧ (cx163 P m).A.clsOf 3 = .mixz 8 ∧ (cx163 P m).A.frzOf 3 = [] := ⟨rfl, rfl, rfl, rfl⟩
instance {P : Program} {m f : Nat} [h : EnT P f] : EnT (cx163 P m).P f := h
theorem fi163 : FI Try.prog 163 cx163 x163 [.tmp 6, .tmp 7] Try.f163 := fiOf (fun _ _ => rfl) (by decide +kernel) Try.func163 (by kernel_rfl) (by kernel_rfl) mixed

theorem notIR_calculus (f : Fm) (hA : Ar f) (l r : List Fm) (hl : l.length ≤ 50000) (hr : r.length ≤ 50000) : CallOK Try.prog 163 [.agg (frm f), .list (l.map frm), .list (r.map frm)] [] (.tuple [.list ((notIR f l r).1.map premRow), .bool (notIR f l r).2]) [] := by
  refine fi163.os ?_
  unfold notIR
  have h0 := kind_calculus f 4 l (by omega)
  cases hh : kindF f 4 l with
  | false =>
    rw [show (decide (f.kind = 4) && hasF l f) = false from hh] at h0
    ((refine Sg.h ?_); try repeat' ((first | (with_reducible first | refine Sg.mk ?_ | refine brA ?_ | refine brE fun _ => ?_ | (refine spl (And.intro ?_ ?_) <;> intro _)) | (refine clo h0 ?_)) <;> ((try simp (implicitDefEqProofs := false)); (try simp (implicitDefEqProofs := false) (disch := first | assumption | (try simp only [lens]); omega -splitDisjunctions)))))
  | true =>
    rw [show (decide (f.kind = 4) && hasF l f) = true from hh] at h0
    obtain ⟨hkd, hm⟩ := kindF_mem hh
    obtain ⟨a, hks⟩ := hA.one hkd
    have ka : kid f 0 = a := by simp [kid, hks]
    rw [ka]
    have c0 := less_bag l (by omega) f hm
    ((refine Sg.h ?_); try repeat' ((first | (with_reducible first | refine Sg.mk ?_ | refine brA ?_ | refine brE fun _ => ?_ | (refine spl (And.intro ?_ ?_) <;> intro _)) | (refine clo h0 ?_) | (refine clo c0 ?_)) <;> ((try simp (implicitDefEqProofs := false) [hks, premRow]); (try simp (implicitDefEqProofs := false) (disch := first | assumption | (try simp only [lens]); omega -splitDisjunctions) [hks, premRow]))))
noncomputable def cutIR (f : Fm) (l r : List Fm) : List Prem × Bool := ([(l, [f]), (l ++ [f], r)], true)
def x164 : XC := .seq (.reg [⟨some 3,.box 24 (.tmp 0),none⟩,⟨some 6,.assign (.const (.slice none 0 0)),none⟩,⟨some 7,.assign (.const (.bool false)),none⟩]) (.seq (.drawn 1 [⟨some 8,.move (.tmp 1),none⟩,⟨some 9,.load 24 (.tmp 3),none⟩,⟨some 10,.buildSlice 129 1 #[(0,.tmp 9)],none⟩,⟨some 11,.build 139 #[(0,.tmp 8),(1,.tmp 10)],none⟩,⟨some 12,.move (.tmp 1),none⟩,⟨some 13,.load 24 (.tmp 3),none⟩,⟨some 14,.buildSlice 22 1 #[(0,.tmp 13)],none⟩,⟨some 15,.call ⟨.value (.func 150),#[.tmp 12,.tmp 14],#[129,22]⟩,none⟩,⟨some 16,.move (.tmp 2),none⟩,⟨some 17,.build 139 #[(0,.tmp 15),(1,.tmp 16)],none⟩,⟨some 18,.buildSlice 136 2 #[(0,.tmp 11),(1,.tmp 17)],none⟩,⟨some 6,.assign (.tmp 18),none⟩,⟨some 7,.assign (.const (.bool true)),none⟩]) (.ret))
@[simp] theorem x164_s {C : WC} {e : AE} {s : Store} {K : KS} : type_of% (@X_at C e s K _ _ x164.eq_1) := X_at x164.eq_1
def an164 : Ann := ⟨[(1, .mixz 10)], [], []⟩
def cx164 (P : Program) (m : Nat) : WC := ⟨P, m, an164⟩
@[simp] theorem cx164_a {P : Program} {m : Nat} : (cx164 P m).P = P ∧ (cx164 P m).m = m ∧ (cx164 P m).A.clsOf 1 = .mixz 10 ∧ (cx164 P m).A.frzOf 1 = [] := ⟨rfl, rfl, rfl, rfl⟩
instance {P : Program} {m f : Nat} [h : EnT P f] : EnT (cx164 P m).P f := h
theorem fi164 : FI Try.prog 164 cx164 x164 [.tmp 6, .tmp 7] Try.f164 := fiOf (fun _ _ => rfl) (by decide +kernel) Try.func164 (by kernel_rfl) (by kernel_rfl) mixed

theorem cutIR_calculus (f : Fm) (hA : Ar f) (l r : List Fm) (hl : l.length ≤ 50000) (hr : r.length ≤ 50000) : CallOK Try.prog 164 [.agg (frm f), .list (l.map frm), .list (r.map frm)] [] (.tuple [.list ((cutIR f l r).1.map premRow), .bool (cutIR f l r).2]) [] := by
  refine fi164.os ?_
  unfold cutIR
  have c0 := more_bag l [f] (by omega) (by simp)
  ((refine Sg.h ?_); try repeat' ((first | (with_reducible first | refine Sg.mk ?_ | refine brA ?_ | refine brE fun _ => ?_ | (refine spl (And.intro ?_ ?_) <;> intro _)) | (refine clo c0 ?_)) <;> ((try simp (implicitDefEqProofs := false) [premRow]); (try simp (implicitDefEqProofs := false) (disch := first | assumption | (try simp only [lens]); omega -splitDisjunctions) [premRow]))))
end Go.Proofs.Ytnoklmapofogeaa
