import Derived.Test.YtkadceiolddmhaaCCcC
set_option linter.unusedVariables false
set_option linter.unusedSimpArgs false
set_option maxRecDepth 100000
set_option maxHeartbeats 4000000
namespace Go.Proofs.Ytkadceiolddmhaa
open Go Go.Pv
abbrev Prem := List Fm × List Fm
def premRow (p : Prem) : List PV := [.list (p.1.map frm), .list (p.2.map frm)]
noncomputable def kindF (f : Fm) (k : Int) (l : List Fm) : Bool := decide (f.kind = k) && hasF l f
def kid (f : Fm) (i : Nat) : Fm := f.kids.getD i f
structure Ar (f : Fm) : Prop where
 one : f.kind = 4 → ∃ a, f.kids = [a]
 two : f.kind = 5 ∨ f.kind = 6 ∨ f.kind = 7 → ∃ a b, f.kids = [a, b]
theorem kindF_mem {f : Fm} {k : Int} {l : List Fm} (h : kindF f k l = true) : f.kind = k ∧ f ∈ l := by
 simpa [kindF, hasF_iff] using h
noncomputable def axR (f : Fm) (l r : List Fm) : List Prem × Bool := ([], hasF l f && hasF r f)
noncomputable def trueR (f : Fm) (l r : List Fm) : List Prem × Bool := ([], kindF f 2 r)
noncomputable def falseR (f : Fm) (l r : List Fm) : List Prem × Bool := ([], kindF f 3 l)
noncomputable def sideR (k : Nat) (f : Fm) (l r : List Fm) : List Prem × Bool := if kindF f 6 r = true then ([(l, [kid f k])], true) else ([], false)
def x201 : XC := .seq (.reg [⟨some 3,.box 59 (.tmp 0),none⟩,⟨some 6,.assign (.const (.slice none 0 0)),none⟩,⟨some 7,.assign (.const (.bool false)),none⟩]) (.seq (.reg [⟨some 8,.move (.tmp 1),none⟩,⟨some 9,.load 59 (.tmp 3),none⟩,⟨some 10,.call ⟨.value (.func 199),#[.tmp 8,.tmp 9],#[226,59]⟩,none⟩,⟨some 11,.move (.tmp 10),none⟩,⟨some 12,.move (.tmp 2),some (some 11,true)⟩,⟨some 13,.load 59 (.tmp 3),some (some 11,true)⟩,⟨some 14,.call ⟨.value (.func 199),#[.tmp 12,.tmp 13],#[226,59]⟩,some (some 11,true)⟩,⟨some 15,.pick (.tmp 11) (.tmp 14) (.const (.bool false)),none⟩,⟨some 6,.assign (.const (.slice none 0 0)),none⟩,⟨some 7,.assign (.tmp 15),none⟩]) .ret)
@[simp] theorem x201_s {C e s K} : type_of% (@X_at C e s K _ _ x201.eq_1) := X_at x201.eq_1
def an201 : Ann := ⟨[], [], []⟩
theorem fi201 : FI Try.prog 201 (cxA an201) x201 [.tmp 6, .tmp 7] Try.f201 := fiA Try.func201 mixed
theorem axR_calculus (f : Fm) (hA : Ar f) (l r : List Fm) (hl : l.length ≤ 50000) (hr : r.length ≤ 50000) : CallOK Try.prog 201 [.agg (frm f), .list (l.map frm), .list (r.map frm)] [] (.tuple [.list ((axR f l r).1.map premRow), .bool (axR f l r).2]) [] := by
 have h1 := has_bag l (by omega) f
 have h2 := has_bag r (by omega) f
 refine fi201.os ?_
 unfold axR
 cases h : hasF l f <;> rw [h] at h1
 ·((refine Sg.h ?_); try repeat' ((first | (with_reducible first | refine brA ?_ | refine brE fun _ => ?_ | (refine spl ⟨?_, ?_⟩ <;> intro _)) | refine clo h1 ?_) <;> ((try simp -implicitDefEqProofs); (try simp -implicitDefEqProofs (disch := first | assumption | (try simp only [lens]); omega -splitDisjunctions)))))
 ·((refine Sg.h ?_); try repeat' ((first | (with_reducible first | refine brA ?_ | refine brE fun _ => ?_ | (refine spl ⟨?_, ?_⟩ <;> intro _)) | refine clo h1 ?_ | refine clo h2 ?_) <;> ((try simp -implicitDefEqProofs); (try simp -implicitDefEqProofs (disch := first | assumption | (try simp only [lens]); omega -splitDisjunctions)))))
def x202 : XC := .seq (.reg [⟨some 3,.box 59 (.tmp 0),none⟩,⟨some 6,.assign (.const (.slice none 0 0)),none⟩,⟨some 7,.assign (.const (.bool false)),none⟩]) (.seq (.reg [⟨some 8,.load 59 (.tmp 3),none⟩,⟨some 9,.move (.tmp 2),none⟩,⟨some 10,.call ⟨.value (.func 203),#[.tmp 8,.const (.int .i64 2),.tmp 9],#[59,3,226]⟩,none⟩,⟨some 6,.assign (.const (.slice none 0 0)),none⟩,⟨some 7,.assign (.tmp 10),none⟩]) .ret)
@[simp] theorem x202_s {C e s K} : type_of% (@X_at C e s K _ _ x202.eq_1) := X_at x202.eq_1
def an202 : Ann := ⟨[], [], []⟩
theorem fi202 : FI Try.prog 202 (cxA an202) x202 [.tmp 6, .tmp 7] Try.f202 := fiA Try.func202 mixed
theorem trueR_calculus (f : Fm) (hA : Ar f) (l r : List Fm) (hl : l.length ≤ 50000) (hr : r.length ≤ 50000) : CallOK Try.prog 202 [.agg (frm f), .list (l.map frm), .list (r.map frm)] [] (.tuple [.list ((trueR f l r).1.map premRow), .bool (trueR f l r).2]) [] := by
 have h1 := kind_calculus f 2 r (by omega)
 refine fi202.os ?_
 unfold trueR
 unfold kindF
 ((refine Sg.h ?_); try repeat' ((first | (with_reducible first | refine brA ?_ | refine brE fun _ => ?_ | (refine spl ⟨?_, ?_⟩ <;> intro _)) | refine clo h1 ?_) <;> ((try simp -implicitDefEqProofs); (try simp -implicitDefEqProofs (disch := first | assumption | (try simp only [lens]); omega -splitDisjunctions)))))
def x204 : XC := .seq (.reg [⟨some 3,.box 59 (.tmp 0),none⟩,⟨some 6,.assign (.const (.slice none 0 0)),none⟩,⟨some 7,.assign (.const (.bool false)),none⟩]) (.seq (.reg [⟨some 8,.load 59 (.tmp 3),none⟩,⟨some 9,.move (.tmp 1),none⟩,⟨some 10,.call ⟨.value (.func 203),#[.tmp 8,.const (.int .i64 3),.tmp 9],#[59,3,226]⟩,none⟩,⟨some 6,.assign (.const (.slice none 0 0)),none⟩,⟨some 7,.assign (.tmp 10),none⟩]) .ret)
@[simp] theorem x204_s {C e s K} : type_of% (@X_at C e s K _ _ x204.eq_1) := X_at x204.eq_1
def an204 : Ann := ⟨[], [], []⟩
theorem fi204 : FI Try.prog 204 (cxA an204) x204 [.tmp 6, .tmp 7] Try.f204 := fiA Try.func204 mixed
theorem falseR_calculus (f : Fm) (hA : Ar f) (l r : List Fm) (hl : l.length ≤ 50000) (hr : r.length ≤ 50000) : CallOK Try.prog 204 [.agg (frm f), .list (l.map frm), .list (r.map frm)] [] (.tuple [.list ((falseR f l r).1.map premRow), .bool (falseR f l r).2]) [] := by
 have h1 := kind_calculus f 3 l (by omega)
 refine fi204.os ?_
 unfold falseR
 unfold kindF
 ((refine Sg.h ?_); try repeat' ((first | (with_reducible first | refine brA ?_ | refine brE fun _ => ?_ | (refine spl ⟨?_, ?_⟩ <;> intro _)) | refine clo h1 ?_) <;> ((try simp -implicitDefEqProofs); (try simp -implicitDefEqProofs (disch := first | assumption | (try simp only [lens]); omega -splitDisjunctions)))))
noncomputable def andLR (f : Fm) (l r : List Fm) : List Prem × Bool := if kindF f 5 l = true then ([(l.erase f ++ f.kids, r)], true) else ([], false)
def x205 : XC := .seq (.reg [⟨some 3,.box 59 (.tmp 0),none⟩,⟨some 6,.assign (.const (.slice none 0 0)),none⟩,⟨some 7,.assign (.const (.bool false)),none⟩]) (.seq (.seq (.reg [⟨some 8,.load 59 (.tmp 3),none⟩,⟨some 9,.move (.tmp 1),none⟩,⟨some 10,.call ⟨.value (.func 203),#[.tmp 8,.const (.int .i64 5),.tmp 9],#[59,3,226]⟩,none⟩,⟨some 11,.unOp .not 4 (.tmp 10),none⟩]) (.cond (.tmp 11) (.seq (.reg [⟨some 6,.assign (.const (.slice none 0 0)),none⟩,⟨some 7,.assign (.const (.bool false)),none⟩]) .ret) .skip)) (.seq (.drawn 3 [⟨some 12,.move (.tmp 1),none⟩,⟨some 13,.load 59 (.tmp 3),none⟩,⟨some 14,.call ⟨.value (.func 200),#[.tmp 12,.tmp 13],#[226,59]⟩,none⟩,⟨some 15,.fieldAddr 59 (.tmp 3) 2,none⟩,⟨some 16,.load 57 (.tmp 15),none⟩,⟨some 17,.call ⟨.value (.func 206),#[.tmp 14,.tmp 16],#[226,57]⟩,none⟩,⟨some 18,.move (.tmp 2),none⟩,⟨some 19,.build 236 #[(0,.tmp 17),(1,.tmp 18)],none⟩,⟨some 20,.buildSlice 233 1 #[(0,.tmp 19)],none⟩,⟨some 6,.assign (.tmp 20),none⟩,⟨some 7,.assign (.const (.bool true)),none⟩]) .ret))
@[simp] theorem x205_s {C e s K} : type_of% (@X_at C e s K _ _ x205.eq_1) := X_at x205.eq_1
def an205 : Ann := ⟨[(3, .mix 7)], [], []⟩
@[simp] theorem an205_a : an205.clsOf 3 = .mix 7 ∧ an205.frzOf 3 = [] := ⟨rfl, rfl⟩
theorem fi205 : FI Try.prog 205 (cxA an205) x205 [.tmp 6, .tmp 7] Try.f205 := fiA Try.func205 mixed
theorem andLR_calculus (f : Fm) (hA : Ar f) (l r : List Fm) (hl : l.length ≤ 50000) (hr : r.length ≤ 50000) : CallOK Try.prog 205 [.agg (frm f), .list (l.map frm), .list (r.map frm)] [] (.tuple [.list ((andLR f l r).1.map premRow), .bool (andLR f l r).2]) [] := by
 refine fi205.os ?_
 unfold andLR
 have h0 := kind_calculus f 5 l (by omega)
 cases hh : kindF f 5 l with
 | false =>
  rw [show (decide (f.kind = 5) && hasF l f) = false from hh] at h0
  ((refine Sg.h ?_); try repeat' ((first | (with_reducible first | refine brA ?_ | refine brE fun _ => ?_ | (refine spl ⟨?_, ?_⟩ <;> intro _)) | refine clo h0 ?_) <;> ((try simp -implicitDefEqProofs); (try simp -implicitDefEqProofs (disch := first | assumption | (try simp only [lens]); omega -splitDisjunctions)))))
 | true =>
  rw [show (decide (f.kind = 5) && hasF l f) = true from hh] at h0
  obtain ⟨hkd, hm⟩ := kindF_mem hh
  obtain ⟨a, b, hks⟩ := hA.two (by omega)
  clear hh
  have c0 := less_bag l (by omega) f hm
  have e1 := List.length_erase_le (a := f) (l := l)
  have c1 := more_bag (l.erase f) f.kids (by omega) (by rw [hks]; simp)
  rw [hks] at c1
  ((refine Sg.h ?_); try repeat' ((first | (with_reducible first | refine brA ?_ | refine brE fun _ => ?_ | (refine spl ⟨?_, ?_⟩ <;> intro _)) | refine clo h0 ?_ | refine clo c0 ?_ | refine clo c1 ?_) <;> ((try simp -implicitDefEqProofs [hks, premRow]); (try simp -implicitDefEqProofs (disch := first | assumption | (try simp only [lens]); omega -splitDisjunctions) [hks, premRow]))))
noncomputable def andRR (f : Fm) (l r : List Fm) : List Prem × Bool := if kindF f 5 r = true then ([(l, r.erase f ++ [kid f 0]), (l, r.erase f ++ [kid f 1])], true) else ([], false)
def x207 : XC := .seq (.reg [⟨some 3,.box 59 (.tmp 0),none⟩,⟨some 6,.assign (.const (.slice none 0 0)),none⟩,⟨some 7,.assign (.const (.bool false)),none⟩]) (.seq (.seq (.reg [⟨some 8,.load 59 (.tmp 3),none⟩,⟨some 9,.move (.tmp 2),none⟩,⟨some 10,.call ⟨.value (.func 203),#[.tmp 8,.const (.int .i64 5),.tmp 9],#[59,3,226]⟩,none⟩,⟨some 11,.unOp .not 4 (.tmp 10),none⟩]) (.cond (.tmp 11) (.seq (.reg [⟨some 6,.assign (.const (.slice none 0 0)),none⟩,⟨some 7,.assign (.const (.bool false)),none⟩]) .ret) .skip)) (.seq (.drawn 3 [⟨some 12,.move (.tmp 1),none⟩,⟨some 13,.move (.tmp 2),none⟩,⟨some 14,.load 59 (.tmp 3),none⟩,⟨some 15,.call ⟨.value (.func 200),#[.tmp 13,.tmp 14],#[226,59]⟩,none⟩,⟨some 16,.fieldAddr 59 (.tmp 3) 2,none⟩,⟨some 17,.load 57 (.tmp 16),none⟩,⟨some 18,.indexAddr 57 (.tmp 17) (.const (.int .i64 0)),none⟩,⟨some 19,.load 59 (.tmp 18),none⟩,⟨some 20,.buildSlice 57 1 #[(0,.tmp 19)],none⟩,⟨some 21,.call ⟨.value (.func 206),#[.tmp 15,.tmp 20],#[226,57]⟩,none⟩,⟨some 22,.build 236 #[(0,.tmp 12),(1,.tmp 21)],none⟩,⟨some 23,.move (.tmp 1),none⟩,⟨some 24,.move (.tmp 2),none⟩,⟨some 25,.load 59 (.tmp 3),none⟩,⟨some 26,.call ⟨.value (.func 200),#[.tmp 24,.tmp 25],#[226,59]⟩,none⟩,⟨some 27,.fieldAddr 59 (.tmp 3) 2,none⟩,⟨some 28,.load 57 (.tmp 27),none⟩,⟨some 29,.indexAddr 57 (.tmp 28) (.const (.int .i64 1)),none⟩,⟨some 30,.load 59 (.tmp 29),none⟩,⟨some 31,.buildSlice 57 1 #[(0,.tmp 30)],none⟩,⟨some 32,.call ⟨.value (.func 206),#[.tmp 26,.tmp 31],#[226,57]⟩,none⟩,⟨some 33,.build 236 #[(0,.tmp 23),(1,.tmp 32)],none⟩,⟨some 34,.buildSlice 233 2 #[(0,.tmp 22),(1,.tmp 33)],none⟩,⟨some 6,.assign (.tmp 34),none⟩,⟨some 7,.assign (.const (.bool true)),none⟩]) .ret))
@[simp] theorem x207_s {C e s K} : type_of% (@X_at C e s K _ _ x207.eq_1) := X_at x207.eq_1
def an207 : Ann := ⟨[(3, .mixz 22)], [], []⟩
@[simp] theorem an207_a : an207.clsOf 3 = .mixz 22 ∧ an207.frzOf 3 = [] := ⟨rfl, rfl⟩
theorem fi207 : FI Try.prog 207 (cxA an207) x207 [.tmp 6, .tmp 7] Try.f207 := fiA Try.func207 mixed
theorem andRR_calculus (f : Fm) (hA : Ar f) (l r : List Fm) (hl : l.length ≤ 50000) (hr : r.length ≤ 50000) : CallOK Try.prog 207 [.agg (frm f), .list (l.map frm), .list (r.map frm)] [] (.tuple [.list ((andRR f l r).1.map premRow), .bool (andRR f l r).2]) [] := by
 refine fi207.os ?_
 unfold andRR
 have h0 := kind_calculus f 5 r (by omega)
 cases hh : kindF f 5 r with
 | false =>
  rw [show (decide (f.kind = 5) && hasF r f) = false from hh] at h0
  ((refine Sg.h ?_); try repeat' ((first | (with_reducible first | refine brA ?_ | refine brE fun _ => ?_ | (refine spl ⟨?_, ?_⟩ <;> intro _)) | refine clo h0 ?_) <;> ((try simp -implicitDefEqProofs); (try simp -implicitDefEqProofs (disch := first | assumption | (try simp only [lens]); omega -splitDisjunctions)))))
 | true =>
  rw [show (decide (f.kind = 5) && hasF r f) = true from hh] at h0
  obtain ⟨hkd, hm⟩ := kindF_mem hh
  obtain ⟨a, b, hks⟩ := hA.two (by omega)
  have ka : kid f 0 = a := by simp [kid, hks]
  have kb : kid f 1 = b := by simp [kid, hks]
  rw [ka, kb]
  have c0 := less_bag r (by omega) f hm
  have e1 := List.length_erase_le (a := f) (l := r)
  have c1 := more_bag (r.erase f) [a] (by omega) (by simp)
  have c2 := less_bag r (by omega) f hm
  have e3 := List.length_erase_le (a := f) (l := r)
  have c3 := more_bag (r.erase f) [b] (by omega) (by simp)
  ((refine Sg.h ?_); try repeat' ((first | (with_reducible first | refine brA ?_ | refine brE fun _ => ?_ | (refine spl ⟨?_, ?_⟩ <;> intro _)) | refine clo h0 ?_ | refine clo c0 ?_ | refine clo c1 ?_ | refine clo c2 ?_ | refine clo c3 ?_) <;> ((try simp -implicitDefEqProofs [hks, premRow]); (try simp -implicitDefEqProofs (disch := first | assumption | (try simp only [lens]); omega -splitDisjunctions) [hks, premRow]))))
noncomputable def orLR (f : Fm) (l r : List Fm) : List Prem × Bool := if kindF f 6 l = true then ([(l.erase f ++ [kid f 0], r), (l.erase f ++ [kid f 1], r)], true) else ([], false)
def x208 : XC := .seq (.reg [⟨some 3,.box 59 (.tmp 0),none⟩,⟨some 6,.assign (.const (.slice none 0 0)),none⟩,⟨some 7,.assign (.const (.bool false)),none⟩]) (.seq (.seq (.reg [⟨some 8,.load 59 (.tmp 3),none⟩,⟨some 9,.move (.tmp 1),none⟩,⟨some 10,.call ⟨.value (.func 203),#[.tmp 8,.const (.int .i64 6),.tmp 9],#[59,3,226]⟩,none⟩,⟨some 11,.unOp .not 4 (.tmp 10),none⟩]) (.cond (.tmp 11) (.seq (.reg [⟨some 6,.assign (.const (.slice none 0 0)),none⟩,⟨some 7,.assign (.const (.bool false)),none⟩]) .ret) .skip)) (.seq (.drawn 3 [⟨some 12,.move (.tmp 1),none⟩,⟨some 13,.load 59 (.tmp 3),none⟩,⟨some 14,.call ⟨.value (.func 200),#[.tmp 12,.tmp 13],#[226,59]⟩,none⟩,⟨some 15,.fieldAddr 59 (.tmp 3) 2,none⟩,⟨some 16,.load 57 (.tmp 15),none⟩,⟨some 17,.indexAddr 57 (.tmp 16) (.const (.int .i64 0)),none⟩,⟨some 18,.load 59 (.tmp 17),none⟩,⟨some 19,.buildSlice 57 1 #[(0,.tmp 18)],none⟩,⟨some 20,.call ⟨.value (.func 206),#[.tmp 14,.tmp 19],#[226,57]⟩,none⟩,⟨some 21,.move (.tmp 2),none⟩,⟨some 22,.build 236 #[(0,.tmp 20),(1,.tmp 21)],none⟩,⟨some 23,.move (.tmp 1),none⟩,⟨some 24,.load 59 (.tmp 3),none⟩,⟨some 25,.call ⟨.value (.func 200),#[.tmp 23,.tmp 24],#[226,59]⟩,none⟩,⟨some 26,.fieldAddr 59 (.tmp 3) 2,none⟩,⟨some 27,.load 57 (.tmp 26),none⟩,⟨some 28,.indexAddr 57 (.tmp 27) (.const (.int .i64 1)),none⟩,⟨some 29,.load 59 (.tmp 28),none⟩,⟨some 30,.buildSlice 57 1 #[(0,.tmp 29)],none⟩,⟨some 31,.call ⟨.value (.func 206),#[.tmp 25,.tmp 30],#[226,57]⟩,none⟩,⟨some 32,.move (.tmp 2),none⟩,⟨some 33,.build 236 #[(0,.tmp 31),(1,.tmp 32)],none⟩,⟨some 34,.buildSlice 233 2 #[(0,.tmp 22),(1,.tmp 33)],none⟩,⟨some 6,.assign (.tmp 34),none⟩,⟨some 7,.assign (.const (.bool true)),none⟩]) .ret))
@[simp] theorem x208_s {C e s K} : type_of% (@X_at C e s K _ _ x208.eq_1) := X_at x208.eq_1
def an208 : Ann := ⟨[(3, .mixz 22)], [], []⟩
@[simp] theorem an208_a : an208.clsOf 3 = .mixz 22 ∧ an208.frzOf 3 = [] := ⟨rfl, rfl⟩
theorem fi208 : FI Try.prog 208 (cxA an208) x208 [.tmp 6, .tmp 7] Try.f208 := fiA Try.func208 mixed
theorem orLR_calculus (f : Fm) (hA : Ar f) (l r : List Fm) (hl : l.length ≤ 50000) (hr : r.length ≤ 50000) : CallOK Try.prog 208 [.agg (frm f), .list (l.map frm), .list (r.map frm)] [] (.tuple [.list ((orLR f l r).1.map premRow), .bool (orLR f l r).2]) [] := by
 refine fi208.os ?_
 unfold orLR
 have h0 := kind_calculus f 6 l (by omega)
 cases hh : kindF f 6 l with
 | false =>
  rw [show (decide (f.kind = 6) && hasF l f) = false from hh] at h0
  ((refine Sg.h ?_); try repeat' ((first | (with_reducible first | refine brA ?_ | refine brE fun _ => ?_ | (refine spl ⟨?_, ?_⟩ <;> intro _)) | refine clo h0 ?_) <;> ((try simp -implicitDefEqProofs); (try simp -implicitDefEqProofs (disch := first | assumption | (try simp only [lens]); omega -splitDisjunctions)))))
 | true =>
  rw [show (decide (f.kind = 6) && hasF l f) = true from hh] at h0
  obtain ⟨hkd, hm⟩ := kindF_mem hh
  obtain ⟨a, b, hks⟩ := hA.two (by omega)
  have ka : kid f 0 = a := by simp [kid, hks]
  have kb : kid f 1 = b := by simp [kid, hks]
  rw [ka, kb]
  have c0 := less_bag l (by omega) f hm
  have e1 := List.length_erase_le (a := f) (l := l)
  have c1 := more_bag (l.erase f) [a] (by omega) (by simp)
  have c2 := less_bag l (by omega) f hm
  have e3 := List.length_erase_le (a := f) (l := l)
  have c3 := more_bag (l.erase f) [b] (by omega) (by simp)
  ((refine Sg.h ?_); try repeat' ((first | (with_reducible first | refine brA ?_ | refine brE fun _ => ?_ | (refine spl ⟨?_, ?_⟩ <;> intro _)) | refine clo h0 ?_ | refine clo c0 ?_ | refine clo c1 ?_ | refine clo c2 ?_ | refine clo c3 ?_) <;> ((try simp -implicitDefEqProofs [hks, premRow]); (try simp -implicitDefEqProofs (disch := first | assumption | (try simp only [lens]); omega -splitDisjunctions) [hks, premRow]))))
noncomputable def thenRR (f : Fm) (l r : List Fm) : List Prem × Bool := if kindF f 7 r = true then ([(l ++ [kid f 0], r.erase f ++ [kid f 1])], true) else ([], false)
def x209 : XC := .seq (.reg [⟨some 3,.box 59 (.tmp 0),none⟩,⟨some 6,.assign (.const (.slice none 0 0)),none⟩,⟨some 7,.assign (.const (.bool false)),none⟩]) (.seq (.seq (.reg [⟨some 8,.load 59 (.tmp 3),none⟩,⟨some 9,.move (.tmp 2),none⟩,⟨some 10,.call ⟨.value (.func 203),#[.tmp 8,.const (.int .i64 7),.tmp 9],#[59,3,226]⟩,none⟩,⟨some 11,.unOp .not 4 (.tmp 10),none⟩]) (.cond (.tmp 11) (.seq (.reg [⟨some 6,.assign (.const (.slice none 0 0)),none⟩,⟨some 7,.assign (.const (.bool false)),none⟩]) .ret) .skip)) (.seq (.drawn 3 [⟨some 12,.move (.tmp 1),none⟩,⟨some 13,.fieldAddr 59 (.tmp 3) 2,none⟩,⟨some 14,.load 57 (.tmp 13),none⟩,⟨some 15,.indexAddr 57 (.tmp 14) (.const (.int .i64 0)),none⟩,⟨some 16,.load 59 (.tmp 15),none⟩,⟨some 17,.buildSlice 57 1 #[(0,.tmp 16)],none⟩,⟨some 18,.call ⟨.value (.func 206),#[.tmp 12,.tmp 17],#[226,57]⟩,none⟩,⟨some 19,.move (.tmp 2),none⟩,⟨some 20,.load 59 (.tmp 3),none⟩,⟨some 21,.call ⟨.value (.func 200),#[.tmp 19,.tmp 20],#[226,59]⟩,none⟩,⟨some 22,.fieldAddr 59 (.tmp 3) 2,none⟩,⟨some 23,.load 57 (.tmp 22),none⟩,⟨some 24,.indexAddr 57 (.tmp 23) (.const (.int .i64 1)),none⟩,⟨some 25,.load 59 (.tmp 24),none⟩,⟨some 26,.buildSlice 57 1 #[(0,.tmp 25)],none⟩,⟨some 27,.call ⟨.value (.func 206),#[.tmp 21,.tmp 26],#[226,57]⟩,none⟩,⟨some 28,.build 236 #[(0,.tmp 18),(1,.tmp 27)],none⟩,⟨some 29,.buildSlice 233 1 #[(0,.tmp 28)],none⟩,⟨some 6,.assign (.tmp 29),none⟩,⟨some 7,.assign (.const (.bool true)),none⟩]) .ret))
@[simp] theorem x209_s {C e s K} : type_of% (@X_at C e s K _ _ x209.eq_1) := X_at x209.eq_1
def an209 : Ann := ⟨[(3, .mixz 15)], [], []⟩
@[simp] theorem an209_a : an209.clsOf 3 = .mixz 15 ∧ an209.frzOf 3 = [] := ⟨rfl, rfl⟩
theorem fi209 : FI Try.prog 209 (cxA an209) x209 [.tmp 6, .tmp 7] Try.f209 := fiA Try.func209 mixed
theorem thenRR_calculus (f : Fm) (hA : Ar f) (l r : List Fm) (hl : l.length ≤ 50000) (hr : r.length ≤ 50000) : CallOK Try.prog 209 [.agg (frm f), .list (l.map frm), .list (r.map frm)] [] (.tuple [.list ((thenRR f l r).1.map premRow), .bool (thenRR f l r).2]) [] := by
 refine fi209.os ?_
 unfold thenRR
 have h0 := kind_calculus f 7 r (by omega)
 cases hh : kindF f 7 r with
 | false =>
  rw [show (decide (f.kind = 7) && hasF r f) = false from hh] at h0
  ((refine Sg.h ?_); try repeat' ((first | (with_reducible first | refine brA ?_ | refine brE fun _ => ?_ | (refine spl ⟨?_, ?_⟩ <;> intro _)) | refine clo h0 ?_) <;> ((try simp -implicitDefEqProofs); (try simp -implicitDefEqProofs (disch := first | assumption | (try simp only [lens]); omega -splitDisjunctions)))))
 | true =>
  rw [show (decide (f.kind = 7) && hasF r f) = true from hh] at h0
  obtain ⟨hkd, hm⟩ := kindF_mem hh
  obtain ⟨a, b, hks⟩ := hA.two (by omega)
  have ka : kid f 0 = a := by simp [kid, hks]
  have kb : kid f 1 = b := by simp [kid, hks]
  rw [ka, kb]
  have c0 := more_bag l [a] (by omega) (by simp)
  have c1 := less_bag r (by omega) f hm
  have e2 := List.length_erase_le (a := f) (l := r)
  have c2 := more_bag (r.erase f) [b] (by omega) (by simp)
  ((refine Sg.h ?_); try repeat' ((first | (with_reducible first | refine brA ?_ | refine brE fun _ => ?_ | (refine spl ⟨?_, ?_⟩ <;> intro _)) | refine clo h0 ?_ | refine clo c0 ?_ | refine clo c1 ?_ | refine clo c2 ?_) <;> ((try simp -implicitDefEqProofs [hks, premRow]); (try simp -implicitDefEqProofs (disch := first | assumption | (try simp only [lens]); omega -splitDisjunctions) [hks, premRow]))))
noncomputable def notRR (f : Fm) (l r : List Fm) : List Prem × Bool := if kindF f 4 r = true then ([(l ++ [kid f 0], r.erase f)], true) else ([], false)
def x210 : XC := .seq (.reg [⟨some 3,.box 59 (.tmp 0),none⟩,⟨some 6,.assign (.const (.slice none 0 0)),none⟩,⟨some 7,.assign (.const (.bool false)),none⟩]) (.seq (.seq (.reg [⟨some 8,.load 59 (.tmp 3),none⟩,⟨some 9,.move (.tmp 2),none⟩,⟨some 10,.call ⟨.value (.func 203),#[.tmp 8,.const (.int .i64 4),.tmp 9],#[59,3,226]⟩,none⟩,⟨some 11,.unOp .not 4 (.tmp 10),none⟩]) (.cond (.tmp 11) (.seq (.reg [⟨some 6,.assign (.const (.slice none 0 0)),none⟩,⟨some 7,.assign (.const (.bool false)),none⟩]) .ret) .skip)) (.seq (.drawn 3 [⟨some 12,.move (.tmp 1),none⟩,⟨some 13,.fieldAddr 59 (.tmp 3) 2,none⟩,⟨some 14,.load 57 (.tmp 13),none⟩,⟨some 15,.indexAddr 57 (.tmp 14) (.const (.int .i64 0)),none⟩,⟨some 16,.load 59 (.tmp 15),none⟩,⟨some 17,.buildSlice 57 1 #[(0,.tmp 16)],none⟩,⟨some 18,.call ⟨.value (.func 206),#[.tmp 12,.tmp 17],#[226,57]⟩,none⟩,⟨some 19,.move (.tmp 2),none⟩,⟨some 20,.load 59 (.tmp 3),none⟩,⟨some 21,.call ⟨.value (.func 200),#[.tmp 19,.tmp 20],#[226,59]⟩,none⟩,⟨some 22,.build 236 #[(0,.tmp 18),(1,.tmp 21)],none⟩,⟨some 23,.buildSlice 233 1 #[(0,.tmp 22)],none⟩,⟨some 6,.assign (.tmp 23),none⟩,⟨some 7,.assign (.const (.bool true)),none⟩]) .ret))
@[simp] theorem x210_s {C e s K} : type_of% (@X_at C e s K _ _ x210.eq_1) := X_at x210.eq_1
def an210 : Ann := ⟨[(3, .mixz 9)], [], []⟩
@[simp] theorem an210_a : an210.clsOf 3 = .mixz 9 ∧ an210.frzOf 3 = [] := ⟨rfl, rfl⟩
theorem fi210 : FI Try.prog 210 (cxA an210) x210 [.tmp 6, .tmp 7] Try.f210 := fiA Try.func210 mixed
theorem notRR_calculus (f : Fm) (hA : Ar f) (l r : List Fm) (hl : l.length ≤ 50000) (hr : r.length ≤ 50000) : CallOK Try.prog 210 [.agg (frm f), .list (l.map frm), .list (r.map frm)] [] (.tuple [.list ((notRR f l r).1.map premRow), .bool (notRR f l r).2]) [] := by
 refine fi210.os ?_
 unfold notRR
 have h0 := kind_calculus f 4 r (by omega)
 cases hh : kindF f 4 r with
 | false =>
  rw [show (decide (f.kind = 4) && hasF r f) = false from hh] at h0
  ((refine Sg.h ?_); try repeat' ((first | (with_reducible first | refine brA ?_ | refine brE fun _ => ?_ | (refine spl ⟨?_, ?_⟩ <;> intro _)) | refine clo h0 ?_) <;> ((try simp -implicitDefEqProofs); (try simp -implicitDefEqProofs (disch := first | assumption | (try simp only [lens]); omega -splitDisjunctions)))))
 | true =>
  rw [show (decide (f.kind = 4) && hasF r f) = true from hh] at h0
  obtain ⟨hkd, hm⟩ := kindF_mem hh
  obtain ⟨a, hks⟩ := hA.one hkd
  have ka : kid f 0 = a := by simp [kid, hks]
  rw [ka]
  have c0 := more_bag l [a] (by omega) (by simp)
  have c1 := less_bag r (by omega) f hm
  ((refine Sg.h ?_); try repeat' ((first | (with_reducible first | refine brA ?_ | refine brE fun _ => ?_ | (refine spl ⟨?_, ?_⟩ <;> intro _)) | refine clo h0 ?_ | refine clo c0 ?_ | refine clo c1 ?_) <;> ((try simp -implicitDefEqProofs [hks, premRow]); (try simp -implicitDefEqProofs (disch := first | assumption | (try simp only [lens]); omega -splitDisjunctions) [hks, premRow]))))
noncomputable def contrLR (f : Fm) (l r : List Fm) : List Prem × Bool := if hasF l f = true then ([(l ++ [f], r)], true) else ([], false)
def x211 : XC := .seq (.reg [⟨some 3,.box 59 (.tmp 0),none⟩,⟨some 6,.assign (.const (.slice none 0 0)),none⟩,⟨some 7,.assign (.const (.bool false)),none⟩]) (.seq (.seq (.reg [⟨some 8,.move (.tmp 1),none⟩,⟨some 9,.load 59 (.tmp 3),none⟩,⟨some 10,.call ⟨.value (.func 199),#[.tmp 8,.tmp 9],#[226,59]⟩,none⟩,⟨some 11,.unOp .not 4 (.tmp 10),none⟩]) (.cond (.tmp 11) (.seq (.reg [⟨some 6,.assign (.const (.slice none 0 0)),none⟩,⟨some 7,.assign (.const (.bool false)),none⟩]) .ret) .skip)) (.seq (.reg [⟨some 12,.move (.tmp 1),none⟩,⟨some 13,.load 59 (.tmp 3),none⟩,⟨some 14,.buildSlice 57 1 #[(0,.tmp 13)],none⟩,⟨some 15,.call ⟨.value (.func 206),#[.tmp 12,.tmp 14],#[226,57]⟩,none⟩,⟨some 16,.move (.tmp 2),none⟩,⟨some 17,.build 236 #[(0,.tmp 15),(1,.tmp 16)],none⟩,⟨some 18,.buildSlice 233 1 #[(0,.tmp 17)],none⟩,⟨some 6,.assign (.tmp 18),none⟩,⟨some 7,.assign (.const (.bool true)),none⟩]) .ret))
@[simp] theorem x211_s {C e s K} : type_of% (@X_at C e s K _ _ x211.eq_1) := X_at x211.eq_1
def an211 : Ann := ⟨[], [], []⟩
theorem fi211 : FI Try.prog 211 (cxA an211) x211 [.tmp 6, .tmp 7] Try.f211 := fiA Try.func211 mixed
theorem contrLR_calculus (f : Fm) (hA : Ar f) (l r : List Fm) (hl : l.length ≤ 50000) (hr : r.length ≤ 50000) : CallOK Try.prog 211 [.agg (frm f), .list (l.map frm), .list (r.map frm)] [] (.tuple [.list ((contrLR f l r).1.map premRow), .bool (contrLR f l r).2]) [] := by
 refine fi211.os ?_
 unfold contrLR
 have h0 := has_bag l (by omega) f
 cases hh : hasF l f with
 | false =>
  rw [hh] at h0
  ((refine Sg.h ?_); try repeat' ((first | (with_reducible first | refine brA ?_ | refine brE fun _ => ?_ | (refine spl ⟨?_, ?_⟩ <;> intro _)) | refine clo h0 ?_) <;> ((try simp -implicitDefEqProofs); (try simp -implicitDefEqProofs (disch := first | assumption | (try simp only [lens]); omega -splitDisjunctions)))))
 | true =>
  rw [hh] at h0
  have hm := hasF_iff.1 hh
  have c0 := more_bag l [f] (by omega) (by simp)
  ((refine Sg.h ?_); try repeat' ((first | (with_reducible first | refine brA ?_ | refine brE fun _ => ?_ | (refine spl ⟨?_, ?_⟩ <;> intro _)) | refine clo h0 ?_) <;> ((try simp -implicitDefEqProofs); (try simp -implicitDefEqProofs (disch := first | assumption | (try simp only [lens]); omega -splitDisjunctions)))))
  refine CL.giv [1] ?_
  ((refine Sg.h ?_); try repeat' ((first | (with_reducible first | refine brA ?_ | refine brE fun _ => ?_ | (refine spl ⟨?_, ?_⟩ <;> intro _)) | refine clo c0 ?_) <;> ((try simp -implicitDefEqProofs [premRow]); (try simp -implicitDefEqProofs (disch := first | assumption | (try simp only [lens]); omega -splitDisjunctions) [premRow]))))
noncomputable def orRR (f : Fm) (l r : List Fm) : List Prem × Bool := if kindF f 6 r = true then ([(l, r.erase f ++ f.kids)], true) else ([], false)
def x212 : XC := .seq (.reg [⟨some 3,.box 59 (.tmp 0),none⟩,⟨some 6,.assign (.const (.slice none 0 0)),none⟩,⟨some 7,.assign (.const (.bool false)),none⟩]) (.seq (.seq (.reg [⟨some 8,.load 59 (.tmp 3),none⟩,⟨some 9,.move (.tmp 2),none⟩,⟨some 10,.call ⟨.value (.func 203),#[.tmp 8,.const (.int .i64 6),.tmp 9],#[59,3,226]⟩,none⟩,⟨some 11,.unOp .not 4 (.tmp 10),none⟩]) (.cond (.tmp 11) (.seq (.reg [⟨some 6,.assign (.const (.slice none 0 0)),none⟩,⟨some 7,.assign (.const (.bool false)),none⟩]) .ret) .skip)) (.seq (.drawn 3 [⟨some 12,.move (.tmp 1),none⟩,⟨some 13,.move (.tmp 2),none⟩,⟨some 14,.load 59 (.tmp 3),none⟩,⟨some 15,.call ⟨.value (.func 200),#[.tmp 13,.tmp 14],#[226,59]⟩,none⟩,⟨some 16,.fieldAddr 59 (.tmp 3) 2,none⟩,⟨some 17,.load 57 (.tmp 16),none⟩,⟨some 18,.call ⟨.value (.func 206),#[.tmp 15,.tmp 17],#[226,57]⟩,none⟩,⟨some 19,.build 236 #[(0,.tmp 12),(1,.tmp 18)],none⟩,⟨some 20,.buildSlice 233 1 #[(0,.tmp 19)],none⟩,⟨some 6,.assign (.tmp 20),none⟩,⟨some 7,.assign (.const (.bool true)),none⟩]) .ret))
@[simp] theorem x212_s {C e s K} : type_of% (@X_at C e s K _ _ x212.eq_1) := X_at x212.eq_1
def an212 : Ann := ⟨[(3, .mix 7)], [], []⟩
@[simp] theorem an212_a : an212.clsOf 3 = .mix 7 ∧ an212.frzOf 3 = [] := ⟨rfl, rfl⟩
theorem fi212 : FI Try.prog 212 (cxA an212) x212 [.tmp 6, .tmp 7] Try.f212 := fiA Try.func212 mixed
theorem orRR_calculus (f : Fm) (hA : Ar f) (l r : List Fm) (hl : l.length ≤ 50000) (hr : r.length ≤ 50000) : CallOK Try.prog 212 [.agg (frm f), .list (l.map frm), .list (r.map frm)] [] (.tuple [.list ((orRR f l r).1.map premRow), .bool (orRR f l r).2]) [] := by
 refine fi212.os ?_
 unfold orRR
 have h0 := kind_calculus f 6 r (by omega)
 cases hh : kindF f 6 r with
 | false =>
  rw [show (decide (f.kind = 6) && hasF r f) = false from hh] at h0
  ((refine Sg.h ?_); try repeat' ((first | (with_reducible first | refine brA ?_ | refine brE fun _ => ?_ | (refine spl ⟨?_, ?_⟩ <;> intro _)) | refine clo h0 ?_) <;> ((try simp -implicitDefEqProofs); (try simp -implicitDefEqProofs (disch := first | assumption | (try simp only [lens]); omega -splitDisjunctions)))))
 | true =>
  rw [show (decide (f.kind = 6) && hasF r f) = true from hh] at h0
  obtain ⟨hkd, hm⟩ := kindF_mem hh
  obtain ⟨a, b, hks⟩ := hA.two (by omega)
  clear hh
  have c0 := less_bag r (by omega) f hm
  have e1 := List.length_erase_le (a := f) (l := r)
  have c1 := more_bag (r.erase f) f.kids (by omega) (by rw [hks]; simp)
  rw [hks] at c1
  ((refine Sg.h ?_); try repeat' ((first | (with_reducible first | refine brA ?_ | refine brE fun _ => ?_ | (refine spl ⟨?_, ?_⟩ <;> intro _)) | refine clo h0 ?_ | refine clo c0 ?_ | refine clo c1 ?_) <;> ((try simp -implicitDefEqProofs [hks, premRow]); (try simp -implicitDefEqProofs (disch := first | assumption | (try simp only [lens]); omega -splitDisjunctions) [hks, premRow]))))
noncomputable def thenLR (f : Fm) (l r : List Fm) : List Prem × Bool := if kindF f 7 l = true then ([(l.erase f, r ++ [kid f 0]), (l.erase f ++ [kid f 1], r)], true) else ([], false)
def x213 : XC := .seq (.reg [⟨some 3,.box 59 (.tmp 0),none⟩,⟨some 6,.assign (.const (.slice none 0 0)),none⟩,⟨some 7,.assign (.const (.bool false)),none⟩]) (.seq (.seq (.reg [⟨some 8,.load 59 (.tmp 3),none⟩,⟨some 9,.move (.tmp 1),none⟩,⟨some 10,.call ⟨.value (.func 203),#[.tmp 8,.const (.int .i64 7),.tmp 9],#[59,3,226]⟩,none⟩,⟨some 11,.unOp .not 4 (.tmp 10),none⟩]) (.cond (.tmp 11) (.seq (.reg [⟨some 6,.assign (.const (.slice none 0 0)),none⟩,⟨some 7,.assign (.const (.bool false)),none⟩]) .ret) .skip)) (.seq (.drawn 3 [⟨some 12,.move (.tmp 1),none⟩,⟨some 13,.load 59 (.tmp 3),none⟩,⟨some 14,.call ⟨.value (.func 200),#[.tmp 12,.tmp 13],#[226,59]⟩,none⟩,⟨some 15,.move (.tmp 2),none⟩,⟨some 16,.fieldAddr 59 (.tmp 3) 2,none⟩,⟨some 17,.load 57 (.tmp 16),none⟩,⟨some 18,.indexAddr 57 (.tmp 17) (.const (.int .i64 0)),none⟩,⟨some 19,.load 59 (.tmp 18),none⟩,⟨some 20,.buildSlice 57 1 #[(0,.tmp 19)],none⟩,⟨some 21,.call ⟨.value (.func 206),#[.tmp 15,.tmp 20],#[226,57]⟩,none⟩,⟨some 22,.build 236 #[(0,.tmp 14),(1,.tmp 21)],none⟩,⟨some 23,.move (.tmp 1),none⟩,⟨some 24,.load 59 (.tmp 3),none⟩,⟨some 25,.call ⟨.value (.func 200),#[.tmp 23,.tmp 24],#[226,59]⟩,none⟩,⟨some 26,.fieldAddr 59 (.tmp 3) 2,none⟩,⟨some 27,.load 57 (.tmp 26),none⟩,⟨some 28,.indexAddr 57 (.tmp 27) (.const (.int .i64 1)),none⟩,⟨some 29,.load 59 (.tmp 28),none⟩,⟨some 30,.buildSlice 57 1 #[(0,.tmp 29)],none⟩,⟨some 31,.call ⟨.value (.func 206),#[.tmp 25,.tmp 30],#[226,57]⟩,none⟩,⟨some 32,.move (.tmp 2),none⟩,⟨some 33,.build 236 #[(0,.tmp 31),(1,.tmp 32)],none⟩,⟨some 34,.buildSlice 233 2 #[(0,.tmp 22),(1,.tmp 33)],none⟩,⟨some 6,.assign (.tmp 34),none⟩,⟨some 7,.assign (.const (.bool true)),none⟩]) .ret))
@[simp] theorem x213_s {C e s K} : type_of% (@X_at C e s K _ _ x213.eq_1) := X_at x213.eq_1
def an213 : Ann := ⟨[(3, .mixz 22)], [], []⟩
@[simp] theorem an213_a : an213.clsOf 3 = .mixz 22 ∧ an213.frzOf 3 = [] := ⟨rfl, rfl⟩
theorem fi213 : FI Try.prog 213 (cxA an213) x213 [.tmp 6, .tmp 7] Try.f213 := fiA Try.func213 mixed
theorem thenLR_calculus (f : Fm) (hA : Ar f) (l r : List Fm) (hl : l.length ≤ 50000) (hr : r.length ≤ 50000) : CallOK Try.prog 213 [.agg (frm f), .list (l.map frm), .list (r.map frm)] [] (.tuple [.list ((thenLR f l r).1.map premRow), .bool (thenLR f l r).2]) [] := by
 refine fi213.os ?_
 unfold thenLR
 have h0 := kind_calculus f 7 l (by omega)
 cases hh : kindF f 7 l with
 | false =>
  rw [show (decide (f.kind = 7) && hasF l f) = false from hh] at h0
  ((refine Sg.h ?_); try repeat' ((first | (with_reducible first | refine brA ?_ | refine brE fun _ => ?_ | (refine spl ⟨?_, ?_⟩ <;> intro _)) | refine clo h0 ?_) <;> ((try simp -implicitDefEqProofs); (try simp -implicitDefEqProofs (disch := first | assumption | (try simp only [lens]); omega -splitDisjunctions)))))
 | true =>
  rw [show (decide (f.kind = 7) && hasF l f) = true from hh] at h0
  obtain ⟨hkd, hm⟩ := kindF_mem hh
  obtain ⟨a, b, hks⟩ := hA.two (by omega)
  have ka : kid f 0 = a := by simp [kid, hks]
  have kb : kid f 1 = b := by simp [kid, hks]
  rw [ka, kb]
  have c0 := less_bag l (by omega) f hm
  have c1 := more_bag r [a] (by omega) (by simp)
  have c2 := less_bag l (by omega) f hm
  have e3 := List.length_erase_le (a := f) (l := l)
  have c3 := more_bag (l.erase f) [b] (by omega) (by simp)
  ((refine Sg.h ?_); try repeat' ((first | (with_reducible first | refine brA ?_ | refine brE fun _ => ?_ | (refine spl ⟨?_, ?_⟩ <;> intro _)) | refine clo h0 ?_ | refine clo c0 ?_ | refine clo c1 ?_ | refine clo c2 ?_ | refine clo c3 ?_) <;> ((try simp -implicitDefEqProofs [hks, premRow]); (try simp -implicitDefEqProofs (disch := first | assumption | (try simp only [lens]); omega -splitDisjunctions) [hks, premRow]))))
noncomputable def notLR (f : Fm) (l r : List Fm) : List Prem × Bool := if kindF f 4 l = true then ([(l.erase f, r ++ [kid f 0])], true) else ([], false)
def x214 : XC := .seq (.reg [⟨some 3,.box 59 (.tmp 0),none⟩,⟨some 6,.assign (.const (.slice none 0 0)),none⟩,⟨some 7,.assign (.const (.bool false)),none⟩]) (.seq (.seq (.reg [⟨some 8,.load 59 (.tmp 3),none⟩,⟨some 9,.move (.tmp 1),none⟩,⟨some 10,.call ⟨.value (.func 203),#[.tmp 8,.const (.int .i64 4),.tmp 9],#[59,3,226]⟩,none⟩,⟨some 11,.unOp .not 4 (.tmp 10),none⟩]) (.cond (.tmp 11) (.seq (.reg [⟨some 6,.assign (.const (.slice none 0 0)),none⟩,⟨some 7,.assign (.const (.bool false)),none⟩]) .ret) .skip)) (.seq (.drawn 3 [⟨some 12,.move (.tmp 1),none⟩,⟨some 13,.load 59 (.tmp 3),none⟩,⟨some 14,.call ⟨.value (.func 200),#[.tmp 12,.tmp 13],#[226,59]⟩,none⟩,⟨some 15,.move (.tmp 2),none⟩,⟨some 16,.fieldAddr 59 (.tmp 3) 2,none⟩,⟨some 17,.load 57 (.tmp 16),none⟩,⟨some 18,.indexAddr 57 (.tmp 17) (.const (.int .i64 0)),none⟩,⟨some 19,.load 59 (.tmp 18),none⟩,⟨some 20,.buildSlice 57 1 #[(0,.tmp 19)],none⟩,⟨some 21,.call ⟨.value (.func 206),#[.tmp 15,.tmp 20],#[226,57]⟩,none⟩,⟨some 22,.build 236 #[(0,.tmp 14),(1,.tmp 21)],none⟩,⟨some 23,.buildSlice 233 1 #[(0,.tmp 22)],none⟩,⟨some 6,.assign (.tmp 23),none⟩,⟨some 7,.assign (.const (.bool true)),none⟩]) .ret))
@[simp] theorem x214_s {C e s K} : type_of% (@X_at C e s K _ _ x214.eq_1) := X_at x214.eq_1
def an214 : Ann := ⟨[(3, .mixz 9)], [], []⟩
@[simp] theorem an214_a : an214.clsOf 3 = .mixz 9 ∧ an214.frzOf 3 = [] := ⟨rfl, rfl⟩
theorem fi214 : FI Try.prog 214 (cxA an214) x214 [.tmp 6, .tmp 7] Try.f214 := fiA Try.func214 mixed
theorem notLR_calculus (f : Fm) (hA : Ar f) (l r : List Fm) (hl : l.length ≤ 50000) (hr : r.length ≤ 50000) : CallOK Try.prog 214 [.agg (frm f), .list (l.map frm), .list (r.map frm)] [] (.tuple [.list ((notLR f l r).1.map premRow), .bool (notLR f l r).2]) [] := by
 refine fi214.os ?_
 unfold notLR
 have h0 := kind_calculus f 4 l (by omega)
 cases hh : kindF f 4 l with
 | false =>
  rw [show (decide (f.kind = 4) && hasF l f) = false from hh] at h0
  ((refine Sg.h ?_); try repeat' ((first | (with_reducible first | refine brA ?_ | refine brE fun _ => ?_ | (refine spl ⟨?_, ?_⟩ <;> intro _)) | refine clo h0 ?_) <;> ((try simp -implicitDefEqProofs); (try simp -implicitDefEqProofs (disch := first | assumption | (try simp only [lens]); omega -splitDisjunctions)))))
 | true =>
  rw [show (decide (f.kind = 4) && hasF l f) = true from hh] at h0
  obtain ⟨hkd, hm⟩ := kindF_mem hh
  obtain ⟨a, hks⟩ := hA.one hkd
  have ka : kid f 0 = a := by simp [kid, hks]
  rw [ka]
  have c0 := less_bag l (by omega) f hm
  have c1 := more_bag r [a] (by omega) (by simp)
  ((refine Sg.h ?_); try repeat' ((first | (with_reducible first | refine brA ?_ | refine brE fun _ => ?_ | (refine spl ⟨?_, ?_⟩ <;> intro _)) | refine clo h0 ?_ | refine clo c0 ?_ | refine clo c1 ?_) <;> ((try simp -implicitDefEqProofs [hks, premRow]); (try simp -implicitDefEqProofs (disch := first | assumption | (try simp only [lens]); omega -splitDisjunctions) [hks, premRow]))))
noncomputable def contrRR (f : Fm) (l r : List Fm) : List Prem × Bool := if hasF r f = true then ([(l, r ++ [f])], true) else ([], false)
def x215 : XC := .seq (.reg [⟨some 3,.box 59 (.tmp 0),none⟩,⟨some 6,.assign (.const (.slice none 0 0)),none⟩,⟨some 7,.assign (.const (.bool false)),none⟩]) (.seq (.seq (.reg [⟨some 8,.move (.tmp 2),none⟩,⟨some 9,.load 59 (.tmp 3),none⟩,⟨some 10,.call ⟨.value (.func 199),#[.tmp 8,.tmp 9],#[226,59]⟩,none⟩,⟨some 11,.unOp .not 4 (.tmp 10),none⟩]) (.cond (.tmp 11) (.seq (.reg [⟨some 6,.assign (.const (.slice none 0 0)),none⟩,⟨some 7,.assign (.const (.bool false)),none⟩]) .ret) .skip)) (.seq (.reg [⟨some 12,.move (.tmp 1),none⟩,⟨some 13,.move (.tmp 2),none⟩,⟨some 14,.load 59 (.tmp 3),none⟩,⟨some 15,.buildSlice 57 1 #[(0,.tmp 14)],none⟩,⟨some 16,.call ⟨.value (.func 206),#[.tmp 13,.tmp 15],#[226,57]⟩,none⟩,⟨some 17,.build 236 #[(0,.tmp 12),(1,.tmp 16)],none⟩,⟨some 18,.buildSlice 233 1 #[(0,.tmp 17)],none⟩,⟨some 6,.assign (.tmp 18),none⟩,⟨some 7,.assign (.const (.bool true)),none⟩]) .ret))
@[simp] theorem x215_s {C e s K} : type_of% (@X_at C e s K _ _ x215.eq_1) := X_at x215.eq_1
def an215 : Ann := ⟨[], [], []⟩
theorem fi215 : FI Try.prog 215 (cxA an215) x215 [.tmp 6, .tmp 7] Try.f215 := fiA Try.func215 mixed
theorem contrRR_calculus (f : Fm) (hA : Ar f) (l r : List Fm) (hl : l.length ≤ 50000) (hr : r.length ≤ 50000) : CallOK Try.prog 215 [.agg (frm f), .list (l.map frm), .list (r.map frm)] [] (.tuple [.list ((contrRR f l r).1.map premRow), .bool (contrRR f l r).2]) [] := by
 refine fi215.os ?_
 unfold contrRR
 have h0 := has_bag r (by omega) f
 cases hh : hasF r f with
 | false =>
  rw [hh] at h0
  ((refine Sg.h ?_); try repeat' ((first | (with_reducible first | refine brA ?_ | refine brE fun _ => ?_ | (refine spl ⟨?_, ?_⟩ <;> intro _)) | refine clo h0 ?_) <;> ((try simp -implicitDefEqProofs); (try simp -implicitDefEqProofs (disch := first | assumption | (try simp only [lens]); omega -splitDisjunctions)))))
 | true =>
  rw [hh] at h0
  have hm := hasF_iff.1 hh
  have c0 := more_bag r [f] (by omega) (by simp)
  ((refine Sg.h ?_); try repeat' ((first | (with_reducible first | refine brA ?_ | refine brE fun _ => ?_ | (refine spl ⟨?_, ?_⟩ <;> intro _)) | refine clo h0 ?_) <;> ((try simp -implicitDefEqProofs); (try simp -implicitDefEqProofs (disch := first | assumption | (try simp only [lens]); omega -splitDisjunctions)))))
  refine CL.giv [1] ?_
  ((refine Sg.h ?_); try repeat' ((first | (with_reducible first | refine brA ?_ | refine brE fun _ => ?_ | (refine spl ⟨?_, ?_⟩ <;> intro _)) | refine clo c0 ?_) <;> ((try simp -implicitDefEqProofs [premRow]); (try simp -implicitDefEqProofs (disch := first | assumption | (try simp only [lens]); omega -splitDisjunctions) [premRow]))))
noncomputable def cutCR (f : Fm) (l r : List Fm) : List Prem × Bool := ([(l, r ++ [f]), (l ++ [f], r)], true)
def x216 : XC := .seq (.reg [⟨some 3,.box 59 (.tmp 0),none⟩,⟨some 6,.assign (.const (.slice none 0 0)),none⟩,⟨some 7,.assign (.const (.bool false)),none⟩]) (.seq (.drawn 1 [⟨some 8,.move (.tmp 1),none⟩,⟨some 9,.move (.tmp 2),none⟩,⟨some 10,.load 59 (.tmp 3),none⟩,⟨some 11,.buildSlice 57 1 #[(0,.tmp 10)],none⟩,⟨some 12,.call ⟨.value (.func 206),#[.tmp 9,.tmp 11],#[226,57]⟩,none⟩,⟨some 13,.build 236 #[(0,.tmp 8),(1,.tmp 12)],none⟩,⟨some 14,.move (.tmp 1),none⟩,⟨some 15,.load 59 (.tmp 3),none⟩,⟨some 16,.buildSlice 57 1 #[(0,.tmp 15)],none⟩,⟨some 17,.call ⟨.value (.func 206),#[.tmp 14,.tmp 16],#[226,57]⟩,none⟩,⟨some 18,.move (.tmp 2),none⟩,⟨some 19,.build 236 #[(0,.tmp 17),(1,.tmp 18)],none⟩,⟨some 20,.buildSlice 233 2 #[(0,.tmp 13),(1,.tmp 19)],none⟩,⟨some 6,.assign (.tmp 20),none⟩,⟨some 7,.assign (.const (.bool true)),none⟩]) .ret)
@[simp] theorem x216_s {C e s K} : type_of% (@X_at C e s K _ _ x216.eq_1) := X_at x216.eq_1
def an216 : Ann := ⟨[(1, .mixz 12)], [], []⟩
@[simp] theorem an216_a : an216.clsOf 1 = .mixz 12 ∧ an216.frzOf 1 = [] := ⟨rfl, rfl⟩
theorem fi216 : FI Try.prog 216 (cxA an216) x216 [.tmp 6, .tmp 7] Try.f216 := fiA Try.func216 mixed
theorem cutCR_calculus (f : Fm) (hA : Ar f) (l r : List Fm) (hl : l.length ≤ 50000) (hr : r.length ≤ 50000) : CallOK Try.prog 216 [.agg (frm f), .list (l.map frm), .list (r.map frm)] [] (.tuple [.list ((cutCR f l r).1.map premRow), .bool (cutCR f l r).2]) [] := by
 refine fi216.os ?_
 unfold cutCR
 have c0 := more_bag r [f] (by omega) (by simp)
 have c1 := more_bag l [f] (by omega) (by simp)
 ((refine Sg.h ?_); try repeat' ((first | (with_reducible first | refine brA ?_ | refine brE fun _ => ?_ | (refine spl ⟨?_, ?_⟩ <;> intro _)) | refine clo c0 ?_ | refine clo c1 ?_) <;> ((try simp -implicitDefEqProofs [premRow]); (try simp -implicitDefEqProofs (disch := first | assumption | (try simp only [lens]); omega -splitDisjunctions) [premRow]))))
noncomputable def thenIR (f : Fm) (l r : List Fm) : List Prem × Bool := if kindF f 7 l = true then ([(l.erase f, [kid f 0]), (l.erase f ++ [kid f 1], r)], true) else ([], false)
def x218 : XC := .seq (.reg [⟨some 3,.box 59 (.tmp 0),none⟩,⟨some 6,.assign (.const (.slice none 0 0)),none⟩,⟨some 7,.assign (.const (.bool false)),none⟩]) (.seq (.seq (.reg [⟨some 8,.load 59 (.tmp 3),none⟩,⟨some 9,.move (.tmp 1),none⟩,⟨some 10,.call ⟨.value (.func 203),#[.tmp 8,.const (.int .i64 7),.tmp 9],#[59,3,226]⟩,none⟩,⟨some 11,.unOp .not 4 (.tmp 10),none⟩]) (.cond (.tmp 11) (.seq (.reg [⟨some 6,.assign (.const (.slice none 0 0)),none⟩,⟨some 7,.assign (.const (.bool false)),none⟩]) .ret) .skip)) (.seq (.drawn 3 [⟨some 12,.move (.tmp 1),none⟩,⟨some 13,.load 59 (.tmp 3),none⟩,⟨some 14,.call ⟨.value (.func 200),#[.tmp 12,.tmp 13],#[226,59]⟩,none⟩,⟨some 15,.fieldAddr 59 (.tmp 3) 2,none⟩,⟨some 16,.load 57 (.tmp 15),none⟩,⟨some 17,.indexAddr 57 (.tmp 16) (.const (.int .i64 0)),none⟩,⟨some 18,.load 59 (.tmp 17),none⟩,⟨some 19,.buildSlice 226 1 #[(0,.tmp 18)],none⟩,⟨some 20,.build 236 #[(0,.tmp 14),(1,.tmp 19)],none⟩,⟨some 21,.move (.tmp 1),none⟩,⟨some 22,.load 59 (.tmp 3),none⟩,⟨some 23,.call ⟨.value (.func 200),#[.tmp 21,.tmp 22],#[226,59]⟩,none⟩,⟨some 24,.fieldAddr 59 (.tmp 3) 2,none⟩,⟨some 25,.load 57 (.tmp 24),none⟩,⟨some 26,.indexAddr 57 (.tmp 25) (.const (.int .i64 1)),none⟩,⟨some 27,.load 59 (.tmp 26),none⟩,⟨some 28,.buildSlice 57 1 #[(0,.tmp 27)],none⟩,⟨some 29,.call ⟨.value (.func 206),#[.tmp 23,.tmp 28],#[226,57]⟩,none⟩,⟨some 30,.move (.tmp 2),none⟩,⟨some 31,.build 236 #[(0,.tmp 29),(1,.tmp 30)],none⟩,⟨some 32,.buildSlice 233 2 #[(0,.tmp 20),(1,.tmp 31)],none⟩,⟨some 6,.assign (.tmp 32),none⟩,⟨some 7,.assign (.const (.bool true)),none⟩]) .ret))
@[simp] theorem x218_s {C e s K} : type_of% (@X_at C e s K _ _ x218.eq_1) := X_at x218.eq_1
def an218 : Ann := ⟨[(3, .mixz 20)], [], []⟩
@[simp] theorem an218_a : an218.clsOf 3 = .mixz 20 ∧ an218.frzOf 3 = [] := ⟨rfl, rfl⟩
theorem fi218 : FI Try.prog 218 (cxA an218) x218 [.tmp 6, .tmp 7] Try.f218 := fiA Try.func218 mixed
theorem thenIR_calculus (f : Fm) (hA : Ar f) (l r : List Fm) (hl : l.length ≤ 50000) (hr : r.length ≤ 50000) : CallOK Try.prog 218 [.agg (frm f), .list (l.map frm), .list (r.map frm)] [] (.tuple [.list ((thenIR f l r).1.map premRow), .bool (thenIR f l r).2]) [] := by
 refine fi218.os ?_
 unfold thenIR
 have h0 := kind_calculus f 7 l (by omega)
 cases hh : kindF f 7 l with
 | false =>
  rw [show (decide (f.kind = 7) && hasF l f) = false from hh] at h0
  ((refine Sg.h ?_); try repeat' ((first | (with_reducible first | refine brA ?_ | refine brE fun _ => ?_ | (refine spl ⟨?_, ?_⟩ <;> intro _)) | refine clo h0 ?_) <;> ((try simp -implicitDefEqProofs); (try simp -implicitDefEqProofs (disch := first | assumption | (try simp only [lens]); omega -splitDisjunctions)))))
 | true =>
  rw [show (decide (f.kind = 7) && hasF l f) = true from hh] at h0
  obtain ⟨hkd, hm⟩ := kindF_mem hh
  obtain ⟨a, b, hks⟩ := hA.two (by omega)
  have ka : kid f 0 = a := by simp [kid, hks]
  have kb : kid f 1 = b := by simp [kid, hks]
  rw [ka, kb]
  have c0 := less_bag l (by omega) f hm
  have c1 := less_bag l (by omega) f hm
  have e2 := List.length_erase_le (a := f) (l := l)
  have c2 := more_bag (l.erase f) [b] (by omega) (by simp)
  ((refine Sg.h ?_); try repeat' ((first | (with_reducible first | refine brA ?_ | refine brE fun _ => ?_ | (refine spl ⟨?_, ?_⟩ <;> intro _)) | refine clo h0 ?_ | refine clo c0 ?_ | refine clo c1 ?_ | refine clo c2 ?_) <;> ((try simp -implicitDefEqProofs [hks, premRow]); (try simp -implicitDefEqProofs (disch := first | assumption | (try simp only [lens]); omega -splitDisjunctions) [hks, premRow]))))
noncomputable def notIR (f : Fm) (l r : List Fm) : List Prem × Bool := if kindF f 4 l = true then ([(l.erase f, [kid f 0])], true) else ([], false)
def x219 : XC := .seq (.reg [⟨some 3,.box 59 (.tmp 0),none⟩,⟨some 6,.assign (.const (.slice none 0 0)),none⟩,⟨some 7,.assign (.const (.bool false)),none⟩]) (.seq (.seq (.reg [⟨some 8,.load 59 (.tmp 3),none⟩,⟨some 9,.move (.tmp 1),none⟩,⟨some 10,.call ⟨.value (.func 203),#[.tmp 8,.const (.int .i64 4),.tmp 9],#[59,3,226]⟩,none⟩,⟨some 11,.unOp .not 4 (.tmp 10),none⟩]) (.cond (.tmp 11) (.seq (.reg [⟨some 6,.assign (.const (.slice none 0 0)),none⟩,⟨some 7,.assign (.const (.bool false)),none⟩]) .ret) .skip)) (.seq (.drawn 3 [⟨some 12,.move (.tmp 1),none⟩,⟨some 13,.load 59 (.tmp 3),none⟩,⟨some 14,.call ⟨.value (.func 200),#[.tmp 12,.tmp 13],#[226,59]⟩,none⟩,⟨some 15,.fieldAddr 59 (.tmp 3) 2,none⟩,⟨some 16,.load 57 (.tmp 15),none⟩,⟨some 17,.indexAddr 57 (.tmp 16) (.const (.int .i64 0)),none⟩,⟨some 18,.load 59 (.tmp 17),none⟩,⟨some 19,.buildSlice 226 1 #[(0,.tmp 18)],none⟩,⟨some 20,.build 236 #[(0,.tmp 14),(1,.tmp 19)],none⟩,⟨some 21,.buildSlice 233 1 #[(0,.tmp 20)],none⟩,⟨some 6,.assign (.tmp 21),none⟩,⟨some 7,.assign (.const (.bool true)),none⟩]) .ret))
@[simp] theorem x219_s {C e s K} : type_of% (@X_at C e s K _ _ x219.eq_1) := X_at x219.eq_1
def an219 : Ann := ⟨[(3, .mixz 8)], [], []⟩
@[simp] theorem an219_a : an219.clsOf 3 = .mixz 8 ∧ an219.frzOf 3 = [] := ⟨rfl, rfl⟩
theorem fi219 : FI Try.prog 219 (cxA an219) x219 [.tmp 6, .tmp 7] Try.f219 := fiA Try.func219 mixed
theorem notIR_calculus (f : Fm) (hA : Ar f) (l r : List Fm) (hl : l.length ≤ 50000) (hr : r.length ≤ 50000) : CallOK Try.prog 219 [.agg (frm f), .list (l.map frm), .list (r.map frm)] [] (.tuple [.list ((notIR f l r).1.map premRow), .bool (notIR f l r).2]) [] := by
 refine fi219.os ?_
 unfold notIR
 have h0 := kind_calculus f 4 l (by omega)
 cases hh : kindF f 4 l with
 | false =>
  rw [show (decide (f.kind = 4) && hasF l f) = false from hh] at h0
  ((refine Sg.h ?_); try repeat' ((first | (with_reducible first | refine brA ?_ | refine brE fun _ => ?_ | (refine spl ⟨?_, ?_⟩ <;> intro _)) | refine clo h0 ?_) <;> ((try simp -implicitDefEqProofs); (try simp -implicitDefEqProofs (disch := first | assumption | (try simp only [lens]); omega -splitDisjunctions)))))
 | true =>
  rw [show (decide (f.kind = 4) && hasF l f) = true from hh] at h0
  obtain ⟨hkd, hm⟩ := kindF_mem hh
  obtain ⟨a, hks⟩ := hA.one hkd
  have ka : kid f 0 = a := by simp [kid, hks]
  rw [ka]
  have c0 := less_bag l (by omega) f hm
  ((refine Sg.h ?_); try repeat' ((first | (with_reducible first | refine brA ?_ | refine brE fun _ => ?_ | (refine spl ⟨?_, ?_⟩ <;> intro _)) | refine clo h0 ?_ | refine clo c0 ?_) <;> ((try simp -implicitDefEqProofs [hks, premRow]); (try simp -implicitDefEqProofs (disch := first | assumption | (try simp only [lens]); omega -splitDisjunctions) [hks, premRow]))))
noncomputable def cutIR (f : Fm) (l r : List Fm) : List Prem × Bool := ([(l, [f]), (l ++ [f], r)], true)
def x220 : XC := .seq (.reg [⟨some 3,.box 59 (.tmp 0),none⟩,⟨some 6,.assign (.const (.slice none 0 0)),none⟩,⟨some 7,.assign (.const (.bool false)),none⟩]) (.seq (.drawn 1 [⟨some 8,.move (.tmp 1),none⟩,⟨some 9,.load 59 (.tmp 3),none⟩,⟨some 10,.buildSlice 226 1 #[(0,.tmp 9)],none⟩,⟨some 11,.build 236 #[(0,.tmp 8),(1,.tmp 10)],none⟩,⟨some 12,.move (.tmp 1),none⟩,⟨some 13,.load 59 (.tmp 3),none⟩,⟨some 14,.buildSlice 57 1 #[(0,.tmp 13)],none⟩,⟨some 15,.call ⟨.value (.func 206),#[.tmp 12,.tmp 14],#[226,57]⟩,none⟩,⟨some 16,.move (.tmp 2),none⟩,⟨some 17,.build 236 #[(0,.tmp 15),(1,.tmp 16)],none⟩,⟨some 18,.buildSlice 233 2 #[(0,.tmp 11),(1,.tmp 17)],none⟩,⟨some 6,.assign (.tmp 18),none⟩,⟨some 7,.assign (.const (.bool true)),none⟩]) .ret)
@[simp] theorem x220_s {C e s K} : type_of% (@X_at C e s K _ _ x220.eq_1) := X_at x220.eq_1
def an220 : Ann := ⟨[(1, .mixz 10)], [], []⟩
@[simp] theorem an220_a : an220.clsOf 1 = .mixz 10 ∧ an220.frzOf 1 = [] := ⟨rfl, rfl⟩
theorem fi220 : FI Try.prog 220 (cxA an220) x220 [.tmp 6, .tmp 7] Try.f220 := fiA Try.func220 mixed
theorem cutIR_calculus (f : Fm) (hA : Ar f) (l r : List Fm) (hl : l.length ≤ 50000) (hr : r.length ≤ 50000) : CallOK Try.prog 220 [.agg (frm f), .list (l.map frm), .list (r.map frm)] [] (.tuple [.list ((cutIR f l r).1.map premRow), .bool (cutIR f l r).2]) [] := by
 refine fi220.os ?_
 unfold cutIR
 have c0 := more_bag l [f] (by omega) (by simp)
 ((refine Sg.h ?_); try repeat' ((first | (with_reducible first | refine brA ?_ | refine brE fun _ => ?_ | (refine spl ⟨?_, ?_⟩ <;> intro _)) | refine clo c0 ?_) <;> ((try simp -implicitDefEqProofs [premRow]); (try simp -implicitDefEqProofs (disch := first | assumption | (try simp only [lens]); omega -splitDisjunctions) [premRow]))))
end Go.Proofs.Ytkadceiolddmhaa
