import Derived.Test.YtnoklmapofogeaaSPvQg
import Derived.Test.YtnoklmapofogeaaSTPa
import Derived.Test.YtnoklmapofogeaaSCcA
set_option linter.unusedVariables false
set_option linter.unusedSimpArgs false
set_option maxRecDepth 100000
set_option maxHeartbeats 4000000
namespace Go.Proofs.Ytnoklmapofogeaa
open Go Go.Pv
def x139_L0 : XC := .seq (.reg [⟨some 18,.binOp .lss 3 (.tmp 17) (.tmp 16) 3,none⟩]) (.seq (.cond (.tmp 18) .skip (.exit 0)) (.seq (.block 1 (.seq (.reg [⟨some 19,.move (.tmp 17),none⟩,⟨some 20,.indexAddr 22 (.tmp 15) (.tmp 17),none⟩,⟨some 21,.load 24 (.tmp 20),none⟩,⟨some 8,.alloc 24,none⟩,⟨some 7,.assign (.tmp 19),none⟩,⟨none,.store 24 (.tmp 8) (.tmp 21),none⟩]) (.seq (.reg [⟨some 22,.move (.tmp 1),none⟩,⟨some 23,.move (.tmp 7),none⟩,⟨some 24,.indexAddr 22 (.tmp 22) (.tmp 23),none⟩,⟨some 25,.load 24 (.tmp 24),none⟩,⟨some 9,.alloc 24,none⟩,⟨none,.store 24 (.tmp 9) (.tmp 25),none⟩]) (.seq (.reg [⟨some 26,.move (.tmp 2),none⟩,⟨some 27,.load 24 (.tmp 8),none⟩,⟨some 28,.load 24 (.tmp 9),none⟩,⟨some 29,.call ⟨.value (.tmp 26),#[.tmp 27,.tmp 28],#[24,24]⟩,none⟩,⟨some 30,.unOp .not 4 (.tmp 29),none⟩]) (.cond (.tmp 30) (.seq (.reg [⟨some 6,.assign (.const (.bool false)),none⟩]) .ret) .skip))))) (.reg [⟨some 31,.binOp .add 3 (.tmp 17) (.const (.int .i64 1)) 3,none⟩,⟨some 17,.move (.tmp 31),none⟩])))
def x139 : XC := .seq (.reg [⟨some 6,.assign (.const (.bool false)),none⟩]) (.seq (.seq (.reg [⟨some 10,.move (.tmp 0),none⟩,⟨some 11,.call ⟨.builtin .len,#[.tmp 10],#[22]⟩,none⟩,⟨some 12,.move (.tmp 1),none⟩,⟨some 13,.call ⟨.builtin .len,#[.tmp 12],#[22]⟩,none⟩,⟨some 14,.binOp .neq 3 (.tmp 11) (.tmp 13) 3,none⟩]) (.cond (.tmp 14) (.seq (.reg [⟨some 6,.assign (.const (.bool false)),none⟩]) .ret) .skip)) (.seq (.seq (.reg [⟨some 15,.move (.tmp 0),none⟩,⟨some 16,.call ⟨.builtin .len,#[.tmp 15],#[22]⟩,none⟩,⟨some 17,.move (.const (.int .i64 0)),none⟩]) (.bloop 0 x139_L0)) (.seq (.reg [⟨some 6,.assign (.const (.bool true)),none⟩]) .ret)))
@[simp] theorem x139_s {C e s K} : type_of% (@X_at C e s K _ _ x139_L0.eq_1) ∧ type_of% (@X_at C e s K _ _ x139.eq_1) := ⟨X_at x139_L0.eq_1, X_at x139.eq_1⟩
def an139 : Ann := ⟨[], [(0, [], [1, 2, 15, 16, 17], [6])], []⟩
@[simp] theorem an139_a : an139.loopOf 0 = ([], [1, 2, 15, 16, 17], [6]) := rfl
theorem fi139 : FI Try.prog 139 (cxA an139) x139 [.tmp 6] Try.f139 := fiA Try.func139 mixed
theorem EqualFunc_formula (xs bs : List Fm) (fid : Nat) [EnT Try.prog fid] (r : Fm → Fm → Bool) (h : ∀ a ∈ xs, ∀ b ∈ bs, CallOK Try.prog fid [.agg (frm a), .agg (frm b)] [] (.bool (r a b)) []) :
  CallOK Try.prog 139 [.list (xs.map frm), .list (bs.map frm), .fn (.func fid) [] []] [] (.bool (eqL r xs bs)) [] := by
 refine fi139.op ?_
 ((refine Sg.h ?_); try repeat' ((first | (with_reducible first | refine brA ?_ | refine brE fun _ => ?_ | (refine spl ⟨?_, ?_⟩ <;> intro _))) <;> (try simp -implicitDefEqProofs (disch := first | assumption | (try simp only [lens]); omega -splitDisjunctions))))
 ·rw [eqL_len (by omega)]
 ·refine W_of fun Q hQ => ?_
  have main : ∀ n i, i + n = xs.length → eqL r xs bs = eqL r (xs.drop i) (bs.drop i) → Q [(1, .list (bs.map frm)), (2, .fn (.func fid) [] []), (15, .list (xs.map frm)), (16, .int .i64 (xs.length : Int)), (17, .int .i64 (i : Int))] [] := by
   intro n
   induction n with
   | zero =>
    intro i hi he
    apply hQ
    ((refine Sg.h ?_); try repeat' ((first | (with_reducible first | refine brA ?_ | refine brE fun _ => ?_ | (refine spl ⟨?_, ?_⟩ <;> intro _))) <;> (try simp -implicitDefEqProofs (disch := first | assumption | (try simp only [lens]); omega -splitDisjunctions))))
    rw [he, List.drop_of_length_le (by omega), List.drop_of_length_le (by omega)]; rfl
   | succ n ih =>
    intro i hi he
    apply hQ
    rw [eqL_drop (by omega) (by omega)] at he
    ((refine Sg.h ?_); try repeat' ((first | (with_reducible first | refine brA ?_ | refine brE fun _ => ?_ | (refine spl ⟨?_, ?_⟩ <;> intro _)) | refine clo (h _ (List.getElem_mem _) _ (List.getElem_mem _)) ?_) <;> (try simp -implicitDefEqProofs (disch := first | assumption | (try simp only [lens]); omega -splitDisjunctions))))
    ·rw [he]; simp_all
    ·refine at2 (ih (i + 1) (by omega) ?_) ?_ ?_
     ·rw [he]; simp_all
     ·simp
     ·rfl
  refine at2 (main _ 0 (Nat.zero_add _) rfl) ?_ ?_ <;> simp
def x106 : XC := .seq (.reg [⟨some 2,.box 24 (.tmp 0),none⟩,⟨some 3,.box 24 (.tmp 1),none⟩,⟨some 4,.assign (.const (.bool false)),none⟩]) (.seq (.reg [⟨some 5,.fieldAddr 24 (.tmp 2) 0,none⟩,⟨some 6,.load 3 (.tmp 5),none⟩,⟨some 7,.fieldAddr 24 (.tmp 3) 0,none⟩,⟨some 8,.load 3 (.tmp 7),none⟩,⟨some 9,.binOp .eql 3 (.tmp 6) (.tmp 8) 3,none⟩,⟨some 10,.move (.tmp 9),none⟩,⟨some 11,.fieldAddr 24 (.tmp 2) 1,some (some 10,true)⟩,⟨some 12,.load 9 (.tmp 11),some (some 10,true)⟩,⟨some 13,.fieldAddr 24 (.tmp 3) 1,some (some 10,true)⟩,⟨some 14,.load 9 (.tmp 13),some (some 10,true)⟩,⟨some 15,.binOp .eql 9 (.tmp 12) (.tmp 14) 9,some (some 10,true)⟩,⟨some 16,.pick (.tmp 10) (.tmp 15) (.const (.bool false)),none⟩,⟨some 17,.move (.tmp 16),none⟩,⟨some 18,.fieldAddr 24 (.tmp 2) 2,some (some 17,true)⟩,⟨some 19,.load 22 (.tmp 18),some (some 17,true)⟩,⟨some 20,.fieldAddr 24 (.tmp 3) 2,some (some 17,true)⟩,⟨some 21,.load 22 (.tmp 20),some (some 17,true)⟩,⟨some 22,.call ⟨.value (.func 139),#[.tmp 19,.tmp 21,.func 106],#[22,22,64]⟩,some (some 17,true)⟩,⟨some 23,.pick (.tmp 17) (.tmp 22) (.const (.bool false)),none⟩,⟨some 4,.assign (.tmp 23),none⟩]) .ret)
@[simp] theorem x106_s {C e s K} : type_of% (@X_at C e s K _ _ x106.eq_1) := X_at x106.eq_1
def an106 : Ann := ⟨[], [], []⟩
theorem fi106 : FI Try.prog 106 (cxA an106) x106 [.tmp 4] Try.f106 := fiA Try.func106 mixed
theorem Same_formula (f : Fm) : ∀ g : Fm, CallOK Try.prog 106 [.agg (frm f), .agg (frm g)] [] (.bool (sameB f g)) [] := by
 induction f using Fm.ind with
 | h f ih =>
  intro g
  refine fi106.op ?_
  ((refine Sg.h ?_); try repeat' ((first | (with_reducible first | refine brA ?_ | refine brE fun _ => ?_ | (refine spl ⟨?_, ?_⟩ <;> intro _)) | refine clo (EqualFunc_formula f.kids g.kids 106 sameB (fun a ha b _ => ih a ha b)) ?_) <;> (try simp -implicitDefEqProofs (disch := first | assumption | (try simp only [lens]); omega -splitDisjunctions))))
  all_goals (rw [sameB_eq]; simp_all)
def x35_T1 : XC := .seq (.reg [⟨some 28,.load 24 (.tmp 3),none⟩,⟨none,.store 24 (.tmp 2) (.tmp 28),none⟩]) .ret
def x35_L0 : XC := .seq (.seq (.reg [⟨some 10,.move (.tmp 4),none⟩,⟨some 11,.fieldAddr 24 (.tmp 1) 2,none⟩,⟨some 12,.load 22 (.tmp 11),none⟩,⟨some 13,.call ⟨.builtin .len,#[.tmp 12],#[22]⟩,none⟩,⟨some 14,.binOp .lss 3 (.tmp 10) (.tmp 13) 3,none⟩]) (.cond (.tmp 14) .skip (.exit 0))) (.seq (.block 1 (.drawn 5 [⟨some 17,.fieldAddr 24 (.tmp 3) 2,none⟩,⟨some 18,.load 22 (.tmp 17),none⟩,⟨some 19,.fieldAddr 24 (.tmp 1) 2,none⟩,⟨some 20,.load 22 (.tmp 19),none⟩,⟨some 21,.move (.tmp 4),none⟩,⟨some 22,.indexAddr 22 (.tmp 20) (.tmp 21),none⟩,⟨some 23,.load 24 (.tmp 22),none⟩,⟨some 24,.call ⟨.value (.func 35),#[.tmp 23],#[24]⟩,none⟩,⟨some 25,.buildSlice 22 1 #[(0,.tmp 24)],none⟩,⟨some 26,.call ⟨.builtin .append,#[.tmp 18,.tmp 25],#[22,22]⟩,none⟩,⟨some 27,.fieldAddr 24 (.tmp 3) 2,none⟩,⟨none,.store 22 (.tmp 27) (.tmp 26),none⟩])) (.reg [⟨some 15,.move (.tmp 4),none⟩,⟨some 16,.binOp .add 3 (.tmp 15) (.const (.int .i64 1)) 3,none⟩,⟨some 4,.assign (.tmp 16),none⟩]))
def x35 : XC := .seq (.reg [⟨some 1,.box 24 (.tmp 0),none⟩,⟨some 2,.alloc 24,none⟩]) (.seq (.reg [⟨some 5,.fieldAddr 24 (.tmp 1) 0,none⟩,⟨some 6,.load 3 (.tmp 5),none⟩,⟨some 7,.fieldAddr 24 (.tmp 1) 1,none⟩,⟨some 8,.load 9 (.tmp 7),none⟩,⟨some 9,.build 24 #[(0,.tmp 6),(1,.tmp 8)],none⟩,⟨some 3,.alloc 24,none⟩,⟨none,.store 24 (.tmp 3) (.tmp 9),none⟩]) (.seq (.seq (.reg [⟨some 4,.assign (.const (.int .i64 0)),none⟩]) (.bloop 0 x35_L0)) (x35_T1)))
@[simp] theorem x35_s {C e s K} : type_of% (@X_at C e s K _ _ x35_T1.eq_1) ∧ type_of% (@X_at C e s K _ _ x35_L0.eq_1) ∧ type_of% (@X_at C e s K _ _ x35.eq_1) := ⟨X_at x35_T1.eq_1, X_at x35_L0.eq_1, X_at x35.eq_1⟩
def an35 : Ann := ⟨[(5, .mix 9)], [(0, [(3, some 2, 3)], [1, 2, 3, 4], [2, 3])], []⟩
@[simp] theorem an35_a : an35.clsOf 5 = .mix 9 ∧ an35.frzOf 5 = [] ∧ an35.loopOf 0 = ([(3, some 2, 3)], [1, 2, 3, 4], [2, 3]) := ⟨rfl, rfl, rfl⟩
theorem fi35 : FI Try.prog 35 (cxA an35) x35 [.cell 2 24] Try.f35 := fiA Try.func35 mixed
theorem vast_kids {f : Fm} {d : Int} (h : vastB f d = false) : f.kids.length ≤ 25000 ∧ ∀ g ∈ f.kids, vastB g (d + 1) = false := by
 rw [vastB_eq] at h
 simp only [Bool.or_eq_false_iff, decide_eq_false_iff_not] at h
 refine ⟨by omega, ?_⟩
 have h2 := h.2.2
 generalize f.kids = l at h2
 induction l with
 | nil => intro g hg; cases hg
 | cons a r ih =>
  intro g hg
  rw [vastsB, Bool.or_eq_false_iff] at h2
  cases hg with
  | head => exact h2.1
  | tail _ hg => exact ih h2.2 g hg
theorem own_law (f : Fm) : ∀ d, vastB f d = false → CallOK Try.prog 35 [.agg (frm f)] [] (.agg (frm f)) [] := by
 induction f using Fm.ind with
 | h f ih =>
  intro d hv
  obtain ⟨hk, hv⟩ := vast_kids hv
  refine fi35.os ?_
  ((refine Sg.h ?_); try repeat' ((first | (with_reducible first | refine brA ?_ | refine brE fun _ => ?_ | (refine spl ⟨?_, ?_⟩ <;> intro _))) <;> ((try simp -implicitDefEqProofs); (try simp -implicitDefEqProofs (disch := first | assumption | (try simp only [lens]); omega -splitDisjunctions)))))
  refine W_of fun Q hQ => ?_
  have main : ∀ n i, i + n = f.kids.length → Q [(1, .ptr 0 0 0), (2, .ptr 1 0 0), (3, .ptr 2 0 0), (4, .int .i64 (i : Int))]
    [.rows 3 [frm f], .rows 3 [[.int .i64 0, .str ⟨#[]⟩, .nilsl]], .rows 3 [[.int .i64 f.kind, .str f.name, .sl 3 0 i]], .rows 3 ((f.kids.take i).map frm)] := by
   intro n
   induction n with
   | zero =>
    intro i hi
    apply hQ
    ((refine Sg.h ?_); try repeat' ((first | (with_reducible first | refine brA ?_ | refine brE fun _ => ?_ | (refine spl ⟨?_, ?_⟩ <;> intro _))) <;> ((try simp -implicitDefEqProofs); (try simp -implicitDefEqProofs (disch := first | assumption | (try simp only [lens]); omega -splitDisjunctions)))))
    rw [frm_eq]
    simp [List.take_of_length_le, show f.kids.length ≤ i by omega]
   | succ n ihn =>
    intro i hi
    apply hQ
    ((refine Sg.h ?_); try repeat' ((first | (with_reducible first | refine brA ?_ | refine brE fun _ => ?_ | (refine spl ⟨?_, ?_⟩ <;> intro _)) | refine clo (ih _ (List.getElem_mem _) _ (hv _ (List.getElem_mem _))) ?_) <;> ((try simp -implicitDefEqProofs); (try simp -implicitDefEqProofs (disch := first | assumption | (try simp only [lens]); omega -splitDisjunctions)))))
    refine at2 (ihn (i + 1) (by omega)) ?_ ?_
    ·simp
    ·simp only [List.map_take]
     rw [take_snoc (l := f.kids.map frm) (i := i) (by simp; omega)]; simp only [List.getElem_map, List.take_take, Nat.min_self]
  refine at2 (main _ 0 (Nat.zero_add _)) ?_ ?_ <;> simp
end Go.Proofs.Ytnoklmapofogeaa
namespace Go.Proofs.Ytnoklmapofogeaa
open Go Go.Pv
noncomputable instance : BEq Fm := ⟨sameB⟩
instance : LawfulBEq Fm where
 eq_of_beq h := sameB_iff.1 h
 rfl := sameB_iff.2 rfl
def placeP (p : Fm → Bool) (l : List Fm) : Int := match l.findIdx? p with
 | some i => i
 | none => -1
theorem placeP_at {p : Fm → Bool} {l : List Fm} {i : Nat} (h : i < l.length) (hp : p l[i] = true) (hb : ∀ j (hj : j < i), p (l[j]'(by omega)) = false) : placeP p l = i := by
 unfold placeP
 have : l.findIdx? p = some i := by
  rw [List.findIdx?_eq_some_iff_getElem]
  exact ⟨h, hp, fun j hj => by simp [hb j hj]⟩
 rw [this]
theorem placeP_none {p : Fm → Bool} {l : List Fm} (hb : ∀ j (hj : j < l.length), p l[j] = false) : placeP p l = -1 := by
 unfold placeP
 have : l.findIdx? p = none := by
  rw [List.findIdx?_eq_none_iff]
  intro x hx
  obtain ⟨j, hj, rfl⟩ := List.mem_iff_getElem.1 hx
  exact hb j hj
 rw [this]
noncomputable def hasF (l : List Fm) (f : Fm) : Bool := decide (0 ≤ placeP (sameB f) l)
theorem placeP_iff (l : List Fm) (f : Fm) : (f ∈ l ∧ placeP (sameB f) l = (l.idxOf f : Nat) ∧ l.idxOf f < l.length) ∨ (f ∉ l ∧ placeP (sameB f) l = -1) := by
 by_cases h : f ∈ l
 ·refine .inl ⟨h, ?_, List.idxOf_lt_length_of_mem h⟩
  refine placeP_at (List.idxOf_lt_length_of_mem h) ?_ fun j hj => ?_
  ·rw [List.getElem_idxOf]; exact sameB_iff.2 rfl
  ·have hjl : j < l.length := Nat.lt_trans hj (List.idxOf_lt_length_of_mem h)
   have this : (l[j] == f) = false := List.not_of_lt_findIdx hj
   cases hs : sameB f l[j] with
   | false => rfl
   | true => rw [← sameB_iff.1 hs] at this; simp at this
 ·refine .inr ⟨h, placeP_none fun j hj => ?_⟩
  cases hs : sameB f l[j] with
  | false => rfl
  | true => exact absurd (sameB_iff.1 hs ▸ List.getElem_mem hj) h
theorem hasF_iff {l : List Fm} {f : Fm} : hasF l f = true ↔ f ∈ l := by
 rcases placeP_iff l f with ⟨h1, h2, _⟩ | ⟨h1, h2⟩ <;> simp [hasF, h1, h2]
end Go.Proofs.Ytnoklmapofogeaa
namespace Go.Proofs.Ytnoklmapofogeaa
open Go Go.Pv
def x68 : XC := .seq (.reg [⟨some 4,.alloc 33,none⟩]) (.seq (.reg [⟨some 5,.move (.tmp 0),none⟩,⟨some 6,.move (.tmp 1),none⟩,⟨some 7,.build 33 #[(0,.tmp 5),(1,.tmp 6)],none⟩,⟨none,.store 33 (.tmp 4) (.tmp 7),none⟩]) .ret)
@[simp] theorem x68_s {C e s K} : type_of% (@X_at C e s K _ _ x68.eq_1) := X_at x68.eq_1
def an68 : Ann := ⟨[], [], []⟩
theorem fi68 : FI Try.prog 68 (cxA an68) x68 [.cell 4 33] Try.f68 := fiA Try.func68 mixed
theorem fault_calculus (a b : Int) : CallOK Try.prog 68 [.int .i64 a, .int .i64 b] [] (.agg [.int .i64 a, .int .i64 b]) [] := by
 refine fi68.op ?_
 ((refine Sg.h ?_); try repeat' ((first | (with_reducible first | refine brA ?_ | refine brE fun _ => ?_ | (refine spl ⟨?_, ?_⟩ <;> intro _))) <;> ((try simp -implicitDefEqProofs); (try simp -implicitDefEqProofs (disch := first | assumption | (try simp only [lens]); omega -splitDisjunctions)))))
noncomputable def withinF : List Fm → List Fm → Bool
 | [], _ => true
 | f :: b, c => hasF c f && withinF b (c.erase f)
noncomputable def noneF (f : Fm) : Bool := decide (f.kind = 0) && decide (f.name = ⟨#[]⟩) && decide (f.kids.length = 0)
end Go.Proofs.Ytnoklmapofogeaa
namespace Go.Proofs.Ytnoklmapofogeaa
open Go Go.Pv
abbrev Prem := List Fm × List Fm
def premRow (p : Prem) : List PV := [.list (p.1.map frm), .list (p.2.map frm)]
noncomputable def kindF (f : Fm) (k : Int) (l : List Fm) : Bool := decide (f.kind = k) && hasF l f
def kid (f : Fm) (i : Nat) : Fm := f.kids.getD i f
structure Ar (f : Fm) : Prop where
 one : f.kind = 4 → ∃ a, f.kids = [a]
 two : f.kind = 5 ∨ f.kind = 6 ∨ f.kind = 7 → ∃ a b, f.kids = [a, b]
noncomputable def axR (f : Fm) (l r : List Fm) : List Prem × Bool := ([], hasF l f && hasF r f)
noncomputable def trueR (f : Fm) (l r : List Fm) : List Prem × Bool := ([], kindF f 2 r)
noncomputable def falseR (f : Fm) (l r : List Fm) : List Prem × Bool := ([], kindF f 3 l)
noncomputable def sideR (k : Nat) (f : Fm) (l r : List Fm) : List Prem × Bool := if kindF f 6 r = true then ([(l, [kid f k])], true) else ([], false)
noncomputable def andLR (f : Fm) (l r : List Fm) : List Prem × Bool := if kindF f 5 l = true then ([(l.erase f ++ f.kids, r)], true) else ([], false)
noncomputable def andRR (f : Fm) (l r : List Fm) : List Prem × Bool := if kindF f 5 r = true then ([(l, r.erase f ++ [kid f 0]), (l, r.erase f ++ [kid f 1])], true) else ([], false)
noncomputable def orLR (f : Fm) (l r : List Fm) : List Prem × Bool := if kindF f 6 l = true then ([(l.erase f ++ [kid f 0], r), (l.erase f ++ [kid f 1], r)], true) else ([], false)
noncomputable def thenRR (f : Fm) (l r : List Fm) : List Prem × Bool := if kindF f 7 r = true then ([(l ++ [kid f 0], r.erase f ++ [kid f 1])], true) else ([], false)
noncomputable def notRR (f : Fm) (l r : List Fm) : List Prem × Bool := if kindF f 4 r = true then ([(l ++ [kid f 0], r.erase f)], true) else ([], false)
noncomputable def contrLR (f : Fm) (l r : List Fm) : List Prem × Bool := if hasF l f = true then ([(l ++ [f], r)], true) else ([], false)
noncomputable def orRR (f : Fm) (l r : List Fm) : List Prem × Bool := if kindF f 6 r = true then ([(l, r.erase f ++ f.kids)], true) else ([], false)
noncomputable def thenLR (f : Fm) (l r : List Fm) : List Prem × Bool := if kindF f 7 l = true then ([(l.erase f, r ++ [kid f 0]), (l.erase f ++ [kid f 1], r)], true) else ([], false)
noncomputable def notLR (f : Fm) (l r : List Fm) : List Prem × Bool := if kindF f 4 l = true then ([(l.erase f, r ++ [kid f 0])], true) else ([], false)
noncomputable def contrRR (f : Fm) (l r : List Fm) : List Prem × Bool := if hasF r f = true then ([(l, r ++ [f])], true) else ([], false)
noncomputable def cutCR (f : Fm) (l r : List Fm) : List Prem × Bool := ([(l, r ++ [f]), (l ++ [f], r)], true)
noncomputable def thenIR (f : Fm) (l r : List Fm) : List Prem × Bool := if kindF f 7 l = true then ([(l.erase f, [kid f 0]), (l.erase f ++ [kid f 1], r)], true) else ([], false)
noncomputable def notIR (f : Fm) (l r : List Fm) : List Prem × Bool := if kindF f 4 l = true then ([(l.erase f, [kid f 0])], true) else ([], false)
noncomputable def cutIR (f : Fm) (l r : List Fm) : List Prem × Bool := ([(l, [f]), (l ++ [f], r)], true)
end Go.Proofs.Ytnoklmapofogeaa
namespace Go.Proofs.Ytnoklmapofogeaa
open Go Go.Pv
def x100 : XC := .seq (.reg [⟨some 4,.alloc 33,none⟩]) (.seq (.reg [⟨some 5,.move (.tmp 0),none⟩,⟨some 6,.move (.tmp 1),none⟩,⟨some 7,.build 33 #[(0,.tmp 5),(1,.tmp 6)],none⟩,⟨none,.store 33 (.tmp 4) (.tmp 7),none⟩]) .ret)
@[simp] theorem x100_s {C e s K} : type_of% (@X_at C e s K _ _ x100.eq_1) := X_at x100.eq_1
def an100 : Ann := ⟨[], [], []⟩
theorem fi100 : FI Try.prog 100 (cxA an100) x100 [.cell 4 33] Try.f100 := fiA Try.func100 mixed
theorem fault_truth (a b : Int) : CallOK Try.prog 100 [.int .i64 a, .int .i64 b] [] (.agg [.int .i64 a, .int .i64 b]) [] := by
 refine fi100.op ?_
 ((refine Sg.h ?_); try repeat' ((first | (with_reducible first | refine brA ?_ | refine brE fun _ => ?_ | (refine spl ⟨?_, ?_⟩ <;> intro _))) <;> ((try simp -implicitDefEqProofs); (try simp -implicitDefEqProofs (disch := first | assumption | (try simp only [lens]); omega -splitDisjunctions)))))
def kindBad : List Fm → Nat → Option (Int × Int)
 | [], _ => none
 | x :: r, i => if 7 < x.kind then some (4, (i : Int)) else kindBad r (i + 1)
def plainF (f : Fm) : Int × Int := if (formulaCheck f).1 ≠ 0 then formulaCheck f else (kindBad (nodesGo 200 200 [f]) 0).getD (0, 0)
def plainL : List Fm → Int × Int
 | [] => (0, 0)
 | f :: r => if (plainF f).1 ≠ 0 then plainF f else plainL r
theorem kindBad_drop {l : List Fm} {i : Nat} (h : i < l.length) : kindBad (l.drop i) i = if 7 < l[i].kind then some (4, (i : Int)) else kindBad (l.drop (i + 1)) (i + 1) := by
 rw [List.drop_eq_getElem_cons h, kindBad]
def x70_T2 : XC := .seq (.reg [⟨some 35,.build 33 #[],none⟩,⟨none,.store 33 (.tmp 2) (.tmp 35),none⟩]) .ret
def x70_L2 : XC := .seq (.reg [⟨some 24,.binOp .lss 3 (.tmp 23) (.tmp 22) 3,none⟩]) (.seq (.cond (.tmp 24) .skip (.exit 2)) (.seq (.block 3 (.seq (.reg [⟨some 25,.move (.tmp 23),none⟩,⟨some 26,.indexAddr 22 (.tmp 21) (.tmp 23),none⟩,⟨some 27,.load 24 (.tmp 26),none⟩,⟨some 7,.alloc 24,none⟩,⟨some 6,.assign (.tmp 25),none⟩,⟨none,.store 24 (.tmp 7) (.tmp 27),none⟩]) (.seq (.reg [⟨some 28,.fieldAddr 24 (.tmp 7) 0,none⟩,⟨some 29,.load 3 (.tmp 28),none⟩,⟨some 30,.binOp .gtr 3 (.tmp 29) (.const (.int .i64 7)) 3,none⟩]) (.cond (.tmp 30) (.seq (.reg [⟨some 31,.move (.tmp 6),none⟩,⟨some 32,.call ⟨.value (.func 100),#[.const (.int .i64 4),.tmp 31],#[3,3]⟩,none⟩,⟨none,.store 33 (.tmp 2) (.tmp 32),none⟩]) .ret) .skip)))) (.reg [⟨some 33,.binOp .add 3 (.tmp 23) (.const (.int .i64 1)) 3,none⟩,⟨some 23,.move (.tmp 33),none⟩])))
def x70_L0 : XC := .seq (.reg [⟨some 11,.binOp .lss 3 (.tmp 10) (.tmp 9) 3,none⟩]) (.seq (.cond (.tmp 11) .skip (.exit 0)) (.seq (.block 1 (.seq (.reg [⟨some 12,.indexAddr 22 (.tmp 8) (.tmp 10),none⟩,⟨some 13,.load 24 (.tmp 12),none⟩,⟨some 4,.alloc 24,none⟩,⟨none,.store 24 (.tmp 4) (.tmp 13),none⟩]) (.seq (.seq (.reg [⟨some 14,.load 24 (.tmp 4),none⟩,⟨some 15,.call ⟨.value (.func 98),#[.tmp 14],#[24]⟩,none⟩,⟨some 5,.alloc 33,none⟩,⟨none,.store 33 (.tmp 5) (.tmp 15),none⟩]) (.seq (.reg [⟨some 16,.fieldAddr 33 (.tmp 5) 0,none⟩,⟨some 17,.load 3 (.tmp 16),none⟩,⟨some 18,.binOp .neq 3 (.tmp 17) (.const (.int .i64 0)) 3,none⟩]) (.cond (.tmp 18) (.seq (.reg [⟨some 19,.load 33 (.tmp 5),none⟩,⟨none,.store 33 (.tmp 2) (.tmp 19),none⟩]) .ret) .skip))) (.seq (.reg [⟨some 20,.load 24 (.tmp 4),none⟩,⟨some 21,.call ⟨.value (.func 99),#[.tmp 20,.const (.int .i64 200)],#[24,3]⟩,none⟩,⟨some 22,.call ⟨.builtin .len,#[.tmp 21],#[22]⟩,none⟩,⟨some 23,.move (.const (.int .i64 0)),none⟩]) (.bloop 2 x70_L2))))) (.reg [⟨some 34,.binOp .add 3 (.tmp 10) (.const (.int .i64 1)) 3,none⟩,⟨some 10,.move (.tmp 34),none⟩])))
def x70 : XC := .seq (.reg [⟨some 2,.alloc 33,none⟩]) (.seq (.seq (.reg [⟨some 8,.move (.tmp 0),none⟩,⟨some 9,.call ⟨.builtin .len,#[.tmp 8],#[22]⟩,none⟩,⟨some 10,.move (.const (.int .i64 0)),none⟩]) (.bloop 0 x70_L0)) (x70_T2))
@[simp] theorem x70_s {C e s K} : type_of% (@X_at C e s K _ _ x70_T2.eq_1) ∧ type_of% (@X_at C e s K _ _ x70_L2.eq_1) ∧ type_of% (@X_at C e s K _ _ x70_L0.eq_1) ∧ type_of% (@X_at C e s K _ _ x70.eq_1) := ⟨X_at x70_T2.eq_1, X_at x70_L2.eq_1, X_at x70_L0.eq_1, X_at x70.eq_1⟩
def an70 : Ann := ⟨[], [(2, [], [2, 8, 9, 10, 21, 22, 23], [2, 8, 9, 10]), (0, [], [2, 8, 9, 10], [2])], []⟩
@[simp] theorem an70_a : an70.loopOf 2 = ([], [2, 8, 9, 10, 21, 22, 23], [2, 8, 9, 10]) ∧ an70.loopOf 0 = ([], [2, 8, 9, 10], [2]) := ⟨rfl, rfl⟩
theorem fi70 : FI Try.prog 70 (cxA an70) x70 [.cell 2 33] Try.f70 := fiA Try.func70 mixed
theorem Plain_truth (l : List Fm) (hl : l.length ≤ 100000) : CallOK Try.prog 70 [.list (l.map frm)] [] (.agg [.int .i64 (plainL l).1, .int .i64 (plainL l).2]) [] := by
 refine fi70.op ?_
 generalize hR : plainL l = R
 ((refine Sg.h ?_); try repeat' ((first | (with_reducible first | refine brA ?_ | refine brE fun _ => ?_ | (refine spl ⟨?_, ?_⟩ <;> intro _))) <;> ((try simp -implicitDefEqProofs); (try simp -implicitDefEqProofs (disch := first | assumption | (try simp only [lens]); omega -splitDisjunctions)))))
 refine W_of fun Q hQ => ?_
 have main : ∀ r i, i + r = l.length → plainL (l.drop i) = R → Q [(2, .ptr 0 0 0), (8, .list (l.map frm)), (9, .int .i64 (l.length : Int)), (10, .int .i64 (i : Int))] [.rows 2 [[.int .i64 0, .int .i64 0]]] := by
  intro r
  induction r with
  | zero =>
   intro i hi hb
   rw [List.drop_of_length_le (by omega), plainL] at hb
   subst hb
   apply hQ
   ((refine Sg.h ?_); try repeat' ((first | (with_reducible first | refine brA ?_ | refine brE fun _ => ?_ | (refine spl ⟨?_, ?_⟩ <;> intro _))) <;> ((try simp -implicitDefEqProofs); (try simp -implicitDefEqProofs (disch := first | assumption | (try simp only [lens]); omega -splitDisjunctions)))))
  | succ r ih =>
   intro i hi hb
   have hil : i < l.length := by omega
   have ih := ih (i + 1) (by omega)
   rw [List.drop_eq_getElem_cons hil, plainL] at hb
   have hc := check_formula l[i] []
   have hn := nodes_formula l[i] 200 (by decide) []
   apply hQ
   clear hQ
   by_cases h1 : (formulaCheck l[i]).1 = 0
   ·rw [show plainF l[i] = (kindBad (nodesGo 200 200 [l[i]]) 0).getD (0, 0) from by unfold plainF; rw [if_neg (by simpa using h1)]] at hb
    have hL := nodesGo_len 200 200 [l[i]]
    generalize nodesGo 200 200 [l[i]] = L at *
    ((refine Sg.h ?_); try repeat' ((first | (with_reducible first | refine brA ?_ | refine brE fun _ => ?_ | (refine spl ⟨?_, ?_⟩ <;> intro _)) | refine clo hc ?_ | refine clo hn ?_) <;> ((try simp -implicitDefEqProofs [hil, h1]); (try simp -implicitDefEqProofs (disch := first | assumption | (try simp only [lens]); omega -splitDisjunctions) [hil, h1]))))
    refine W_of fun Q2 hQ2 => ?_
    have main2 : ∀ r j, j + r = L.length → kindBad L 0 = kindBad (L.drop j) j → Q2 [(2, .ptr 0 0 0), (8, .list (l.map frm)), (9, .int .i64 (l.length : Int)), (10, .int .i64 (i : Int)), (21, .list (L.map frm)), (22, .int .i64 (L.length : Int)), (23, .int .i64 (j : Int))] [.rows 2 [[.int .i64 0, .int .i64 0]]] := by
     intro r
     induction r with
     | zero =>
      intro j hj hk
      rw [List.drop_of_length_le (by omega), kindBad] at hk
      rw [hk] at hb
      have ih := ih (by simpa using hb)
      apply hQ2
      clear hQ2 hc hn
      ((refine Sg.h ?_); try repeat' ((first | (with_reducible first | refine brA ?_ | refine brE fun _ => ?_ | (refine spl ⟨?_, ?_⟩ <;> intro _))) <;> ((try simp -implicitDefEqProofs); (try simp -implicitDefEqProofs (disch := first | assumption | (try simp only [lens]); omega -splitDisjunctions)))))
      all_goals first | exact ih | (refine at2 ih ?_ ?_ <;> simp; done) | (exfalso; first | omega | (simp_all; done) | (simp_all; omega))
     | succ r ih2 =>
      intro j hj hk
      have hjl : j < L.length := by omega
      have ih2 := ih2 (j + 1) (by omega)
      rw [kindBad_drop hjl] at hk
      apply hQ2
      clear hQ2 hc hn ih
      by_cases h7 : 7 < L[j].kind
      ·rw [if_pos h7] at hk
       rw [hk] at hb
       simp at hb
       subst hb
       ((refine Sg.h ?_); try repeat' ((first | (with_reducible first | refine brA ?_ | refine brE fun _ => ?_ | (refine spl ⟨?_, ?_⟩ <;> intro _)) | refine clo (fault_truth 4 _) ?_) <;> ((try simp -implicitDefEqProofs [hjl, h7]); (try simp -implicitDefEqProofs (disch := first | assumption | (try simp only [lens]); omega -splitDisjunctions) [hjl, h7]))))
      ·rw [if_neg h7] at hk
       have ih2 := ih2 hk
       ((refine Sg.h ?_); try repeat' ((first | (with_reducible first | refine brA ?_ | refine brE fun _ => ?_ | (refine spl ⟨?_, ?_⟩ <;> intro _))) <;> ((try simp -implicitDefEqProofs [hjl, h7]); (try simp -implicitDefEqProofs (disch := first | assumption | (try simp only [lens]); omega -splitDisjunctions) [hjl, h7]))))
       all_goals first | exact ih2 | (refine at2 ih2 ?_ ?_ <;> simp; done) | (exfalso; first | omega | (simp_all; done) | (simp_all; omega))
    all_goals first | exact main2 _ 0 (Nat.zero_add _) rfl | (refine at2 main2 _ 0 (Nat.zero_add _) rfl ?_ ?_ <;> simp; done) | (exfalso; first | omega | (simp_all; done) | (simp_all; omega))
   ·rw [show plainF l[i] = formulaCheck l[i] from by unfold plainF; rw [if_pos (by simpa using h1)], if_pos (by simpa using h1)] at hb
    subst hb
    ((refine Sg.h ?_); try repeat' ((first | (with_reducible first | refine brA ?_ | refine brE fun _ => ?_ | (refine spl ⟨?_, ?_⟩ <;> intro _)) | refine clo hc ?_) <;> ((try simp -implicitDefEqProofs [hil, h1]); (try simp -implicitDefEqProofs (disch := first | assumption | (try simp only [lens]); omega -splitDisjunctions) [hil, h1]))))
 all_goals first | exact main _ 0 (Nat.zero_add _) (by simpa using hR) | (refine at2 main _ 0 (Nat.zero_add _) (by simpa using hR) ?_ ?_ <;> simp; done) | (exfalso; first | omega | (simp_all; done) | (simp_all; omega))
end Go.Proofs.Ytnoklmapofogeaa
