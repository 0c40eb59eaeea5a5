import Derived.Test.YtkadceiolddmhaaCPvQg
import Derived.Test.YtkadceiolddmhaaCQTn
import Derived.Test.YtkadceiolddmhaaCCcA
set_option linter.unusedVariables false
set_option linter.unusedSimpArgs false
set_option maxRecDepth 100000
set_option maxHeartbeats 4000000
namespace Go.Proofs.Ytkadceiolddmhaa
open Go Go.Pv
def x242_L0 : XC := .seq (.reg [⟨some 18,.binOp .lss 3 (.tmp 17) (.tmp 16) 3,none⟩]) (.seq (.cond (.tmp 18) .skip (.exit 0)) (.seq (.block 1 (.seq (.reg [⟨some 19,.move (.tmp 17),none⟩,⟨some 20,.indexAddr 57 (.tmp 15) (.tmp 17),none⟩,⟨some 21,.load 59 (.tmp 20),none⟩,⟨some 8,.alloc 59,none⟩,⟨some 7,.assign (.tmp 19),none⟩,⟨none,.store 59 (.tmp 8) (.tmp 21),none⟩]) (.seq (.reg [⟨some 22,.move (.tmp 1),none⟩,⟨some 23,.move (.tmp 7),none⟩,⟨some 24,.indexAddr 57 (.tmp 22) (.tmp 23),none⟩,⟨some 25,.load 59 (.tmp 24),none⟩,⟨some 9,.alloc 59,none⟩,⟨none,.store 59 (.tmp 9) (.tmp 25),none⟩]) (.seq (.reg [⟨some 26,.move (.tmp 2),none⟩,⟨some 27,.load 59 (.tmp 8),none⟩,⟨some 28,.load 59 (.tmp 9),none⟩,⟨some 29,.call ⟨.value (.tmp 26),#[.tmp 27,.tmp 28],#[59,59]⟩,none⟩,⟨some 30,.unOp .not 4 (.tmp 29),none⟩]) (.cond (.tmp 30) (.seq (.reg [⟨some 6,.assign (.const (.bool false)),none⟩]) .ret) .skip))))) (.reg [⟨some 31,.binOp .add 3 (.tmp 17) (.const (.int .i64 1)) 3,none⟩,⟨some 17,.move (.tmp 31),none⟩])))
def x242 : XC := .seq (.reg [⟨some 6,.assign (.const (.bool false)),none⟩]) (.seq (.seq (.reg [⟨some 10,.move (.tmp 0),none⟩,⟨some 11,.call ⟨.builtin .len,#[.tmp 10],#[57]⟩,none⟩,⟨some 12,.move (.tmp 1),none⟩,⟨some 13,.call ⟨.builtin .len,#[.tmp 12],#[57]⟩,none⟩,⟨some 14,.binOp .neq 3 (.tmp 11) (.tmp 13) 3,none⟩]) (.cond (.tmp 14) (.seq (.reg [⟨some 6,.assign (.const (.bool false)),none⟩]) .ret) .skip)) (.seq (.seq (.reg [⟨some 15,.move (.tmp 0),none⟩,⟨some 16,.call ⟨.builtin .len,#[.tmp 15],#[57]⟩,none⟩,⟨some 17,.move (.const (.int .i64 0)),none⟩]) (.bloop 0 x242_L0)) (.seq (.reg [⟨some 6,.assign (.const (.bool true)),none⟩]) .ret)))
@[simp] theorem x242_s {C e s K} : type_of% (@X_at C e s K _ _ x242_L0.eq_1) ∧ type_of% (@X_at C e s K _ _ x242.eq_1) := ⟨X_at x242_L0.eq_1, X_at x242.eq_1⟩
def an242 : Ann := ⟨[], [(0, [], [1, 2, 15, 16, 17], [6])], []⟩
@[simp] theorem an242_a : an242.loopOf 0 = ([], [1, 2, 15, 16, 17], [6]) := rfl
theorem fi242 : FI Try.prog 242 (cxA an242) x242 [.tmp 6] Try.f242 := fiA Try.func242 mixed
theorem EqualFunc_formula (xs bs : List Fm) (fid : Nat) [EnT Try.prog fid] (r : Fm → Fm → Bool) (h : ∀ a ∈ xs, ∀ b ∈ bs, CallOK Try.prog fid [.agg (frm a), .agg (frm b)] [] (.bool (r a b)) []) :
  CallOK Try.prog 242 [.list (xs.map frm), .list (bs.map frm), .fn (.func fid) [] []] [] (.bool (eqL r xs bs)) [] := by
 refine fi242.op ?_
 ((refine Sg.h ?_); try repeat' ((first | (with_reducible first | refine brA ?_ | refine brE fun _ => ?_ | (refine spl ⟨?_, ?_⟩ <;> intro _))) <;> (try simp -implicitDefEqProofs (disch := first | assumption | (try simp only [lens]); omega -splitDisjunctions))))
 ·rw [eqL_len (by omega)]
 ·refine W_of fun Q hQ => ?_
  have main : ∀ n i, i + n = xs.length → eqL r xs bs = eqL r (xs.drop i) (bs.drop i) → Q [(1, .list (bs.map frm)), (2, .fn (.func fid) [] []), (15, .list (xs.map frm)), (16, .int .i64 (xs.length : Int)), (17, .int .i64 (i : Int))] [] := by
   intro n
   induction n with
   | zero =>
    intro i hi he
    apply hQ
    ((refine Sg.h ?_); try repeat' ((first | (with_reducible first | refine brA ?_ | refine brE fun _ => ?_ | (refine spl ⟨?_, ?_⟩ <;> intro _))) <;> (try simp -implicitDefEqProofs (disch := first | assumption | (try simp only [lens]); omega -splitDisjunctions))))
    rw [he, List.drop_of_length_le (by omega), List.drop_of_length_le (by omega)]; rfl
   | succ n ih =>
    intro i hi he
    apply hQ
    rw [eqL_drop (by omega) (by omega)] at he
    ((refine Sg.h ?_); try repeat' ((first | (with_reducible first | refine brA ?_ | refine brE fun _ => ?_ | (refine spl ⟨?_, ?_⟩ <;> intro _)) | refine clo (h _ (List.getElem_mem _) _ (List.getElem_mem _)) ?_) <;> (try simp -implicitDefEqProofs (disch := first | assumption | (try simp only [lens]); omega -splitDisjunctions))))
    ·rw [he]; simp_all
    ·refine at2 (ih (i + 1) (by omega) ?_) ?_ ?_
     ·rw [he]; simp_all
     ·simp
     ·rfl
  refine at2 (main _ 0 (Nat.zero_add _) rfl) ?_ ?_ <;> simp
def x240 : XC := .seq (.reg [⟨some 2,.box 59 (.tmp 0),none⟩,⟨some 3,.box 59 (.tmp 1),none⟩,⟨some 4,.assign (.const (.bool false)),none⟩]) (.seq (.reg [⟨some 5,.fieldAddr 59 (.tmp 2) 0,none⟩,⟨some 6,.load 3 (.tmp 5),none⟩,⟨some 7,.fieldAddr 59 (.tmp 3) 0,none⟩,⟨some 8,.load 3 (.tmp 7),none⟩,⟨some 9,.binOp .eql 3 (.tmp 6) (.tmp 8) 3,none⟩,⟨some 10,.move (.tmp 9),none⟩,⟨some 11,.fieldAddr 59 (.tmp 2) 1,some (some 10,true)⟩,⟨some 12,.load 9 (.tmp 11),some (some 10,true)⟩,⟨some 13,.fieldAddr 59 (.tmp 3) 1,some (some 10,true)⟩,⟨some 14,.load 9 (.tmp 13),some (some 10,true)⟩,⟨some 15,.binOp .eql 9 (.tmp 12) (.tmp 14) 9,some (some 10,true)⟩,⟨some 16,.pick (.tmp 10) (.tmp 15) (.const (.bool false)),none⟩,⟨some 17,.move (.tmp 16),none⟩,⟨some 18,.fieldAddr 59 (.tmp 2) 2,some (some 17,true)⟩,⟨some 19,.load 57 (.tmp 18),some (some 17,true)⟩,⟨some 20,.fieldAddr 59 (.tmp 3) 2,some (some 17,true)⟩,⟨some 21,.load 57 (.tmp 20),some (some 17,true)⟩,⟨some 22,.call ⟨.value (.func 242),#[.tmp 19,.tmp 21,.func 240],#[57,57,196]⟩,some (some 17,true)⟩,⟨some 23,.pick (.tmp 17) (.tmp 22) (.const (.bool false)),none⟩,⟨some 4,.assign (.tmp 23),none⟩]) .ret)
@[simp] theorem x240_s {C e s K} : type_of% (@X_at C e s K _ _ x240.eq_1) := X_at x240.eq_1
def an240 : Ann := ⟨[], [], []⟩
theorem fi240 : FI Try.prog 240 (cxA an240) x240 [.tmp 4] Try.f240 := fiA Try.func240 mixed
theorem Same_formula (f : Fm) : ∀ g : Fm, CallOK Try.prog 240 [.agg (frm f), .agg (frm g)] [] (.bool (sameB f g)) [] := by
 induction f using Fm.ind with
 | h f ih =>
  intro g
  refine fi240.op ?_
  ((refine Sg.h ?_); try repeat' ((first | (with_reducible first | refine brA ?_ | refine brE fun _ => ?_ | (refine spl ⟨?_, ?_⟩ <;> intro _)) | refine clo (EqualFunc_formula f.kids g.kids 240 sameB (fun a ha b _ => ih a ha b)) ?_) <;> (try simp -implicitDefEqProofs (disch := first | assumption | (try simp only [lens]); omega -splitDisjunctions))))
  all_goals (rw [sameB_eq]; simp_all)
def x132_L0 : XC := .seq (.seq (.reg [⟨some 27,.move (.tmp 5),none⟩,⟨some 28,.fieldAddr 59 (.tmp 2) 2,none⟩,⟨some 29,.load 57 (.tmp 28),none⟩,⟨some 30,.call ⟨.builtin .len,#[.tmp 29],#[57]⟩,none⟩,⟨some 31,.binOp .lss 3 (.tmp 27) (.tmp 30) 3,none⟩]) (.cond (.tmp 31) .skip (.exit 0))) (.seq (.block 1 (.seq (.drawn 6 [⟨some 34,.fieldAddr 59 (.tmp 2) 2,none⟩,⟨some 35,.load 57 (.tmp 34),none⟩,⟨some 36,.move (.tmp 5),none⟩,⟨some 37,.indexAddr 57 (.tmp 35) (.tmp 36),none⟩,⟨some 38,.load 59 (.tmp 37),none⟩,⟨some 39,.fieldAddr 59 (.tmp 3) 2,none⟩,⟨some 40,.load 57 (.tmp 39),none⟩,⟨some 41,.move (.tmp 5),none⟩,⟨some 42,.indexAddr 57 (.tmp 40) (.tmp 41),none⟩,⟨some 43,.load 59 (.tmp 42),none⟩,⟨some 44,.call ⟨.value (.func 132),#[.tmp 38,.tmp 43],#[59,59]⟩,none⟩,⟨some 45,.unOp .not 4 (.tmp 44),none⟩]) (.cond (.tmp 45) (.seq (.reg [⟨some 4,.assign (.const (.bool false)),none⟩]) .ret) .skip))) (.reg [⟨some 32,.move (.tmp 5),none⟩,⟨some 33,.binOp .add 3 (.tmp 32) (.const (.int .i64 1)) 3,none⟩,⟨some 5,.assign (.tmp 33),none⟩]))
def x132 : XC := .seq (.reg [⟨some 2,.box 59 (.tmp 0),none⟩,⟨some 3,.box 59 (.tmp 1),none⟩,⟨some 4,.assign (.const (.bool false)),none⟩]) (.seq (.seq (.reg [⟨some 6,.fieldAddr 59 (.tmp 2) 0,none⟩,⟨some 7,.load 3 (.tmp 6),none⟩,⟨some 8,.fieldAddr 59 (.tmp 3) 0,none⟩,⟨some 9,.load 3 (.tmp 8),none⟩,⟨some 10,.binOp .neq 3 (.tmp 7) (.tmp 9) 3,none⟩,⟨some 11,.move (.tmp 10),none⟩,⟨some 12,.fieldAddr 59 (.tmp 2) 1,some (some 11,false)⟩,⟨some 13,.load 9 (.tmp 12),some (some 11,false)⟩,⟨some 14,.fieldAddr 59 (.tmp 3) 1,some (some 11,false)⟩,⟨some 15,.load 9 (.tmp 14),some (some 11,false)⟩,⟨some 16,.binOp .neq 9 (.tmp 13) (.tmp 15) 9,some (some 11,false)⟩,⟨some 17,.pick (.tmp 11) (.const (.bool true)) (.tmp 16),none⟩,⟨some 18,.move (.tmp 17),none⟩,⟨some 19,.fieldAddr 59 (.tmp 2) 2,some (some 18,false)⟩,⟨some 20,.load 57 (.tmp 19),some (some 18,false)⟩,⟨some 21,.call ⟨.builtin .len,#[.tmp 20],#[57]⟩,some (some 18,false)⟩,⟨some 22,.fieldAddr 59 (.tmp 3) 2,some (some 18,false)⟩,⟨some 23,.load 57 (.tmp 22),some (some 18,false)⟩,⟨some 24,.call ⟨.builtin .len,#[.tmp 23],#[57]⟩,some (some 18,false)⟩,⟨some 25,.binOp .neq 3 (.tmp 21) (.tmp 24) 3,some (some 18,false)⟩,⟨some 26,.pick (.tmp 18) (.const (.bool true)) (.tmp 25),none⟩]) (.cond (.tmp 26) (.seq (.reg [⟨some 4,.assign (.const (.bool false)),none⟩]) .ret) .skip)) (.seq (.seq (.reg [⟨some 5,.assign (.const (.int .i64 0)),none⟩]) (.bloop 0 x132_L0)) (.seq (.reg [⟨some 4,.assign (.const (.bool true)),none⟩]) .ret)))
@[simp] theorem x132_s {C e s K} : type_of% (@X_at C e s K _ _ x132_L0.eq_1) ∧ type_of% (@X_at C e s K _ _ x132.eq_1) := ⟨X_at x132_L0.eq_1, X_at x132.eq_1⟩
def an132 : Ann := ⟨[(6, .mix 10)], [(0, [], [2, 3, 5], [4])], []⟩
@[simp] theorem an132_a : an132.clsOf 6 = .mix 10 ∧ an132.frzOf 6 = [] ∧ an132.loopOf 0 = ([], [2, 3, 5], [4]) := ⟨rfl, rfl, rfl⟩
theorem fi132 : FI Try.prog 132 (cxA an132) x132 [.tmp 4] Try.f132 := fiA Try.func132 mixed
theorem Same_ref (f : Fm) : ∀ g : Fm, CallOK Try.prog 132 [.agg (frm f), .agg (frm g)] [] (.bool (sameB f g)) [] := by
 induction f using Fm.ind with
 | h f ih =>
  intro g
  have he := sameB_eq f g
  refine fi132.op ?_
  ((refine Sg.h ?_); try repeat' ((first | (with_reducible first | refine brA ?_ | refine brE fun _ => ?_ | (refine spl ⟨?_, ?_⟩ <;> intro _))) <;> ((try simp -implicitDefEqProofs); (try simp -implicitDefEqProofs (disch := first | assumption | (try simp only [lens]); omega -splitDisjunctions)))))
  all_goals try (rw [he, eqL_len (by omega), Bool.and_false]; done)
  all_goals try (rw [he]; simp_all; done)
  all_goals (
   rename_i hlen
   refine W_of fun Q hQ => ?_
   have main : ∀ n i, i + n = f.kids.length → eqL sameB f.kids g.kids = eqL sameB (f.kids.drop i) (g.kids.drop i) → Q [(2, .ptr 0 0 0), (3, .ptr 1 0 0), (5, .int .i64 (i : Int))] [.rows 3 [frm f], .rows 3 [frm g]] := by
    intro n
    induction n with
    | zero =>
     intro i hi hd
     rw [List.drop_of_length_le (by omega), List.drop_of_length_le (by omega)] at hd
     apply hQ
     ((refine Sg.h ?_); try repeat' ((first | (with_reducible first | refine brA ?_ | refine brE fun _ => ?_ | (refine spl ⟨?_, ?_⟩ <;> intro _))) <;> ((try simp -implicitDefEqProofs); (try simp -implicitDefEqProofs (disch := first | assumption | (try simp only [lens]); omega -splitDisjunctions)))))
     all_goals (rw [he, hd]; simp_all [eqL])
    | succ n ihn =>
     intro i hi hd
     rw [eqL_drop (by omega) (by omega)] at hd
     have ihn := ihn (i + 1) (by omega)
     apply hQ
     ((refine Sg.h ?_); try repeat' ((first | (with_reducible first | refine brA ?_ | refine brE fun _ => ?_ | (refine spl ⟨?_, ?_⟩ <;> intro _)) | refine clo (ih _ (List.getElem_mem _) _) ?_) <;> ((try simp -implicitDefEqProofs); (try simp -implicitDefEqProofs (disch := first | assumption | (try simp only [lens]); omega -splitDisjunctions)))))
     all_goals first | (rw [he, hd]; simp_all; done) | (refine at2 (ihn ?_) ?_ ?_; (· rw [hd]; simp_all); (· simp); (· rfl))
   refine at2 (main _ 0 (Nat.zero_add _) rfl) ?_ ?_ <;> simp)
def x91_L0 : XC := .seq (.seq (.reg [⟨some 6,.move (.tmp 5),none⟩,⟨some 7,.move (.tmp 0),none⟩,⟨some 8,.call ⟨.builtin .len,#[.tmp 7],#[57]⟩,none⟩,⟨some 9,.binOp .lss 3 (.tmp 6) (.tmp 8) 3,none⟩]) (.cond (.tmp 9) .skip (.exit 0))) (.seq (.block 1 (.seq (.drawn 4 [⟨some 12,.move (.tmp 0),none⟩,⟨some 13,.move (.tmp 5),none⟩,⟨some 14,.indexAddr 57 (.tmp 12) (.tmp 13),none⟩,⟨some 15,.load 59 (.tmp 14),none⟩,⟨some 16,.load 59 (.tmp 3),none⟩,⟨some 17,.call ⟨.value (.func 132),#[.tmp 15,.tmp 16],#[59,59]⟩,none⟩]) (.cond (.tmp 17) (.seq (.reg [⟨some 4,.assign (.const (.bool true)),none⟩]) .ret) .skip))) (.reg [⟨some 10,.move (.tmp 5),none⟩,⟨some 11,.binOp .add 3 (.tmp 10) (.const (.int .i64 1)) 3,none⟩,⟨some 5,.assign (.tmp 11),none⟩]))
def x91 : XC := .seq (.reg [⟨some 3,.box 59 (.tmp 1),none⟩,⟨some 4,.assign (.const (.bool false)),none⟩]) (.seq (.seq (.reg [⟨some 5,.assign (.const (.int .i64 0)),none⟩]) (.bloop 0 x91_L0)) (.seq (.reg [⟨some 4,.assign (.const (.bool false)),none⟩]) .ret))
@[simp] theorem x91_s {C e s K} : type_of% (@X_at C e s K _ _ x91_L0.eq_1) ∧ type_of% (@X_at C e s K _ _ x91.eq_1) := ⟨X_at x91_L0.eq_1, X_at x91.eq_1⟩
def an91 : Ann := ⟨[], [(0, [], [0, 3, 5], [4])], []⟩
@[simp] theorem an91_a : an91.clsOf 4 = .draw ∧ an91.frzOf 4 = [] ∧ an91.loopOf 0 = ([], [0, 3, 5], [4]) := ⟨rfl, rfl, rfl⟩
theorem fi91 : FI Try.prog 91 (cxA an91) x91 [.tmp 4] Try.f91 := fiA Try.func91 mixed
theorem Has_ref (l : List Fm) (f : Fm) : CallOK Try.prog 91 [.list (l.map frm), .agg (frm f)] [] (.bool (l.any fun y => sameB y f)) [] := by
 generalize hB : (l.any fun y => sameB y f) = B
 refine fi91.op ?_
 ((refine Sg.h ?_); try repeat' ((first | (with_reducible first | refine brA ?_ | refine brE fun _ => ?_ | (refine spl ⟨?_, ?_⟩ <;> intro _))) <;> ((try simp -implicitDefEqProofs); (try simp -implicitDefEqProofs (disch := first | assumption | (try simp only [lens]); omega -splitDisjunctions)))))
 refine W_of fun Q hQ => ?_
 have main : ∀ n i, i + n = l.length → (∀ j (h : j < l.length), j < i → sameB l[j] f = false) → Q [(0, .list (l.map frm)), (3, .ptr 0 0 0), (5, .int .i64 (i : Int))] [.rows 3 [frm f]] := by
  intro n
  induction n with
  | zero =>
   intro i hi hl
   have hno : B = false := by
    rw [← hB, List.any_eq_false]
    intro x hx
    obtain ⟨j, hj, rfl⟩ := List.mem_iff_getElem.1 hx
    simp [hl j hj (by omega)]
   apply hQ
   ((refine Sg.h ?_); try repeat' ((first | (with_reducible first | refine brA ?_ | refine brE fun _ => ?_ | (refine spl ⟨?_, ?_⟩ <;> intro _))) <;> ((try simp -implicitDefEqProofs); (try simp -implicitDefEqProofs (disch := first | assumption | (try simp only [lens]); omega -splitDisjunctions)))))
   all_goals simp [hno]
  | succ n ih =>
   intro i hi hl
   have hlt : i < l.length := by omega
   by_cases hb : sameB l[i] f = true
   ·have hyes : B = true := hB ▸ List.any_eq_true.2 ⟨_, List.getElem_mem hlt, hb⟩
    apply hQ
    ((refine Sg.h ?_); try repeat' ((first | (with_reducible first | refine brA ?_ | refine brE fun _ => ?_ | (refine spl ⟨?_, ?_⟩ <;> intro _)) | refine clo (Same_ref _ _) ?_) <;> ((try simp -implicitDefEqProofs [hb]); (try simp -implicitDefEqProofs (disch := first | assumption | (try simp only [lens]); omega -splitDisjunctions) [hb]))))
    all_goals simp [hyes]
   ·have hb : sameB l[i] f = false := by simpa using hb
    have ih := ih (i + 1) (by omega) (fun j hj hji => by
     by_cases e : j = i
     ·subst e; exact hb
     ·exact hl j hj (by omega))
    apply hQ
    ((refine Sg.h ?_); try repeat' ((first | (with_reducible first | refine brA ?_ | refine brE fun _ => ?_ | (refine spl ⟨?_, ?_⟩ <;> intro _)) | refine clo (Same_ref _ _) ?_) <;> ((try simp -implicitDefEqProofs [hb]); (try simp -implicitDefEqProofs (disch := first | assumption | (try simp only [lens]); omega -splitDisjunctions) [hb]))))
    all_goals simpa using ih
 refine at2 (main _ 0 (Nat.zero_add _) (fun j h hj => by omega)) ?_ ?_ <;> simp
end Go.Proofs.Ytkadceiolddmhaa
namespace Go.Proofs.Ytkadceiolddmhaa
open Go Go.Pv
noncomputable instance : BEq Fm := ⟨sameB⟩
instance : LawfulBEq Fm where
 eq_of_beq h := sameB_iff.1 h
 rfl := sameB_iff.2 rfl
def placeP (p : Fm → Bool) (l : List Fm) : Int := match l.findIdx? p with
 | some i => i
 | none => -1
theorem placeP_at {p : Fm → Bool} {l : List Fm} {i : Nat} (h : i < l.length) (hp : p l[i] = true) (hb : ∀ j (hj : j < i), p (l[j]'(by omega)) = false) : placeP p l = i := by
 unfold placeP
 have : l.findIdx? p = some i := by
  rw [List.findIdx?_eq_some_iff_getElem]
  exact ⟨h, hp, fun j hj => by simp [hb j hj]⟩
 rw [this]
theorem placeP_none {p : Fm → Bool} {l : List Fm} (hb : ∀ j (hj : j < l.length), p l[j] = false) : placeP p l = -1 := by
 unfold placeP
 have : l.findIdx? p = none := by
  rw [List.findIdx?_eq_none_iff]
  intro x hx
  obtain ⟨j, hj, rfl⟩ := List.mem_iff_getElem.1 hx
  exact hb j hj
 rw [this]
def x238_L0 : XC := .seq (.reg [⟨some 9,.binOp .lss 3 (.tmp 8) (.tmp 7) 3,none⟩]) (.seq (.cond (.tmp 9) .skip (.exit 0)) (.seq (.block 1 (.seq (.reg [⟨some 10,.move (.tmp 8),none⟩,⟨some 5,.assign (.tmp 10),none⟩]) (.seq (.reg [⟨some 11,.move (.tmp 1),none⟩,⟨some 12,.move (.tmp 0),none⟩,⟨some 13,.move (.tmp 5),none⟩,⟨some 14,.indexAddr 226 (.tmp 12) (.tmp 13),none⟩,⟨some 15,.load 59 (.tmp 14),none⟩,⟨some 16,.call ⟨.value (.tmp 11),#[.tmp 15],#[59]⟩,none⟩]) (.cond (.tmp 16) (.seq (.reg [⟨some 17,.move (.tmp 5),none⟩,⟨some 4,.assign (.tmp 17),none⟩]) .ret) .skip)))) (.reg [⟨some 18,.binOp .add 3 (.tmp 8) (.const (.int .i64 1)) 3,none⟩,⟨some 8,.move (.tmp 18),none⟩])))
def x238 : XC := .seq (.reg [⟨some 4,.assign (.const (.int .i64 0)),none⟩]) (.seq (.seq (.reg [⟨some 6,.move (.tmp 0),none⟩,⟨some 7,.call ⟨.builtin .len,#[.tmp 6],#[226]⟩,none⟩,⟨some 8,.move (.const (.int .i64 0)),none⟩]) (.bloop 0 x238_L0)) (.seq (.reg [⟨some 4,.assign (.const (.int .i64 (-1))),none⟩]) .ret))
@[simp] theorem x238_s {C e s K} : type_of% (@X_at C e s K _ _ x238_L0.eq_1) ∧ type_of% (@X_at C e s K _ _ x238.eq_1) := ⟨X_at x238_L0.eq_1, X_at x238.eq_1⟩
def an238 : Ann := ⟨[], [(0, [], [0, 1, 7, 8], [4])], []⟩
@[simp] theorem an238_a : an238.loopOf 0 = ([], [0, 1, 7, 8], [4]) := rfl
theorem fi238 : FI Try.prog 238 (cxA an238) x238 [.tmp 4] Try.f238 := fiA Try.func238 mixed
theorem IndexFunc_bag (l : List Fm) (hl : l.length ≤ 1000000) (fid : Nat) [EnT Try.prog fid] (ys : List PV) [hy : FlatL ys] (p : Fm → Bool) (h : ∀ a ∈ l, CallOK Try.prog fid (.agg (frm a) :: ys) [] (.bool (p a)) []) :
  CallOK Try.prog 238 [.list (l.map frm), .fn (.func fid) [] ys] [] (.int .i64 (placeP p l)) [] := by
 have hcl : ∀ a : Fm, ∀ v ∈ .agg (frm a) :: ys, Closed v := by
  intro a v hv
  rcases List.mem_cons.1 hv with rfl | hv
  ·exact closed_frm a
  ·exact hy.closed v hv
 refine fi238.op ?_
 ((refine Sg.h ?_); try repeat' ((first | (with_reducible first | refine brA ?_ | refine brE fun _ => ?_ | (refine spl ⟨?_, ?_⟩ <;> intro _))) <;> ((try simp -implicitDefEqProofs); (try simp -implicitDefEqProofs (disch := first | assumption | (try simp only [lens]); omega -splitDisjunctions)))))
 refine W_of fun Q hQ => ?_
 have main : ∀ n i, i + n = l.length → (∀ j (hj : j < i) (hl : j < l.length), p l[j] = false) → Q [(0, .list (l.map frm)), (1, .fn (.func fid) [] ys), (7, .int .i64 (l.length : Int)), (8, .int .i64 (i : Int))] [] := by
  intro n
  induction n with
  | zero =>
   intro i hi hb
   have hv := placeP_none fun j hj => hb j (by omega) hj
   generalize placeP p l = v at *
   apply hQ
   subst hv
   ((refine Sg.h ?_); try repeat' ((first | (with_reducible first | refine brA ?_ | refine brE fun _ => ?_ | (refine spl ⟨?_, ?_⟩ <;> intro _))) <;> ((try simp -implicitDefEqProofs); (try simp -implicitDefEqProofs (disch := first | assumption | (try simp only [lens]); omega -splitDisjunctions)))))
  | succ n ih =>
   intro i hi hb
   have hil : i < l.length := by omega
   have hc := h _ (List.getElem_mem hil)
   have ih := ih (i + 1) (by omega)
   have hat := fun hp => placeP_at hil hp fun j hj => hb j hj (by omega)
   generalize placeP p l = v at *
   cases hp : p l[i] with
   | true =>
    have hv := hat hp
    rw [hp] at hc
    apply hQ
    clear hQ
    subst hv
    ((refine Sg.h ?_); try repeat' ((first | (with_reducible first | refine brA ?_ | refine brE fun _ => ?_ | (refine spl ⟨?_, ?_⟩ <;> intro _))) <;> ((try simp -implicitDefEqProofs [hil]); (try simp -implicitDefEqProofs (disch := first | assumption | (try simp only [lens]); omega -splitDisjunctions) [hil]))))
    refine CL.clo hc ?_ (hcl _)
    ((refine Sg.h ?_); try repeat' ((first | (with_reducible first | refine brA ?_ | refine brE fun _ => ?_ | (refine spl ⟨?_, ?_⟩ <;> intro _))) <;> ((try simp -implicitDefEqProofs); (try simp -implicitDefEqProofs (disch := first | assumption | (try simp only [lens]); omega -splitDisjunctions)))))
   | false =>
    have ih := ih fun j hj hl => by
     rcases Nat.lt_or_ge j i with hji | hji
     ·exact hb j hji hl
     ·have : j = i := by omega
      subst this; exact hp
    rw [hp] at hc
    apply hQ
    clear hQ
    ((refine Sg.h ?_); try repeat' ((first | (with_reducible first | refine brA ?_ | refine brE fun _ => ?_ | (refine spl ⟨?_, ?_⟩ <;> intro _))) <;> ((try simp -implicitDefEqProofs [hil]); (try simp -implicitDefEqProofs (disch := first | assumption | (try simp only [lens]); omega -splitDisjunctions) [hil]))))
    refine CL.clo hc ?_ (hcl _)
    ((refine Sg.h ?_); try repeat' ((first | (with_reducible first | refine brA ?_ | refine brE fun _ => ?_ | (refine spl ⟨?_, ?_⟩ <;> intro _))) <;> ((try simp -implicitDefEqProofs); (try simp -implicitDefEqProofs (disch := first | assumption | (try simp only [lens]); omega -splitDisjunctions)))))
    all_goals first | exact ih | (refine at2 ih ?_ ?_ <;> simp; done) | (exfalso; first | omega | (simp_all; done) | (simp_all; omega))
 all_goals first | exact main _ 0 (Nat.zero_add _) (fun j hj => by omega) | (refine at2 main _ 0 (Nat.zero_add _) (fun j hj => by omega) ?_ ?_ <;> simp; done) | (exfalso; first | omega | (simp_all; done) | (simp_all; omega))
def x239 : XC := .seq (.reg [⟨some 2,.box 59 (.tmp 0),none⟩,⟨some 3,.assign (.const (.bool false)),none⟩]) (.seq (.reg [⟨some 4,.load 59 (.tmp 1),none⟩,⟨some 5,.load 59 (.tmp 2),none⟩,⟨some 6,.call ⟨.value (.func 240),#[.tmp 4,.tmp 5],#[59,59]⟩,none⟩,⟨some 3,.assign (.tmp 6),none⟩]) .ret)
@[simp] theorem x239_s {C e s K} : type_of% (@X_at C e s K _ _ x239.eq_1) := X_at x239.eq_1
def an239 : Ann := ⟨[], [], []⟩
theorem fi239 : FI Try.prog 239 (cxA an239) x239 [.tmp 3] Try.f239 := fiA Try.func239 mixed
theorem index1_bag (f g : Fm) : CallOK Try.prog 239 [.agg (frm g), .iptr (frm f)] [] (.bool (sameB f g)) [] := by
 refine fi239.op ?_
 ((refine Sg.h ?_); try repeat' ((first | (with_reducible first | refine brA ?_ | refine brE fun _ => ?_ | (refine spl ⟨?_, ?_⟩ <;> intro _)) | refine clo (Same_formula f g) ?_) <;> ((try simp -implicitDefEqProofs); (try simp -implicitDefEqProofs (disch := first | assumption | (try simp only [lens]); omega -splitDisjunctions)))))
def x233 : XC := .seq (.reg [⟨some 3,.box 59 (.tmp 1),none⟩,⟨some 4,.assign (.const (.int .i64 0)),none⟩]) (.seq (.reg [⟨some 5,.move (.tmp 0),none⟩,⟨some 6,.makeFunc (.func 239) #[] #[.tmp 3],none⟩,⟨some 7,.call ⟨.value (.func 238),#[.tmp 5,.tmp 6],#[226,99]⟩,none⟩,⟨some 4,.assign (.tmp 7),none⟩]) .ret)
@[simp] theorem x233_s {C e s K} : type_of% (@X_at C e s K _ _ x233.eq_1) := X_at x233.eq_1
def an233 : Ann := ⟨[], [], []⟩
theorem fi233 : FI Try.prog 233 (cxA an233) x233 [.tmp 4] Try.f233 := fiA Try.func233 mixed
theorem index_bag (l : List Fm) (hl : l.length ≤ 1000000) (f : Fm) : CallOK Try.prog 233 [.list (l.map frm), .agg (frm f)] [] (.int .i64 (placeP (sameB f) l)) [] := by
 have h := IndexFunc_bag l hl 239 [.iptr (frm f)] (sameB f) (fun g _ => index1_bag f g)
 refine fi233.op ?_
 ((refine Sg.h ?_); try repeat' ((first | (with_reducible first | refine brA ?_ | refine brE fun _ => ?_ | (refine spl ⟨?_, ?_⟩ <;> intro _))) <;> ((try simp -implicitDefEqProofs); (try simp -implicitDefEqProofs (disch := first | assumption | (try simp only [lens]); omega -splitDisjunctions)))))
 refine CL.giv [0] ?_
 ((refine Sg.h ?_); try repeat' ((first | (with_reducible first | refine brA ?_ | refine brE fun _ => ?_ | (refine spl ⟨?_, ?_⟩ <;> intro _)) | refine clo h ?_) <;> ((try simp -implicitDefEqProofs); (try simp -implicitDefEqProofs (disch := first | assumption | (try simp only [lens]); omega -splitDisjunctions)))))
noncomputable def hasF (l : List Fm) (f : Fm) : Bool := decide (0 ≤ placeP (sameB f) l)
theorem placeP_iff (l : List Fm) (f : Fm) : (f ∈ l ∧ placeP (sameB f) l = (l.idxOf f : Nat) ∧ l.idxOf f < l.length) ∨ (f ∉ l ∧ placeP (sameB f) l = -1) := by
 by_cases h : f ∈ l
 ·refine .inl ⟨h, ?_, List.idxOf_lt_length_of_mem h⟩
  refine placeP_at (List.idxOf_lt_length_of_mem h) ?_ fun j hj => ?_
  ·rw [List.getElem_idxOf]; exact sameB_iff.2 rfl
  ·have hjl : j < l.length := Nat.lt_trans hj (List.idxOf_lt_length_of_mem h)
   have this : (l[j] == f) = false := List.not_of_lt_findIdx hj
   cases hs : sameB f l[j] with
   | false => rfl
   | true => rw [← sameB_iff.1 hs] at this; simp at this
 ·refine .inr ⟨h, placeP_none fun j hj => ?_⟩
  cases hs : sameB f l[j] with
  | false => rfl
  | true => exact absurd (sameB_iff.1 hs ▸ List.getElem_mem hj) h
theorem hasF_iff {l : List Fm} {f : Fm} : hasF l f = true ↔ f ∈ l := by
 rcases placeP_iff l f with ⟨h1, h2, _⟩ | ⟨h1, h2⟩ <;> simp [hasF, h1, h2]
def x199 : XC := .seq (.reg [⟨some 3,.box 59 (.tmp 1),none⟩,⟨some 4,.assign (.const (.bool false)),none⟩]) (.seq (.reg [⟨some 5,.move (.tmp 0),none⟩,⟨some 6,.load 59 (.tmp 3),none⟩,⟨some 7,.call ⟨.value (.func 233),#[.tmp 5,.tmp 6],#[226,59]⟩,none⟩,⟨some 8,.binOp .geq 3 (.tmp 7) (.const (.int .i64 0)) 3,none⟩,⟨some 4,.assign (.tmp 8),none⟩]) .ret)
@[simp] theorem x199_s {C e s K} : type_of% (@X_at C e s K _ _ x199.eq_1) := X_at x199.eq_1
def an199 : Ann := ⟨[], [], []⟩
theorem fi199 : FI Try.prog 199 (cxA an199) x199 [.tmp 4] Try.f199 := fiA Try.func199 mixed
theorem has_bag (l : List Fm) (hl : l.length ≤ 1000000) (f : Fm) : CallOK Try.prog 199 [.list (l.map frm), .agg (frm f)] [] (.bool (hasF l f)) [] := by
 have h := index_bag l hl f
 unfold hasF
 generalize placeP (sameB f) l = v at *
 refine fi199.op ?_
 ((refine Sg.h ?_); try repeat' ((first | (with_reducible first | refine brA ?_ | refine brE fun _ => ?_ | (refine spl ⟨?_, ?_⟩ <;> intro _)) | refine clo h ?_) <;> ((try simp -implicitDefEqProofs); (try simp -implicitDefEqProofs (disch := first | assumption | (try simp only [lens]); omega -splitDisjunctions)))))
def x200 : XC := .seq (.reg [⟨some 3,.box 59 (.tmp 1),none⟩,⟨some 4,.assign (.const (.slice none 0 0)),none⟩]) (.seq (.reg [⟨some 6,.move (.tmp 0),none⟩,⟨some 7,.load 59 (.tmp 3),none⟩,⟨some 8,.call ⟨.value (.func 233),#[.tmp 6,.tmp 7],#[226,59]⟩,none⟩,⟨some 5,.assign (.tmp 8),none⟩]) (.seq (.drawn 2 [⟨some 9,.move (.tmp 0),none⟩,⟨some 10,.move (.tmp 5),none⟩,⟨some 11,.slice 226 (.tmp 9) none (some (.tmp 10)) none,none⟩,⟨some 12,.move (.tmp 0),none⟩,⟨some 13,.move (.tmp 5),none⟩,⟨some 14,.binOp .add 3 (.tmp 13) (.const (.int .i64 1)) 3,none⟩,⟨some 15,.slice 226 (.tmp 12) (some (.tmp 14)) none none,none⟩,⟨some 16,.buildSlice 274 2 #[(0,.tmp 11),(1,.tmp 15)],none⟩,⟨some 17,.call ⟨.value (.func 234),#[.tmp 16],#[274]⟩,none⟩,⟨some 4,.assign (.tmp 17),none⟩]) .ret))
@[simp] theorem x200_s {C e s K} : type_of% (@X_at C e s K _ _ x200.eq_1) := X_at x200.eq_1
def an200 : Ann := ⟨[(2, .mixz 8)], [], []⟩
@[simp] theorem an200_a : an200.clsOf 2 = .mixz 8 ∧ an200.frzOf 2 = [] := ⟨rfl, rfl⟩
theorem fi200 : FI Try.prog 200 (cxA an200) x200 [.tmp 4] Try.f200 := fiA Try.func200 mixed
theorem less_bag (l : List Fm) (hl : l.length ≤ 100000) (f : Fm) (hf : f ∈ l) : CallOK Try.prog 200 [.list (l.map frm), .agg (frm f)] [] (.list ((l.erase f).map frm)) [] := by
 have h := index_bag l (by omega) f
 rcases placeP_iff l f with ⟨_, h2, h3⟩ | ⟨h1, _⟩
 ·rw [h2] at h
  have hc := Concat_bag [l.take (l.idxOf f), l.drop (l.idxOf f + 1)] (by simp) (by simp; omega)
  rw [show [l.take (l.idxOf f), l.drop (l.idxOf f + 1)].flatten = l.erase f from by rw [List.erase_eq_eraseIdx_of_idxOf rfl, List.eraseIdx_eq_take_drop_succ]; simp] at hc
  generalize l.erase f = L at *
  generalize l.idxOf f = i at *
  simp only [List.map_cons, List.map_nil, List.map_take, List.map_drop] at hc
  refine fi200.op ?_
  ((refine Sg.h ?_); try repeat' ((first | (with_reducible first | refine brA ?_ | refine brE fun _ => ?_ | (refine spl ⟨?_, ?_⟩ <;> intro _)) | refine clo h ?_ | refine clo hc ?_) <;> ((try simp -implicitDefEqProofs [h3]); (try simp -implicitDefEqProofs (disch := first | assumption | (try simp only [lens]); omega -splitDisjunctions) [h3]))))
 ·exact absurd hf h1
def x206 : XC := .seq (.reg [⟨some 4,.assign (.const (.slice none 0 0)),none⟩]) (.seq (.reg [⟨some 5,.move (.tmp 0),none⟩,⟨some 6,.move (.tmp 1),none⟩,⟨some 7,.buildSlice 274 2 #[(0,.tmp 5),(1,.tmp 6)],none⟩,⟨some 8,.call ⟨.value (.func 234),#[.tmp 7],#[274]⟩,none⟩,⟨some 4,.assign (.tmp 8),none⟩]) .ret)
@[simp] theorem x206_s {C e s K} : type_of% (@X_at C e s K _ _ x206.eq_1) := X_at x206.eq_1
def an206 : Ann := ⟨[], [], []⟩
theorem fi206 : FI Try.prog 206 (cxA an206) x206 [.tmp 4] Try.f206 := fiA Try.func206 mixed
theorem more_bag (l m : List Fm) (hl : l.length ≤ 100000) (hm : m.length ≤ 100000) : CallOK Try.prog 206 [.list (l.map frm), .list (m.map frm)] [] (.list ((l ++ m).map frm)) [] := by
 have h := Concat_bag [l, m] (by simp) (by simp; omega)
 rw [show [l, m].flatten = l ++ m from by simp] at h
 refine fi206.op ?_
 ((refine Sg.h ?_); try repeat' ((first | (with_reducible first | refine brA ?_ | refine brE fun _ => ?_ | (refine spl ⟨?_, ?_⟩ <;> intro _))) <;> ((try simp -implicitDefEqProofs); (try simp -implicitDefEqProofs (disch := first | assumption | (try simp only [lens]); omega -splitDisjunctions)))))
 refine CL.giv [0] ?_
 ((refine Sg.h ?_); try repeat' ((first | (with_reducible first | refine brA ?_ | refine brE fun _ => ?_ | (refine spl ⟨?_, ?_⟩ <;> intro _)) | refine clo h ?_) <;> ((try simp -implicitDefEqProofs); (try simp -implicitDefEqProofs (disch := first | assumption | (try simp only [lens]); omega -splitDisjunctions)))))
def x203 : XC := .seq (.reg [⟨some 3,.box 59 (.tmp 0),none⟩,⟨some 6,.assign (.const (.bool false)),none⟩]) (.seq (.reg [⟨some 7,.fieldAddr 59 (.tmp 3) 0,none⟩,⟨some 8,.load 3 (.tmp 7),none⟩,⟨some 9,.move (.tmp 1),none⟩,⟨some 10,.binOp .eql 3 (.tmp 8) (.tmp 9) 3,none⟩,⟨some 11,.move (.tmp 10),none⟩,⟨some 12,.move (.tmp 2),some (some 11,true)⟩,⟨some 13,.load 59 (.tmp 3),some (some 11,true)⟩,⟨some 14,.call ⟨.value (.func 199),#[.tmp 12,.tmp 13],#[226,59]⟩,some (some 11,true)⟩,⟨some 15,.pick (.tmp 11) (.tmp 14) (.const (.bool false)),none⟩,⟨some 6,.assign (.tmp 15),none⟩]) .ret)
@[simp] theorem x203_s {C e s K} : type_of% (@X_at C e s K _ _ x203.eq_1) := X_at x203.eq_1
def an203 : Ann := ⟨[], [], []⟩
theorem fi203 : FI Try.prog 203 (cxA an203) x203 [.tmp 6] Try.f203 := fiA Try.func203 mixed
theorem kind_calculus (f : Fm) (k : Int) (l : List Fm) (hl : l.length ≤ 100000) : CallOK Try.prog 203 [.agg (frm f), .int .i64 k, .list (l.map frm)] [] (.bool (decide (f.kind = k) && hasF l f)) [] := by
 have h := has_bag l (by omega) f
 refine fi203.op ?_
 by_cases hk : f.kind = k
 ·((refine Sg.h ?_); try repeat' ((first | (with_reducible first | refine brA ?_ | refine brE fun _ => ?_ | (refine spl ⟨?_, ?_⟩ <;> intro _)) | refine clo h ?_) <;> ((try simp -implicitDefEqProofs [hk]); (try simp -implicitDefEqProofs (disch := first | assumption | (try simp only [lens]); omega -splitDisjunctions) [hk]))))
 ·((refine Sg.h ?_); try repeat' ((first | (with_reducible first | refine brA ?_ | refine brE fun _ => ?_ | (refine spl ⟨?_, ?_⟩ <;> intro _)) | refine clo h ?_) <;> ((try simp -implicitDefEqProofs [hk]); (try simp -implicitDefEqProofs (disch := first | assumption | (try simp only [lens]); omega -splitDisjunctions) [hk]))))
end Go.Proofs.Ytkadceiolddmhaa
