import Derived.Test.YtcllmionhlmjfaaFPvRec
import Derived.Test.YtcllmionhlmjfaaFFormA
set_option linter.unusedVariables false
set_option linter.unusedSimpArgs false
set_option maxRecDepth 100000
set_option maxHeartbeats 4000000
namespace Go.Proofs.Ytcllmionhlmjfaa
open Go Go.Pv
def rd (t : ByteArray) (i : Nat) : PObj := .rows 2 [[.str t, .int .i64 (i : Int)]]
attribute [simp] rd
def isBl (c : UInt8) : Bool := c.toNat == 32 || c.toNat == 10
def blk (t : ByteArray) : Nat → Nat → Nat
 | 0, i => i
 | n + 1, i => if h : i < t.size then (if isBl t[i] = true then blk t n (i + 1) else i) else i
def bl (t : ByteArray) (i : Nat) : Nat := blk t (t.size - i) i
theorem bl_end {t : ByteArray} {i : Nat} (h : ¬ i < t.size) : bl t i = i := by
 unfold bl; rw [show t.size - i = 0 by omega]; rfl
theorem bl_stop {t : ByteArray} {i : Nat} (h : i < t.size) (hb : isBl t[i] = false) : bl t i = i := by
 unfold bl; rw [show t.size - i = (t.size - (i + 1)) + 1 by omega, blk, dif_pos h, if_neg (by simp [hb])]
theorem bl_step {t : ByteArray} {i : Nat} (h : i < t.size) (hb : isBl t[i] = true) : bl t i = bl t (i + 1) := by
 unfold bl; rw [show t.size - i = (t.size - (i + 1)) + 1 by omega, blk, dif_pos h, if_pos hb]
theorem blk_le (t : ByteArray) : ∀ n i, i ≤ blk t n i ∧ (i ≤ t.size → blk t n i ≤ t.size)
 | 0, i => ⟨Nat.le_refl _, id⟩
 | n + 1, i => by
  unfold blk
  split
  ·split
   ·have := blk_le t n (i + 1); exact ⟨by omega, fun _ => this.2 (by omega)⟩
   ·exact ⟨Nat.le_refl _, id⟩
  ·exact ⟨Nat.le_refl _, id⟩
theorem bl_ge (t : ByteArray) (i : Nat) : i ≤ bl t i := (blk_le t _ i).1
theorem bl_le {t : ByteArray} {i : Nat} (h : i ≤ t.size) : bl t i ≤ t.size := (blk_le t _ i).2 h
def x57_L0 : XC := .seq (.seq (.drawn 0 [⟨some 2,.move (.tmp 0),none⟩,⟨some 3,.nilCheck (.tmp 2),none⟩,⟨some 4,.fieldAddr 85 (.tmp 3) 1,none⟩,⟨some 5,.load 3 (.tmp 4),none⟩,⟨some 6,.move (.tmp 0),none⟩,⟨some 7,.nilCheck (.tmp 6),none⟩,⟨some 8,.fieldAddr 85 (.tmp 7) 0,none⟩,⟨some 9,.load 9 (.tmp 8),none⟩,⟨some 10,.call ⟨.builtin .len,#[.tmp 9],#[9]⟩,none⟩,⟨some 11,.binOp .lss 3 (.tmp 5) (.tmp 10) 3,none⟩,⟨some 12,.move (.tmp 11),none⟩,⟨some 13,.move (.tmp 0),some (some 12,true)⟩,⟨some 14,.nilCheck (.tmp 13),some (some 12,true)⟩,⟨some 15,.fieldAddr 85 (.tmp 14) 0,some (some 12,true)⟩,⟨some 16,.load 9 (.tmp 15),some (some 12,true)⟩,⟨some 17,.move (.tmp 0),some (some 12,true)⟩,⟨some 18,.nilCheck (.tmp 17),some (some 12,true)⟩,⟨some 19,.fieldAddr 85 (.tmp 18) 1,some (some 12,true)⟩,⟨some 20,.load 3 (.tmp 19),some (some 12,true)⟩,⟨some 21,.index 9 (.tmp 16) (.tmp 20),some (some 12,true)⟩,⟨some 22,.binOp .eql 5 (.tmp 21) (.const (.int .u8 32)) 5,some (some 12,true)⟩,⟨some 23,.move (.tmp 22),some (some 12,true)⟩,⟨some 24,.move (.tmp 0),some (some 23,false)⟩,⟨some 25,.nilCheck (.tmp 24),some (some 23,false)⟩,⟨some 26,.fieldAddr 85 (.tmp 25) 0,some (some 23,false)⟩,⟨some 27,.load 9 (.tmp 26),some (some 23,false)⟩,⟨some 28,.move (.tmp 0),some (some 23,false)⟩,⟨some 29,.nilCheck (.tmp 28),some (some 23,false)⟩,⟨some 30,.fieldAddr 85 (.tmp 29) 1,some (some 23,false)⟩,⟨some 31,.load 3 (.tmp 30),some (some 23,false)⟩,⟨some 32,.index 9 (.tmp 27) (.tmp 31),some (some 23,false)⟩,⟨some 33,.binOp .eql 5 (.tmp 32) (.const (.int .u8 10)) 5,some (some 23,false)⟩,⟨some 34,.pick (.tmp 23) (.const (.bool true)) (.tmp 33),some (some 12,true)⟩,⟨some 35,.pick (.tmp 12) (.tmp 34) (.const (.bool false)),none⟩]) (.cond (.tmp 35) .skip (.exit 0))) (.block 1 (.reg [⟨some 36,.move (.tmp 0),none⟩,⟨some 37,.nilCheck (.tmp 36),none⟩,⟨some 38,.fieldAddr 85 (.tmp 37) 1,none⟩,⟨some 39,.load 3 (.tmp 38),none⟩,⟨some 40,.binOp .add 3 (.tmp 39) (.const (.int .i64 1)) 3,none⟩,⟨some 41,.nilCheck (.tmp 36),none⟩,⟨some 42,.fieldAddr 85 (.tmp 41) 1,none⟩,⟨none,.store 3 (.tmp 42) (.tmp 40),none⟩]))
def x57 : XC := .bloop 0 x57_L0
@[simp] theorem x57_s {C e s K} : type_of% (@X_at C e s K _ _ x57_L0.eq_1) ∧ type_of% (@X_at C e s K _ _ x57.eq_1) := ⟨X_at x57_L0.eq_1, X_at x57.eq_1⟩
def an57 : Ann := ⟨[(0, .mix 30)], [(0, [], [0], [])], []⟩
@[simp] theorem an57_a : an57.clsOf 0 = .mix 30 ∧ an57.frzOf 0 = [] ∧ an57.loopOf 0 = ([], [0], []) := ⟨rfl, rfl, rfl⟩
theorem fi57 : FI Try.prog 57 (cxA an57) x57 [] Try.f57 := fiA Try.func57 mixed
theorem blanks_reader (t : ByteArray) (i : Nat) (hs : t.size ≤ 1000000) (hi : i ≤ t.size) : CallOK Try.prog 57 [.ptr 0 0 0] [rd t i] (.tuple []) [rd t (bl t i)] := by
 refine fi57.og ?_
 unfold rd
 ((refine Sg.h ?_); try repeat' ((first | (with_reducible first | refine brA ?_ | refine brE fun _ => ?_ | (refine spl ⟨?_, ?_⟩ <;> intro _))) <;> ((try simp -implicitDefEqProofs); (try simp -implicitDefEqProofs (disch := first | assumption | (try simp only [lens]); omega -splitDisjunctions)))))
 refine W_of fun Q hQ => ?_
 have main : ∀ r k, t.size - k = r → k ≤ t.size → bl t k = bl t i → Q [(0, .ptr 0 0 0)] [.rows 2 [[.str t, .int .i64 (k : Int)]]] := by
  intro r
  induction r with
  | zero =>
   intro k hi hs he
   obtain rfl : k = t.size := by omega
   have hb := bl_end (t := t) (i := t.size) (by omega)
   rw [hb] at he
   rw [← he] at hQ
   apply hQ
   clear hQ
   ((refine Sg.h ?_); try repeat' ((first | (with_reducible first | refine brA ?_ | refine brE fun _ => ?_ | (refine spl ⟨?_, ?_⟩ <;> intro _))) <;> ((try simp -implicitDefEqProofs); (try simp -implicitDefEqProofs (disch := first | assumption | (try simp only [lens]); omega -splitDisjunctions)))))
  | succ r ih =>
   intro k hi hs he
   have hlt : k < t.size := by omega
   cases hb : isBl t[k] with
   | false =>
    have hst := bl_stop hlt hb
    rw [hst] at he
    rw [← he] at hQ
    simp only [isBl, Bool.or_eq_false_iff, beq_eq_false_iff_ne] at hb
    clear ih
    apply hQ
    clear hQ
    ((refine Sg.h ?_); try repeat' ((first | (with_reducible first | refine brA ?_ | refine brE fun _ => ?_ | (refine spl ⟨?_, ?_⟩ <;> intro _))) <;> ((try simp -implicitDefEqProofs [hlt]); (try simp -implicitDefEqProofs (disch := first | assumption | (try simp only [lens]); omega -splitDisjunctions) [hlt]))))
    all_goals omega
   | true =>
    have ih := ih (k + 1) (by omega) (by omega) (by rw [← bl_step hlt hb, he])
    have ih' : Q [(0, .ptr 0 0 0)] [.rows 2 [[.str t, .int .i64 ((k : Int) + 1)]]] := at2 ih rfl (by simp)
    clear ih he
    simp only [isBl, Bool.or_eq_true, beq_iff_eq] at hb
    apply hQ
    clear hQ
    ((refine Sg.h ?_); try repeat' ((first | (with_reducible first | refine brA ?_ | refine brE fun _ => ?_ | (refine spl ⟨?_, ?_⟩ <;> intro _))) <;> ((try simp -implicitDefEqProofs [hlt]); (try simp -implicitDefEqProofs (disch := first | assumption | (try simp only [lens]); omega -splitDisjunctions) [hlt]))))
    all_goals first | exact ih' | omega
 all_goals first | exact main _ i rfl hi rfl | (refine at2 main _ i rfl hi rfl ?_ ?_ <;> simp; done) | (exfalso; first | omega | (simp_all; done) | (simp_all; omega))
def hp (t : ByteArray) (i : Nat) (w : ByteArray) : Bool := decide (i + w.size ≤ t.size ∧ t.extract i (i + w.size) = w)
theorem ext_ext (t : ByteArray) (i n : Nat) (h : i + n ≤ t.size) : (t.extract i t.size).extract 0 n = t.extract i (i + n) := by
 rw [ByteArray.extract_extract, Nat.add_zero, Nat.min_eq_left (by omega)]
def x129 : XC := .seq (.reg [⟨some 4,.assign (.const (.bool false)),none⟩]) (.seq (.reg [⟨some 5,.move (.tmp 0),none⟩,⟨some 6,.call ⟨.builtin .len,#[.tmp 5],#[9]⟩,none⟩,⟨some 7,.move (.tmp 1),none⟩,⟨some 8,.call ⟨.builtin .len,#[.tmp 7],#[9]⟩,none⟩,⟨some 9,.binOp .geq 3 (.tmp 6) (.tmp 8) 3,none⟩,⟨some 10,.move (.tmp 9),none⟩,⟨some 11,.move (.tmp 0),some (some 10,true)⟩,⟨some 12,.move (.tmp 1),some (some 10,true)⟩,⟨some 13,.call ⟨.builtin .len,#[.tmp 12],#[9]⟩,some (some 10,true)⟩,⟨some 14,.slice 9 (.tmp 11) none (some (.tmp 13)) none,some (some 10,true)⟩,⟨some 15,.move (.tmp 1),some (some 10,true)⟩,⟨some 16,.binOp .eql 9 (.tmp 14) (.tmp 15) 9,some (some 10,true)⟩,⟨some 17,.pick (.tmp 10) (.tmp 16) (.const (.bool false)),none⟩,⟨some 4,.assign (.tmp 17),none⟩]) .ret)
@[simp] theorem x129_s {C e s K} : type_of% (@X_at C e s K _ _ x129.eq_1) := X_at x129.eq_1
def an129 : Ann := ⟨[], [], []⟩
theorem fi129 : FI Try.prog 129 (cxA an129) x129 [.tmp 4] Try.f129 := fiA Try.func129 mixed
def x107 : XC := .seq (.reg [⟨some 4,.assign (.const (.bool false)),none⟩]) (.seq (.reg [⟨some 5,.move (.tmp 0),none⟩,⟨some 6,.move (.tmp 1),none⟩,⟨some 7,.call ⟨.value (.func 129),#[.tmp 5,.tmp 6],#[9,9]⟩,none⟩,⟨some 4,.assign (.tmp 7),none⟩]) .ret)
@[simp] theorem x107_s {C e s K} : type_of% (@X_at C e s K _ _ x107.eq_1) := X_at x107.eq_1
def an107 : Ann := ⟨[], [], []⟩
theorem fi107 : FI Try.prog 107 (cxA an107) x107 [.tmp 4] Try.f107 := fiA Try.func107 mixed
theorem HasPrefix_lite (a w : ByteArray) : CallOK Try.prog 129 [.str a, .str w] [] (.bool (decide (w.size ≤ a.size ∧ a.extract 0 w.size = w))) [] := by
 refine fi129.op ?_
 by_cases h : w.size ≤ a.size
 ·have h' : (w.size : Int) ≤ (a.size : Int) := by omega
  ((refine Sg.h ?_); try repeat' ((first | (with_reducible first | refine brA ?_ | refine brE fun _ => ?_ | (refine spl ⟨?_, ?_⟩ <;> intro _))) <;> ((try simp -implicitDefEqProofs [h, h']); (try simp -implicitDefEqProofs (disch := first | assumption | (try simp only [lens]); omega -splitDisjunctions) [h, h']))))
 ·have h' : ¬ (w.size : Int) ≤ (a.size : Int) := by omega
  ((refine Sg.h ?_); try repeat' ((first | (with_reducible first | refine brA ?_ | refine brE fun _ => ?_ | (refine spl ⟨?_, ?_⟩ <;> intro _))) <;> ((try simp -implicitDefEqProofs [h, h']); (try simp -implicitDefEqProofs (disch := first | assumption | (try simp only [lens]); omega -splitDisjunctions) [h, h']))))
theorem HasPrefix_strings (a w : ByteArray) : CallOK Try.prog 107 [.str a, .str w] [] (.bool (decide (w.size ≤ a.size ∧ a.extract 0 w.size = w))) [] := by
 have h := HasPrefix_lite a w
 generalize decide (w.size ≤ a.size ∧ a.extract 0 w.size = w) = b at *
 refine fi107.op ?_
 ((refine Sg.h ?_); try repeat' ((first | (with_reducible first | refine brA ?_ | refine brE fun _ => ?_ | (refine spl ⟨?_, ?_⟩ <;> intro _)) | refine clo h ?_) <;> ((try simp -implicitDefEqProofs); (try simp -implicitDefEqProofs (disch := first | assumption | (try simp only [lens]); omega -splitDisjunctions)))))
theorem hp_ext {t w : ByteArray} {i : Nat} (hi : i ≤ t.size) : decide (w.size ≤ (t.extract i t.size).size ∧ (t.extract i t.size).extract 0 w.size = w) = hp t i w := by
 unfold hp
 rw [decide_eq_decide]
 have hs : (t.extract i t.size).size = t.size - i := by simp
 rw [hs]
 constructor
 ·rintro ⟨h1, h2⟩
  have h3 : i + w.size ≤ t.size := by omega
  exact ⟨h3, by rw [← ext_ext t i w.size h3]; exact h2⟩
 ·rintro ⟨h1, h2⟩
  exact ⟨by omega, by rw [ext_ext t i w.size h1]; exact h2⟩
def mayN (t : ByteArray) (i : Nat) (w : ByteArray) : Nat := if hp t (bl t i) w = true then bl t i + w.size else bl t i
def x81 : XC := .seq (.reg [⟨some 4,.assign (.const (.bool false)),none⟩]) (.seq (.reg [⟨some 5,.move (.tmp 0),none⟩,⟨some 6,.call ⟨.value (.func 57),#[.tmp 5],#[83]⟩,none⟩]) (.seq (.seq (.drawn 2 [⟨some 7,.move (.tmp 0),none⟩,⟨some 8,.nilCheck (.tmp 7),none⟩,⟨some 9,.fieldAddr 85 (.tmp 8) 0,none⟩,⟨some 10,.load 9 (.tmp 9),none⟩,⟨some 11,.move (.tmp 0),none⟩,⟨some 12,.nilCheck (.tmp 11),none⟩,⟨some 13,.fieldAddr 85 (.tmp 12) 1,none⟩,⟨some 14,.load 3 (.tmp 13),none⟩,⟨some 15,.slice 9 (.tmp 10) (some (.tmp 14)) none none,none⟩,⟨some 16,.move (.tmp 1),none⟩,⟨some 17,.call ⟨.value (.func 107),#[.tmp 15,.tmp 16],#[9,9]⟩,none⟩]) (.cond (.tmp 17) (.seq (.reg [⟨some 18,.move (.tmp 0),none⟩,⟨some 19,.nilCheck (.tmp 18),none⟩,⟨some 20,.fieldAddr 85 (.tmp 19) 1,none⟩,⟨some 21,.load 3 (.tmp 20),none⟩,⟨some 22,.move (.tmp 1),none⟩,⟨some 23,.call ⟨.builtin .len,#[.tmp 22],#[9]⟩,none⟩,⟨some 24,.binOp .add 3 (.tmp 21) (.tmp 23) 3,none⟩,⟨some 25,.nilCheck (.tmp 18),none⟩,⟨some 26,.fieldAddr 85 (.tmp 25) 1,none⟩,⟨none,.store 3 (.tmp 26) (.tmp 24),none⟩]) (.seq (.reg [⟨some 4,.assign (.const (.bool true)),none⟩]) .ret)) .skip)) (.seq (.reg [⟨some 4,.assign (.const (.bool false)),none⟩]) .ret)))
@[simp] theorem x81_s {C e s K} : type_of% (@X_at C e s K _ _ x81.eq_1) := X_at x81.eq_1
def an81 : Ann := ⟨[], [], []⟩
@[simp] theorem an81_a : an81.clsOf 2 = .draw ∧ an81.frzOf 2 = [] := ⟨rfl, rfl⟩
theorem fi81 : FI Try.prog 81 (cxA an81) x81 [.tmp 4] Try.f81 := fiA Try.func81 mixed
theorem may_reader (t : ByteArray) (i : Nat) (w : ByteArray) (hs : t.size ≤ 1000000) (hi : i ≤ t.size) (hw : w.size ≤ 1000) : CallOK Try.prog 81 [.ptr 0 0 0, .str w] [rd t i] (.bool (hp t (bl t i) w)) [rd t (mayN t i w)] := by
 have h1 := blanks_reader t i hs hi
 have h2 := HasPrefix_strings (t.extract (bl t i) t.size) w
 have hb := bl_le hi
 rw [hp_ext hb] at h2
 refine fi81.og ?_
 unfold mayN
 generalize bl t i = k at *
 unfold rd at *
 cases hh : hp t k w with
 | false =>
  rw [hh] at h2
  ((refine Sg.h ?_); try repeat' ((first | (with_reducible first | refine brA ?_ | refine brE fun _ => ?_ | (refine spl ⟨?_, ?_⟩ <;> intro _))) <;> ((try simp -implicitDefEqProofs); (try simp -implicitDefEqProofs (disch := first | assumption | (try simp only [lens]); omega -splitDisjunctions)))))
  refine CL.of h1 ?_
  ((refine Sg.h ?_); try repeat' ((first | (with_reducible first | refine brA ?_ | refine brE fun _ => ?_ | (refine spl ⟨?_, ?_⟩ <;> intro _)) | refine clo h2 ?_) <;> ((try simp -implicitDefEqProofs [hb]); (try simp -implicitDefEqProofs (disch := first | assumption | (try simp only [lens]); omega -splitDisjunctions) [hb]))))
 | true =>
  have h3 : k + w.size ≤ t.size := by simp [hp] at hh; exact hh.1
  rw [hh] at h2
  ((refine Sg.h ?_); try repeat' ((first | (with_reducible first | refine brA ?_ | refine brE fun _ => ?_ | (refine spl ⟨?_, ?_⟩ <;> intro _))) <;> ((try simp -implicitDefEqProofs); (try simp -implicitDefEqProofs (disch := first | assumption | (try simp only [lens]); omega -splitDisjunctions)))))
  refine CL.of h1 ?_
  ((refine Sg.h ?_); try repeat' ((first | (with_reducible first | refine brA ?_ | refine brE fun _ => ?_ | (refine spl ⟨?_, ?_⟩ <;> intro _)) | refine clo h2 ?_) <;> ((try simp -implicitDefEqProofs [hb]); (try simp -implicitDefEqProofs (disch := first | assumption | (try simp only [lens]); omega -splitDisjunctions) [hb]))))
end Go.Proofs.Ytcllmionhlmjfaa
