/-
  sequentref.InClass, told without memory.
-/
import Derived.Test.YtbmpmmbcfabeeaaTrU
namespace Go.Proofs.Ytbmpmmbcfabeeaa
open Go Go.Pv
set_option linter.unusedVariables false
set_option linter.unusedSimpArgs false
set_option maxRecDepth 100000
set_option maxHeartbeats 4000000

/-- of r places from k on, each -/
def allF (P : Nat → Bool) : Nat → Nat → Bool
  | 0, _ => true
  | r + 1, k => P k && allF P r (k + 1)
theorem allF_iff (P : Nat → Bool) : ∀ r k, allF P r k = true ↔ ∀ j, j < r → P (k + j) = true
  | 0, k => by simp [allF]
  | r + 1, k => by
    rw [allF, Bool.and_eq_true, allF_iff P r]
    constructor
    · intro h j hj
      cases j with
      | zero => exact h.1
      | succ j => have := h.2 j (by omega); rwa [show k + 1 + j = k + (j + 1) by omega] at this
    · intro h
      refine ⟨h 0 (by omega), fun j hj => ?_⟩
      have := h (j + 1) (by omega); rwa [show k + (j + 1) = k + 1 + j by omega] at this
theorem allF0 (P : Nat → Bool) (r : Nat) : allF P r 0 = true ↔ ∀ j, j < r → P j = true := by rw [allF_iff]; simp
def c3 (B : List Bool) (k m : Nat) : Bool := !(decide (k &&& m = k) && gB B k && !gB B m)
def vS (c x : Nat) : Nat → Nat
  | 0 => c
  | i + 1 => vS c x i + if x.testBit i = true then 1 else 0
def okS (B : List Bool) (n s c : Nat) : Nat → Bool
  | 0 => true
  | k + 1 => okS B n s c k && (decide (vS c (s &&& k) n % 2 = 1) == gB B k)
theorem okS_iff (B : List Bool) (n s c : Nat) : ∀ k, okS B n s c k = true ↔ ∀ j, j < k → decide (vS c (s &&& j) n % 2 = 1) = gB B j
  | 0 => by simp [okS]
  | k + 1 => by
    rw [okS, Bool.and_eq_true, okS_iff B n s c k, beq_iff_eq]
    constructor
    · intro h j hj
      by_cases e : j = k
      · subst e; exact h.2
      · exact h.1 j (by omega)
    · intro h; exact ⟨fun j hj => h j (by omega), h k (by omega)⟩
def r2 (B : List Bool) (M : Nat) : Bool := allF (fun k => gB B k != gB B (M - 1 - k)) M 0
def r3 (B : List Bool) (M : Nat) : Bool := allF (fun k => allF (c3 B k) M 0) M 0
def r4 (B : List Bool) (n M : Nat) : Bool := !allF (fun s => allF (fun c => !okS B n s c M) 2 0) M 0
section
variable {B : List Bool} {n : Nat}
theorem r2_eq : r2 B (2 ^ n) = cD B n (2 ^ n) := by
  rw [Bool.eq_iff_iff]
  unfold r2
  rw [allF0, clD_iff]
  constructor
  · intro h k hk e
    have := h k hk; rw [e] at this; simp at this
  · intro h k hk
    have := h k hk
    generalize gB B (2 ^ n - 1 - k) = a at *
    generalize gB B k = b at *
    cases a <;> cases b <;> simp_all
theorem and_sub {k m : Nat} : k &&& m = k ↔ ∀ i, k.testBit i = true → m.testBit i = true := by
  constructor
  · intro h i hi
    rw [← h, Nat.testBit_and, Bool.and_eq_true] at hi; exact hi.2
  · intro h
    refine Nat.eq_of_testBit_eq fun i => ?_
    rw [Nat.testBit_and]
    cases hk : k.testBit i with
    | false => rfl
    | true => rw [h i hk]; rfl
theorem r3_eq : r3 B (2 ^ n) = cM B n (2 ^ n) := by
  rw [Bool.eq_iff_iff]
  unfold r3
  rw [allF0, clM_iff]
  constructor
  · intro h k i hk hi hb hg
    have := (allF0 _ _).1 (h k hk) (k ||| 2 ^ i) (Nat.or_lt_two_pow hk (Nat.pow_lt_pow_right (by decide) hi))
    unfold c3 at this
    rw [decide_eq_true (and_sub.2 fun j hj => by rw [or_bit, hj]; rfl), hg] at this
    simpa using this
  · intro h k hk
    refine (allF0 _ _).2 fun m hm => ?_
    unfold c3
    cases hx : (decide (k &&& m = k) && gB B k && !gB B m) with
    | false => rfl
    | true =>
      simp only [Bool.and_eq_true, decide_eq_true_eq, Bool.not_eq_true'] at hx
      have := mono_full h _ k m hk hm (and_sub.1 hx.1.1) rfl hx.1.2
      rw [hx.2] at this; cases this
theorem par_add (a : Nat) (b : Bool) : decide ((a + if b = true then 1 else 0) % 2 = 1) = (decide (a % 2 = 1) != b) := by
  have : a % 2 = 0 ∨ a % 2 = 1 := by omega
  cases b with
  | false => simp
  | true =>
    rw [if_pos rfl]
    rcases this with h | h
    · rw [h, show (a + 1) % 2 = 1 by omega]; rfl
    · rw [h, show (a + 1) % 2 = 0 by omega]; rfl
/-- a number with such bits -/
theorem with_bits (P : Nat → Bool) : ∀ n : Nat, ∃ s, s < 2 ^ n ∧ ∀ i, i < n → s.testBit i = P i := by
  intro n
  induction n with
  | zero => exact ⟨0, by simp, fun i hi => by omega⟩
  | succ n ih =>
    obtain ⟨s, hs, h⟩ := ih
    cases hp : P n with
    | false =>
      refine ⟨s, by rw [Nat.pow_succ]; omega, fun i hi => ?_⟩
      by_cases e : i = n
      · subst e; rw [hp, Nat.testBit_lt_two_pow hs]
      · exact h i (by omega)
    | true =>
      refine ⟨s + 2 ^ n, by rw [Nat.pow_succ]; omega, fun i hi => ?_⟩
      rw [add_bit hs]
      by_cases e : i = n
      · subst e; rw [if_pos rfl, hp]
      · rw [if_neg e]; exact h i (by omega)
theorem par_lin {s c : Nat} (h0 : decide (c % 2 = 1) = gB B 0) (hs : ∀ i, i < n → s.testBit i = (gB B (2 ^ i) != gB B 0)) (k : Nat) : ∀ i, i ≤ n → decide (vS c (s &&& k) i % 2 = 1) = linS B k i := by
  intro i
  induction i with
  | zero => intro _; exact h0
  | succ i ih =>
    intro hi
    rw [vS, linS, par_add, ih (by omega), Nat.testBit_and, hs i (by omega)]
    cases k.testBit i <;> simp
theorem vS_zero (c : Nat) : ∀ n, vS c 0 n = c
  | 0 => rfl
  | n + 1 => by rw [vS, vS_zero c n]; simp
theorem vS_one (c s j : Nat) : ∀ n, vS c (s &&& 2 ^ j) n = c + if j < n ∧ s.testBit j = true then 1 else 0
  | 0 => by simp [vS]
  | n + 1 => by
    rw [vS, vS_one c s j n, Nat.testBit_and, Nat.testBit_two_pow]
    by_cases e : j = n
    · subst e; cases s.testBit j <;> simp
    · by_cases h1 : j < n
      · simp [e, h1, show j < n + 1 by omega]
      · simp [e, h1, show ¬ j < n + 1 by omega]
theorem r4_eq : r4 B n (2 ^ n) = cL B n (2 ^ n) := by
  rw [Bool.eq_iff_iff, clL_iff]
  have hr : r4 B n (2 ^ n) = true ↔ ∃ s c, s < 2 ^ n ∧ c < 2 ∧ okS B n s c (2 ^ n) = true := by
    unfold r4
    constructor
    · intro h
      refine Classical.byContradiction fun g => ?_
      rw [Bool.not_eq_true', Bool.eq_false_iff] at h
      refine h ((allF0 _ _).2 fun s hs => (allF0 _ _).2 fun c hc => ?_)
      cases hx : okS B n s c (2 ^ n) with
      | false => rfl
      | true => exact absurd ⟨s, c, hs, hc, hx⟩ g
    · rintro ⟨s, c, hs, hc, h⟩
      rw [Bool.not_eq_true', Bool.eq_false_iff]
      intro g
      have := (allF0 _ _).1 ((allF0 _ _).1 g s hs) c hc
      rw [h] at this; cases this
  rw [hr]
  constructor
  · rintro ⟨s, c, hs, hc, h⟩ k hk
    rw [okS_iff] at h
    have h0 := h 0 (Nat.two_pow_pos n)
    rw [Nat.and_zero, vS_zero] at h0
    rw [← par_lin h0 (fun i hi => ?_) k n (Nat.le_refl _)]
    · exact h k hk
    · rw [← h (2 ^ i) (Nat.pow_lt_pow_right (by decide) hi), vS_one, ← h0]
      cases hb : s.testBit i with
      | false => simp
      | true =>
        have := par_add c true
        rw [if_pos rfl] at this
        rw [if_pos ⟨hi, rfl⟩, this]
        cases decide (c % 2 = 1) <;> rfl
  · intro h
    obtain ⟨s, hs, hb⟩ := with_bits (fun i => gB B (2 ^ i) != gB B 0) n
    have key : ∀ c, c < 2 → decide (c % 2 = 1) = gB B 0 → ∃ s c, s < 2 ^ n ∧ c < 2 ∧ okS B n s c (2 ^ n) = true := fun c hc h0 =>
      ⟨s, c, hs, hc, (okS_iff _ _ _ _ _).2 fun k hk => by rw [par_lin h0 hb k n (Nat.le_refl _)]; exact h k hk⟩
    cases h0 : gB B 0 with
    | false => exact key 0 (by decide) (by rw [h0]; rfl)
    | true => exact key 1 (by decide) (by rw [h0]; rfl)
end
def x29_T9 : XC := .seq (.reg [⟨some 128,.move (.tmp 11),none⟩]) (.cond (.tmp 128) (.seq (.reg [⟨some 4,.assign (.const (.bool true)),none⟩]) (.ret)) (.skip))
def x29_T8 : XC := .reg [⟨some 116,.move (.tmp 11),none⟩,⟨some 117,.move (.tmp 116),none⟩,⟨some 118,.move (.tmp 13),some (some 117,true)⟩,⟨some 119,.binOp .rem 3 (.tmp 118) (.const (.int .i64 2)) 3,some (some 117,true)⟩,⟨some 120,.binOp .eql 3 (.tmp 119) (.const (.int .i64 1)) 3,some (some 117,true)⟩,⟨some 121,.fieldAddr 48 (.tmp 2) 1,some (some 117,true)⟩,⟨some 122,.load 46 (.tmp 121),some (some 117,true)⟩,⟨some 123,.move (.tmp 12),some (some 117,true)⟩,⟨some 124,.indexAddr 46 (.tmp 122) (.tmp 123),some (some 117,true)⟩,⟨some 125,.load 4 (.tmp 124),some (some 117,true)⟩,⟨some 126,.binOp .eql 4 (.tmp 120) (.tmp 125) 4,some (some 117,true)⟩,⟨some 127,.pick (.tmp 117) (.tmp 126) (.const (.bool false)),none⟩,⟨some 11,.assign (.tmp 127),none⟩]
def x29_L13 : XC := .seq (.seq (.reg [⟨some 102,.move (.tmp 14),none⟩,⟨some 103,.fieldAddr 48 (.tmp 2) 0,none⟩,⟨some 104,.load 3 (.tmp 103),none⟩,⟨some 105,.binOp .lss 3 (.tmp 102) (.tmp 104) 3,none⟩]) (.cond (.tmp 105) (.skip) (.exit 13))) (.seq (.block 14 (.reg [⟨some 108,.move (.tmp 13),none⟩,⟨some 109,.move (.tmp 9),none⟩,⟨some 110,.move (.tmp 12),none⟩,⟨some 111,.binOp .and 3 (.tmp 109) (.tmp 110) 3,none⟩,⟨some 112,.move (.tmp 14),none⟩,⟨some 113,.binOp .shr 3 (.tmp 111) (.tmp 112) 3,none⟩,⟨some 114,.binOp .and 3 (.tmp 113) (.const (.int .i64 1)) 3,none⟩,⟨some 115,.binOp .add 3 (.tmp 108) (.tmp 114) 3,none⟩,⟨some 13,.assign (.tmp 115),none⟩])) (.reg [⟨some 106,.move (.tmp 14),none⟩,⟨some 107,.binOp .add 3 (.tmp 106) (.const (.int .i64 1)) 3,none⟩,⟨some 14,.assign (.tmp 107),none⟩]))
def x29_L11 : XC := .seq (.seq (.reg [⟨some 96,.move (.tmp 12),none⟩,⟨some 97,.move (.tmp 5),none⟩,⟨some 98,.binOp .lss 3 (.tmp 96) (.tmp 97) 3,none⟩]) (.cond (.tmp 98) (.skip) (.exit 11))) (.seq (.block 12 (.seq (.reg [⟨some 101,.move (.tmp 10),none⟩,⟨some 13,.assign (.tmp 101),none⟩]) (.seq (.seq (.reg [⟨some 14,.assign (.const (.int .i64 0)),none⟩]) (.bloop 13 x29_L13)) (x29_T8)))) (.reg [⟨some 99,.move (.tmp 12),none⟩,⟨some 100,.binOp .add 3 (.tmp 99) (.const (.int .i64 1)) 3,none⟩,⟨some 12,.assign (.tmp 100),none⟩]))
def x29_L9 : XC := .seq (.seq (.reg [⟨some 92,.move (.tmp 10),none⟩,⟨some 93,.binOp .lss 3 (.tmp 92) (.const (.int .i64 2)) 3,none⟩]) (.cond (.tmp 93) (.skip) (.exit 9))) (.seq (.block 10 (.seq (.reg [⟨some 11,.assign (.const (.bool true)),none⟩]) (.seq (.seq (.reg [⟨some 12,.assign (.const (.int .i64 0)),none⟩]) (.bloop 11 x29_L11)) (x29_T9)))) (.reg [⟨some 94,.move (.tmp 10),none⟩,⟨some 95,.binOp .add 3 (.tmp 94) (.const (.int .i64 1)) 3,none⟩,⟨some 10,.assign (.tmp 95),none⟩]))
def x29_L7 : XC := .seq (.seq (.reg [⟨some 87,.move (.tmp 9),none⟩,⟨some 88,.move (.tmp 5),none⟩,⟨some 89,.binOp .lss 3 (.tmp 87) (.tmp 88) 3,none⟩]) (.cond (.tmp 89) (.skip) (.exit 7))) (.seq (.block 8 (.seq (.reg [⟨some 10,.assign (.const (.int .i64 0)),none⟩]) (.bloop 9 x29_L9))) (.reg [⟨some 90,.move (.tmp 9),none⟩,⟨some 91,.binOp .add 3 (.tmp 90) (.const (.int .i64 1)) 3,none⟩,⟨some 9,.assign (.tmp 91),none⟩]))
def x29_T3 : XC := .seq (.seq (.reg [⟨some 9,.assign (.const (.int .i64 0)),none⟩]) (.bloop 7 x29_L7)) (.seq (.reg [⟨some 4,.assign (.const (.bool false)),none⟩]) (.ret))
def x29_L5 : XC := .seq (.seq (.reg [⟨some 62,.move (.tmp 8),none⟩,⟨some 63,.move (.tmp 5),none⟩,⟨some 64,.binOp .lss 3 (.tmp 62) (.tmp 63) 3,none⟩]) (.cond (.tmp 64) (.skip) (.exit 5))) (.seq (.block 6 (.seq (.reg [⟨some 67,.move (.tmp 7),none⟩,⟨some 68,.move (.tmp 8),none⟩,⟨some 69,.binOp .and 3 (.tmp 67) (.tmp 68) 3,none⟩,⟨some 70,.move (.tmp 7),none⟩,⟨some 71,.binOp .eql 3 (.tmp 69) (.tmp 70) 3,none⟩,⟨some 72,.move (.tmp 71),none⟩,⟨some 73,.fieldAddr 48 (.tmp 2) 1,some (some 72,true)⟩,⟨some 74,.load 46 (.tmp 73),some (some 72,true)⟩,⟨some 75,.move (.tmp 7),some (some 72,true)⟩,⟨some 76,.indexAddr 46 (.tmp 74) (.tmp 75),some (some 72,true)⟩,⟨some 77,.load 4 (.tmp 76),some (some 72,true)⟩,⟨some 78,.pick (.tmp 72) (.tmp 77) (.const (.bool false)),none⟩,⟨some 79,.move (.tmp 78),none⟩,⟨some 80,.fieldAddr 48 (.tmp 2) 1,some (some 79,true)⟩,⟨some 81,.load 46 (.tmp 80),some (some 79,true)⟩,⟨some 82,.move (.tmp 8),some (some 79,true)⟩,⟨some 83,.indexAddr 46 (.tmp 81) (.tmp 82),some (some 79,true)⟩,⟨some 84,.load 4 (.tmp 83),some (some 79,true)⟩,⟨some 85,.unOp .not 4 (.tmp 84),some (some 79,true)⟩,⟨some 86,.pick (.tmp 79) (.tmp 85) (.const (.bool false)),none⟩]) (.cond (.tmp 86) (.seq (.reg [⟨some 4,.assign (.const (.bool false)),none⟩]) (.ret)) (.skip)))) (.reg [⟨some 65,.move (.tmp 8),none⟩,⟨some 66,.binOp .add 3 (.tmp 65) (.const (.int .i64 1)) 3,none⟩,⟨some 8,.assign (.tmp 66),none⟩]))
def x29_L3 : XC := .seq (.seq (.reg [⟨some 57,.move (.tmp 7),none⟩,⟨some 58,.move (.tmp 5),none⟩,⟨some 59,.binOp .lss 3 (.tmp 57) (.tmp 58) 3,none⟩]) (.cond (.tmp 59) (.skip) (.exit 3))) (.seq (.block 4 (.seq (.reg [⟨some 8,.assign (.const (.int .i64 0)),none⟩]) (.bloop 5 x29_L5))) (.reg [⟨some 60,.move (.tmp 7),none⟩,⟨some 61,.binOp .add 3 (.tmp 60) (.const (.int .i64 1)) 3,none⟩,⟨some 7,.assign (.tmp 61),none⟩]))
def x29_L1 : XC := .seq (.seq (.reg [⟨some 36,.move (.tmp 6),none⟩,⟨some 37,.move (.tmp 5),none⟩,⟨some 38,.binOp .lss 3 (.tmp 36) (.tmp 37) 3,none⟩]) (.cond (.tmp 38) (.skip) (.exit 1))) (.seq (.block 2 (.seq (.drawn 11 [⟨some 41,.fieldAddr 48 (.tmp 2) 1,none⟩,⟨some 42,.load 46 (.tmp 41),none⟩,⟨some 43,.move (.tmp 6),none⟩,⟨some 44,.indexAddr 46 (.tmp 42) (.tmp 43),none⟩,⟨some 45,.load 4 (.tmp 44),none⟩,⟨some 46,.fieldAddr 48 (.tmp 2) 1,none⟩,⟨some 47,.load 46 (.tmp 46),none⟩,⟨some 48,.move (.tmp 5),none⟩,⟨some 49,.binOp .sub 3 (.tmp 48) (.const (.int .i64 1)) 3,none⟩,⟨some 50,.move (.tmp 6),none⟩,⟨some 51,.binOp .sub 3 (.tmp 49) (.tmp 50) 3,none⟩,⟨some 52,.indexAddr 46 (.tmp 47) (.tmp 51),none⟩,⟨some 53,.load 4 (.tmp 52),none⟩,⟨some 54,.binOp .eql 4 (.tmp 45) (.tmp 53) 4,none⟩]) (.cond (.tmp 54) (.seq (.reg [⟨some 4,.assign (.const (.bool false)),none⟩]) (.ret)) (.skip)))) (.reg [⟨some 39,.move (.tmp 6),none⟩,⟨some 40,.binOp .add 3 (.tmp 39) (.const (.int .i64 1)) 3,none⟩,⟨some 6,.assign (.tmp 40),none⟩]))
def x29 : XC := .seq (.reg [⟨some 2,.box 48 (.tmp 0),none⟩,⟨some 4,.assign (.const (.bool false)),none⟩]) (.seq (.reg [⟨some 15,.fieldAddr 48 (.tmp 2) 1,none⟩,⟨some 16,.load 46 (.tmp 15),none⟩,⟨some 17,.call ⟨.builtin .len,#[.tmp 16],#[46]⟩,none⟩,⟨some 5,.assign (.tmp 17),none⟩]) (.seq (.seq (.reg [⟨some 18,.move (.tmp 1),none⟩]) (.block 0 (.seq (.reg [⟨some 20,.binOp .eql 3 (.tmp 18) (.const (.int .i64 0)) 3,none⟩,⟨some 19,.assign (.tmp 20),none⟩]) (.cond (.tmp 19) (.seq (.reg [⟨some 21,.fieldAddr 48 (.tmp 2) 1,none⟩,⟨some 22,.load 46 (.tmp 21),none⟩,⟨some 23,.indexAddr 46 (.tmp 22) (.const (.int .i64 0)),none⟩,⟨some 24,.load 4 (.tmp 23),none⟩,⟨some 25,.unOp .not 4 (.tmp 24),none⟩,⟨some 4,.assign (.tmp 25),none⟩]) (.ret)) (.seq (.reg [⟨some 27,.binOp .eql 3 (.tmp 18) (.const (.int .i64 1)) 3,none⟩,⟨some 26,.assign (.tmp 27),none⟩]) (.cond (.tmp 26) (.seq (.reg [⟨some 28,.fieldAddr 48 (.tmp 2) 1,none⟩,⟨some 29,.load 46 (.tmp 28),none⟩,⟨some 30,.move (.tmp 5),none⟩,⟨some 31,.binOp .sub 3 (.tmp 30) (.const (.int .i64 1)) 3,none⟩,⟨some 32,.indexAddr 46 (.tmp 29) (.tmp 31),none⟩,⟨some 33,.load 4 (.tmp 32),none⟩,⟨some 4,.assign (.tmp 33),none⟩]) (.ret)) (.seq (.reg [⟨some 35,.binOp .eql 3 (.tmp 18) (.const (.int .i64 2)) 3,none⟩,⟨some 34,.assign (.tmp 35),none⟩]) (.cond (.tmp 34) (.seq (.seq (.reg [⟨some 6,.assign (.const (.int .i64 0)),none⟩]) (.bloop 1 x29_L1)) (.seq (.reg [⟨some 4,.assign (.const (.bool true)),none⟩]) (.ret))) (.seq (.reg [⟨some 56,.binOp .eql 3 (.tmp 18) (.const (.int .i64 3)) 3,none⟩,⟨some 55,.assign (.tmp 56),none⟩]) (.cond (.tmp 55) (.seq (.seq (.reg [⟨some 7,.assign (.const (.int .i64 0)),none⟩]) (.bloop 3 x29_L3)) (.seq (.reg [⟨some 4,.assign (.const (.bool true)),none⟩]) (.ret))) (.skip))))))))))) (x29_T3)))
@[simp] theorem x29_s {C : WC} {e : AE} {s : Store} {K : KS} : type_of% (@X_at C e s K _ _ x29_T9.eq_1) ∧ type_of% (@X_at C e s K _ _ x29_T8.eq_1) ∧ type_of% (@X_at C e s K _ _ x29_L13.eq_1) ∧ type_of% (@X_at C e s K _ _ x29_L11.eq_1) ∧ type_of% (@X_at C e s K _ _ x29_L9.eq_1) ∧ type_of% (@X_at C e s K _ _ x29_L7.eq_1) ∧ type_of% (@X_at C e s K _ _ x29_T3.eq_1) ∧ type_of% (@X_at C e s K _ _ x29_L5.eq_1) ∧ type_of% (@X_at C e s K _ _ x29_L3.eq_1) ∧ type_of% (@X_at C e s K _ _ x29_L1.eq_1) ∧ type_of% (@X_at C e s K _ _ x29.eq_1) := ⟨X_at x29_T9.eq_1, X_at x29_T8.eq_1, X_at x29_L13.eq_1, X_at x29_L11.eq_1, X_at x29_L9.eq_1, X_at x29_L7.eq_1, X_at x29_T3.eq_1, X_at x29_L5.eq_1, X_at x29_L3.eq_1, X_at x29_L1.eq_1, X_at x29.eq_1⟩
def an29 : Ann := ⟨[], [(13, [], [2, 5, 9, 10, 11, 12, 13, 14], [2, 5, 9, 10, 11, 12, 13]), (11, [], [2, 5, 9, 10, 11, 12], [2, 5, 9, 10, 11]), (9, [], [2, 5, 9, 10], [2, 4, 5, 9]), (7, [], [2, 5, 9], [4]), (1, [], [2, 5, 6], [4]), (5, [], [2, 5, 7, 8], [2, 4, 5, 7]), (3, [], [2, 5, 7], [4])], []⟩
def cx29 (P : Program) (m : Nat) : WC := ⟨P, m, an29⟩
@[simp] theorem cx29_a {P : Program} {m : Nat} : (cx29 P m).P = P ∧ (cx29 P m).m = m ∧ (cx29 P m).A.clsOf 11 = .draw ∧ (cx29 P m).A.frzOf 11 = [] ∧ (cx29 P m).A.loopOf 13 = ([], [2, 5, 9, 10, 11, 12, 13, 14], [2, 5, 9, 10, 11, 12, 13]) ∧ (cx29 P m).A.loopOf 11 = ([], [2, 5, 9, 10, 11, 12], [2, 5, 9, 10, 11]) ∧ (cx29 P m).A.loopOf 9 = ([], [2, 5, 9, 10], [2, 4, 5, 9]) ∧ (cx29 P m).A.loopOf 7 = ([], [2, 5, 9], [4]) ∧ (cx29 P m).A.loopOf 1 = ([], [2, 5, 6], [4]) ∧ (cx29 P m).A.loopOf 5 = ([], [2, 5, 7, 8], [2, 4, 5, 7]) ∧ (cx29 P m).A.loopOf 3 = ([], [2, 5, 7], [4]) := ⟨rfl, rfl, rfl, rfl, rfl, rfl, rfl, rfl, rfl, rfl, rfl⟩
instance {P : Program} {m f : Nat} [h : EnT P f] : EnT (cx29 P m).P f := h
theorem chk29 : ∀ c, Try.f29.body = some c → chkC Try.f29.ntmps an29 c = true := by intro c h; obtain rfl := Option.some.inj h; decide +kernel
theorem op29 {args : List PV} {v : PV} (h : X (cx29 Try.prog 0) x29 (argsA 0 args) [] (.fin [.tmp 4] fun v1 s1 => deref s1 6 v1 = v)) (hl : args.length ≤ Try.f29.ntmps := by rw [Try.ntmps29]; simp) : CallOK Try.prog 29 args [] v [] :=
  callX (m := 0) (cx29 Try.prog 0) x29 rfl rfl (by kernel_rfl) Try.func29 rfl rfl hl mixed (chk29 _ rfl) (by rw [Try.results29]; exact h)

theorem InClass_ref (t : Tab) (n : Nat) (ht : TabOK t n) (j : Nat) (hj : j < 5) : CallOK Try.prog 29 [.agg (tab t), .int .i64 (j : Int)] [] (.bool (clsAt t j)) [] := by
  obtain ⟨c0, c1, c2, c3', c4⟩ := cls_at t
  rw [ht.n_eq, Int.toNat_natCast] at c1 c2 c3' c4
  rw [← r2_eq] at c2
  rw [← r3_eq] at c3'
  rw [← r4_eq] at c4
  obtain ⟨tn, B⟩ := t
  obtain ⟨hn, hn4, hB⟩ := ht
  simp only at hn hB c0 c1 c2 c3' c4 ⊢
  subst hn
  have hM : 1 ≤ 2 ^ n ∧ 2 ^ n ≤ 16 := ⟨Nat.one_le_two_pow, Nat.le_trans (Nat.pow_le_pow_right (by decide) hn4) (by decide)⟩
  have hj5 : j = 0 ∨ j = 1 ∨ j = 2 ∨ j = 3 ∨ j = 4 := by omega
  generalize 2 ^ n = M at *
  refine op29 ?_
  simp only [tab]
  rcases hj5 with rfl | rfl | rfl | rfl | rfl
  · rw [c0]
    have h0 : 0 < B.length := by omega
    have hg := gB_eq h0
    generalize gB B 0 = b at *
    (((try simp (implicitDefEqProofs := false) [hB, h0, hg]); (try simp (implicitDefEqProofs := false) (disch := first | assumption | (try simp only [lens]); omega -splitDisjunctions) [hB, h0, hg])); all_goals try (repeat' ((first | ((with_reducible first | refine And.intro ?_ ?_ | refine Exists.intro ?_ ?_); first | omega | (simp <;> omega)) | (with_reducible refine spl (And.intro ?_ ?_) <;> intro _)) <;> ((try simp (implicitDefEqProofs := false) [hB, h0, hg]); (try simp (implicitDefEqProofs := false) (disch := first | assumption | (try simp only [lens]); omega -splitDisjunctions) [hB, h0, hg])))))
  · rw [c1]
    have h0 : M - 1 < B.length := by omega
    have hg := gB_eq h0
    have hi1 : ((M : Int) - 1).toNat = M - 1 := by omega
    generalize gB B (M - 1) = b at *
    (((try simp (implicitDefEqProofs := false) [hB, h0, hg, hi1]); (try simp (implicitDefEqProofs := false) (disch := first | assumption | (try simp only [lens]); omega -splitDisjunctions) [hB, h0, hg, hi1])); all_goals try (repeat' ((first | ((with_reducible first | refine And.intro ?_ ?_ | refine Exists.intro ?_ ?_); first | omega | (simp <;> omega)) | (with_reducible refine spl (And.intro ?_ ?_) <;> intro _)) <;> ((try simp (implicitDefEqProofs := false) [hB, h0, hg, hi1]); (try simp (implicitDefEqProofs := false) (disch := first | assumption | (try simp only [lens]); omega -splitDisjunctions) [hB, h0, hg, hi1])))))
  · rw [c2]
    unfold r2
    generalize hR : allF (fun k => gB B k != gB B (M - 1 - k)) M 0 = R
    (((try simp (implicitDefEqProofs := false) [hB]); (try simp (implicitDefEqProofs := false) (disch := first | assumption | (try simp only [lens]); omega -splitDisjunctions) [hB])); all_goals try (repeat' ((first | ((with_reducible first | refine And.intro ?_ ?_ | refine Exists.intro ?_ ?_); first | omega | (simp <;> omega)) | (with_reducible refine spl (And.intro ?_ ?_) <;> intro _)) <;> ((try simp (implicitDefEqProofs := false) [hB]); (try simp (implicitDefEqProofs := false) (disch := first | assumption | (try simp only [lens]); omega -splitDisjunctions) [hB])))))
    refine W_of fun Q hQ => ?_
    have main : ∀ r k, k + r = M → R = allF (fun k => gB B k != gB B (M - 1 - k)) r k → Q [(2, .ptr 0 0 0), (5, .int .i64 (M : Int)), (6, .int .i64 (k : Int))] [.rows 2 [[.int .i64 (n : Int), .list (B.map boolRow)]]] := by
      intro r
      induction r with
      | zero =>
        intro k hk h
        obtain rfl : k = M := by omega
        rw [allF] at h
        subst h
        apply hQ
        clear hQ
        (((try simp (implicitDefEqProofs := false)); (try simp (implicitDefEqProofs := false) (disch := first | assumption | (try simp only [lens]); omega -splitDisjunctions))); all_goals try (repeat' ((first | ((with_reducible first | refine And.intro ?_ ?_ | refine Exists.intro ?_ ?_); first | omega | (simp <;> omega)) | (with_reducible refine spl (And.intro ?_ ?_) <;> intro _)) <;> ((try simp (implicitDefEqProofs := false)); (try simp (implicitDefEqProofs := false) (disch := first | assumption | (try simp only [lens]); omega -splitDisjunctions))))))
      | succ r ih =>
        intro k hk h
        have ih := ih (k + 1) (by omega)
        rw [allF] at h
        have hkB : k < B.length := by omega
        have hmB : M - 1 - k < B.length := by omega
        have hg := gB_eq hkB
        have hm := gB_eq hmB
        have hi1 : ((M : Int) - 1 - (k : Int)).toNat = M - 1 - k := by omega
        have hkM : k < M := by omega
        generalize gB B k = a at *
        generalize gB B (M - 1 - k) = b at *
        apply hQ
        clear hQ hR
        by_cases e : a = b
        · subst e
          have h : R = false := by rw [h]; simp
          subst h
          have hmM : M - 1 - k < M := by omega
          have hkz : (k : Int) ≤ (M : Int) - 1 := by omega
          (((try simp (implicitDefEqProofs := false) [hB, hkB, hmB, hg, hm, hi1, hkM, hmM, hkz]); (try simp (implicitDefEqProofs := false) (disch := first | assumption | (try simp only [lens]); omega -splitDisjunctions) [hB, hkB, hmB, hg, hm, hi1, hkM, hmM, hkz])); all_goals try (repeat' ((first | ((with_reducible first | refine And.intro ?_ ?_ | refine Exists.intro ?_ ?_); first | omega | (simp <;> omega)) | (with_reducible refine spl (And.intro ?_ ?_) <;> intro _)) <;> ((try simp (implicitDefEqProofs := false) [hB, hkB, hmB, hg, hm, hi1, hkM, hmM, hkz]); (try simp (implicitDefEqProofs := false) (disch := first | assumption | (try simp only [lens]); omega -splitDisjunctions) [hB, hkB, hmB, hg, hm, hi1, hkM, hmM, hkz])))))
        · have h : R = allF (fun k => gB B k != gB B (M - 1 - k)) r (k + 1) := by rw [h]; cases a <;> cases b <;> simp_all
          have ih := ih h
          clear h
          cases a <;> cases b
          all_goals first | exact absurd rfl e | skip
          all_goals have hmM : M - 1 - k < M := by omega
          all_goals have hkz : (k : Int) ≤ (M : Int) - 1 := by omega
          all_goals ((((try simp (implicitDefEqProofs := false) [hB, hkB, hmB, hg, hm, hi1, hkM, hmM, hkz]); (try simp (implicitDefEqProofs := false) (disch := first | assumption | (try simp only [lens]); omega -splitDisjunctions) [hB, hkB, hmB, hg, hm, hi1, hkM, hmM, hkz])); all_goals try (repeat' ((first | ((with_reducible first | refine And.intro ?_ ?_ | refine Exists.intro ?_ ?_); first | omega | (simp <;> omega)) | (with_reducible refine spl (And.intro ?_ ?_) <;> intro _)) <;> ((try simp (implicitDefEqProofs := false) [hB, hkB, hmB, hg, hm, hi1, hkM, hmM, hkz]); (try simp (implicitDefEqProofs := false) (disch := first | assumption | (try simp only [lens]); omega -splitDisjunctions) [hB, hkB, hmB, hg, hm, hi1, hkM, hmM, hkz]))))))
          all_goals (all_goals first | exact ih | (refine at2 ih ?_ ?_ <;> simp; done) | (exfalso; first | omega | (simp_all; done) | (simp_all; omega)))
    all_goals first | exact main M 0 (Nat.zero_add _) hR.symm | (refine at2 main M 0 (Nat.zero_add _) hR.symm ?_ ?_ <;> simp; done) | (exfalso; first | omega | (simp_all; done) | (simp_all; omega))
  · rw [c3']
    unfold r3
    generalize hR : allF (fun k => allF (c3 B k) M 0) M 0 = R
    (((try simp (implicitDefEqProofs := false) [hB]); (try simp (implicitDefEqProofs := false) (disch := first | assumption | (try simp only [lens]); omega -splitDisjunctions) [hB])); all_goals try (repeat' ((first | ((with_reducible first | refine And.intro ?_ ?_ | refine Exists.intro ?_ ?_); first | omega | (simp <;> omega)) | (with_reducible refine spl (And.intro ?_ ?_) <;> intro _)) <;> ((try simp (implicitDefEqProofs := false) [hB]); (try simp (implicitDefEqProofs := false) (disch := first | assumption | (try simp only [lens]); omega -splitDisjunctions) [hB])))))
    refine W_of fun Q hQ => ?_
    have main : ∀ r k, k + r = M → R = allF (fun k => allF (c3 B k) M 0) r k → Q [(2, .ptr 0 0 0), (5, .int .i64 (M : Int)), (7, .int .i64 (k : Int))] [.rows 2 [[.int .i64 (n : Int), .list (B.map boolRow)]]] := by
      intro r
      induction r with
      | zero =>
        intro k hk h
        obtain rfl : k = M := by omega
        rw [allF] at h
        subst h
        apply hQ
        clear hQ
        (((try simp (implicitDefEqProofs := false)); (try simp (implicitDefEqProofs := false) (disch := first | assumption | (try simp only [lens]); omega -splitDisjunctions))); all_goals try (repeat' ((first | ((with_reducible first | refine And.intro ?_ ?_ | refine Exists.intro ?_ ?_); first | omega | (simp <;> omega)) | (with_reducible refine spl (And.intro ?_ ?_) <;> intro _)) <;> ((try simp (implicitDefEqProofs := false)); (try simp (implicitDefEqProofs := false) (disch := first | assumption | (try simp only [lens]); omega -splitDisjunctions))))))
      | succ r ih =>
        intro k hk h
        have ih := ih (k + 1) (by omega)
        rw [allF] at h
        have hkM : k < M := by omega
        apply hQ
        clear hQ hR
        (((try simp (implicitDefEqProofs := false) [hkM]); (try simp (implicitDefEqProofs := false) (disch := first | assumption | (try simp only [lens]); omega -splitDisjunctions) [hkM])); all_goals try (repeat' ((first | ((with_reducible first | refine And.intro ?_ ?_ | refine Exists.intro ?_ ?_); first | omega | (simp <;> omega)) | (with_reducible refine spl (And.intro ?_ ?_) <;> intro _)) <;> ((try simp (implicitDefEqProofs := false) [hkM]); (try simp (implicitDefEqProofs := false) (disch := first | assumption | (try simp only [lens]); omega -splitDisjunctions) [hkM])))))
        refine W_of fun Q2 hQ2 => ?_
        generalize allF (fun k => allF (c3 B k) M 0) r (k + 1) = R2 at *
        have main2 : ∀ r m, m + r = M → R = (allF (c3 B k) r m && R2) → Q2 [(2, .ptr 0 0 0), (5, .int .i64 (M : Int)), (7, .int .i64 (k : Int)), (8, .int .i64 (m : Int))] [.rows 2 [[.int .i64 (n : Int), .list (B.map boolRow)]]] := by
          intro r
          induction r with
          | zero =>
            intro m hm h2
            obtain rfl : m = M := by omega
            rw [show allF (c3 B k) 0 m = true from rfl, Bool.true_and] at h2
            have ih := ih h2
            apply hQ2
            clear hQ2
            (((try simp (implicitDefEqProofs := false)); (try simp (implicitDefEqProofs := false) (disch := first | assumption | (try simp only [lens]); omega -splitDisjunctions))); all_goals try (repeat' ((first | ((with_reducible first | refine And.intro ?_ ?_ | refine Exists.intro ?_ ?_); first | omega | (simp <;> omega)) | (with_reducible refine spl (And.intro ?_ ?_) <;> intro _)) <;> ((try simp (implicitDefEqProofs := false)); (try simp (implicitDefEqProofs := false) (disch := first | assumption | (try simp only [lens]); omega -splitDisjunctions))))))
            all_goals first | exact ih | (refine at2 ih ?_ ?_ <;> simp; done) | (exfalso; first | omega | (simp_all; done) | (simp_all; omega))
          | succ r ih2 =>
            intro m hm h2
            have ih2 := ih2 (m + 1) (by omega)
            rw [allF, c3, Bool.and_assoc] at h2
            have hkB : k < B.length := by omega
            have hmB : m < B.length := by omega
            have hg := gB_eq hkB
            have hgm := gB_eq hmB
            have hmM : m < M := by omega
            have han := and_nat k m (by omega) (by omega)
            generalize hx : k &&& m = x at *
            generalize gB B k = a at *
            generalize gB B m = b at *
            generalize allF (c3 B k) r (m + 1) = R3 at *
            apply hQ2
            clear hQ2 ih
            by_cases e : x = k
            · subst e
              rw [decide_eq_true rfl] at h2
              cases a <;> cases b
              all_goals simp only [Bool.true_and, Bool.false_and, Bool.and_true, Bool.and_false, Bool.not_true, Bool.not_false] at h2
              all_goals first | (have ih2 := ih2 h2) | subst h2
              all_goals ((((try simp (implicitDefEqProofs := false) [hB, hkB, hmB, hg, hgm, hmM, hkM, han]); (try simp (implicitDefEqProofs := false) (disch := first | assumption | (try simp only [lens]); omega -splitDisjunctions) [hB, hkB, hmB, hg, hgm, hmM, hkM, han])); all_goals try (repeat' ((first | ((with_reducible first | refine And.intro ?_ ?_ | refine Exists.intro ?_ ?_); first | omega | (simp <;> omega)) | (with_reducible refine spl (And.intro ?_ ?_) <;> intro _)) <;> ((try simp (implicitDefEqProofs := false) [hB, hkB, hmB, hg, hgm, hmM, hkM, han]); (try simp (implicitDefEqProofs := false) (disch := first | assumption | (try simp only [lens]); omega -splitDisjunctions) [hB, hkB, hmB, hg, hgm, hmM, hkM, han]))))))
              all_goals (all_goals first | exact ih2 | (refine at2 ih2 ?_ ?_ <;> simp; done) | (exfalso; first | omega | (simp_all; done) | (simp_all; omega)))
            · rw [decide_eq_false e] at h2
              simp only [Bool.false_and, Bool.not_false, Bool.true_and] at h2
              have ih2 := ih2 h2
              have e' : ¬ (x : Int) = (k : Int) := by omega
              (((try simp (implicitDefEqProofs := false) [hmM, hkM, han, e']); (try simp (implicitDefEqProofs := false) (disch := first | assumption | (try simp only [lens]); omega -splitDisjunctions) [hmM, hkM, han, e'])); all_goals try (repeat' ((first | ((with_reducible first | refine And.intro ?_ ?_ | refine Exists.intro ?_ ?_); first | omega | (simp <;> omega)) | (with_reducible refine spl (And.intro ?_ ?_) <;> intro _)) <;> ((try simp (implicitDefEqProofs := false) [hmM, hkM, han, e']); (try simp (implicitDefEqProofs := false) (disch := first | assumption | (try simp only [lens]); omega -splitDisjunctions) [hmM, hkM, han, e'])))))
              all_goals first | exact ih2 | (refine at2 ih2 ?_ ?_ <;> simp; done) | (exfalso; first | omega | (simp_all; done) | (simp_all; omega))
        all_goals first | exact main2 M 0 (Nat.zero_add _) h | (refine at2 main2 M 0 (Nat.zero_add _) h ?_ ?_ <;> simp; done) | (exfalso; first | omega | (simp_all; done) | (simp_all; omega))
    all_goals first | exact main M 0 (Nat.zero_add _) hR.symm | (refine at2 main M 0 (Nat.zero_add _) hR.symm ?_ ?_ <;> simp; done) | (exfalso; first | omega | (simp_all; done) | (simp_all; omega))
  · rw [c4]
    unfold r4
    generalize hR : allF (fun s => allF (fun c => !okS B n s c M) 2 0) M 0 = R
    (((try simp (implicitDefEqProofs := false) [hB]); (try simp (implicitDefEqProofs := false) (disch := first | assumption | (try simp only [lens]); omega -splitDisjunctions) [hB])); all_goals try (repeat' ((first | ((with_reducible first | refine And.intro ?_ ?_ | refine Exists.intro ?_ ?_); first | omega | (simp <;> omega)) | (with_reducible refine spl (And.intro ?_ ?_) <;> intro _)) <;> ((try simp (implicitDefEqProofs := false) [hB]); (try simp (implicitDefEqProofs := false) (disch := first | assumption | (try simp only [lens]); omega -splitDisjunctions) [hB])))))
    refine W_of fun Q hQ => ?_
    have main : ∀ r s, s + r = M → R = allF (fun s => allF (fun c => !okS B n s c M) 2 0) r s → Q [(2, .ptr 0 0 0), (5, .int .i64 (M : Int)), (9, .int .i64 (s : Int))] [.rows 2 [[.int .i64 (n : Int), .list (B.map boolRow)]]] := by
      intro r
      induction r with
      | zero =>
        intro s hs h
        obtain rfl : s = M := by omega
        rw [allF] at h
        subst h
        apply hQ
        clear hQ
        (((try simp (implicitDefEqProofs := false)); (try simp (implicitDefEqProofs := false) (disch := first | assumption | (try simp only [lens]); omega -splitDisjunctions))); all_goals try (repeat' ((first | ((with_reducible first | refine And.intro ?_ ?_ | refine Exists.intro ?_ ?_); first | omega | (simp <;> omega)) | (with_reducible refine spl (And.intro ?_ ?_) <;> intro _)) <;> ((try simp (implicitDefEqProofs := false)); (try simp (implicitDefEqProofs := false) (disch := first | assumption | (try simp only [lens]); omega -splitDisjunctions))))))
      | succ r ih =>
        intro s hs h
        have ih := ih (s + 1) (by omega)
        rw [allF] at h
        have hsM : s < M := by omega
        apply hQ
        clear hQ hR
        generalize allF (fun s => allF (fun c => !okS B n s c M) 2 0) r (s + 1) = R2 at *
        (((try simp (implicitDefEqProofs := false) [hsM]); (try simp (implicitDefEqProofs := false) (disch := first | assumption | (try simp only [lens]); omega -splitDisjunctions) [hsM])); all_goals try (repeat' ((first | ((with_reducible first | refine And.intro ?_ ?_ | refine Exists.intro ?_ ?_); first | omega | (simp <;> omega)) | (with_reducible refine spl (And.intro ?_ ?_) <;> intro _)) <;> ((try simp (implicitDefEqProofs := false) [hsM]); (try simp (implicitDefEqProofs := false) (disch := first | assumption | (try simp only [lens]); omega -splitDisjunctions) [hsM])))))
        refine W_of fun Q2 hQ2 => ?_
        have main2 : ∀ r c, c + r = 2 → R = (allF (fun c => !okS B n s c M) r c && R2) → Q2 [(2, .ptr 0 0 0), (5, .int .i64 (M : Int)), (9, .int .i64 (s : Int)), (10, .int .i64 (c : Int))] [.rows 2 [[.int .i64 (n : Int), .list (B.map boolRow)]]] := by
          intro r
          induction r with
          | zero =>
            intro c hc h2
            obtain rfl : c = 2 := by omega
            have h2 : R = R2 := by rw [h2]; rfl
            have ih := ih h2
            apply hQ2
            clear hQ2
            (((try simp (implicitDefEqProofs := false)); (try simp (implicitDefEqProofs := false) (disch := first | assumption | (try simp only [lens]); omega -splitDisjunctions))); all_goals try (repeat' ((first | ((with_reducible first | refine And.intro ?_ ?_ | refine Exists.intro ?_ ?_); first | omega | (simp <;> omega)) | (with_reducible refine spl (And.intro ?_ ?_) <;> intro _)) <;> ((try simp (implicitDefEqProofs := false)); (try simp (implicitDefEqProofs := false) (disch := first | assumption | (try simp only [lens]); omega -splitDisjunctions))))))
            all_goals first | exact ih | (refine at2 ih ?_ ?_ <;> simp; done) | (exfalso; first | omega | (simp_all; done) | (simp_all; omega))
          | succ r ih2 =>
            intro c hc h2
            have ih2 := ih2 (c + 1) (by omega)
            rw [allF] at h2
            generalize allF (fun c => !okS B n s c M) r (c + 1) = R3 at *
            have hc2 : c < 2 := by omega
            have ho0 : okS B n s c 0 = true := rfl
            have hoS : ∀ k, okS B n s c (k + 1) = (okS B n s c k && (decide (vS c (s &&& k) n % 2 = 1) == gB B k)) := fun k => rfl
            generalize okS B n s c = o at *
            apply hQ2
            clear hQ2 ih h
            (((try simp (implicitDefEqProofs := false) [hc2]); (try simp (implicitDefEqProofs := false) (disch := first | assumption | (try simp only [lens]); omega -splitDisjunctions) [hc2])); all_goals try (repeat' ((first | ((with_reducible first | refine And.intro ?_ ?_ | refine Exists.intro ?_ ?_); first | omega | (simp <;> omega)) | (with_reducible refine spl (And.intro ?_ ?_) <;> intro _)) <;> ((try simp (implicitDefEqProofs := false) [hc2]); (try simp (implicitDefEqProofs := false) (disch := first | assumption | (try simp only [lens]); omega -splitDisjunctions) [hc2])))))
            refine W_of fun Q3 hQ3 => ?_
            have main3 : ∀ r k, k + r = M → Q3 [(2, .ptr 0 0 0), (5, .int .i64 (M : Int)), (9, .int .i64 (s : Int)), (10, .int .i64 (c : Int)), (11, .bool (o k)), (12, .int .i64 (k : Int))] [.rows 2 [[.int .i64 (n : Int), .list (B.map boolRow)]]] := by
              intro r
              induction r with
              | zero =>
                intro k hk
                obtain rfl : k = M := by omega
                generalize o k = b at *
                apply hQ3
                clear hQ3
                cases b with
                | true =>
                  simp only [Bool.not_true, Bool.false_and] at h2
                  subst h2
                  (((try simp (implicitDefEqProofs := false)); (try simp (implicitDefEqProofs := false) (disch := first | assumption | (try simp only [lens]); omega -splitDisjunctions))); all_goals try (repeat' ((first | ((with_reducible first | refine And.intro ?_ ?_ | refine Exists.intro ?_ ?_); first | omega | (simp <;> omega)) | (with_reducible refine spl (And.intro ?_ ?_) <;> intro _)) <;> ((try simp (implicitDefEqProofs := false)); (try simp (implicitDefEqProofs := false) (disch := first | assumption | (try simp only [lens]); omega -splitDisjunctions))))))
                | false =>
                  simp only [Bool.not_false, Bool.true_and] at h2
                  have ih2 := ih2 h2
                  (((try simp (implicitDefEqProofs := false)); (try simp (implicitDefEqProofs := false) (disch := first | assumption | (try simp only [lens]); omega -splitDisjunctions))); all_goals try (repeat' ((first | ((with_reducible first | refine And.intro ?_ ?_ | refine Exists.intro ?_ ?_); first | omega | (simp <;> omega)) | (with_reducible refine spl (And.intro ?_ ?_) <;> intro _)) <;> ((try simp (implicitDefEqProofs := false)); (try simp (implicitDefEqProofs := false) (disch := first | assumption | (try simp only [lens]); omega -splitDisjunctions))))))
                  all_goals first | exact ih2 | (refine at2 ih2 ?_ ?_ <;> simp; done) | (exfalso; first | omega | (simp_all; done) | (simp_all; omega))
              | succ r ih3 =>
                intro k hk
                have ih3 := ih3 (k + 1) (by omega)
                rw [hoS] at ih3
                have hkM : k < M := by omega
                have han := and_nat s k (by omega) (by omega)
                have hxm : s &&& k ≤ 15 := Nat.le_trans Nat.and_le_left (by omega)
                generalize s &&& k = x at *
                apply hQ3
                clear hQ3 ih2 h2
                (((try simp (implicitDefEqProofs := false) [hkM]); (try simp (implicitDefEqProofs := false) (disch := first | assumption | (try simp only [lens]); omega -splitDisjunctions) [hkM])); all_goals try (repeat' ((first | ((with_reducible first | refine And.intro ?_ ?_ | refine Exists.intro ?_ ?_); first | omega | (simp <;> omega)) | (with_reducible refine spl (And.intro ?_ ?_) <;> intro _)) <;> ((try simp (implicitDefEqProofs := false) [hkM]); (try simp (implicitDefEqProofs := false) (disch := first | assumption | (try simp only [lens]); omega -splitDisjunctions) [hkM])))))
                refine W_of fun Q4 hQ4 => ?_
                have hv : ∀ i, vS c x i ≤ c + i := by
                  intro i
                  induction i with
                  | zero => exact Nat.le_refl _
                  | succ i ihv => rw [vS]; split <;> omega
                have main4 : ∀ r i, i + r = n → Q4 [(2, .ptr 0 0 0), (5, .int .i64 (M : Int)), (9, .int .i64 (s : Int)), (10, .int .i64 (c : Int)), (11, .bool (o k)), (12, .int .i64 (k : Int)), (13, .int .i64 (vS c x i : Nat)), (14, .int .i64 (i : Int))] [.rows 2 [[.int .i64 (n : Int), .list (B.map boolRow)]]] := by
                  intro r
                  induction r with
                  | zero =>
                    intro i hi
                    obtain rfl : i = n := by omega
                    have hvi := hv i
                    have hkB : k < B.length := by omega
                    have hg := gB_eq hkB
                    generalize vS c x i = v at *
                    generalize gB B k = b at *
                    generalize o k = d at *
                    have ht2 : ((v : Int).tmod 2 = 1) = (v % 2 = 1) := by
                      rw [Int.tmod_eq_emod_of_nonneg (by omega)]
                      exact propext ⟨fun h => by omega, fun h => by omega⟩
                    apply hQ4
                    clear hQ4
                    cases d
                    · (((try simp (implicitDefEqProofs := false) [hkM, hkB, hg, hB]); (try simp (implicitDefEqProofs := false) (disch := first | assumption | (try simp only [lens]); omega -splitDisjunctions) [hkM, hkB, hg, hB])); all_goals try (repeat' ((first | ((with_reducible first | refine And.intro ?_ ?_ | refine Exists.intro ?_ ?_); first | omega | (simp <;> omega)) | (with_reducible refine spl (And.intro ?_ ?_) <;> intro _)) <;> ((try simp (implicitDefEqProofs := false) [hkM, hkB, hg, hB]); (try simp (implicitDefEqProofs := false) (disch := first | assumption | (try simp only [lens]); omega -splitDisjunctions) [hkM, hkB, hg, hB])))))
                      all_goals first | exact ih3 | (refine at2 ih3 ?_ ?_ <;> simp; done) | (exfalso; first | omega | (simp_all; done) | (simp_all; omega))
                    · (((try simp (implicitDefEqProofs := false) [hkM, hkB, hg, hB, ht2]); (try simp (implicitDefEqProofs := false) (disch := first | assumption | (try simp only [lens]); omega -splitDisjunctions) [hkM, hkB, hg, hB, ht2])); all_goals try (repeat' ((first | ((with_reducible first | refine And.intro ?_ ?_ | refine Exists.intro ?_ ?_); first | omega | (simp <;> omega)) | (with_reducible refine spl (And.intro ?_ ?_) <;> intro _)) <;> ((try simp (implicitDefEqProofs := false) [hkM, hkB, hg, hB, ht2]); (try simp (implicitDefEqProofs := false) (disch := first | assumption | (try simp only [lens]); omega -splitDisjunctions) [hkM, hkB, hg, hB, ht2])))))
                      all_goals first | exact ih3 | (refine at2 ih3 ?_ ?_ <;> simp; done) | (exfalso; first | omega | (simp_all; done) | (simp_all; omega))
                  | succ r ih4 =>
                    intro i hi
                    have ih4 := ih4 (i + 1) (by omega)
                    rw [vS] at ih4
                    have hvi := hv i
                    have hin : i < n := by omega
                    have hb := has_bits x i (by omega)
                    have hi0 : ¬ ((i : Int) < 0) := by omega
                    generalize vS c x i = v at *
                    generalize x.testBit i = b at *
                    apply hQ4
                    clear hQ4 ih3
                    cases b with
                    | true =>
                      rw [if_pos rfl] at ih4 hb
                      (((try simp (implicitDefEqProofs := false) [hin, han, hb, hi0]); (try simp (implicitDefEqProofs := false) (disch := first | assumption | (try simp only [lens]); omega -splitDisjunctions) [hin, han, hb, hi0])); all_goals try (repeat' ((first | ((with_reducible first | refine And.intro ?_ ?_ | refine Exists.intro ?_ ?_); first | omega | (simp <;> omega)) | (with_reducible refine spl (And.intro ?_ ?_) <;> intro _)) <;> ((try simp (implicitDefEqProofs := false) [hin, han, hb, hi0]); (try simp (implicitDefEqProofs := false) (disch := first | assumption | (try simp only [lens]); omega -splitDisjunctions) [hin, han, hb, hi0])))))
                      all_goals first | exact ih4 | (refine at2 ih4 ?_ ?_ <;> simp; done) | (exfalso; first | omega | (simp_all; done) | (simp_all; omega))
                    | false =>
                      rw [if_neg (by simp)] at ih4 hb
                      rw [Nat.add_zero] at ih4
                      (((try simp (implicitDefEqProofs := false) [hin, han, hb, hi0]); (try simp (implicitDefEqProofs := false) (disch := first | assumption | (try simp only [lens]); omega -splitDisjunctions) [hin, han, hb, hi0])); all_goals try (repeat' ((first | ((with_reducible first | refine And.intro ?_ ?_ | refine Exists.intro ?_ ?_); first | omega | (simp <;> omega)) | (with_reducible refine spl (And.intro ?_ ?_) <;> intro _)) <;> ((try simp (implicitDefEqProofs := false) [hin, han, hb, hi0]); (try simp (implicitDefEqProofs := false) (disch := first | assumption | (try simp only [lens]); omega -splitDisjunctions) [hin, han, hb, hi0])))))
                      all_goals first | exact ih4 | (refine at2 ih4 ?_ ?_ <;> simp; done) | (exfalso; first | omega | (simp_all; done) | (simp_all; omega))
                all_goals first | exact main4 n 0 (Nat.zero_add _) | (refine at2 main4 n 0 (Nat.zero_add _) ?_ ?_ <;> simp; done) | (exfalso; first | omega | (simp_all; done) | (simp_all; omega))
            have m0 := main3 M 0 (Nat.zero_add _)
            rw [ho0] at m0
            all_goals first | exact m0 | (refine at2 m0 ?_ ?_ <;> simp; done) | (exfalso; first | omega | (simp_all; done) | (simp_all; omega))
        all_goals first | exact main2 2 0 rfl h | (refine at2 main2 2 0 rfl h ?_ ?_ <;> simp; done) | (exfalso; first | omega | (simp_all; done) | (simp_all; omega))
    all_goals first | exact main M 0 (Nat.zero_add _) hR.symm | (refine at2 main M 0 (Nat.zero_add _) hR.symm ?_ ?_ <;> simp; done) | (exfalso; first | omega | (simp_all; done) | (simp_all; omega))
end Go.Proofs.Ytbmpmmbcfabeeaa
