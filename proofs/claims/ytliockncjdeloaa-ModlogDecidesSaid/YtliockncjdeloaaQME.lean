/-
  modlog: sees, local, whole.
-/
import Derived.Test.YtliockncjdeloaaQMD
namespace Go.Proofs.Ytliockncjdeloaa
open Go Go.Pv
set_option linter.unusedVariables false
set_option linter.unusedSimpArgs false
set_option maxRecDepth 100000
set_option maxHeartbeats 4000000

theorem or_nat (x y : Nat) (hx : x < 1048576) (hy : y < 1048576) : orI .i64 (x : Int) (y : Int) = ((x ||| y : Nat) : Int) := by
  have h2 : (BitVec.ofInt 64 (x : Int) ||| BitVec.ofInt 64 (y : Int)).toNat = x ||| y := by
    rw [BitVec.toNat_or]
    simp only [BitVec.ofInt_natCast, BitVec.toNat_ofNat]
    rw [Nat.mod_eq_of_lt (by omega), Nat.mod_eq_of_lt (by omega)]
  have h3 : x ||| y < 2 ^ 20 := Nat.or_lt_two_pow (by omega) (by omega)
  show IntKind.i64.wrap (((BitVec.ofInt 64 (x : Int) ||| BitVec.ofInt 64 (y : Int)).toNat : Nat) : Int) = _
  rw [h2, wrap64 (by omega) (by omega)]
/-- what is in the first and not in the second -/
def sans (x y : Nat) : Nat := x ^^^ (x &&& y)
theorem sans_lt {x : Nat} (y : Nat) (hx : x < 1048576) : sans x y < 1048576 := by
  exact Nat.xor_lt_two_pow (n := 20) (by omega) (Nat.lt_of_le_of_lt Nat.and_le_left (by omega))
theorem andNot_nat (x y : Nat) (hx : x < 1048576) (hy : y < 1048576) : andNotI .i64 (x : Int) (y : Int) = ((sans x y : Nat) : Int) := by
  have h2 : (BitVec.ofInt 64 (x : Int) &&& ~~~ BitVec.ofInt 64 (y : Int)).toNat = sans x y := by
    apply Nat.eq_of_testBit_eq
    intro i
    simp only [BitVec.ofInt_natCast, BitVec.toNat_and, BitVec.toNat_not, Nat.testBit_and, sans, Nat.testBit_xor, BitVec.toNat_ofNat]
    rw [Nat.mod_eq_of_lt (by omega), Nat.mod_eq_of_lt (by omega)]
    by_cases hi : i < 64
    · rw [show 2 ^ 64 - 1 - y = 2 ^ 64 - (y + 1) by omega, Nat.testBit_two_pow_sub_succ (by omega)]
      cases x.testBit i <;> cases y.testBit i <;> simp [hi]
    · have : x.testBit i = false := Nat.testBit_lt_two_pow (Nat.lt_of_lt_of_le (show x < 2 ^ 64 by omega) (Nat.pow_le_pow_right (by decide) (by omega)))
      simp [this]
  have h3 := sans_lt y hx
  show IntKind.i64.wrap (((BitVec.ofInt 64 (x : Int) &&& ~~~ BitVec.ofInt 64 (y : Int)).toNat : Nat) : Int) = _
  rw [h2, wrap64 (by omega) (by omega)]
def Sc.more (c : Sc) (x y : Nat) : Bool := decide (sans (x &&& c.boxes) y = 0) && decide (sans (y &&& c.dias) x = 0)
def Sc.alike (c : Sc) (x y : Nat) : Bool := decide (x &&& (c.boxes ||| c.dias) = y &&& (c.boxes ||| c.dias))
def Sc.sees (c : Sc) (x y : Nat) : Bool :=
  if c.lg = 4 ∨ c.lg = 5 then c.ahead x y && c.more x y else if c.lg = 6 then c.ahead x y && c.alike x y else if c.lg = 7 then c.ahead x y && c.ahead y x
  else if c.lg = 8 then c.ahead x y && c.more x y && !c.alike x y else c.ahead x y
theorem and_lt20 {x y : Nat} (hx : x < 1048576) : x &&& y < 1048576 := Nat.lt_of_le_of_lt Nat.and_le_left hx
theorem or_lt20 {x y : Nat} (hx : x < 1048576) (hy : y < 1048576) : x ||| y < 1048576 := Nat.or_lt_two_pow (n := 20) hx hy

def x57 : XC := .seq (.reg [⟨some 6,.assign (.const (.bool false)),none⟩]) (.seq (.reg [⟨some 8,.move (.tmp 1),none⟩,⟨some 9,.move (.tmp 0),none⟩,⟨some 10,.nilCheck (.tmp 9),none⟩,⟨some 11,.fieldAddr 62 (.tmp 10) 4,none⟩,⟨some 12,.load 3 (.tmp 11),none⟩,⟨some 13,.binOp .and 3 (.tmp 8) (.tmp 12) 3,none⟩,⟨some 14,.move (.tmp 2),none⟩,⟨some 15,.binOp .andNot 3 (.tmp 13) (.tmp 14) 3,none⟩,⟨some 16,.binOp .eql 3 (.tmp 15) (.const (.int .i64 0)) 3,none⟩,⟨some 17,.move (.tmp 16),none⟩,⟨some 18,.move (.tmp 2),some (some 17,true)⟩,⟨some 19,.move (.tmp 0),some (some 17,true)⟩,⟨some 20,.nilCheck (.tmp 19),some (some 17,true)⟩,⟨some 21,.fieldAddr 62 (.tmp 20) 5,some (some 17,true)⟩,⟨some 22,.load 3 (.tmp 21),some (some 17,true)⟩,⟨some 23,.binOp .and 3 (.tmp 18) (.tmp 22) 3,some (some 17,true)⟩,⟨some 24,.move (.tmp 1),some (some 17,true)⟩,⟨some 25,.binOp .andNot 3 (.tmp 23) (.tmp 24) 3,some (some 17,true)⟩,⟨some 26,.binOp .eql 3 (.tmp 25) (.const (.int .i64 0)) 3,some (some 17,true)⟩,⟨some 27,.pick (.tmp 17) (.tmp 26) (.const (.bool false)),none⟩,⟨some 7,.assign (.tmp 27),none⟩]) (.seq (.seq (.reg [⟨some 28,.move (.tmp 0),none⟩,⟨some 29,.nilCheck (.tmp 28),none⟩,⟨some 30,.fieldAddr 62 (.tmp 29) 0,none⟩,⟨some 31,.load 3 (.tmp 30),none⟩]) (.block 0 (.seq (.seq (.reg [⟨some 33,.binOp .eql 3 (.tmp 31) (.const (.int .i64 4)) 3,none⟩,⟨some 32,.assign (.tmp 33),none⟩]) (.cond (.tmp 32) (.skip) (.reg [⟨some 34,.binOp .eql 3 (.tmp 31) (.const (.int .i64 5)) 3,none⟩,⟨some 32,.assign (.tmp 34),none⟩]))) (.cond (.tmp 32) (.seq (.reg [⟨some 35,.move (.tmp 0),none⟩,⟨some 36,.move (.tmp 1),none⟩,⟨some 37,.move (.tmp 2),none⟩,⟨some 38,.call ⟨.value (.func 66),#[.tmp 35,.tmp 36,.tmp 37],#[56,3,3]⟩,none⟩,⟨some 39,.move (.tmp 38),none⟩,⟨some 40,.move (.tmp 7),some (some 39,true)⟩,⟨some 41,.pick (.tmp 39) (.tmp 40) (.const (.bool false)),none⟩,⟨some 6,.assign (.tmp 41),none⟩]) (.ret)) (.seq (.reg [⟨some 43,.binOp .eql 3 (.tmp 31) (.const (.int .i64 6)) 3,none⟩,⟨some 42,.assign (.tmp 43),none⟩]) (.cond (.tmp 42) (.seq (.drawn 7 [⟨some 44,.move (.tmp 0),none⟩,⟨some 45,.move (.tmp 1),none⟩,⟨some 46,.move (.tmp 2),none⟩,⟨some 47,.call ⟨.value (.func 66),#[.tmp 44,.tmp 45,.tmp 46],#[56,3,3]⟩,none⟩,⟨some 48,.move (.tmp 47),none⟩,⟨some 49,.move (.tmp 1),some (some 48,true)⟩,⟨some 50,.move (.tmp 0),some (some 48,true)⟩,⟨some 51,.nilCheck (.tmp 50),some (some 48,true)⟩,⟨some 52,.fieldAddr 62 (.tmp 51) 4,some (some 48,true)⟩,⟨some 53,.load 3 (.tmp 52),some (some 48,true)⟩,⟨some 54,.move (.tmp 0),some (some 48,true)⟩,⟨some 55,.nilCheck (.tmp 54),some (some 48,true)⟩,⟨some 56,.fieldAddr 62 (.tmp 55) 5,some (some 48,true)⟩,⟨some 57,.load 3 (.tmp 56),some (some 48,true)⟩,⟨some 58,.binOp .or 3 (.tmp 53) (.tmp 57) 3,some (some 48,true)⟩,⟨some 59,.binOp .and 3 (.tmp 49) (.tmp 58) 3,some (some 48,true)⟩,⟨some 60,.move (.tmp 2),some (some 48,true)⟩,⟨some 61,.move (.tmp 0),some (some 48,true)⟩,⟨some 62,.nilCheck (.tmp 61),some (some 48,true)⟩,⟨some 63,.fieldAddr 62 (.tmp 62) 4,some (some 48,true)⟩,⟨some 64,.load 3 (.tmp 63),some (some 48,true)⟩,⟨some 65,.move (.tmp 0),some (some 48,true)⟩,⟨some 66,.nilCheck (.tmp 65),some (some 48,true)⟩,⟨some 67,.fieldAddr 62 (.tmp 66) 5,some (some 48,true)⟩,⟨some 68,.load 3 (.tmp 67),some (some 48,true)⟩,⟨some 69,.binOp .or 3 (.tmp 64) (.tmp 68) 3,some (some 48,true)⟩,⟨some 70,.binOp .and 3 (.tmp 60) (.tmp 69) 3,some (some 48,true)⟩,⟨some 71,.binOp .eql 3 (.tmp 59) (.tmp 70) 3,some (some 48,true)⟩,⟨some 72,.pick (.tmp 48) (.tmp 71) (.const (.bool false)),none⟩,⟨some 6,.assign (.tmp 72),none⟩]) (.ret)) (.seq (.reg [⟨some 74,.binOp .eql 3 (.tmp 31) (.const (.int .i64 7)) 3,none⟩,⟨some 73,.assign (.tmp 74),none⟩]) (.cond (.tmp 73) (.seq (.reg [⟨some 75,.move (.tmp 0),none⟩,⟨some 76,.move (.tmp 1),none⟩,⟨some 77,.move (.tmp 2),none⟩,⟨some 78,.call ⟨.value (.func 66),#[.tmp 75,.tmp 76,.tmp 77],#[56,3,3]⟩,none⟩,⟨some 79,.move (.tmp 78),none⟩,⟨some 80,.move (.tmp 0),some (some 79,true)⟩,⟨some 81,.move (.tmp 2),some (some 79,true)⟩,⟨some 82,.move (.tmp 1),some (some 79,true)⟩,⟨some 83,.call ⟨.value (.func 66),#[.tmp 80,.tmp 81,.tmp 82],#[56,3,3]⟩,some (some 79,true)⟩,⟨some 84,.pick (.tmp 79) (.tmp 83) (.const (.bool false)),none⟩,⟨some 6,.assign (.tmp 84),none⟩]) (.ret)) (.seq (.reg [⟨some 86,.binOp .eql 3 (.tmp 31) (.const (.int .i64 8)) 3,none⟩,⟨some 85,.assign (.tmp 86),none⟩]) (.cond (.tmp 85) (.seq (.drawn 11 [⟨some 87,.move (.tmp 0),none⟩,⟨some 88,.move (.tmp 1),none⟩,⟨some 89,.move (.tmp 2),none⟩,⟨some 90,.call ⟨.value (.func 66),#[.tmp 87,.tmp 88,.tmp 89],#[56,3,3]⟩,none⟩,⟨some 91,.move (.tmp 90),none⟩,⟨some 92,.move (.tmp 7),some (some 91,true)⟩,⟨some 93,.pick (.tmp 91) (.tmp 92) (.const (.bool false)),none⟩,⟨some 94,.move (.tmp 93),none⟩,⟨some 95,.move (.tmp 1),some (some 94,true)⟩,⟨some 96,.move (.tmp 0),some (some 94,true)⟩,⟨some 97,.nilCheck (.tmp 96),some (some 94,true)⟩,⟨some 98,.fieldAddr 62 (.tmp 97) 4,some (some 94,true)⟩,⟨some 99,.load 3 (.tmp 98),some (some 94,true)⟩,⟨some 100,.move (.tmp 0),some (some 94,true)⟩,⟨some 101,.nilCheck (.tmp 100),some (some 94,true)⟩,⟨some 102,.fieldAddr 62 (.tmp 101) 5,some (some 94,true)⟩,⟨some 103,.load 3 (.tmp 102),some (some 94,true)⟩,⟨some 104,.binOp .or 3 (.tmp 99) (.tmp 103) 3,some (some 94,true)⟩,⟨some 105,.binOp .and 3 (.tmp 95) (.tmp 104) 3,some (some 94,true)⟩,⟨some 106,.move (.tmp 2),some (some 94,true)⟩,⟨some 107,.move (.tmp 0),some (some 94,true)⟩,⟨some 108,.nilCheck (.tmp 107),some (some 94,true)⟩,⟨some 109,.fieldAddr 62 (.tmp 108) 4,some (some 94,true)⟩,⟨some 110,.load 3 (.tmp 109),some (some 94,true)⟩,⟨some 111,.move (.tmp 0),some (some 94,true)⟩,⟨some 112,.nilCheck (.tmp 111),some (some 94,true)⟩,⟨some 113,.fieldAddr 62 (.tmp 112) 5,some (some 94,true)⟩,⟨some 114,.load 3 (.tmp 113),some (some 94,true)⟩,⟨some 115,.binOp .or 3 (.tmp 110) (.tmp 114) 3,some (some 94,true)⟩,⟨some 116,.binOp .and 3 (.tmp 106) (.tmp 115) 3,some (some 94,true)⟩,⟨some 117,.binOp .neq 3 (.tmp 105) (.tmp 116) 3,some (some 94,true)⟩,⟨some 118,.pick (.tmp 94) (.tmp 117) (.const (.bool false)),none⟩,⟨some 6,.assign (.tmp 118),none⟩]) (.ret)) (.skip))))))))))) (.seq (.reg [⟨some 119,.move (.tmp 0),none⟩,⟨some 120,.move (.tmp 1),none⟩,⟨some 121,.move (.tmp 2),none⟩,⟨some 122,.call ⟨.value (.func 66),#[.tmp 119,.tmp 120,.tmp 121],#[56,3,3]⟩,none⟩,⟨some 6,.assign (.tmp 122),none⟩]) (.ret))))
@[simp] theorem x57_s {C : WC} {e : AE} {s : Store} {K : KS} : type_of% (@X_at C e s K _ _ x57.eq_1) := X_at x57.eq_1
def an57 : Ann := ⟨[(7, .mix 27), (11, .mix 30)], [], []⟩
def cx57 (P : Program) (m : Nat) : WC := ⟨P, m, an57⟩
@[simp] theorem cx57_a {P : Program} {m : Nat} : (cx57 P m).P = P ∧ (cx57 P m).m = m ∧ (cx57 P m).A.clsOf 7 = .mix 27 ∧ (cx57 P m).A.clsOf 11 = .mix 30 ∧ (cx57 P m).A.frzOf 7 = [] ∧ (cx57 P m).A.frzOf 11 = [] := ⟨rfl, rfl, rfl, rfl, rfl, rfl⟩
instance {P : Program} {m f : Nat} [h : EnT P f] : EnT (cx57 P m).P f := h
theorem chk57 : ∀ c, Try.f57.body = some c → chkC Try.f57.ntmps an57 c = true := by intro c h; obtain rfl := Option.some.inj h; decide +kernel
theorem op57 {args : List PV} {v : PV} (h : X (cx57 Try.prog 0) x57 (argsA 0 args) [] (.fin [.tmp 6] fun v1 s1 => deref s1 6 v1 = v)) (hl : args.length ≤ Try.f57.ntmps := by rw [Try.ntmps57]; simp) : CallOK Try.prog 57 args [] v [] :=
  callX (m := 0) (cx57 Try.prog 0) x57 rfl rfl (by kernel_rfl) Try.func57 rfl rfl hl mixed (chk57 _ rfl) (by rw [Try.results57]; exact h)

theorem sees_modlog (c : Sc) (hc : c.OK) (x y : Nat) (hx : x < 1048576) (hy : y < 1048576) : CallOK Try.prog 57 [.iptr (scn c), .int .i64 (x : Int), .int .i64 (y : Int)] [] (.bool (c.sees x y)) [] := by
  have hb := hc.bb
  have hd := hc.db
  have e1 := and_nat x c.boxes hx hb
  have e2 := andNot_nat (x &&& c.boxes) y (and_lt20 hx) hy
  have e3 := and_nat y c.dias hy hd
  have e4 := andNot_nat (y &&& c.dias) x (and_lt20 hy) hx
  have e5 := or_nat c.boxes c.dias hb hd
  have e6 := and_nat x (c.boxes ||| c.dias) hx (or_lt20 hb hd)
  have e7 := and_nat y (c.boxes ||| c.dias) hy (or_lt20 hb hd)
  refine op57 ?_
  unfold scn
  ((try simp (implicitDefEqProofs := false) (disch := first | assumption | (try simp only [lens]); omega -splitDisjunctions) [e1, e2, e3, e4, e5, e6, e7]); all_goals try (repeat' ((first | ((with_reducible first | refine And.intro ?_ ?_ | refine Exists.intro ?_ ?_); first | omega | (simp <;> omega)) | (with_reducible refine spl (And.intro ?_ ?_) <;> intro _) | (refine CL.clo (ahead_modlog c hc x y hx hy) ?_) | (refine CM.clo (ahead_modlog c hc x y hx hy) ?_) | (refine CD.clo (ahead_modlog c hc x y hx hy) ?_) | (refine CL.clo (ahead_modlog c hc y x hy hx) ?_) | (refine CM.clo (ahead_modlog c hc y x hy hx) ?_) | (refine CD.clo (ahead_modlog c hc y x hy hx) ?_)) <;> (try simp (implicitDefEqProofs := false) (disch := first | assumption | (try simp only [lens]); omega -splitDisjunctions) [e1, e2, e3, e4, e5, e6, e7]))))
  all_goals unfold Sc.sees
  all_goals first
    | rw [if_pos (show c.lg = 4 ∨ c.lg = 5 by omega)]
    | (rw [if_neg (show ¬ (c.lg = 4 ∨ c.lg = 5) by omega)]
       first
         | rw [if_pos (show c.lg = 6 by omega)]
         | (rw [if_neg (show ¬ c.lg = 6 by omega)]
            first
              | rw [if_pos (show c.lg = 7 by omega)]
              | (rw [if_neg (show ¬ c.lg = 7 by omega)]
                 first
                   | rw [if_pos (show c.lg = 8 by omega)]
                   | rw [if_neg (show ¬ c.lg = 8 by omega)])))
  all_goals simp [Sc.more, Sc.alike, *]
  all_goals omega
end Go.Proofs.Ytliockncjdeloaa
