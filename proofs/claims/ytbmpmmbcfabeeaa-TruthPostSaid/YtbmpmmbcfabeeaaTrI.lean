/-
  truth.classes, told without memory.
-/
import Derived.Test.YtbmpmmbcfabeeaaTrH
namespace Go.Proofs.Ytbmpmmbcfabeeaa
open Go Go.Pv
set_option linter.unusedVariables false
set_option linter.unusedSimpArgs false
set_option maxRecDepth 100000
set_option maxHeartbeats 4000000

theorem or_nat (x y : Nat) (hx : x < 1048576) (hy : y < 1048576) : orI .i64 (x : Int) (y : Int) = ((x ||| y : Nat) : Int) := by
  have h2 : (BitVec.ofInt 64 (x : Int) ||| BitVec.ofInt 64 (y : Int)).toNat = x ||| y := by
    rw [BitVec.toNat_or]
    simp only [BitVec.ofInt_natCast, BitVec.toNat_ofNat]
    rw [Nat.mod_eq_of_lt (by omega), Nat.mod_eq_of_lt (by omega)]
  have h3 : x ||| y < 2 ^ 20 := Nat.or_lt_two_pow hx hy
  show IntKind.i64.wrap (((BitVec.ofInt 64 (x : Int) ||| BitVec.ofInt 64 (y : Int)).toNat : Nat) : Int) = _
  rw [h2, wrap64 (by omega) (by omega)]
def gB (B : List Bool) (k : Nat) : Bool := (B[k]?).getD false
theorem gB_eq {B : List Bool} {k : Nat} (h : k < B.length) : B[k] = gB B k := by unfold gB; rw [List.getElem?_eq_getElem h]; rfl
/-- its own other side -/
def cD (B : List Bool) (n k : Nat) : Bool := (List.range k).all fun j => (gB B (2 ^ n - 1 - j) != gB B j)
def cM1 (B : List Bool) (k i : Nat) : Bool := !(!k.testBit i && gB B k && !gB B (k ||| 2 ^ i))
def cMi (B : List Bool) (k i : Nat) : Bool := (List.range i).all (cM1 B k)
/-- it does not fall -/
def cM (B : List Bool) (n k : Nat) : Bool := (List.range k).all fun j => cMi B j n
def linS (B : List Bool) (k : Nat) : Nat → Bool
  | 0 => gB B 0
  | i + 1 => if k.testBit i = true then (linS B k i != (gB B (2 ^ i) != gB B 0)) else linS B k i
/-- a sum of some of its values and a constant -/
def cL (B : List Bool) (n k : Nat) : Bool := (List.range k).all fun j => (linS B j n == gB B j)
theorem cD_succ (B : List Bool) (n k : Nat) : cD B n (k + 1) = (cD B n k && (gB B (2 ^ n - 1 - k) != gB B k)) := by unfold cD; rw [List.range_succ, List.all_append]; simp
theorem cM_succ (B : List Bool) (n k : Nat) : cM B n (k + 1) = (cM B n k && cMi B k n) := by unfold cM; rw [List.range_succ, List.all_append]; simp
theorem cMi_succ (B : List Bool) (k i : Nat) : cMi B k (i + 1) = (cMi B k i && cM1 B k i) := by unfold cMi; rw [List.range_succ, List.all_append]; simp
theorem cL_succ (B : List Bool) (n k : Nat) : cL B n (k + 1) = (cL B n k && (linS B k n == gB B k)) := by unfold cL; rw [List.range_succ, List.all_append]; simp
def clsL (B : List Bool) (n : Nat) : List Bool := [!gB B 0, gB B (2 ^ n - 1), cD B n (2 ^ n), cM B n (2 ^ n), cL B n (2 ^ n)]
def x79_T6 : XC := .seq (.reg [⟨some 121,.load 41 (.tmp 4),none⟩,⟨none,.store 41 (.tmp 2) (.tmp 121),none⟩]) (.ret)
def x79_T5 : XC := .reg [⟨some 112,.indexAddr 41 (.tmp 4) (.const (.int .i64 4)),none⟩,⟨some 113,.load 4 (.tmp 112),none⟩,⟨some 114,.move (.tmp 113),none⟩,⟨some 115,.move (.tmp 10),some (some 114,true)⟩,⟨some 116,.move (.tmp 9),some (some 114,true)⟩,⟨some 117,.binOp .eql 4 (.tmp 115) (.tmp 116) 4,some (some 114,true)⟩,⟨some 118,.pick (.tmp 114) (.tmp 117) (.const (.bool false)),none⟩,⟨some 119,.indexAddr 41 (.tmp 4) (.const (.int .i64 4)),none⟩,⟨none,.store 4 (.tmp 119) (.tmp 118),none⟩]
def x79_L6 : XC := .seq (.reg [⟨some 91,.binOp .lss 3 (.tmp 90) (.tmp 89) 3,none⟩]) (.seq (.cond (.tmp 91) (.skip) (.exit 6)) (.seq (.block 7 (.seq (.reg [⟨some 92,.move (.tmp 90),none⟩,⟨some 11,.assign (.tmp 92),none⟩]) (.seq (.reg [⟨some 93,.move (.tmp 8),none⟩,⟨some 94,.move (.tmp 11),none⟩,⟨some 95,.binOp .shr 3 (.tmp 93) (.tmp 94) 3,none⟩,⟨some 96,.binOp .and 3 (.tmp 95) (.const (.int .i64 1)) 3,none⟩,⟨some 97,.binOp .eql 3 (.tmp 96) (.const (.int .i64 1)) 3,none⟩]) (.cond (.tmp 97) (.drawn 22 [⟨some 98,.move (.tmp 10),none⟩,⟨some 99,.fieldAddr 48 (.tmp 1) 1,none⟩,⟨some 100,.load 46 (.tmp 99),none⟩,⟨some 101,.move (.tmp 11),none⟩,⟨some 102,.binOp .shl 3 (.const (.int .i64 1)) (.tmp 101) 3,none⟩,⟨some 103,.indexAddr 46 (.tmp 100) (.tmp 102),none⟩,⟨some 104,.load 4 (.tmp 103),none⟩,⟨some 105,.fieldAddr 48 (.tmp 1) 1,none⟩,⟨some 106,.load 46 (.tmp 105),none⟩,⟨some 107,.indexAddr 46 (.tmp 106) (.const (.int .i64 0)),none⟩,⟨some 108,.load 4 (.tmp 107),none⟩,⟨some 109,.binOp .neq 4 (.tmp 104) (.tmp 108) 4,none⟩,⟨some 110,.binOp .neq 4 (.tmp 98) (.tmp 109) 4,none⟩,⟨some 10,.assign (.tmp 110),none⟩]) (.skip))))) (.reg [⟨some 111,.binOp .add 3 (.tmp 90) (.const (.int .i64 1)) 3,none⟩,⟨some 90,.move (.tmp 111),none⟩])))
def x79_L4 : XC := .seq (.reg [⟨some 80,.binOp .lss 3 (.tmp 79) (.tmp 78) 3,none⟩]) (.seq (.cond (.tmp 80) (.skip) (.exit 4)) (.seq (.block 5 (.seq (.reg [⟨some 81,.move (.tmp 79),none⟩,⟨some 82,.indexAddr 46 (.tmp 77) (.tmp 79),none⟩,⟨some 83,.load 4 (.tmp 82),none⟩,⟨some 8,.assign (.tmp 81),none⟩,⟨some 9,.assign (.tmp 83),none⟩]) (.seq (.reg [⟨some 84,.fieldAddr 48 (.tmp 1) 1,none⟩,⟨some 85,.load 46 (.tmp 84),none⟩,⟨some 86,.indexAddr 46 (.tmp 85) (.const (.int .i64 0)),none⟩,⟨some 87,.load 4 (.tmp 86),none⟩,⟨some 10,.assign (.tmp 87),none⟩]) (.seq (.seq (.reg [⟨some 88,.fieldAddr 48 (.tmp 1) 0,none⟩,⟨some 89,.load 3 (.tmp 88),none⟩,⟨some 90,.move (.const (.int .i64 0)),none⟩]) (.bloop 6 x79_L6)) (x79_T5))))) (.reg [⟨some 120,.binOp .add 3 (.tmp 79) (.const (.int .i64 1)) 3,none⟩,⟨some 79,.move (.tmp 120),none⟩])))
def x79_T2 : XC := .seq (.seq (.reg [⟨some 76,.fieldAddr 48 (.tmp 1) 1,none⟩,⟨some 77,.load 46 (.tmp 76),none⟩,⟨some 78,.call ⟨.builtin .len,#[.tmp 77],#[46]⟩,none⟩,⟨some 79,.move (.const (.int .i64 0)),none⟩]) (.bloop 4 x79_L4)) (x79_T6)
def x79_L2 : XC := .seq (.reg [⟨some 52,.binOp .lss 3 (.tmp 51) (.tmp 50) 3,none⟩]) (.seq (.cond (.tmp 52) (.skip) (.exit 2)) (.seq (.block 3 (.seq (.reg [⟨some 53,.move (.tmp 51),none⟩,⟨some 7,.assign (.tmp 53),none⟩]) (.seq (.drawn 10 [⟨some 54,.move (.tmp 5),none⟩,⟨some 55,.move (.tmp 7),none⟩,⟨some 56,.binOp .shr 3 (.tmp 54) (.tmp 55) 3,none⟩,⟨some 57,.binOp .and 3 (.tmp 56) (.const (.int .i64 1)) 3,none⟩,⟨some 58,.binOp .eql 3 (.tmp 57) (.const (.int .i64 0)) 3,none⟩,⟨some 59,.move (.tmp 58),none⟩,⟨some 60,.move (.tmp 6),some (some 59,true)⟩,⟨some 61,.pick (.tmp 59) (.tmp 60) (.const (.bool false)),none⟩,⟨some 62,.move (.tmp 61),none⟩,⟨some 63,.fieldAddr 48 (.tmp 1) 1,some (some 62,true)⟩,⟨some 64,.load 46 (.tmp 63),some (some 62,true)⟩,⟨some 65,.move (.tmp 5),some (some 62,true)⟩,⟨some 66,.move (.tmp 7),some (some 62,true)⟩,⟨some 67,.binOp .shl 3 (.const (.int .i64 1)) (.tmp 66) 3,some (some 62,true)⟩,⟨some 68,.binOp .or 3 (.tmp 65) (.tmp 67) 3,some (some 62,true)⟩,⟨some 69,.indexAddr 46 (.tmp 64) (.tmp 68),some (some 62,true)⟩,⟨some 70,.load 4 (.tmp 69),some (some 62,true)⟩,⟨some 71,.unOp .not 4 (.tmp 70),some (some 62,true)⟩,⟨some 72,.pick (.tmp 62) (.tmp 71) (.const (.bool false)),none⟩]) (.cond (.tmp 72) (.reg [⟨some 73,.indexAddr 41 (.tmp 4) (.const (.int .i64 3)),none⟩,⟨none,.store 4 (.tmp 73) (.const (.bool false)),none⟩]) (.skip))))) (.reg [⟨some 74,.binOp .add 3 (.tmp 51) (.const (.int .i64 1)) 3,none⟩,⟨some 51,.move (.tmp 74),none⟩])))
def x79_L0 : XC := .seq (.reg [⟨some 31,.binOp .lss 3 (.tmp 30) (.tmp 29) 3,none⟩]) (.seq (.cond (.tmp 31) (.skip) (.exit 0)) (.seq (.block 1 (.seq (.reg [⟨some 32,.move (.tmp 30),none⟩,⟨some 33,.indexAddr 46 (.tmp 28) (.tmp 30),none⟩,⟨some 34,.load 4 (.tmp 33),none⟩,⟨some 5,.assign (.tmp 32),none⟩,⟨some 6,.assign (.tmp 34),none⟩]) (.seq (.reg [⟨some 35,.indexAddr 41 (.tmp 4) (.const (.int .i64 2)),none⟩,⟨some 36,.load 4 (.tmp 35),none⟩,⟨some 37,.move (.tmp 36),none⟩,⟨some 38,.fieldAddr 48 (.tmp 1) 1,some (some 37,true)⟩,⟨some 39,.load 46 (.tmp 38),some (some 37,true)⟩,⟨some 40,.move (.tmp 3),some (some 37,true)⟩,⟨some 41,.move (.tmp 5),some (some 37,true)⟩,⟨some 42,.binOp .sub 3 (.tmp 40) (.tmp 41) 3,some (some 37,true)⟩,⟨some 43,.indexAddr 46 (.tmp 39) (.tmp 42),some (some 37,true)⟩,⟨some 44,.load 4 (.tmp 43),some (some 37,true)⟩,⟨some 45,.move (.tmp 6),some (some 37,true)⟩,⟨some 46,.binOp .neq 4 (.tmp 44) (.tmp 45) 4,some (some 37,true)⟩,⟨some 47,.pick (.tmp 37) (.tmp 46) (.const (.bool false)),none⟩,⟨some 48,.indexAddr 41 (.tmp 4) (.const (.int .i64 2)),none⟩,⟨none,.store 4 (.tmp 48) (.tmp 47),none⟩]) (.seq (.reg [⟨some 49,.fieldAddr 48 (.tmp 1) 0,none⟩,⟨some 50,.load 3 (.tmp 49),none⟩,⟨some 51,.move (.const (.int .i64 0)),none⟩]) (.bloop 2 x79_L2))))) (.reg [⟨some 75,.binOp .add 3 (.tmp 30) (.const (.int .i64 1)) 3,none⟩,⟨some 30,.move (.tmp 75),none⟩])))
def x79 : XC := .seq (.reg [⟨some 1,.box 48 (.tmp 0),none⟩,⟨some 2,.alloc 41,none⟩]) (.seq (.reg [⟨some 12,.fieldAddr 48 (.tmp 1) 1,none⟩,⟨some 13,.load 46 (.tmp 12),none⟩,⟨some 14,.call ⟨.builtin .len,#[.tmp 13],#[46]⟩,none⟩,⟨some 15,.binOp .sub 3 (.tmp 14) (.const (.int .i64 1)) 3,none⟩,⟨some 3,.assign (.tmp 15),none⟩]) (.seq (.drawn 2 [⟨some 16,.fieldAddr 48 (.tmp 1) 1,none⟩,⟨some 17,.load 46 (.tmp 16),none⟩,⟨some 18,.indexAddr 46 (.tmp 17) (.const (.int .i64 0)),none⟩,⟨some 19,.load 4 (.tmp 18),none⟩,⟨some 20,.unOp .not 4 (.tmp 19),none⟩,⟨some 21,.fieldAddr 48 (.tmp 1) 1,none⟩,⟨some 22,.load 46 (.tmp 21),none⟩,⟨some 23,.move (.tmp 3),none⟩,⟨some 24,.indexAddr 46 (.tmp 22) (.tmp 23),none⟩,⟨some 25,.load 4 (.tmp 24),none⟩,⟨some 26,.build 41 #[(0,.tmp 20),(1,.tmp 25),(2,.const (.bool true)),(3,.const (.bool true)),(4,.const (.bool true))],none⟩,⟨some 4,.alloc 41,none⟩,⟨none,.store 41 (.tmp 4) (.tmp 26),none⟩]) (.seq (.seq (.reg [⟨some 27,.fieldAddr 48 (.tmp 1) 1,none⟩,⟨some 28,.load 46 (.tmp 27),none⟩,⟨some 29,.call ⟨.builtin .len,#[.tmp 28],#[46]⟩,none⟩,⟨some 30,.move (.const (.int .i64 0)),none⟩]) (.bloop 0 x79_L0)) (x79_T2))))
@[simp] theorem x79_s {C : WC} {e : AE} {s : Store} {K : KS} : type_of% (@X_at C e s K _ _ x79_T6.eq_1) ∧ type_of% (@X_at C e s K _ _ x79_T5.eq_1) ∧ type_of% (@X_at C e s K _ _ x79_L6.eq_1) ∧ type_of% (@X_at C e s K _ _ x79_L4.eq_1) ∧ type_of% (@X_at C e s K _ _ x79_T2.eq_1) ∧ type_of% (@X_at C e s K _ _ x79_L2.eq_1) ∧ type_of% (@X_at C e s K _ _ x79_L0.eq_1) ∧ type_of% (@X_at C e s K _ _ x79.eq_1) := ⟨X_at x79_T6.eq_1, X_at x79_T5.eq_1, X_at x79_L6.eq_1, X_at x79_L4.eq_1, X_at x79_T2.eq_1, X_at x79_L2.eq_1, X_at x79_L0.eq_1, X_at x79.eq_1⟩
def an79 : Ann := ⟨[(2, .mix 12), (10, .mix 15)], [(6, [], [1, 2, 4, 8, 9, 10, 77, 78, 79, 89, 90], [1, 2, 4, 9, 10, 77, 78, 79]), (4, [], [1, 2, 4, 77, 78, 79], [2, 4]), (2, [], [1, 2, 3, 4, 5, 6, 28, 29, 30, 50, 51], [1, 2, 3, 4, 28, 29, 30]), (0, [], [1, 2, 3, 4, 28, 29, 30], [1, 2, 4])], []⟩
def cx79 (P : Program) (m : Nat) : WC := ⟨P, m, an79⟩
@[simp] theorem cx79_a {P : Program} {m : Nat} : (cx79 P m).P = P ∧ (cx79 P m).m = m ∧ (cx79 P m).A.clsOf 2 = .mix 12 ∧ (cx79 P m).A.clsOf 10 = .mix 15 ∧ (cx79 P m).A.clsOf 22 = .draw ∧ (cx79 P m).A.frzOf 2 = [] ∧ (cx79 P m).A.frzOf 10 = [] ∧ (cx79 P m).A.frzOf 22 = [] ∧ (cx79 P m).A.loopOf 6 = ([], [1, 2, 4, 8, 9, 10, 77, 78, 79, 89, 90], [1, 2, 4, 9, 10, 77, 78, 79]) ∧ (cx79 P m).A.loopOf 4 = ([], [1, 2, 4, 77, 78, 79], [2, 4]) ∧ (cx79 P m).A.loopOf 2 = ([], [1, 2, 3, 4, 5, 6, 28, 29, 30, 50, 51], [1, 2, 3, 4, 28, 29, 30]) ∧ (cx79 P m).A.loopOf 0 = ([], [1, 2, 3, 4, 28, 29, 30], [1, 2, 4]) := ⟨rfl, rfl, rfl, rfl, rfl, rfl, rfl, rfl, rfl, rfl, rfl, rfl⟩
instance {P : Program} {m f : Nat} [h : EnT P f] : EnT (cx79 P m).P f := h
theorem chk79 : ∀ c, Try.f79.body = some c → chkC Try.f79.ntmps an79 c = true := by intro c h; obtain rfl := Option.some.inj h; decide +kernel
theorem op79 {args : List PV} {v : PV} (h : X (cx79 Try.prog 0) x79 (argsA 0 args) [] (.fin [.cell 2 41] fun v1 s1 => deref s1 6 v1 = v)) (hl : args.length ≤ Try.f79.ntmps := by rw [Try.ntmps79]; simp) : CallOK Try.prog 79 args [] v [] :=
  callX (m := 0) (cx79 Try.prog 0) x79 rfl rfl (by kernel_rfl) Try.func79 rfl rfl hl mixed (chk79 _ rfl) (by rw [Try.results79]; exact h)

theorem classes_truth (t : Tab) (n : Nat) (ht : TabOK t n) : CallOK Try.prog 79 [.agg (tab t)] [] (.agg ((clsL t.bits n).map .bool)) [] := by
  obtain ⟨tn, B⟩ := t
  obtain ⟨hn, hn4, hB⟩ := ht
  simp only at hn hB ⊢
  subst hn
  have hM : 1 ≤ 2 ^ n ∧ 2 ^ n ≤ 16 := ⟨Nat.one_le_two_pow, Nat.le_trans (Nat.pow_le_pow_right (by decide) hn4) (by decide)⟩
  have hor : ∀ k i, k < 2 ^ n → i < n → k ||| 2 ^ i < 2 ^ n := fun k i hk hi => Nat.or_lt_two_pow hk (Nat.pow_lt_pow_right (by decide) hi)
  have hpw : ∀ i, i < n → 2 ^ i < 2 ^ n := fun i hi => Nat.pow_lt_pow_right (by decide) hi
  unfold clsL
  have hcD := cD_succ B n
  have hcM := cM_succ B n
  have hcL := cL_succ B n
  simp only [List.map_cons, List.map_nil]
  refine op79 ?_
  simp only [tab]
  have hcD0 : cD B n 0 = true := rfl
  have hcM0 : cM B n 0 = true := rfl
  have hcL0 : cL B n 0 = true := rfl
  generalize 2 ^ n = M at *
  have h00 := gB_eq (B := B) (k := 0) (by omega)
  have hll := gB_eq (B := B) (k := M - 1) (by omega)
  have hl1 : ((M : Int) - 1).toNat = M - 1 := by omega
  generalize gB B 0 = b0 at *
  generalize gB B (M - 1) = bl at *
  have hM0 : 0 < B.length := by omega
  have hM1 : M - 1 < B.length := by omega
  (((try simp (implicitDefEqProofs := false) [hB, h00, hl1, hll, hM0, hM1]); (try simp (implicitDefEqProofs := false) (disch := first | assumption | (try simp only [lens]); omega -splitDisjunctions) [hB, h00, hl1, hll, hM0, hM1])); all_goals try (repeat' ((first | ((with_reducible first | refine And.intro ?_ ?_ | refine Exists.intro ?_ ?_); first | omega | (simp <;> omega)) | (with_reducible refine spl (And.intro ?_ ?_) <;> intro _)) <;> ((try simp (implicitDefEqProofs := false) [hB, h00, hl1, hll, hM0, hM1]); (try simp (implicitDefEqProofs := false) (disch := first | assumption | (try simp only [lens]); omega -splitDisjunctions) [hB, h00, hl1, hll, hM0, hM1])))))
  refine W_of fun Q hQ => ?_
  have four : Q [(1, .ptr 0 0 0), (2, .ptr 1 0 0), (3, .int .i64 ((M : Int) - 1)), (4, .ptr 2 0 0), (28, .list (B.map boolRow)), (29, .int .i64 (M : Int)), (30, .int .i64 (M : Int))] [.rows 2 [[.int .i64 n, .list (B.map boolRow)]], .rows 5 [[.bool false, .bool false, .bool false, .bool false, .bool false]], .rows 5 [[.bool !b0, .bool bl, .bool (cD B n M), .bool (cM B n M), .bool true]]] := by
    have hcLM : cL B n M = cL B n M := rfl
    generalize hD : cD B n M = D at *
    generalize hE : cM B n M = E at *
    apply hQ
    clear hQ
    (((try simp (implicitDefEqProofs := false) [hB]); (try simp (implicitDefEqProofs := false) (disch := first | assumption | (try simp only [lens]); omega -splitDisjunctions) [hB])); all_goals try (repeat' ((first | ((with_reducible first | refine And.intro ?_ ?_ | refine Exists.intro ?_ ?_); first | omega | (simp <;> omega)) | (with_reducible refine spl (And.intro ?_ ?_) <;> intro _)) <;> ((try simp (implicitDefEqProofs := false) [hB]); (try simp (implicitDefEqProofs := false) (disch := first | assumption | (try simp only [lens]); omega -splitDisjunctions) [hB])))))
    refine W_of fun Q4 hQ4 => ?_
    have main4 : ∀ r k, k + r = M → Q4 [(1, .ptr 0 0 0), (2, .ptr 1 0 0), (4, .ptr 2 0 0), (77, .list (B.map boolRow)), (78, .int .i64 (M : Int)), (79, .int .i64 (k : Int))] [.rows 2 [[.int .i64 n, .list (B.map boolRow)]], .rows 5 [[.bool false, .bool false, .bool false, .bool false, .bool false]], .rows 5 [[.bool !b0, .bool bl, .bool D, .bool E, .bool (cL B n k)]]] := by
      intro r
      induction r with
      | zero =>
        intro k hk
        obtain rfl : k = M := by omega
        generalize cL B n k = L at *
        apply hQ4
        clear hQ4
        (((try simp (implicitDefEqProofs := false)); (try simp (implicitDefEqProofs := false) (disch := first | assumption | (try simp only [lens]); omega -splitDisjunctions))); all_goals try (repeat' ((first | ((with_reducible first | refine And.intro ?_ ?_ | refine Exists.intro ?_ ?_); first | omega | (simp <;> omega)) | (with_reducible refine spl (And.intro ?_ ?_) <;> intro _)) <;> ((try simp (implicitDefEqProofs := false)); (try simp (implicitDefEqProofs := false) (disch := first | assumption | (try simp only [lens]); omega -splitDisjunctions))))))
      | succ r ih =>
        intro k hk
        have hkM : k < M := by omega
        have ih := ih (k + 1) (by omega)
        rw [hcL] at ih
        have hkB : k < B.length := by omega
        have e1 := gB_eq hkB
        have hl0 : linS B k 0 = b0 := by rw [← h00, gB_eq]; rfl
        have hls : ∀ i, linS B k (i + 1) = if k.testBit i = true then (linS B k i != (gB B (2 ^ i) != b0)) else linS B k i := fun i => by rw [linS, ← gB_eq hM0, h00]
        generalize gB B k = x at *
        generalize cL B n k = L at *
        apply hQ4
        clear hQ4
        (((try simp (implicitDefEqProofs := false) [hkM, hkB, e1, hM0, h00]); (try simp (implicitDefEqProofs := false) (disch := first | assumption | (try simp only [lens]); omega -splitDisjunctions) [hkM, hkB, e1, hM0, h00])); all_goals try (repeat' ((first | ((with_reducible first | refine And.intro ?_ ?_ | refine Exists.intro ?_ ?_); first | omega | (simp <;> omega)) | (with_reducible refine spl (And.intro ?_ ?_) <;> intro _)) <;> ((try simp (implicitDefEqProofs := false) [hkM, hkB, e1, hM0, h00]); (try simp (implicitDefEqProofs := false) (disch := first | assumption | (try simp only [lens]); omega -splitDisjunctions) [hkM, hkB, e1, hM0, h00])))))
        refine W_of fun Q6 hQ6 => ?_
        have main6 : ∀ r i, i + r = n → Q6 [(1, .ptr 0 0 0), (2, .ptr 1 0 0), (4, .ptr 2 0 0), (8, .int .i64 (k : Int)), (9, .bool x), (10, .bool (linS B k i)), (77, .list (B.map boolRow)), (78, .int .i64 (M : Int)), (79, .int .i64 (k : Int)), (89, .int .i64 (n : Int)), (90, .int .i64 (i : Int))] [.rows 2 [[.int .i64 n, .list (B.map boolRow)]], .rows 5 [[.bool false, .bool false, .bool false, .bool false, .bool false]], .rows 5 [[.bool !b0, .bool bl, .bool D, .bool E, .bool L]]] := by
          intro r
          induction r with
          | zero =>
            intro i hi
            obtain rfl : i = n := by omega
            generalize linS B k i = c at *
            apply hQ6
            clear hQ6
            cases L
            · (((try simp (implicitDefEqProofs := false)); (try simp (implicitDefEqProofs := false) (disch := first | assumption | (try simp only [lens]); omega -splitDisjunctions))); all_goals try (repeat' ((first | ((with_reducible first | refine And.intro ?_ ?_ | refine Exists.intro ?_ ?_); first | omega | (simp <;> omega)) | (with_reducible refine spl (And.intro ?_ ?_) <;> intro _)) <;> ((try simp (implicitDefEqProofs := false)); (try simp (implicitDefEqProofs := false) (disch := first | assumption | (try simp only [lens]); omega -splitDisjunctions))))))
              all_goals exact at2 ih (by simp) (by simp)
            · (((try simp (implicitDefEqProofs := false)); (try simp (implicitDefEqProofs := false) (disch := first | assumption | (try simp only [lens]); omega -splitDisjunctions))); all_goals try (repeat' ((first | ((with_reducible first | refine And.intro ?_ ?_ | refine Exists.intro ?_ ?_); first | omega | (simp <;> omega)) | (with_reducible refine spl (And.intro ?_ ?_) <;> intro _)) <;> ((try simp (implicitDefEqProofs := false)); (try simp (implicitDefEqProofs := false) (disch := first | assumption | (try simp only [lens]); omega -splitDisjunctions))))))
              all_goals exact at2 ih (by simp) (by simp)
          | succ r ih6 =>
            intro i hi
            have hin : i < n := by omega
            have ih6 := ih6 (i + 1) (by omega)
            rw [hls] at ih6
            have hb := has_bits k i (by omega)
            have ha0 : ¬ ((i : Int) < 0) := by omega
            have hs := shl_nat i (by omega)
            have hp := hpw i hin
            generalize 2 ^ i = p at *
            have hpB : p < B.length := by omega
            have e3 := gB_eq hpB
            generalize gB B p = z at *
            generalize linS B k i = c at *
            generalize k.testBit i = tb at *
            apply hQ6
            clear hQ6
            cases tb
            · (((try simp (implicitDefEqProofs := false) [hin, hb, hs, hpB, e3, ha0, hM0, h00]); (try simp (implicitDefEqProofs := false) (disch := first | assumption | (try simp only [lens]); omega -splitDisjunctions) [hin, hb, hs, hpB, e3, ha0, hM0, h00])); all_goals try (repeat' ((first | ((with_reducible first | refine And.intro ?_ ?_ | refine Exists.intro ?_ ?_); first | omega | (simp <;> omega)) | (with_reducible refine spl (And.intro ?_ ?_) <;> intro _)) <;> ((try simp (implicitDefEqProofs := false) [hin, hb, hs, hpB, e3, ha0, hM0, h00]); (try simp (implicitDefEqProofs := false) (disch := first | assumption | (try simp only [lens]); omega -splitDisjunctions) [hin, hb, hs, hpB, e3, ha0, hM0, h00])))))
              all_goals first | exact ih6 | (refine at2 ih6 ?_ ?_ <;> simp; done) | (exfalso; first | omega | (simp_all; done) | (simp_all; omega))
            · (((try simp (implicitDefEqProofs := false) [hin, hb, hs, hpB, e3, ha0, hM0, h00]); (try simp (implicitDefEqProofs := false) (disch := first | assumption | (try simp only [lens]); omega -splitDisjunctions) [hin, hb, hs, hpB, e3, ha0, hM0, h00])); all_goals try (repeat' ((first | ((with_reducible first | refine And.intro ?_ ?_ | refine Exists.intro ?_ ?_); first | omega | (simp <;> omega)) | (with_reducible refine spl (And.intro ?_ ?_) <;> intro _)) <;> ((try simp (implicitDefEqProofs := false) [hin, hb, hs, hpB, e3, ha0, hM0, h00]); (try simp (implicitDefEqProofs := false) (disch := first | assumption | (try simp only [lens]); omega -splitDisjunctions) [hin, hb, hs, hpB, e3, ha0, hM0, h00])))))
              all_goals exact at2 ih6 (by simp [bne]) (by simp)
        refine at2 (main6 _ 0 (Nat.zero_add _)) ?_ ?_ <;> simp [hl0]
    refine at2 (main4 _ 0 (Nat.zero_add _)) ?_ ?_ <;> simp [hcL0]
  have main : ∀ r k, k + r = M → Q [(1, .ptr 0 0 0), (2, .ptr 1 0 0), (3, .int .i64 ((M : Int) - 1)), (4, .ptr 2 0 0), (28, .list (B.map boolRow)), (29, .int .i64 (M : Int)), (30, .int .i64 (k : Int))] [.rows 2 [[.int .i64 n, .list (B.map boolRow)]], .rows 5 [[.bool false, .bool false, .bool false, .bool false, .bool false]], .rows 5 [[.bool !b0, .bool bl, .bool (cD B n k), .bool (cM B n k), .bool true]]] := by
    intro r
    induction r with
    | zero =>
      intro k hk
      obtain rfl : k = M := by omega
      exact four
    | succ r ih =>
      intro k hk
      have hkM : k < M := by omega
      have ih := ih (k + 1) (by omega)
      rw [hcD, hcM] at ih
      have hkB : k < B.length := by omega
      have hk2 : M - 1 - k < B.length := by omega
      have e1 := gB_eq hkB
      have e2 := gB_eq hk2
      have hi2 : (M : Int) - 1 - (k : Int) = ((M - 1 - k : Nat) : Int) := by omega
      have hor := fun i hi => hor k i hkM hi
      generalize gB B (M - 1 - k) = y at *
      have hmi := fun i => cMi_succ B k i
      have hm1 : ∀ i, cM1 B k i = !(!k.testBit i && gB B k && !gB B (k ||| 2 ^ i)) := fun i => rfl
      generalize gB B k = x at *
      generalize cD B n k = d at *
      generalize cM B n k = m at *
      apply hQ
      clear hQ
      have inner : ∀ d' : Bool, Q [(1, .ptr 0 0 0), (2, .ptr 1 0 0), (3, .int .i64 ((M : Int) - 1)), (4, .ptr 2 0 0), (28, .list (B.map boolRow)), (29, .int .i64 (M : Int)), (30, .int .i64 ((k + 1 : Nat) : Int))] [.rows 2 [[.int .i64 n, .list (B.map boolRow)]], .rows 5 [[.bool false, .bool false, .bool false, .bool false, .bool false]], .rows 5 [[.bool !b0, .bool bl, .bool d', .bool (m && cMi B k n), .bool true]]] →
          W (cx79 Try.prog 0) 2 x79_L2 (KS.block 1 (KS.seq (XC.reg [{ d := some 75, op := Op.binOp BinOp.add 3 (Operand.tmp 30) (Operand.const (Value.int IntKind.i64 1)) 3, g := none }, { d := some 30, op := Op.move (Operand.tmp 75), g := none }]) (KS.round 0 Q (KS.block 0 (KS.seq x79_T2 (KS.fin [ResultVar.cell 2 41] fun v1 s1 => deref s1 6 v1 = PV.agg [PV.bool !b0, PV.bool bl, PV.bool (cD B n M), PV.bool (cM B n M), PV.bool (cL B n M)]))))))
          [(1, .ptr 0 0 0), (2, .ptr 1 0 0), (3, .int .i64 ((M : Int) - 1)), (4, .ptr 2 0 0), (5, .int .i64 (k : Int)), (6, .bool x), (28, .list (B.map boolRow)), (29, .int .i64 (M : Int)), (30, .int .i64 (k : Int)), (50, .int .i64 (n : Int)), (51, .int .i64 0)] [.rows 2 [[.int .i64 n, .list (B.map boolRow)]], .rows 5 [[.bool false, .bool false, .bool false, .bool false, .bool false]], .rows 5 [[.bool !b0, .bool bl, .bool d', .bool m, .bool true]]] := by
        intro d' ih
        refine W_of fun Q2 hQ2 => ?_
        have main2 : ∀ r i, i + r = n → Q2 [(1, .ptr 0 0 0), (2, .ptr 1 0 0), (3, .int .i64 ((M : Int) - 1)), (4, .ptr 2 0 0), (5, .int .i64 (k : Int)), (6, .bool x), (28, .list (B.map boolRow)), (29, .int .i64 (M : Int)), (30, .int .i64 (k : Int)), (50, .int .i64 (n : Int)), (51, .int .i64 (i : Int))] [.rows 2 [[.int .i64 n, .list (B.map boolRow)]], .rows 5 [[.bool false, .bool false, .bool false, .bool false, .bool false]], .rows 5 [[.bool !b0, .bool bl, .bool d', .bool (m && cMi B k i), .bool true]]] := by
          intro r
          induction r with
          | zero =>
            intro i hi
            obtain rfl : i = n := by omega
            generalize cMi B k i = c at *
            apply hQ2
            clear hQ2
            (((try simp (implicitDefEqProofs := false)); (try simp (implicitDefEqProofs := false) (disch := first | assumption | (try simp only [lens]); omega -splitDisjunctions))); all_goals try (repeat' ((first | ((with_reducible first | refine And.intro ?_ ?_ | refine Exists.intro ?_ ?_); first | omega | (simp <;> omega)) | (with_reducible refine spl (And.intro ?_ ?_) <;> intro _)) <;> ((try simp (implicitDefEqProofs := false)); (try simp (implicitDefEqProofs := false) (disch := first | assumption | (try simp only [lens]); omega -splitDisjunctions))))))
            all_goals first | exact ih | (refine at2 ih ?_ ?_ <;> simp; done) | (exfalso; first | omega | (simp_all; done) | (simp_all; omega))
          | succ r ih2 =>
            intro i hi
            have hin : i < n := by omega
            have ih2 := ih2 (i + 1) (by omega)
            rw [hmi, hm1] at ih2
            have hb := has_bits k i (by omega)
            have ha0 : ¬ ((i : Int) < 0) := by omega
            have hs := shl_nat i (by omega)
            have hp := hpw i hin
            have ho := hor i hin
            have hoi := or_nat k (2 ^ i) (by omega) (by omega)
            generalize 2 ^ i = p at *
            generalize hq : k ||| p = q at *
            have hqB : q < B.length := by omega
            have e3 := gB_eq hqB
            generalize gB B q = z at *
            generalize cMi B k i = c at *
            generalize k.testBit i = tb at *
            apply hQ2
            clear hQ2
            cases tb
            · cases x
              · (((try simp (implicitDefEqProofs := false) [hin, hb, hs, hoi, hqB, e3, ha0]); (try simp (implicitDefEqProofs := false) (disch := first | assumption | (try simp only [lens]); omega -splitDisjunctions) [hin, hb, hs, hoi, hqB, e3, ha0])); all_goals try (repeat' ((first | ((with_reducible first | refine And.intro ?_ ?_ | refine Exists.intro ?_ ?_); first | omega | (simp <;> omega)) | (with_reducible refine spl (And.intro ?_ ?_) <;> intro _)) <;> ((try simp (implicitDefEqProofs := false) [hin, hb, hs, hoi, hqB, e3, ha0]); (try simp (implicitDefEqProofs := false) (disch := first | assumption | (try simp only [lens]); omega -splitDisjunctions) [hin, hb, hs, hoi, hqB, e3, ha0])))))
                all_goals first | exact ih2 | (refine at2 ih2 ?_ ?_ <;> simp; done) | (exfalso; first | omega | (simp_all; done) | (simp_all; omega))
              · cases z
                · (((try simp (implicitDefEqProofs := false) [hin, hb, hs, hoi, hqB, e3, ha0]); (try simp (implicitDefEqProofs := false) (disch := first | assumption | (try simp only [lens]); omega -splitDisjunctions) [hin, hb, hs, hoi, hqB, e3, ha0])); all_goals try (repeat' ((first | ((with_reducible first | refine And.intro ?_ ?_ | refine Exists.intro ?_ ?_); first | omega | (simp <;> omega)) | (with_reducible refine spl (And.intro ?_ ?_) <;> intro _)) <;> ((try simp (implicitDefEqProofs := false) [hin, hb, hs, hoi, hqB, e3, ha0]); (try simp (implicitDefEqProofs := false) (disch := first | assumption | (try simp only [lens]); omega -splitDisjunctions) [hin, hb, hs, hoi, hqB, e3, ha0])))))
                  all_goals first | exact ih2 | (refine at2 ih2 ?_ ?_ <;> simp; done) | (exfalso; first | omega | (simp_all; done) | (simp_all; omega))
                · (((try simp (implicitDefEqProofs := false) [hin, hb, hs, hoi, hqB, e3, ha0]); (try simp (implicitDefEqProofs := false) (disch := first | assumption | (try simp only [lens]); omega -splitDisjunctions) [hin, hb, hs, hoi, hqB, e3, ha0])); all_goals try (repeat' ((first | ((with_reducible first | refine And.intro ?_ ?_ | refine Exists.intro ?_ ?_); first | omega | (simp <;> omega)) | (with_reducible refine spl (And.intro ?_ ?_) <;> intro _)) <;> ((try simp (implicitDefEqProofs := false) [hin, hb, hs, hoi, hqB, e3, ha0]); (try simp (implicitDefEqProofs := false) (disch := first | assumption | (try simp only [lens]); omega -splitDisjunctions) [hin, hb, hs, hoi, hqB, e3, ha0])))))
                  all_goals first | exact ih2 | (refine at2 ih2 ?_ ?_ <;> simp; done) | (exfalso; first | omega | (simp_all; done) | (simp_all; omega))
            · (((try simp (implicitDefEqProofs := false) [hin, hb, hs, hoi, hqB, e3, ha0]); (try simp (implicitDefEqProofs := false) (disch := first | assumption | (try simp only [lens]); omega -splitDisjunctions) [hin, hb, hs, hoi, hqB, e3, ha0])); all_goals try (repeat' ((first | ((with_reducible first | refine And.intro ?_ ?_ | refine Exists.intro ?_ ?_); first | omega | (simp <;> omega)) | (with_reducible refine spl (And.intro ?_ ?_) <;> intro _)) <;> ((try simp (implicitDefEqProofs := false) [hin, hb, hs, hoi, hqB, e3, ha0]); (try simp (implicitDefEqProofs := false) (disch := first | assumption | (try simp only [lens]); omega -splitDisjunctions) [hin, hb, hs, hoi, hqB, e3, ha0])))))
              all_goals first | exact ih2 | (refine at2 ih2 ?_ ?_ <;> simp; done) | (exfalso; first | omega | (simp_all; done) | (simp_all; omega))
        refine at2 (main2 _ 0 (Nat.zero_add _)) ?_ ?_ <;> simp [cMi]
      cases d
      · (((try simp (implicitDefEqProofs := false) [hkM, hkB, hk2, e1, e2, hi2]); (try simp (implicitDefEqProofs := false) (disch := first | assumption | (try simp only [lens]); omega -splitDisjunctions) [hkM, hkB, hk2, e1, e2, hi2])); all_goals try (repeat' ((first | ((with_reducible first | refine And.intro ?_ ?_ | refine Exists.intro ?_ ?_); first | omega | (simp <;> omega)) | (with_reducible refine spl (And.intro ?_ ?_) <;> intro _)) <;> ((try simp (implicitDefEqProofs := false) [hkM, hkB, hk2, e1, e2, hi2]); (try simp (implicitDefEqProofs := false) (disch := first | assumption | (try simp only [lens]); omega -splitDisjunctions) [hkM, hkB, hk2, e1, e2, hi2])))))
        all_goals exact inner _ (at2 ih (by simp) (by simp [bne]))
      · (((try simp (implicitDefEqProofs := false) [hkM, hkB, hk2, e1, e2, hi2]); (try simp (implicitDefEqProofs := false) (disch := first | assumption | (try simp only [lens]); omega -splitDisjunctions) [hkM, hkB, hk2, e1, e2, hi2])); all_goals try (repeat' ((first | ((with_reducible first | refine And.intro ?_ ?_ | refine Exists.intro ?_ ?_); first | omega | (simp <;> omega)) | (with_reducible refine spl (And.intro ?_ ?_) <;> intro _)) <;> ((try simp (implicitDefEqProofs := false) [hkM, hkB, hk2, e1, e2, hi2]); (try simp (implicitDefEqProofs := false) (disch := first | assumption | (try simp only [lens]); omega -splitDisjunctions) [hkM, hkB, hk2, e1, e2, hi2])))))
        all_goals exact inner _ (at2 ih (by simp) (by simp [bne]))
  refine at2 (main _ 0 (Nat.zero_add _)) ?_ ?_ <;> simp [hcD0, hcM0]
end Go.Proofs.Ytbmpmmbcfabeeaa
