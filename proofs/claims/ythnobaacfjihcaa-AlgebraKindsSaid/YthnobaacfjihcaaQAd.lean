/-
  algebra: Downs.
-/
import Derived.Test.YthnobaacfjihcaaQAk
namespace Go.Proofs.Ythnobaacfjihcaa
open Go Go.Pv
set_option linter.unusedVariables false
set_option linter.unusedSimpArgs false
set_option maxRecDepth 100000
set_option maxHeartbeats 4000000

theorem shr_nat (x i : Nat) (hx : x < 1048576) : shrI .i64 (x : Int) (i : Int) = ((x / 2 ^ i : Nat) : Int) := by
  have h0 : shrI .i64 (x : Int) (i : Int) = (x : Int).fdiv (2 ^ (min i 64)) := rfl
  have h1 : (x : Int).fdiv (2 ^ (min i 64)) = ((x / 2 ^ (min i 64) : Nat) : Int) := by
    rw [Int.fdiv_eq_ediv_of_nonneg _ (Int.le_of_lt (Int.pow_pos (by decide)))]
    simp
  rw [h0, h1]
  by_cases hi : i ≤ 64
  · rw [Nat.min_eq_left hi]
  · have h5 : x < 2 ^ 64 := by omega
    rw [Nat.min_eq_right (by omega), Nat.div_eq_of_lt h5, Nat.div_eq_of_lt (Nat.lt_of_lt_of_le h5 (Nat.pow_le_pow_right (by decide) (by omega)))]
theorem and_nat (x y : Nat) (hx : x < 1048576) (hy : y < 1048576) : andI .i64 (x : Int) (y : Int) = ((x &&& y : Nat) : Int) := by
  have h2 : (BitVec.ofInt 64 (x : Int) &&& BitVec.ofInt 64 (y : Int)).toNat = x &&& y := by
    rw [BitVec.toNat_and]
    simp only [BitVec.ofInt_natCast, BitVec.toNat_ofNat]
    rw [Nat.mod_eq_of_lt (by omega), Nat.mod_eq_of_lt (by omega)]
  have h3 : x &&& y ≤ x := Nat.and_le_left
  show IntKind.i64.wrap (((BitVec.ofInt 64 (x : Int) &&& BitVec.ofInt 64 (y : Int)).toNat : Nat) : Int) = _
  rw [h2, wrap64 (by omega) (by omega)]
theorem has_bits (x i : Nat) (hx : x < 1048576) : andI .i64 (shrI .i64 (x : Int) (i : Int)) 1 = if x.testBit i then 1 else 0 := by
  have h3 : x / 2 ^ i ≤ x := Nat.div_le_self _ _
  rw [shr_nat x i hx, show (1 : Int) = ((1 : Nat) : Int) from rfl, and_nat _ _ (by omega) (by omega), Nat.and_one_is_mod, Nat.testBit_eq_decide_div_mod_eq]
  have := Nat.mod_two_eq_zero_or_one (x / 2 ^ i)
  rcases this with h | h <;> simp [h]
theorem shl_nat (i : Nat) (hi : i ≤ 20) : shlI .i64 1 (i : Int) = ((2 ^ i : Nat) : Int) := by
  have h0 : shlI .i64 1 (i : Int) = IntKind.i64.wrap (1 * 2 ^ (min i 64)) := rfl
  have h : 2 ^ i ≤ 2 ^ 20 := Nat.pow_le_pow_right (by decide) hi
  rw [h0, Nat.min_eq_left (by omega), Int.one_mul, show ((2 : Int) ^ i) = ((2 ^ i : Nat) : Int) by simp]
  generalize 2 ^ i = x at h ⊢
  rw [wrap64 (by omega) (by omega)]
/-- is a set of things closed downwards? -/
def isDown (n : Nat) (g : Nat → Nat → Bool) (k : Nat) : Bool := (List.range n).all fun i => !k.testBit i || (List.range n).all fun j => !g j i || k.testBit j
def bitsL (n k : Nat) : List Nat := (List.range n).filter k.testBit
def outs (n : Nat) (g : Nat → Nat → Bool) (K : Nat) : List (List Nat) := ((List.range K).filter (isDown n g)).map (bitsL n)
theorem outs_succ {n : Nat} {g : Nat → Nat → Bool} {k : Nat} : outs n g (k + 1) = if isDown n g k = true then outs n g k ++ [bitsL n k] else outs n g k := by
  unfold outs
  rw [List.range_succ, List.filter_append, List.filter_cons, List.filter_nil]
  split <;> simp
noncomputable def downR (o : Ord) : PV := if (ofault o).1 = 0 then (if 10 < o.n then .tuple [.nilsl, faultA (2, 0)] else if 1000 < (outs o.n.toNat (leB o.ps) (2 ^ o.n.toNat)).length then .tuple [.nilsl, faultA (10, 0)]
  else .tuple [.list ((outs o.n.toNat (leB o.ps) (2 ^ o.n.toNat)).map numsRow), faultA (0, 0)]) else .tuple [.nilsl, faultA (ofault o)]
def x15_T4 : XC := .seq (.seq (.reg [⟨some 69,.move (.tmp 6),none⟩,⟨some 70,.call ⟨.builtin .len,#[.tmp 69],#[33]⟩,none⟩,⟨some 71,.binOp .gtr 3 (.tmp 70) (.const (.int .i64 1000)) 3,none⟩]) (.cond (.tmp 71) (.seq (.reg [⟨some 72,.call ⟨.value (.func 32),#[.const (.int .i64 10),.const (.int .i64 0)],#[3,3]⟩,none⟩,⟨some 2,.assign (.const (.slice none 0 0)),none⟩,⟨none,.store 27 (.tmp 3) (.tmp 72),none⟩]) (.ret)) (.skip))) (.seq (.reg [⟨some 73,.move (.tmp 6),none⟩,⟨some 74,.build 27 #[],none⟩,⟨some 2,.assign (.tmp 73),none⟩,⟨none,.store 27 (.tmp 3) (.tmp 74),none⟩]) (.ret))
def x15_T3 : XC := .reg [⟨some 64,.move (.tmp 6),none⟩,⟨some 65,.move (.tmp 8),none⟩,⟨some 66,.buildSlice 33 1 #[(0,.tmp 65)],none⟩,⟨some 67,.call ⟨.builtin .append,#[.tmp 64,.tmp 66],#[33,33]⟩,none⟩,⟨some 6,.assign (.tmp 67),none⟩]
def x15_L4 : XC := .seq (.reg [⟨some 46,.binOp .lss 3 (.tmp 45) (.tmp 44) 3,none⟩]) (.seq (.cond (.tmp 46) (.skip) (.exit 4)) (.seq (.block 5 (.seq (.reg [⟨some 47,.move (.tmp 45),none⟩,⟨some 10,.assign (.tmp 47),none⟩]) (.seq (.reg [⟨some 48,.move (.tmp 5),none⟩,⟨some 49,.move (.tmp 10),none⟩,⟨some 50,.indexAddr 59 (.tmp 48) (.tmp 49),none⟩,⟨some 51,.load 41 (.tmp 50),none⟩,⟨some 52,.move (.tmp 9),none⟩,⟨some 53,.indexAddr 41 (.tmp 51) (.tmp 52),none⟩,⟨some 54,.load 4 (.tmp 53),none⟩,⟨some 55,.move (.tmp 54),none⟩,⟨some 56,.move (.tmp 7),some (some 55,true)⟩,⟨some 57,.move (.tmp 10),some (some 55,true)⟩,⟨some 58,.binOp .shr 3 (.tmp 56) (.tmp 57) 3,some (some 55,true)⟩,⟨some 59,.binOp .and 3 (.tmp 58) (.const (.int .i64 1)) 3,some (some 55,true)⟩,⟨some 60,.binOp .eql 3 (.tmp 59) (.const (.int .i64 0)) 3,some (some 55,true)⟩,⟨some 61,.pick (.tmp 55) (.tmp 60) (.const (.bool false)),none⟩]) (.cond (.tmp 61) (.exit 1) (.skip))))) (.reg [⟨some 62,.binOp .add 3 (.tmp 45) (.const (.int .i64 1)) 3,none⟩,⟨some 45,.move (.tmp 62),none⟩])))
def x15_L2 : XC := .seq (.reg [⟨some 32,.binOp .lss 3 (.tmp 31) (.tmp 30) 3,none⟩]) (.seq (.cond (.tmp 32) (.skip) (.exit 2)) (.seq (.block 3 (.seq (.reg [⟨some 33,.move (.tmp 31),none⟩,⟨some 9,.assign (.tmp 33),none⟩]) (.seq (.seq (.reg [⟨some 34,.move (.tmp 7),none⟩,⟨some 35,.move (.tmp 9),none⟩,⟨some 36,.binOp .shr 3 (.tmp 34) (.tmp 35) 3,none⟩,⟨some 37,.binOp .and 3 (.tmp 36) (.const (.int .i64 1)) 3,none⟩,⟨some 38,.binOp .eql 3 (.tmp 37) (.const (.int .i64 0)) 3,none⟩]) (.cond (.tmp 38) (.exit 3) (.skip))) (.seq (.reg [⟨some 39,.move (.tmp 8),none⟩,⟨some 40,.move (.tmp 9),none⟩,⟨some 41,.buildSlice 37 1 #[(0,.tmp 40)],none⟩,⟨some 42,.call ⟨.builtin .append,#[.tmp 39,.tmp 41],#[37,37]⟩,none⟩,⟨some 8,.assign (.tmp 42),none⟩]) (.seq (.reg [⟨some 43,.move (.tmp 5),none⟩,⟨some 44,.call ⟨.builtin .len,#[.tmp 43],#[59]⟩,none⟩,⟨some 45,.move (.const (.int .i64 0)),none⟩]) (.bloop 4 x15_L4)))))) (.reg [⟨some 63,.binOp .add 3 (.tmp 31) (.const (.int .i64 1)) 3,none⟩,⟨some 31,.move (.tmp 63),none⟩])))
def x15_L0 : XC := .seq (.reg [⟨some 27,.binOp .lss 3 (.tmp 26) (.tmp 25) 3,none⟩]) (.seq (.cond (.tmp 27) (.skip) (.exit 0)) (.seq (.block 1 (.seq (.reg [⟨some 28,.move (.tmp 26),none⟩,⟨some 7,.assign (.tmp 28),none⟩]) (.seq (.reg [⟨some 8,.assign (.const (.slice none 0 0)),none⟩]) (.seq (.seq (.reg [⟨some 29,.move (.tmp 5),none⟩,⟨some 30,.call ⟨.builtin .len,#[.tmp 29],#[59]⟩,none⟩,⟨some 31,.move (.const (.int .i64 0)),none⟩]) (.bloop 2 x15_L2)) (x15_T3))))) (.reg [⟨some 68,.binOp .add 3 (.tmp 26) (.const (.int .i64 1)) 3,none⟩,⟨some 26,.move (.tmp 68),none⟩])))
def x15 : XC := .seq (.reg [⟨some 1,.box 24 (.tmp 0),none⟩,⟨some 2,.assign (.const (.slice none 0 0)),none⟩,⟨some 3,.alloc 27,none⟩]) (.seq (.seq (.reg [⟨some 11,.load 24 (.tmp 1),none⟩,⟨some 12,.call ⟨.value (.func 14),#[.tmp 11],#[24]⟩,none⟩,⟨some 4,.alloc 27,none⟩,⟨none,.store 27 (.tmp 4) (.tmp 12),none⟩]) (.seq (.reg [⟨some 13,.fieldAddr 27 (.tmp 4) 0,none⟩,⟨some 14,.load 3 (.tmp 13),none⟩,⟨some 15,.binOp .neq 3 (.tmp 14) (.const (.int .i64 0)) 3,none⟩]) (.cond (.tmp 15) (.seq (.drawn 3 [⟨some 16,.load 27 (.tmp 4),none⟩,⟨some 2,.assign (.const (.slice none 0 0)),none⟩,⟨none,.store 27 (.tmp 3) (.tmp 16),none⟩]) (.ret)) (.skip)))) (.seq (.seq (.reg [⟨some 17,.fieldAddr 24 (.tmp 1) 0,none⟩,⟨some 18,.load 3 (.tmp 17),none⟩,⟨some 19,.binOp .gtr 3 (.tmp 18) (.const (.int .i64 10)) 3,none⟩]) (.cond (.tmp 19) (.seq (.reg [⟨some 20,.call ⟨.value (.func 32),#[.const (.int .i64 2),.const (.int .i64 0)],#[3,3]⟩,none⟩,⟨some 2,.assign (.const (.slice none 0 0)),none⟩,⟨none,.store 27 (.tmp 3) (.tmp 20),none⟩]) (.ret)) (.skip))) (.seq (.reg [⟨some 21,.load 24 (.tmp 1),none⟩,⟨some 22,.call ⟨.value (.func 26),#[.tmp 21],#[24]⟩,none⟩,⟨some 5,.assign (.tmp 22),none⟩]) (.seq (.reg [⟨some 6,.assign (.const (.slice none 0 0)),none⟩]) (.seq (.skip) (.seq (.seq (.reg [⟨some 23,.fieldAddr 24 (.tmp 1) 0,none⟩,⟨some 24,.load 3 (.tmp 23),none⟩,⟨some 25,.binOp .shl 3 (.const (.int .i64 1)) (.tmp 24) 3,none⟩,⟨some 26,.move (.const (.int .i64 0)),none⟩]) (.bloop 0 x15_L0)) (x15_T4)))))))
@[simp] theorem x15_s {C : WC} {e : AE} {s : Store} {K : KS} : type_of% (@X_at C e s K _ _ x15_T4.eq_1) ∧ type_of% (@X_at C e s K _ _ x15_T3.eq_1) ∧ type_of% (@X_at C e s K _ _ x15_L4.eq_1) ∧ type_of% (@X_at C e s K _ _ x15_L2.eq_1) ∧ type_of% (@X_at C e s K _ _ x15_L0.eq_1) ∧ type_of% (@X_at C e s K _ _ x15.eq_1) := ⟨X_at x15_T4.eq_1, X_at x15_T3.eq_1, X_at x15_L4.eq_1, X_at x15_L2.eq_1, X_at x15_L0.eq_1, X_at x15.eq_1⟩
def an15 : Ann := ⟨[], [(4, [], [3, 5, 6, 7, 8, 9, 25, 26, 30, 31, 44, 45], [3, 5, 6, 7, 8, 25, 26, 30, 31]), (2, [(8, none, 1)], [3, 5, 6, 7, 8, 25, 26, 30, 31], [3, 5, 6, 8, 25, 26]), (0, [(6, none, 1)], [3, 5, 6, 25, 26], [3, 6])], []⟩
def cx15 (P : Program) (m : Nat) : WC := ⟨P, m, an15⟩
@[simp] theorem cx15_a {P : Program} {m : Nat} : (cx15 P m).P = P ∧ (cx15 P m).m = m ∧ (cx15 P m).A.clsOf 3 = .draw ∧ (cx15 P m).A.frzOf 3 = [] ∧ (cx15 P m).A.loopOf 4 = ([], [3, 5, 6, 7, 8, 9, 25, 26, 30, 31, 44, 45], [3, 5, 6, 7, 8, 25, 26, 30, 31]) ∧ (cx15 P m).A.loopOf 2 = ([(8, none, 1)], [3, 5, 6, 7, 8, 25, 26, 30, 31], [3, 5, 6, 8, 25, 26]) ∧ (cx15 P m).A.loopOf 0 = ([(6, none, 1)], [3, 5, 6, 25, 26], [3, 6]) := ⟨rfl, rfl, rfl, rfl, rfl, rfl, rfl⟩
instance {P : Program} {m f : Nat} [h : EnT P f] : EnT (cx15 P m).P f := h
theorem chk15 : ∀ c, Try.f15.body = some c → chkC Try.f15.ntmps an15 c = true := by intro c h; obtain rfl := Option.some.inj h; decide +kernel
theorem op15 {args : List PV} {v : PV} (h : X (cx15 Try.prog 0) x15 (argsA 0 args) [] (.fin [.tmp 2, .cell 3 27] fun v1 s1 => deref s1 6 v1 = v)) (hl : args.length ≤ Try.f15.ntmps := by rw [Try.ntmps15]; simp) : CallOK Try.prog 15 args [] v [] :=
  callX (m := 0) (cx15 Try.prog 0) x15 rfl rfl (by kernel_rfl) Try.func15 rfl rfl hl mixed (chk15 _ rfl) (by rw [Try.results15]; exact h)

theorem Downs_algebra (o : Ord) : CallOK Try.prog 15 [.agg (ord o)] [] (downR o) [] := by
  have hck := Check_algebra o
  unfold downR faultA
  by_cases hz : (ofault o).1 = 0
  · obtain ⟨h0, h1, h2, h3, h4, h5⟩ := ofault_ok hz
    rw [if_pos hz]
    rw [h0] at hck
    obtain ⟨n, E⟩ := o
    simp only at h1 h2 h3 h4 h5 ⊢
    obtain ⟨n, rfl⟩ : ∃ k : Nat, n = (k : Int) := ⟨n.toNat, by omega⟩
    have hn := newTable_algebra ⟨n, E⟩ n rfl (by omega) h4
    simp only [Int.toNat_natCast]
    simp only [ord] at hck hn
    generalize leB E = g at hn ⊢
    refine op15 ?_
    simp only [ord]
    by_cases h10 : (10 : Int) < n
    · rw [if_pos h10]
      (((try simp (implicitDefEqProofs := false) [h10]); (try simp (implicitDefEqProofs := false) (disch := first | assumption | (try simp only [lens]); omega -splitDisjunctions) [h10])); all_goals try (repeat' ((first | ((with_reducible first | refine And.intro ?_ ?_ | refine Exists.intro ?_ ?_); first | omega | (simp <;> omega)) | (with_reducible refine spl (And.intro ?_ ?_) <;> intro _) | (refine CL.clo (hck) ?_) | (refine CM.clo (hck) ?_) | (refine CD.clo (hck) ?_) | (refine CL.clo (fault_algebra _ _) ?_) | (refine CM.clo (fault_algebra _ _) ?_) | (refine CD.clo (fault_algebra _ _) ?_)) <;> ((try simp (implicitDefEqProofs := false) [h10]); (try simp (implicitDefEqProofs := false) (disch := first | assumption | (try simp only [lens]); omega -splitDisjunctions) [h10])))))
    · rw [if_neg h10]
      have hsh := shl_nat n (by omega)
      generalize hM : 2 ^ n = M at hsh ⊢
      have hM2 : M ≤ 1024 := by rw [← hM]; exact Nat.le_trans (Nat.pow_le_pow_right (by decide) (show n ≤ 10 by omega)) (by decide)
      (((try simp (implicitDefEqProofs := false) [h10, hsh]); (try simp (implicitDefEqProofs := false) (disch := first | assumption | (try simp only [lens]); omega -splitDisjunctions) [h10, hsh])); all_goals try (repeat' ((first | ((with_reducible first | refine And.intro ?_ ?_ | refine Exists.intro ?_ ?_); first | omega | (simp <;> omega)) | (with_reducible refine spl (And.intro ?_ ?_) <;> intro _) | (refine CL.clo (hck) ?_) | (refine CM.clo (hck) ?_) | (refine CD.clo (hck) ?_) | (refine CL.clo (hn) ?_) | (refine CM.clo (hn) ?_) | (refine CD.clo (hn) ?_)) <;> ((try simp (implicitDefEqProofs := false) [h10, hsh]); (try simp (implicitDefEqProofs := false) (disch := first | assumption | (try simp only [lens]); omega -splitDisjunctions) [h10, hsh])))))
      refine W_of fun Q hQ => ?_
      have main : ∀ r k, k + r = M → Q [(3, .ptr 0 0 0), (5, .list ((tabF n g).map tabRowF)), (6, .sl 1 0 (outs n g k).length), (25, .int .i64 (M : Int)), (26, .int .i64 (k : Int))] [.rows 2 [[.int .i64 0, .int .i64 0]], .rows 1 ((outs n g k).map numsRow)] := by
        intro r
        induction r with
        | zero =>
          intro k hk
          obtain rfl : k = M := by omega
          apply hQ
          clear hQ
          have hlen : (outs n g k).length ≤ 1024 := by
            unfold outs
            rw [List.length_map]
            exact Nat.le_trans (List.length_filter_le _ _) (by simpa using hM2)
          generalize outs n g k = L at hlen ⊢
          by_cases hL : 1000 < L.length
          · rw [if_pos hL]
            (((try simp (implicitDefEqProofs := false) [hL]); (try simp (implicitDefEqProofs := false) (disch := first | assumption | (try simp only [lens]); omega -splitDisjunctions) [hL])); all_goals try (repeat' ((first | ((with_reducible first | refine And.intro ?_ ?_ | refine Exists.intro ?_ ?_); first | omega | (simp <;> omega)) | (with_reducible refine spl (And.intro ?_ ?_) <;> intro _) | (refine CL.clo (fault_algebra _ _) ?_) | (refine CM.clo (fault_algebra _ _) ?_) | (refine CD.clo (fault_algebra _ _) ?_)) <;> ((try simp (implicitDefEqProofs := false) [hL]); (try simp (implicitDefEqProofs := false) (disch := first | assumption | (try simp only [lens]); omega -splitDisjunctions) [hL])))))
          · rw [if_neg hL]
            (((try simp (implicitDefEqProofs := false) [hL]); (try simp (implicitDefEqProofs := false) (disch := first | assumption | (try simp only [lens]); omega -splitDisjunctions) [hL])); all_goals try (repeat' ((first | ((with_reducible first | refine And.intro ?_ ?_ | refine Exists.intro ?_ ?_); first | omega | (simp <;> omega)) | (with_reducible refine spl (And.intro ?_ ?_) <;> intro _) | (refine CL.clo (fault_algebra _ _) ?_) | (refine CM.clo (fault_algebra _ _) ?_) | (refine CD.clo (fault_algebra _ _) ?_)) <;> ((try simp (implicitDefEqProofs := false) [hL]); (try simp (implicitDefEqProofs := false) (disch := first | assumption | (try simp only [lens]); omega -splitDisjunctions) [hL])))))
        | succ r ih =>
          intro k hk
          have hkM : k < M := by omega
          have ih := ih (k + 1) (by omega)
          rw [outs_succ] at ih
          have hbit := fun i => has_bits k i (by omega)
          have hlen : (outs n g k).length ≤ 1024 := by
            unfold outs
            rw [List.length_map]
            exact Nat.le_trans (List.length_filter_le _ _) (by simp; omega)
          generalize outs n g k = L at hlen ih ⊢
          apply hQ
          clear hQ
          (((try simp (implicitDefEqProofs := false)); (try simp (implicitDefEqProofs := false) (disch := first | assumption | (try simp only [lens]); omega -splitDisjunctions))); all_goals try (repeat' ((first | ((with_reducible first | refine And.intro ?_ ?_ | refine Exists.intro ?_ ?_); first | omega | (simp <;> omega)) | (with_reducible refine spl (And.intro ?_ ?_) <;> intro _)) <;> ((try simp (implicitDefEqProofs := false)); (try simp (implicitDefEqProofs := false) (disch := first | assumption | (try simp only [lens]); omega -splitDisjunctions))))))
          refine W_of fun Q2 hQ2 => ?_
          have main2 : ∀ r i, i + r = n → (∀ i', i' < i → (!k.testBit i' || (List.range n).all fun j => !g j i' || k.testBit j) = true) → Q2 [(3, .ptr 0 0 0), (5, .list ((tabF n g).map tabRowF)), (6, .sl 1 0 L.length), (7, .int .i64 (k : Int)), (8, .sl 2 0 ((List.range i).filter k.testBit).length), (25, .int .i64 (M : Int)), (26, .int .i64 (k : Int)), (30, .int .i64 (n : Int)), (31, .int .i64 (i : Int))]
              [.rows 2 [[.int .i64 0, .int .i64 0]], .rows 1 (L.map numsRow), .rows 1 (((List.range i).filter k.testBit).map numRow)] := by
            intro r
            induction r with
            | zero =>
              intro i hi hok
              obtain rfl : i = n := by omega
              have hd : isDown i g k = true := by
                unfold isDown
                rw [List.all_eq_true]
                intro x hx; exact hok x (List.mem_range.1 hx)
              rw [if_pos hd] at ih
              have hl2 : (List.range i).filter k.testBit = bitsL i k := rfl
              rw [hl2]
              have hbl : (bitsL i k).length ≤ 20 := by
                have := List.length_filter_le k.testBit (List.range i)
                rw [List.length_range] at this
                unfold bitsL; omega
              generalize bitsL i k = B at ih hbl ⊢
              apply hQ2
              clear hQ2
              (((try simp (implicitDefEqProofs := false)); (try simp (implicitDefEqProofs := false) (disch := first | assumption | (try simp only [lens]); omega -splitDisjunctions))); all_goals try (repeat' ((first | ((with_reducible first | refine And.intro ?_ ?_ | refine Exists.intro ?_ ?_); first | omega | (simp <;> omega)) | (with_reducible refine spl (And.intro ?_ ?_) <;> intro _)) <;> ((try simp (implicitDefEqProofs := false)); (try simp (implicitDefEqProofs := false) (disch := first | assumption | (try simp only [lens]); omega -splitDisjunctions))))))
              refine at2 ih ?_ ?_ <;> simp [numsRow]
            | succ r ih2 =>
              intro i hi hok
              have hin : i < n := by omega
              have ih2 := ih2 (i + 1) (by omega)
              rw [List.range_succ, List.filter_append, List.filter_cons, List.filter_nil] at ih2
              have hfl : ((List.range i).filter k.testBit).length ≤ 20 := by
                have := List.length_filter_le k.testBit (List.range i)
                rw [List.length_range] at this
                omega
              have hbi := hbit i
              cases hb : k.testBit i with
              | false =>
                rw [hb] at ih2 hbi
                simp only [Bool.false_eq_true, if_false, List.append_nil] at ih2 hbi
                have ih2 := ih2 (fun i' h => by
                  by_cases e : i' = i
                  · subst e; rw [hb]; rfl
                  · exact hok i' (by omega))
                generalize (List.range i).filter k.testBit = B at ih2 hfl ⊢
                apply hQ2
                clear hQ2
                (((try simp (implicitDefEqProofs := false) [hbi]); (try simp (implicitDefEqProofs := false) (disch := first | assumption | (try simp only [lens]); omega -splitDisjunctions) [hbi])); all_goals try (repeat' ((first | ((with_reducible first | refine And.intro ?_ ?_ | refine Exists.intro ?_ ?_); first | omega | (simp <;> omega)) | (with_reducible refine spl (And.intro ?_ ?_) <;> intro _)) <;> ((try simp (implicitDefEqProofs := false) [hbi]); (try simp (implicitDefEqProofs := false) (disch := first | assumption | (try simp only [lens]); omega -splitDisjunctions) [hbi])))))
                refine at2 ih2 ?_ ?_ <;> simp
              | true =>
                rw [hb] at ih2 hbi
                simp only [if_true] at ih2 hbi
                have hnd : ∀ j, j < n → g j i = true → k.testBit j = false → isDown n g k = false := fun j hj h1 h2 => by
                  unfold isDown
                  rw [List.all_eq_false]
                  refine ⟨i, List.mem_range.2 hin, ?_⟩
                  rw [hb]
                  rw [Bool.not_true, Bool.false_or]
                  intro hall
                  have := List.all_eq_true.1 hall j (List.mem_range.2 hj)
                  rw [h1, h2] at this
                  exact absurd this (by decide)
                generalize (List.range i).filter k.testBit = B at ih2 hfl ⊢
                apply hQ2
                clear hQ2
                (((try simp (implicitDefEqProofs := false) [hbi]); (try simp (implicitDefEqProofs := false) (disch := first | assumption | (try simp only [lens]); omega -splitDisjunctions) [hbi])); all_goals try (repeat' ((first | ((with_reducible first | refine And.intro ?_ ?_ | refine Exists.intro ?_ ?_); first | omega | (simp <;> omega)) | (with_reducible refine spl (And.intro ?_ ?_) <;> intro _)) <;> ((try simp (implicitDefEqProofs := false) [hbi]); (try simp (implicitDefEqProofs := false) (disch := first | assumption | (try simp only [lens]); omega -splitDisjunctions) [hbi])))))
                refine W_of fun Q3 hQ3 => ?_
                have main3 : ∀ r j, j + r = n → (∀ j', j' < j → (!g j' i || k.testBit j') = true) → Q3 [(3, .ptr 0 0 0), (5, .list ((tabF n g).map tabRowF)), (6, .sl 1 0 L.length), (7, .int .i64 (k : Int)), (8, .sl 2 0 (B.length + 1)), (9, .int .i64 (i : Int)), (25, .int .i64 (M : Int)), (26, .int .i64 (k : Int)), (30, .int .i64 (n : Int)), (31, .int .i64 (i : Int)), (44, .int .i64 (n : Int)), (45, .int .i64 (j : Int))]
                    [.rows 2 [[.int .i64 0, .int .i64 0]], .rows 1 (L.map numsRow), .rows 1 (B.map numRow ++ [[.int .i64 (i : Int)]])] := by
                  intro r
                  induction r with
                  | zero =>
                    intro j hj hokj
                    obtain rfl : j = n := by omega
                    have ih2 := ih2 (fun i' h => by
                      by_cases e : i' = i
                      · subst e
                        rw [hb]
                        simp only [Bool.not_true, Bool.false_or, List.all_eq_true]
                        intro x hx; exact hokj x (List.mem_range.1 hx)
                      · exact hok i' (by omega))
                    apply hQ3
                    clear hQ3
                    (((try simp (implicitDefEqProofs := false)); (try simp (implicitDefEqProofs := false) (disch := first | assumption | (try simp only [lens]); omega -splitDisjunctions))); all_goals try (repeat' ((first | ((with_reducible first | refine And.intro ?_ ?_ | refine Exists.intro ?_ ?_); first | omega | (simp <;> omega)) | (with_reducible refine spl (And.intro ?_ ?_) <;> intro _)) <;> ((try simp (implicitDefEqProofs := false)); (try simp (implicitDefEqProofs := false) (disch := first | assumption | (try simp only [lens]); omega -splitDisjunctions))))))
                    refine at2 ih2 ?_ ?_ <;> simp [numRow]
                  | succ r ih3 =>
                    intro j hj hokj
                    have hjn : j < n := by omega
                    have ih3 := ih3 (j + 1) (by omega)
                    have hbj := hbit j
                    apply hQ3
                    clear hQ3
                    cases hg : g j i with
                    | false =>
                      have ih3 := ih3 (fun j' h => by
                        by_cases e : j' = j
                        · subst e; rw [hg]; rfl
                        · exact hokj j' (by omega))
                      (((try simp (implicitDefEqProofs := false) [hin, hjn, hg, tabRowF, tabF_get, rowF_get]); (try simp (implicitDefEqProofs := false) (disch := first | assumption | (try simp only [lens]); omega -splitDisjunctions) [hin, hjn, hg, tabRowF, tabF_get, rowF_get])); all_goals try (repeat' ((first | ((with_reducible first | refine And.intro ?_ ?_ | refine Exists.intro ?_ ?_); first | omega | (simp <;> omega)) | (with_reducible refine spl (And.intro ?_ ?_) <;> intro _)) <;> ((try simp (implicitDefEqProofs := false) [hin, hjn, hg, tabRowF, tabF_get, rowF_get]); (try simp (implicitDefEqProofs := false) (disch := first | assumption | (try simp only [lens]); omega -splitDisjunctions) [hin, hjn, hg, tabRowF, tabF_get, rowF_get])))))
                      refine at2 ih3 ?_ ?_ <;> simp
                    | true =>
                      cases hkj : k.testBit j with
                      | true =>
                        rw [hkj] at hbj
                        simp only [if_true] at hbj
                        have ih3 := ih3 (fun j' h => by
                          by_cases e : j' = j
                          · subst e; rw [hkj]; simp
                          · exact hokj j' (by omega))
                        (((try simp (implicitDefEqProofs := false) [hin, hjn, hg, hbj, tabRowF, tabF_get, rowF_get]); (try simp (implicitDefEqProofs := false) (disch := first | assumption | (try simp only [lens]); omega -splitDisjunctions) [hin, hjn, hg, hbj, tabRowF, tabF_get, rowF_get])); all_goals try (repeat' ((first | ((with_reducible first | refine And.intro ?_ ?_ | refine Exists.intro ?_ ?_); first | omega | (simp <;> omega)) | (with_reducible refine spl (And.intro ?_ ?_) <;> intro _)) <;> ((try simp (implicitDefEqProofs := false) [hin, hjn, hg, hbj, tabRowF, tabF_get, rowF_get]); (try simp (implicitDefEqProofs := false) (disch := first | assumption | (try simp only [lens]); omega -splitDisjunctions) [hin, hjn, hg, hbj, tabRowF, tabF_get, rowF_get])))))
                        refine at2 ih3 ?_ ?_ <;> simp
                      | false =>
                        rw [hkj] at hbj
                        simp only [Bool.false_eq_true, if_false] at hbj
                        rw [if_neg (by rw [hnd j hjn hg hkj]; decide)] at ih
                        (((try simp (implicitDefEqProofs := false) [hin, hjn, hg, hbj, tabRowF, tabF_get, rowF_get]); (try simp (implicitDefEqProofs := false) (disch := first | assumption | (try simp only [lens]); omega -splitDisjunctions) [hin, hjn, hg, hbj, tabRowF, tabF_get, rowF_get])); all_goals try (repeat' ((first | ((with_reducible first | refine And.intro ?_ ?_ | refine Exists.intro ?_ ?_); first | omega | (simp <;> omega)) | (with_reducible refine spl (And.intro ?_ ?_) <;> intro _)) <;> ((try simp (implicitDefEqProofs := false) [hin, hjn, hg, hbj, tabRowF, tabF_get, rowF_get]); (try simp (implicitDefEqProofs := false) (disch := first | assumption | (try simp only [lens]); omega -splitDisjunctions) [hin, hjn, hg, hbj, tabRowF, tabF_get, rowF_get])))))
                        refine at2 ih ?_ ?_ <;> simp
                refine at2 (main3 _ 0 (Nat.zero_add _) (fun j h => by omega)) ?_ ?_ <;> simp
          refine at2 (main2 _ 0 (Nat.zero_add _) (fun j h => by omega)) ?_ ?_ <;> simp
      refine at2 (main _ 0 (Nat.zero_add _)) ?_ ?_ <;> simp [outs]
  · rw [if_neg hz]
    generalize ofault o = w at hck hz ⊢
    obtain ⟨n, E⟩ := o
    simp only [ord] at hck
    refine op15 ?_
    simp only [ord]
    (((try simp (implicitDefEqProofs := false) [hz]); (try simp (implicitDefEqProofs := false) (disch := first | assumption | (try simp only [lens]); omega -splitDisjunctions) [hz])); all_goals try (repeat' ((first | ((with_reducible first | refine And.intro ?_ ?_ | refine Exists.intro ?_ ?_); first | omega | (simp <;> omega)) | (with_reducible refine spl (And.intro ?_ ?_) <;> intro _) | (refine CL.clo (hck) ?_) | (refine CM.clo (hck) ?_) | (refine CD.clo (hck) ?_)) <;> ((try simp (implicitDefEqProofs := false) [hz]); (try simp (implicitDefEqProofs := false) (disch := first | assumption | (try simp only [lens]); omega -splitDisjunctions) [hz])))))
end Go.Proofs.Ythnobaacfjihcaa
