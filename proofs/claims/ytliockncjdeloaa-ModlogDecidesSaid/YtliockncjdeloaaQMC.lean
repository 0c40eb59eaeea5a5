/-
  Functions of package slices on numbers, and modlog.has.
-/
import Derived.Test.YtliockncjdeloaaQMB
namespace Go.Proofs.Ytliockncjdeloaa
open Go Go.Pv
set_option linter.unusedVariables false
set_option linter.unusedSimpArgs false
set_option maxRecDepth 100000
set_option maxHeartbeats 4000000

def x31 : XC := .seq (.reg [⟨some 4,.assign (.const (.bool false)),none⟩]) (.seq (.reg [⟨some 5,.move (.tmp 0),none⟩,⟨some 6,.move (.tmp 1),none⟩,⟨some 7,.binOp .shr 3 (.tmp 5) (.tmp 6) 3,none⟩,⟨some 8,.binOp .and 3 (.tmp 7) (.const (.int .i64 1)) 3,none⟩,⟨some 9,.binOp .eql 3 (.tmp 8) (.const (.int .i64 1)) 3,none⟩,⟨some 4,.assign (.tmp 9),none⟩]) (.ret))
@[simp] theorem x31_s {C : WC} {e : AE} {s : Store} {K : KS} : type_of% (@X_at C e s K _ _ x31.eq_1) := X_at x31.eq_1
def an31 : Ann := ⟨[], [], []⟩
def cx31 (P : Program) (m : Nat) : WC := ⟨P, m, an31⟩
@[simp] theorem cx31_a {P : Program} {m : Nat} : (cx31 P m).P = P ∧ (cx31 P m).m = m := ⟨rfl, rfl⟩
instance {P : Program} {m f : Nat} [h : EnT P f] : EnT (cx31 P m).P f := h
theorem chk31 : ∀ c, Try.f31.body = some c → chkC Try.f31.ntmps an31 c = true := by intro c h; obtain rfl := Option.some.inj h; decide +kernel
theorem op31 {args : List PV} {v : PV} (h : X (cx31 Try.prog 0) x31 (argsA 0 args) [] (.fin [.tmp 4] fun v1 s1 => deref s1 6 v1 = v)) (hl : args.length ≤ Try.f31.ntmps := by rw [Try.ntmps31]; simp) : CallOK Try.prog 31 args [] v [] :=
  callX (m := 0) (cx31 Try.prog 0) x31 rfl rfl (by kernel_rfl) Try.func31 rfl rfl hl mixed (chk31 _ rfl) (by rw [Try.results31]; exact h)

theorem shr_nat (x i : Nat) (hx : x < 1048576) : shrI .i64 (x : Int) (i : Int) = ((x / 2 ^ i : Nat) : Int) := by
  have h0 : shrI .i64 (x : Int) (i : Int) = (x : Int).fdiv (2 ^ (min i 64)) := rfl
  have h1 : (x : Int).fdiv (2 ^ (min i 64)) = ((x / 2 ^ (min i 64) : Nat) : Int) := by
    rw [Int.fdiv_eq_ediv_of_nonneg _ (Int.le_of_lt (Int.pow_pos (by decide)))]
    simp
  rw [h0, h1]
  by_cases hi : i ≤ 64
  · rw [Nat.min_eq_left hi]
  · have h5 : x < 2 ^ 64 := by omega
    rw [Nat.min_eq_right (by omega), Nat.div_eq_of_lt h5, Nat.div_eq_of_lt (Nat.lt_of_lt_of_le h5 (Nat.pow_le_pow_right (by decide) (by omega)))]
theorem and_nat (x y : Nat) (hx : x < 1048576) (hy : y < 1048576) : andI .i64 (x : Int) (y : Int) = ((x &&& y : Nat) : Int) := by
  have h2 : (BitVec.ofInt 64 (x : Int) &&& BitVec.ofInt 64 (y : Int)).toNat = x &&& y := by
    rw [BitVec.toNat_and]
    simp only [BitVec.ofInt_natCast, BitVec.toNat_ofNat]
    rw [Nat.mod_eq_of_lt (by omega), Nat.mod_eq_of_lt (by omega)]
  have h3 : x &&& y ≤ x := Nat.and_le_left
  show IntKind.i64.wrap (((BitVec.ofInt 64 (x : Int) &&& BitVec.ofInt 64 (y : Int)).toNat : Nat) : Int) = _
  rw [h2, wrap64 (by omega) (by omega)]
theorem has_bits (x i : Nat) (hx : x < 1048576) : andI .i64 (shrI .i64 (x : Int) (i : Int)) 1 = if x.testBit i then 1 else 0 := by
  have h3 : x / 2 ^ i ≤ x := Nat.div_le_self _ _
  rw [shr_nat x i hx, show (1 : Int) = ((1 : Nat) : Int) from rfl, and_nat _ _ (by omega) (by omega), Nat.and_one_is_mod, Nat.testBit_eq_decide_div_mod_eq]
  have := Nat.mod_two_eq_zero_or_one (x / 2 ^ i)
  rcases this with h | h <;> simp [h]
theorem has_modlog (x i : Nat) (hx : x < 1048576) (hi : i < 1048576) : CallOK Try.prog 31 [.int .i64 (x : Int), .int .i64 (i : Int)] [] (.bool (x.testBit i)) [] := by
  refine op31 ?_
  ((try simp (implicitDefEqProofs := false) (disch := first | assumption | (try simp only [lens]); omega -splitDisjunctions)); all_goals try (repeat' ((first | ((with_reducible first | refine And.intro ?_ ?_ | refine Exists.intro ?_ ?_); first | omega | (simp <;> omega)) | (with_reducible refine spl (And.intro ?_ ?_) <;> intro _)) <;> (try simp (implicitDefEqProofs := false) (disch := first | assumption | (try simp only [lens]); omega -splitDisjunctions)))))
  rw [has_bits x i hx]
  by_cases h : x.testBit i = true <;> simp [h]
def x29_L0 : XC := .seq (.reg [⟨some 9,.binOp .lss 3 (.tmp 8) (.tmp 7) 3,none⟩]) (.seq (.cond (.tmp 9) (.skip) (.exit 0)) (.seq (.block 1 (.seq (.reg [⟨some 10,.move (.tmp 8),none⟩,⟨some 5,.assign (.tmp 10),none⟩]) (.seq (.reg [⟨some 11,.move (.tmp 1),none⟩,⟨some 12,.move (.tmp 0),none⟩,⟨some 13,.move (.tmp 5),none⟩,⟨some 14,.indexAddr 59 (.tmp 12) (.tmp 13),none⟩,⟨some 15,.load 3 (.tmp 14),none⟩,⟨some 16,.call ⟨.value (.tmp 11),#[.tmp 15],#[3]⟩,none⟩]) (.cond (.tmp 16) (.seq (.reg [⟨some 17,.move (.tmp 5),none⟩,⟨some 4,.assign (.tmp 17),none⟩]) (.ret)) (.skip))))) (.reg [⟨some 18,.binOp .add 3 (.tmp 8) (.const (.int .i64 1)) 3,none⟩,⟨some 8,.move (.tmp 18),none⟩])))
def x29 : XC := .seq (.reg [⟨some 4,.assign (.const (.int .i64 0)),none⟩]) (.seq (.seq (.reg [⟨some 6,.move (.tmp 0),none⟩,⟨some 7,.call ⟨.builtin .len,#[.tmp 6],#[59]⟩,none⟩,⟨some 8,.move (.const (.int .i64 0)),none⟩]) (.bloop 0 x29_L0)) (.seq (.reg [⟨some 4,.assign (.const (.int .i64 (-1))),none⟩]) (.ret)))
@[simp] theorem x29_s {C : WC} {e : AE} {s : Store} {K : KS} : type_of% (@X_at C e s K _ _ x29_L0.eq_1) ∧ type_of% (@X_at C e s K _ _ x29.eq_1) := ⟨X_at x29_L0.eq_1, X_at x29.eq_1⟩
def an29 : Ann := ⟨[], [(0, [], [0, 1, 7, 8], [4])], []⟩
def cx29 (P : Program) (m : Nat) : WC := ⟨P, m, an29⟩
@[simp] theorem cx29_a {P : Program} {m : Nat} : (cx29 P m).P = P ∧ (cx29 P m).m = m ∧ (cx29 P m).A.loopOf 0 = ([], [0, 1, 7, 8], [4]) := ⟨rfl, rfl, rfl⟩
instance {P : Program} {m f : Nat} [h : EnT P f] : EnT (cx29 P m).P f := h
theorem chk29 : ∀ c, Try.f29.body = some c → chkC Try.f29.ntmps an29 c = true := by intro c h; obtain rfl := Option.some.inj h; decide +kernel
theorem op29 {args : List PV} {v : PV} (h : X (cx29 Try.prog 0) x29 (argsA 0 args) [] (.fin [.tmp 4] fun v1 s1 => deref s1 6 v1 = v)) (hl : args.length ≤ Try.f29.ntmps := by rw [Try.ntmps29]; simp) : CallOK Try.prog 29 args [] v [] :=
  callX (m := 0) (cx29 Try.prog 0) x29 rfl rfl (by kernel_rfl) Try.func29 rfl rfl hl mixed (chk29 _ rfl) (by rw [Try.results29]; exact h)

/-- the place of the first number of a kind -/
def indexP (p : Nat → Bool) (l : List Nat) : Int := match l.findIdx? p with
  | some i => i
  | none => -1
theorem indexP_at {p : Nat → Bool} {l : List Nat} {i : Nat} (h : i < l.length) (hp : p l[i] = true) (hb : ∀ j (hj : j < i), p (l[j]'(by omega)) = false) : indexP p l = i := by
  unfold indexP
  have : l.findIdx? p = some i := by
    rw [List.findIdx?_eq_some_iff_getElem]
    exact ⟨h, hp, fun j hj => by simp [hb j hj]⟩
  rw [this]
theorem indexP_none {p : Nat → Bool} {l : List Nat} (hb : ∀ j (hj : j < l.length), p l[j] = false) : indexP p l = -1 := by
  unfold indexP
  have : l.findIdx? p = none := by
    rw [List.findIdx?_eq_none_iff]
    intro x hx
    obtain ⟨j, hj, rfl⟩ := List.mem_iff_getElem.1 hx
    exact hb j hj
  rw [this]
theorem IndexFunc_int (l : List Nat) (fid : Nat) [EnT Try.prog fid] (xs ys : List PV) [hx : FlatL xs] [hy : FlatL ys] (p : Nat → Bool) (h : ∀ a ∈ l, CallOK Try.prog fid (xs ++ .int .i64 (a : Int) :: ys) [] (.bool (p a)) []) :
    CallOK Try.prog 29 [.list (l.map numRow), .fn (.func fid) xs ys] [] (.int .i64 (indexP p l)) [] := by
  have hcl : ∀ a : Int, ∀ v ∈ xs ++ .int .i64 a :: ys, Closed v := by
    intro a v hv
    simp only [List.mem_append, List.mem_cons] at hv
    rcases hv with hv | rfl | hv
    · exact hx.closed v hv
    · exact cl_int
    · exact hy.closed v hv
  refine op29 ?_
  ((try simp (implicitDefEqProofs := false) (disch := first | assumption | (try simp only [lens]); omega -splitDisjunctions)); all_goals try (repeat' ((first | ((with_reducible first | refine And.intro ?_ ?_ | refine Exists.intro ?_ ?_); first | omega | (simp <;> omega)) | (with_reducible refine spl (And.intro ?_ ?_) <;> intro _)) <;> (try simp (implicitDefEqProofs := false) (disch := first | assumption | (try simp only [lens]); omega -splitDisjunctions)))))
  refine W_of fun Q hQ => ?_
  have main : ∀ n i, i + n = l.length → (∀ j (hj : j < i) (hl : j < l.length), p l[j] = false) → Q [(0, .list (l.map numRow)), (1, .fn (.func fid) xs ys), (7, .int .i64 (l.length : Int)), (8, .int .i64 (i : Int))] [] := by
    intro n
    induction n with
    | zero =>
      intro i hi hb
      apply hQ
      ((try simp (implicitDefEqProofs := false) (disch := first | assumption | (try simp only [lens]); omega -splitDisjunctions)); all_goals try (repeat' ((first | ((with_reducible first | refine And.intro ?_ ?_ | refine Exists.intro ?_ ?_); first | omega | (simp <;> omega)) | (with_reducible refine spl (And.intro ?_ ?_) <;> intro _)) <;> (try simp (implicitDefEqProofs := false) (disch := first | assumption | (try simp only [lens]); omega -splitDisjunctions)))))
      rw [indexP_none fun j hj => hb j (by omega) hj]
    | succ n ih =>
      intro i hi hb
      apply hQ
      have hc := h _ (List.getElem_mem (show i < l.length by omega))
      ((try simp (implicitDefEqProofs := false) (disch := first | assumption | (try simp only [lens]); omega -splitDisjunctions)); all_goals try (repeat' ((first | ((with_reducible first | refine And.intro ?_ ?_ | refine Exists.intro ?_ ?_); first | omega | (simp <;> omega)) | (with_reducible refine spl (And.intro ?_ ?_) <;> intro _)) <;> (try simp (implicitDefEqProofs := false) (disch := first | assumption | (try simp only [lens]); omega -splitDisjunctions)))))
      refine CL.clo hc ?_ (hcl _)
      ((try simp (implicitDefEqProofs := false) (disch := first | assumption | (try simp only [lens]); omega -splitDisjunctions)); all_goals try (repeat' ((first | ((with_reducible first | refine And.intro ?_ ?_ | refine Exists.intro ?_ ?_); first | omega | (simp <;> omega)) | (with_reducible refine spl (And.intro ?_ ?_) <;> intro _)) <;> (try simp (implicitDefEqProofs := false) (disch := first | assumption | (try simp only [lens]); omega -splitDisjunctions)))))
      · rename_i hp
        rw [indexP_at (by omega) hp fun j hj => hb j hj (by omega)]
      · rename_i hp
        refine at2 (ih (i + 1) (by omega) fun j hj hl => ?_) ?_ ?_
        · rcases Nat.lt_or_ge j i with hji | hji
          · exact hb j hji hl
          · have : j = i := by omega
            subst this; exact hp
        · simp
        · rfl
  refine at2 (main _ 0 (Nat.zero_add _) (fun j hj => by omega)) ?_ ?_ <;> simp
theorem indexP_any (p : Nat → Bool) (l : List Nat) : decide (0 ≤ indexP p l) = l.any p := by
  unfold indexP
  cases h : l.findIdx? p with
  | none =>
    rw [List.findIdx?_eq_none_iff] at h
    have : l.any p = false := by rw [List.any_eq_false]; intro x hx; simp [h x hx]
    rw [this]; rfl
  | some i =>
    rw [List.findIdx?_eq_some_iff_getElem] at h
    obtain ⟨h1, h2, _⟩ := h
    have : l.any p = true := List.any_eq_true.2 ⟨l[i], List.getElem_mem _, h2⟩
    rw [this]; simp
def x64 : XC := .seq (.reg [⟨some 4,.assign (.const (.bool false)),none⟩]) (.seq (.reg [⟨some 5,.move (.tmp 0),none⟩,⟨some 6,.move (.tmp 1),none⟩,⟨some 7,.call ⟨.value (.func 29),#[.tmp 5,.tmp 6],#[59,64]⟩,none⟩,⟨some 8,.binOp .geq 3 (.tmp 7) (.const (.int .i64 0)) 3,none⟩,⟨some 4,.assign (.tmp 8),none⟩]) (.ret))
@[simp] theorem x64_s {C : WC} {e : AE} {s : Store} {K : KS} : type_of% (@X_at C e s K _ _ x64.eq_1) := X_at x64.eq_1
def an64 : Ann := ⟨[], [], []⟩
def cx64 (P : Program) (m : Nat) : WC := ⟨P, m, an64⟩
@[simp] theorem cx64_a {P : Program} {m : Nat} : (cx64 P m).P = P ∧ (cx64 P m).m = m := ⟨rfl, rfl⟩
instance {P : Program} {m f : Nat} [h : EnT P f] : EnT (cx64 P m).P f := h
theorem chk64 : ∀ c, Try.f64.body = some c → chkC Try.f64.ntmps an64 c = true := by intro c h; obtain rfl := Option.some.inj h; decide +kernel
theorem op64 {args : List PV} {v : PV} (h : X (cx64 Try.prog 0) x64 (argsA 0 args) [] (.fin [.tmp 4] fun v1 s1 => deref s1 6 v1 = v)) (hl : args.length ≤ Try.f64.ntmps := by rw [Try.ntmps64]; simp) : CallOK Try.prog 64 args [] v [] :=
  callX (m := 0) (cx64 Try.prog 0) x64 rfl rfl (by kernel_rfl) Try.func64 rfl rfl hl mixed (chk64 _ rfl) (by rw [Try.results64]; exact h)

theorem ContainsFunc_int (l : List Nat) (fid : Nat) [EnT Try.prog fid] (xs ys : List PV) [hx : FlatL xs] [hy : FlatL ys] (p : Nat → Bool) (h : ∀ a ∈ l, CallOK Try.prog fid (xs ++ .int .i64 (a : Int) :: ys) [] (.bool (p a)) []) :
    CallOK Try.prog 64 [.list (l.map numRow), .fn (.func fid) xs ys] [] (.bool (l.any p)) [] := by
  refine op64 ?_
  ((try simp (implicitDefEqProofs := false) (disch := first | assumption | (try simp only [lens]); omega -splitDisjunctions)); all_goals try (repeat' ((first | ((with_reducible first | refine And.intro ?_ ?_ | refine Exists.intro ?_ ?_); first | omega | (simp <;> omega)) | (with_reducible refine spl (And.intro ?_ ?_) <;> intro _) | (refine CL.clo (IndexFunc_int l fid xs ys p h) ?_) | (refine CM.clo (IndexFunc_int l fid xs ys p h) ?_) | (refine CD.clo (IndexFunc_int l fid xs ys p h) ?_)) <;> (try simp (implicitDefEqProofs := false) (disch := first | assumption | (try simp only [lens]); omega -splitDisjunctions)))))
  exact indexP_any p l
def x67_L0 : XC := .seq (.reg [⟨some 9,.binOp .lss 3 (.tmp 8) (.tmp 7) 3,none⟩]) (.seq (.cond (.tmp 9) (.skip) (.exit 0)) (.seq (.block 1 (.seq (.reg [⟨some 10,.move (.tmp 8),none⟩,⟨some 5,.assign (.tmp 10),none⟩]) (.seq (.reg [⟨some 11,.move (.tmp 1),none⟩,⟨some 12,.move (.tmp 0),none⟩,⟨some 13,.move (.tmp 5),none⟩,⟨some 14,.indexAddr 59 (.tmp 12) (.tmp 13),none⟩,⟨some 15,.load 3 (.tmp 14),none⟩,⟨some 16,.binOp .eql 3 (.tmp 11) (.tmp 15) 3,none⟩]) (.cond (.tmp 16) (.seq (.reg [⟨some 17,.move (.tmp 5),none⟩,⟨some 4,.assign (.tmp 17),none⟩]) (.ret)) (.skip))))) (.reg [⟨some 18,.binOp .add 3 (.tmp 8) (.const (.int .i64 1)) 3,none⟩,⟨some 8,.move (.tmp 18),none⟩])))
def x67 : XC := .seq (.reg [⟨some 4,.assign (.const (.int .i64 0)),none⟩]) (.seq (.seq (.reg [⟨some 6,.move (.tmp 0),none⟩,⟨some 7,.call ⟨.builtin .len,#[.tmp 6],#[59]⟩,none⟩,⟨some 8,.move (.const (.int .i64 0)),none⟩]) (.bloop 0 x67_L0)) (.seq (.reg [⟨some 4,.assign (.const (.int .i64 (-1))),none⟩]) (.ret)))
@[simp] theorem x67_s {C : WC} {e : AE} {s : Store} {K : KS} : type_of% (@X_at C e s K _ _ x67_L0.eq_1) ∧ type_of% (@X_at C e s K _ _ x67.eq_1) := ⟨X_at x67_L0.eq_1, X_at x67.eq_1⟩
def an67 : Ann := ⟨[], [(0, [], [0, 1, 7, 8], [4])], []⟩
def cx67 (P : Program) (m : Nat) : WC := ⟨P, m, an67⟩
@[simp] theorem cx67_a {P : Program} {m : Nat} : (cx67 P m).P = P ∧ (cx67 P m).m = m ∧ (cx67 P m).A.loopOf 0 = ([], [0, 1, 7, 8], [4]) := ⟨rfl, rfl, rfl⟩
instance {P : Program} {m f : Nat} [h : EnT P f] : EnT (cx67 P m).P f := h
theorem chk67 : ∀ c, Try.f67.body = some c → chkC Try.f67.ntmps an67 c = true := by intro c h; obtain rfl := Option.some.inj h; decide +kernel
theorem op67 {args : List PV} {v : PV} (h : X (cx67 Try.prog 0) x67 (argsA 0 args) [] (.fin [.tmp 4] fun v1 s1 => deref s1 6 v1 = v)) (hl : args.length ≤ Try.f67.ntmps := by rw [Try.ntmps67]; simp) : CallOK Try.prog 67 args [] v [] :=
  callX (m := 0) (cx67 Try.prog 0) x67 rfl rfl (by kernel_rfl) Try.func67 rfl rfl hl mixed (chk67 _ rfl) (by rw [Try.results67]; exact h)

theorem Index_int (l : List Nat) (x : Nat) : CallOK Try.prog 67 [.list (l.map numRow), .int .i64 (x : Int)] [] (.int .i64 (indexP (fun y => decide (x = y)) l)) [] := by
  refine op67 ?_
  ((try simp (implicitDefEqProofs := false) (disch := first | assumption | (try simp only [lens]); omega -splitDisjunctions)); all_goals try (repeat' ((first | ((with_reducible first | refine And.intro ?_ ?_ | refine Exists.intro ?_ ?_); first | omega | (simp <;> omega)) | (with_reducible refine spl (And.intro ?_ ?_) <;> intro _)) <;> (try simp (implicitDefEqProofs := false) (disch := first | assumption | (try simp only [lens]); omega -splitDisjunctions)))))
  refine W_of fun Q hQ => ?_
  have main : ∀ n i, i + n = l.length → (∀ j (hj : j < i) (hl : j < l.length), x ≠ l[j]) → Q [(0, .list (l.map numRow)), (1, .int .i64 (x : Int)), (7, .int .i64 (l.length : Int)), (8, .int .i64 (i : Int))] [] := by
    intro n
    induction n with
    | zero =>
      intro i hi hb
      apply hQ
      ((try simp (implicitDefEqProofs := false) (disch := first | assumption | (try simp only [lens]); omega -splitDisjunctions)); all_goals try (repeat' ((first | ((with_reducible first | refine And.intro ?_ ?_ | refine Exists.intro ?_ ?_); first | omega | (simp <;> omega)) | (with_reducible refine spl (And.intro ?_ ?_) <;> intro _)) <;> (try simp (implicitDefEqProofs := false) (disch := first | assumption | (try simp only [lens]); omega -splitDisjunctions)))))
      rw [indexP_none fun j hj => by simpa using hb j (by omega) hj]
    | succ n ih =>
      intro i hi hb
      apply hQ
      ((try simp (implicitDefEqProofs := false) (disch := first | assumption | (try simp only [lens]); omega -splitDisjunctions)); all_goals try (repeat' ((first | ((with_reducible first | refine And.intro ?_ ?_ | refine Exists.intro ?_ ?_); first | omega | (simp <;> omega)) | (with_reducible refine spl (And.intro ?_ ?_) <;> intro _)) <;> (try simp (implicitDefEqProofs := false) (disch := first | assumption | (try simp only [lens]); omega -splitDisjunctions)))))
      · rename_i hp
        rw [indexP_at (i := i) (by omega) (by simp only [decide_eq_true_eq]; omega) fun j hj => by simpa using hb j hj (by omega)]
      · rename_i hp
        refine at2 (ih (i + 1) (by omega) fun j hj hl => ?_) ?_ ?_
        · rcases Nat.lt_or_ge j i with hji | hji
          · exact hb j hji hl
          · have : j = i := by omega
            subst this; omega
        · simp
        · rfl
  refine at2 (main _ 0 (Nat.zero_add _) (fun j hj => by omega)) ?_ ?_ <;> simp
def x58 : XC := .seq (.reg [⟨some 4,.assign (.const (.bool false)),none⟩]) (.seq (.reg [⟨some 5,.move (.tmp 0),none⟩,⟨some 6,.move (.tmp 1),none⟩,⟨some 7,.call ⟨.value (.func 67),#[.tmp 5,.tmp 6],#[59,3]⟩,none⟩,⟨some 8,.binOp .geq 3 (.tmp 7) (.const (.int .i64 0)) 3,none⟩,⟨some 4,.assign (.tmp 8),none⟩]) (.ret))
@[simp] theorem x58_s {C : WC} {e : AE} {s : Store} {K : KS} : type_of% (@X_at C e s K _ _ x58.eq_1) := X_at x58.eq_1
def an58 : Ann := ⟨[], [], []⟩
def cx58 (P : Program) (m : Nat) : WC := ⟨P, m, an58⟩
@[simp] theorem cx58_a {P : Program} {m : Nat} : (cx58 P m).P = P ∧ (cx58 P m).m = m := ⟨rfl, rfl⟩
instance {P : Program} {m f : Nat} [h : EnT P f] : EnT (cx58 P m).P f := h
theorem chk58 : ∀ c, Try.f58.body = some c → chkC Try.f58.ntmps an58 c = true := by intro c h; obtain rfl := Option.some.inj h; decide +kernel
theorem op58 {args : List PV} {v : PV} (h : X (cx58 Try.prog 0) x58 (argsA 0 args) [] (.fin [.tmp 4] fun v1 s1 => deref s1 6 v1 = v)) (hl : args.length ≤ Try.f58.ntmps := by rw [Try.ntmps58]; simp) : CallOK Try.prog 58 args [] v [] :=
  callX (m := 0) (cx58 Try.prog 0) x58 rfl rfl (by kernel_rfl) Try.func58 rfl rfl hl mixed (chk58 _ rfl) (by rw [Try.results58]; exact h)

theorem Contains_int (l : List Nat) (x : Nat) : CallOK Try.prog 58 [.list (l.map numRow), .int .i64 (x : Int)] [] (.bool (l.any fun y => decide (x = y))) [] := by
  refine op58 ?_
  ((try simp (implicitDefEqProofs := false) (disch := first | assumption | (try simp only [lens]); omega -splitDisjunctions)); all_goals try (repeat' ((first | ((with_reducible first | refine And.intro ?_ ?_ | refine Exists.intro ?_ ?_); first | omega | (simp <;> omega)) | (with_reducible refine spl (And.intro ?_ ?_) <;> intro _) | (refine CL.clo (Index_int l x) ?_) | (refine CM.clo (Index_int l x) ?_) | (refine CD.clo (Index_int l x) ?_)) <;> (try simp (implicitDefEqProofs := false) (disch := first | assumption | (try simp only [lens]); omega -splitDisjunctions)))))
  exact indexP_any _ l
def x54 : XC := .seq (.reg [⟨some 2,.assign (.const (.slice none 0 0)),none⟩]) (.seq (.seq (.reg [⟨some 3,.move (.tmp 0),none⟩,⟨some 4,.binOp .eql 59 (.tmp 3) (.const (.slice none 0 0)) 59,none⟩]) (.cond (.tmp 4) (.seq (.reg [⟨some 2,.assign (.const (.slice none 0 0)),none⟩]) (.ret)) (.skip))) (.seq (.reg [⟨some 5,.buildSlice 59 0 #[],none⟩,⟨some 6,.move (.tmp 0),none⟩,⟨some 7,.call ⟨.builtin .append,#[.tmp 5,.tmp 6],#[59,59]⟩,none⟩,⟨some 2,.assign (.tmp 7),none⟩]) (.ret)))
@[simp] theorem x54_s {C : WC} {e : AE} {s : Store} {K : KS} : type_of% (@X_at C e s K _ _ x54.eq_1) := X_at x54.eq_1
def an54 : Ann := ⟨[], [], []⟩
def cx54 (P : Program) (m : Nat) : WC := ⟨P, m, an54⟩
@[simp] theorem cx54_a {P : Program} {m : Nat} : (cx54 P m).P = P ∧ (cx54 P m).m = m := ⟨rfl, rfl⟩
instance {P : Program} {m f : Nat} [h : EnT P f] : EnT (cx54 P m).P f := h
theorem chk54 : ∀ c, Try.f54.body = some c → chkC Try.f54.ntmps an54 c = true := by intro c h; obtain rfl := Option.some.inj h; decide +kernel
theorem og54 {args : List PV} {v : PV} {s s' : Store} (h : X (cx54 Try.prog s.length) x54 (argsA 0 args) s (.fin [.tmp 2] (gcFin s.length v s'))) (hl : args.length ≤ Try.f54.ntmps := by rw [Try.ntmps54]; simp) : CallOK Try.prog 54 args s v s' :=
  callXG (m := 0) (cx54 Try.prog s.length) x54 rfl rfl (by kernel_rfl) Try.func54 rfl rfl hl mixed (chk54 _ rfl) (by rw [Try.results54]; exact h)

theorem Clone_int (l : List Nat) (hl : 0 < l.length) (h2 : l.length ≤ 1000000) : CallOK Try.prog 54 [.list (l.map numRow)] [] (.sl 0 0 l.length) [.rows 1 (l.map numRow)] := by
  refine og54 ?_
  ((try simp (implicitDefEqProofs := false) (disch := first | assumption | (try simp only [lens]); omega -splitDisjunctions)); all_goals try (repeat' ((first | ((with_reducible first | refine And.intro ?_ ?_ | refine Exists.intro ?_ ?_); first | omega | (simp <;> omega)) | (with_reducible refine spl (And.intro ?_ ?_) <;> intro _)) <;> (try simp (implicitDefEqProofs := false) (disch := first | assumption | (try simp only [lens]); omega -splitDisjunctions)))))
def x53_T1 : XC := .seq (.reg [⟨some 36,.move (.tmp 0),none⟩,⟨some 37,.move (.tmp 5),none⟩,⟨some 38,.slice 59 (.tmp 36) (some (.tmp 37)) none none,none⟩,⟨none,.call ⟨.builtin .clear,#[.tmp 38],#[59]⟩,none⟩]) (.seq (.reg [⟨some 39,.move (.tmp 0),none⟩,⟨some 40,.move (.tmp 5),none⟩,⟨some 41,.slice 59 (.tmp 39) none (some (.tmp 40)) none,none⟩,⟨some 4,.assign (.tmp 41),none⟩]) (.ret))
def x53_L0 : XC := .seq (.seq (.reg [⟨some 16,.move (.tmp 6),none⟩,⟨some 17,.move (.tmp 0),none⟩,⟨some 18,.call ⟨.builtin .len,#[.tmp 17],#[59]⟩,none⟩,⟨some 19,.binOp .lss 3 (.tmp 16) (.tmp 18) 3,none⟩]) (.cond (.tmp 19) (.skip) (.exit 0))) (.seq (.block 1 (.seq (.reg [⟨some 22,.move (.tmp 0),none⟩,⟨some 23,.move (.tmp 6),none⟩,⟨some 24,.indexAddr 59 (.tmp 22) (.tmp 23),none⟩,⟨some 25,.load 3 (.tmp 24),none⟩,⟨some 7,.assign (.tmp 25),none⟩]) (.seq (.reg [⟨some 26,.move (.tmp 1),none⟩,⟨some 27,.move (.tmp 7),none⟩,⟨some 28,.call ⟨.value (.tmp 26),#[.tmp 27],#[3]⟩,none⟩,⟨some 29,.unOp .not 4 (.tmp 28),none⟩]) (.cond (.tmp 29) (.seq (.reg [⟨some 30,.move (.tmp 0),none⟩,⟨some 31,.move (.tmp 5),none⟩,⟨some 32,.move (.tmp 7),none⟩,⟨some 33,.indexAddr 59 (.tmp 30) (.tmp 31),none⟩,⟨none,.store 3 (.tmp 33) (.tmp 32),none⟩]) (.reg [⟨some 34,.move (.tmp 5),none⟩,⟨some 35,.binOp .add 3 (.tmp 34) (.const (.int .i64 1)) 3,none⟩,⟨some 5,.assign (.tmp 35),none⟩])) (.skip))))) (.reg [⟨some 20,.move (.tmp 6),none⟩,⟨some 21,.binOp .add 3 (.tmp 20) (.const (.int .i64 1)) 3,none⟩,⟨some 6,.assign (.tmp 21),none⟩]))
def x53 : XC := .seq (.reg [⟨some 4,.assign (.const (.slice none 0 0)),none⟩]) (.seq (.reg [⟨some 8,.move (.tmp 0),none⟩,⟨some 9,.move (.tmp 1),none⟩,⟨some 10,.call ⟨.value (.func 29),#[.tmp 8,.tmp 9],#[59,64]⟩,none⟩,⟨some 5,.assign (.tmp 10),none⟩]) (.seq (.seq (.reg [⟨some 11,.move (.tmp 5),none⟩,⟨some 12,.binOp .eql 3 (.tmp 11) (.const (.int .i64 (-1))) 3,none⟩]) (.cond (.tmp 12) (.seq (.reg [⟨some 13,.move (.tmp 0),none⟩,⟨some 4,.assign (.tmp 13),none⟩]) (.ret)) (.skip))) (.seq (.seq (.reg [⟨some 14,.move (.tmp 5),none⟩,⟨some 15,.binOp .add 3 (.tmp 14) (.const (.int .i64 1)) 3,none⟩,⟨some 6,.assign (.tmp 15),none⟩]) (.bloop 0 x53_L0)) (x53_T1))))
@[simp] theorem x53_s {C : WC} {e : AE} {s : Store} {K : KS} : type_of% (@X_at C e s K _ _ x53_T1.eq_1) ∧ type_of% (@X_at C e s K _ _ x53_L0.eq_1) ∧ type_of% (@X_at C e s K _ _ x53.eq_1) := ⟨X_at x53_T1.eq_1, X_at x53_L0.eq_1, X_at x53.eq_1⟩
def an53 : Ann := ⟨[], [(0, [], [0, 1, 5, 6], [0, 5])], []⟩
def cx53 (P : Program) (m : Nat) : WC := ⟨P, m, an53⟩
@[simp] theorem cx53_a {P : Program} {m : Nat} : (cx53 P m).P = P ∧ (cx53 P m).m = m ∧ (cx53 P m).A.loopOf 0 = ([], [0, 1, 5, 6], [0, 5]) := ⟨rfl, rfl, rfl⟩
instance {P : Program} {m f : Nat} [h : EnT P f] : EnT (cx53 P m).P f := h
theorem chk53 : ∀ c, Try.f53.body = some c → chkC Try.f53.ntmps an53 c = true := by intro c h; obtain rfl := Option.some.inj h; decide +kernel
theorem og53 {args : List PV} {v : PV} {s s' : Store} (h : X (cx53 Try.prog s.length) x53 (argsA 0 args) s (.fin [.tmp 4] (gcFin s.length v s'))) (hl : args.length ≤ Try.f53.ntmps := by rw [Try.ntmps53]; simp) : CallOK Try.prog 53 args s v s' :=
  callXG (m := 0) (cx53 Try.prog s.length) x53 rfl rfl (by kernel_rfl) Try.func53 rfl rfl hl mixed (chk53 _ rfl) (by rw [Try.results53]; exact h)

theorem DeleteFunc_int (l : List Nat) (hl : 0 < l.length) (h2 : l.length ≤ 1000000) (fid : Nat) [EnT Try.prog fid] (xs ys : List PV) [hx : FlatL xs] [hy : FlatL ys] (p : Nat → Bool) (h : ∀ a ∈ l, CallOK Try.prog fid (xs ++ .int .i64 (a : Int) :: ys) [] (.bool (p a)) []) : 
    CallOK Try.prog 53 [.sl 0 0 l.length, .fn (.func fid) xs ys] [.rows 1 (l.map numRow)] (.sl 0 0 (l.filter fun a => !p a).length) [.rows 1 ((l.filter fun a => !p a).map numRow ++ List.replicate (l.length - (l.filter fun a => !p a).length) [.int .i64 0])] := by
  have hi := IndexFunc_int l fid xs ys p h
  have hcl : ∀ a : Int, ∀ v ∈ xs ++ .int .i64 a :: ys, Closed v := by
    intro a v hv
    simp only [List.mem_append, List.mem_cons] at hv
    rcases hv with hv | rfl | hv
    · exact hx.closed v hv
    · exact cl_int
    · exact hy.closed v hv
  refine og53 ?_
  ((try simp (implicitDefEqProofs := false) (disch := first | assumption | (try simp only [lens]); omega -splitDisjunctions)); all_goals try (repeat' ((first | ((with_reducible first | refine And.intro ?_ ?_ | refine Exists.intro ?_ ?_); first | omega | (simp <;> omega)) | (with_reducible refine spl (And.intro ?_ ?_) <;> intro _)) <;> (try simp (implicitDefEqProofs := false) (disch := first | assumption | (try simp only [lens]); omega -splitDisjunctions)))))
  refine CL.look (v := .int .i64 (indexP p l)) 6 (by simpa using hi) (flat_int _ _) ?_
  cases hf : l.findIdx? p with
  | none =>
    have hv : indexP p l = -1 := by unfold indexP; rw [hf]
    have hfil : l.filter (fun a => !p a) = l := by
      rw [List.filter_eq_self]
      intro a ha
      rw [List.findIdx?_eq_none_iff] at hf
      simp [hf a ha]
    rw [hv, hfil]
    ((try simp (implicitDefEqProofs := false) (disch := first | assumption | (try simp only [lens]); omega -splitDisjunctions)); all_goals try (repeat' ((first | ((with_reducible first | refine And.intro ?_ ?_ | refine Exists.intro ?_ ?_); first | omega | (simp <;> omega)) | (with_reducible refine spl (And.intro ?_ ?_) <;> intro _)) <;> (try simp (implicitDefEqProofs := false) (disch := first | assumption | (try simp only [lens]); omega -splitDisjunctions)))))
  | some i0 =>
    have hv : indexP p l = i0 := by unfold indexP; rw [hf]
    rw [List.findIdx?_eq_some_iff_getElem] at hf
    obtain ⟨h3, h4, h5⟩ := hf
    rw [hv]
    ((try simp (implicitDefEqProofs := false) (disch := first | assumption | (try simp only [lens]); omega -splitDisjunctions)); all_goals try (repeat' ((first | ((with_reducible first | refine And.intro ?_ ?_ | refine Exists.intro ?_ ?_); first | omega | (simp <;> omega)) | (with_reducible refine spl (And.intro ?_ ?_) <;> intro _)) <;> (try simp (implicitDefEqProofs := false) (disch := first | assumption | (try simp only [lens]); omega -splitDisjunctions)))))
    refine W_of fun Q hQ => ?_
    have main : ∀ n j (mid : List Nat), j + n = l.length → mid.length + ((l.take j).filter fun a => !p a).length = j → 0 < mid.length →
        Q [(0, .sl 0 0 l.length), (1, .fn (.func fid) xs ys), (5, .int .i64 (((l.take j).filter fun a => !p a).length : Int)), (6, .int .i64 (j : Int))] [.rows 1 (((l.take j).filter fun a => !p a).map numRow ++ (mid.map numRow ++ (l.drop j).map numRow))] := by
      intro n
      induction n with
      | zero =>
        intro j mid hj hm h0
        rw [List.take_of_length_le (show l.length ≤ j by omega)] at hm ⊢
        rw [List.drop_of_length_le (show l.length ≤ j by omega)]
        apply hQ
        ((try simp (implicitDefEqProofs := false) (disch := first | assumption | (try simp only [lens]); omega -splitDisjunctions)); all_goals try (repeat' ((first | ((with_reducible first | refine And.intro ?_ ?_ | refine Exists.intro ?_ ?_); first | omega | (simp <;> omega)) | (with_reducible refine spl (And.intro ?_ ?_) <;> intro _)) <;> (try simp (implicitDefEqProofs := false) (disch := first | assumption | (try simp only [lens]); omega -splitDisjunctions)))))
        have e1 : (l.filter fun a => !p a).length + mid.length = l.length := by omega
        rw [List.take_left' (by simp), List.drop_eq_nil_of_le (by simp; omega), List.append_nil]
      | succ n ih =>
        intro j mid hj hm h0
        have hc := h _ (List.getElem_mem (show j < l.length by omega))
        have hdr : l.drop j = l[j]'(by omega) :: l.drop (j + 1) := List.drop_eq_getElem_cons (by omega)
        have htk := take_snoc (show j < l.length by omega)
        have ih := ih (j + 1)
        rw [htk] at ih
        simp only [List.filter_append, List.filter_cons, List.filter_nil] at ih
        generalize hF : (l.take j).filter (fun a => !p a) = F at *
        apply hQ
        have hjm : j - F.length = mid.length := by omega
        have hd2 : (l.map numRow).drop j = numRow (l[j]'(by omega)) :: (l.drop (j + 1)).map numRow := by rw [← List.map_drop, hdr]; rfl
        ((try simp (implicitDefEqProofs := false) (disch := first | assumption | (try simp only [lens]); omega -splitDisjunctions) [hjm]); all_goals try (repeat' ((first | ((with_reducible first | refine And.intro ?_ ?_ | refine Exists.intro ?_ ?_); first | omega | (simp <;> omega)) | (with_reducible refine spl (And.intro ?_ ?_) <;> intro _)) <;> (try simp (implicitDefEqProofs := false) (disch := first | assumption | (try simp only [lens]); omega -splitDisjunctions) [hjm]))))
        refine CL.clo hc ?_ (hcl _)
        ((try simp (implicitDefEqProofs := false) (disch := first | assumption | (try simp only [lens]); omega -splitDisjunctions) [hjm]); all_goals try (repeat' ((first | ((with_reducible first | refine And.intro ?_ ?_ | refine Exists.intro ?_ ?_); first | omega | (simp <;> omega)) | (with_reducible refine spl (And.intro ?_ ?_) <;> intro _)) <;> (try simp (implicitDefEqProofs := false) (disch := first | assumption | (try simp only [lens]); omega -splitDisjunctions) [hjm]))))
        · rename_i hp
          rw [hp] at ih
          simp only [if_true] at ih
          obtain ⟨m, mid', rfl⟩ : ∃ m mid', mid = m :: mid' := by
            cases mid with
            | nil => cases h0
            | cons m r => exact ⟨m, r, rfl⟩
          refine at2 (ih (mid' ++ [l[j]'(by omega)]) (by omega) (by simp at hm ⊢; omega) (by simp)) ?_ ?_
          · simp
          · simp only [hd2, List.map_append, List.map_cons, List.map_nil, List.set_cons_zero, List.append_assoc, List.cons_append, List.nil_append, numRow]
        · rename_i hp
          rw [hp] at ih
          simp only [Bool.false_eq_true, if_false, List.append_nil] at ih
          refine at2 (ih (mid ++ [l[j]'(by omega)]) (by omega) (by simp; omega) (by simp)) ?_ ?_
          · simp
          · simp only [hd2, List.map_append, List.map_cons, List.map_nil, List.append_assoc, List.cons_append, List.nil_append, numRow]
    have hfi : (l.take i0).filter (fun a => !p a) = l.take i0 := by
      rw [List.filter_eq_self]
      intro a ha
      obtain ⟨k, hk, rfl⟩ := List.mem_iff_getElem.1 ha
      have := h5 k (by simp at hk; omega)
      simp at this ⊢; exact this
    have hfj : (l.take (i0 + 1)).filter (fun a => !p a) = l.take i0 := by
      rw [take_snoc h3, List.filter_append, hfi]; simp [h4]
    have m0 := main (l.length - (i0 + 1)) (i0 + 1) [l[i0]] (by omega) (by rw [hfj]; simp; omega) (by simp)
    rw [hfj] at m0
    refine at2 m0 ?_ ?_
    · simp; omega
    · have : l = l.take i0 ++ ([l[i0]] ++ l.drop (i0 + 1)) := by
        rw [List.singleton_append, ← List.drop_eq_getElem_cons h3, List.take_append_drop]
      have e2 := congrArg (List.map numRow) this
      simp only [List.map_append, List.map_cons, List.map_nil, List.map_take, List.map_drop] at e2 ⊢
      rw [e2.symm]
end Go.Proofs.Ytliockncjdeloaa
