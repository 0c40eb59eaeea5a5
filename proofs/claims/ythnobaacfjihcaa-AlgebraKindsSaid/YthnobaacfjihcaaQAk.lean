/-
  algebra: each, bottom, top, complemented, distributive, Kind, Lattice.
-/
import Derived.Test.YthnobaacfjihcaaQAl
namespace Go.Proofs.Ythnobaacfjihcaa
open Go Go.Pv
set_option linter.unusedVariables false
set_option linter.unusedSimpArgs false
set_option maxRecDepth 100000
set_option maxHeartbeats 4000000

/-- a table of numbers -/
def nCell (f : Nat → Nat → Nat) (a b : Nat) : List PV := [.int .i64 (f a b : Int)]
instance (f : Nat → Nat → Nat) (a : Nat) : FlatRow (nCell f a) := ⟨fun x => by simp [nCell, flatV]⟩
def nRow (n : Nat) (f : Nat → Nat → Nat) (a : Nat) : List PV := [.list ((List.range n).map (nCell f a))]
instance (n : Nat) (f : Nat → Nat → Nat) : FlatRow (nRow n f) := ⟨fun x => by simp [nRow, flatV]⟩
def latN (n : Nat) (g : Nat → Nat → Bool) (j m : Nat → Nat → Nat) : List PV := [.list ((tabF n g).map tabRowF), .list ((List.range n).map (nRow n j)), .list ((List.range n).map (nRow n m))]
theorem joinI_jn {n : Nat} {g : Nat → Nat → Bool} (h : isLat n g = true) {a b : Nat} (ha : a < n) (hb : b < n) : joinI n g a b = (jn n g a b : Int) ∧ jn n g a b < n := by
  have h1 := (isLat_iff.1 h a b ha hb).1
  unfold jn
  rcases best_spec n (fun c => g a c && g b c) (fun c d => g c d) with ⟨h2, _⟩ | ⟨c, hc, h2, _⟩
  · exact absurd h2 h1
  · have : joinI n g a b = c := h2
    rw [this]; exact ⟨by simp, by simpa using hc⟩
theorem meetI_mt {n : Nat} {g : Nat → Nat → Bool} (h : isLat n g = true) {a b : Nat} (ha : a < n) (hb : b < n) : meetI n g a b = (mt n g a b : Int) ∧ mt n g a b < n := by
  have h1 := (isLat_iff.1 h a b ha hb).2
  unfold mt
  rcases best_spec n (fun c => g c a && g c b) (fun c d => g d c) with ⟨h2, _⟩ | ⟨c, hc, h2, _⟩
  · exact absurd h2 h1
  · have : meetI n g a b = c := h2
    rw [this]; exact ⟨by simp, by simpa using hc⟩
theorem latC_N {n : Nat} {g : Nat → Nat → Bool} (h : isLat n g = true) : latC n g = latN n g (jn n g) (mt n g) := by
  unfold latC latN
  have h1 : (List.range n).map (jRow n g) = (List.range n).map (nRow n (jn n g)) := List.map_congr_left fun a ha => by
    unfold jRow nRow
    rw [show (List.range n).map (jCell n g a) = (List.range n).map (nCell (jn n g) a) from List.map_congr_left fun b hb => by
      unfold jCell nCell
      rw [(joinI_jn h (List.mem_range.1 ha) (List.mem_range.1 hb)).1]]
  have h2 : (List.range n).map (mRow n g) = (List.range n).map (nRow n (mt n g)) := List.map_congr_left fun a ha => by
    unfold mRow nRow
    rw [show (List.range n).map (mCell n g a) = (List.range n).map (nCell (mt n g) a) from List.map_congr_left fun b hb => by
      unfold mCell nCell
      rw [(meetI_mt h (List.mem_range.1 ha) (List.mem_range.1 hb)).1]]
  rw [h1, h2]
def x33_T1 : XC := .seq (.reg [⟨some 24,.move (.tmp 3),none⟩,⟨some 2,.assign (.tmp 24),none⟩]) (.ret)
def x33_L0 : XC := .seq (.reg [⟨some 11,.binOp .lss 3 (.tmp 10) (.tmp 9) 3,none⟩]) (.seq (.cond (.tmp 11) (.skip) (.exit 0)) (.seq (.block 1 (.seq (.reg [⟨some 12,.move (.tmp 10),none⟩,⟨some 4,.assign (.tmp 12),none⟩]) (.reg [⟨some 13,.move (.tmp 0),none⟩,⟨some 14,.nilCheck (.tmp 13),none⟩,⟨some 15,.fieldAddr 64 (.tmp 14) 2,none⟩,⟨some 16,.load 33 (.tmp 15),none⟩,⟨some 17,.move (.tmp 3),none⟩,⟨some 18,.indexAddr 33 (.tmp 16) (.tmp 17),none⟩,⟨some 19,.load 37 (.tmp 18),none⟩,⟨some 20,.move (.tmp 4),none⟩,⟨some 21,.indexAddr 37 (.tmp 19) (.tmp 20),none⟩,⟨some 22,.load 3 (.tmp 21),none⟩,⟨some 3,.assign (.tmp 22),none⟩]))) (.reg [⟨some 23,.binOp .add 3 (.tmp 10) (.const (.int .i64 1)) 3,none⟩,⟨some 10,.move (.tmp 23),none⟩])))
def x33 : XC := .seq (.reg [⟨some 2,.assign (.const (.int .i64 0)),none⟩]) (.seq (.reg [⟨some 3,.assign (.const (.int .i64 0)),none⟩]) (.seq (.seq (.reg [⟨some 5,.move (.tmp 0),none⟩,⟨some 6,.nilCheck (.tmp 5),none⟩,⟨some 7,.fieldAddr 64 (.tmp 6) 0,none⟩,⟨some 8,.load 59 (.tmp 7),none⟩,⟨some 9,.call ⟨.builtin .len,#[.tmp 8],#[59]⟩,none⟩,⟨some 10,.move (.const (.int .i64 0)),none⟩]) (.bloop 0 x33_L0)) (x33_T1)))
@[simp] theorem x33_s {C : WC} {e : AE} {s : Store} {K : KS} : type_of% (@X_at C e s K _ _ x33_T1.eq_1) ∧ type_of% (@X_at C e s K _ _ x33_L0.eq_1) ∧ type_of% (@X_at C e s K _ _ x33.eq_1) := ⟨X_at x33_T1.eq_1, X_at x33_L0.eq_1, X_at x33.eq_1⟩
def an33 : Ann := ⟨[], [(0, [], [0, 3, 9, 10], [3])], []⟩
def cx33 (P : Program) (m : Nat) : WC := ⟨P, m, an33⟩
@[simp] theorem cx33_a {P : Program} {m : Nat} : (cx33 P m).P = P ∧ (cx33 P m).m = m ∧ (cx33 P m).A.loopOf 0 = ([], [0, 3, 9, 10], [3]) := ⟨rfl, rfl, rfl⟩
instance {P : Program} {m f : Nat} [h : EnT P f] : EnT (cx33 P m).P f := h
theorem chk33 : ∀ c, Try.f33.body = some c → chkC Try.f33.ntmps an33 c = true := by intro c h; obtain rfl := Option.some.inj h; decide +kernel
theorem op33 {args : List PV} {v : PV} (h : X (cx33 Try.prog 0) x33 (argsA 0 args) [] (.fin [.tmp 2] fun v1 s1 => deref s1 6 v1 = v)) (hl : args.length ≤ Try.f33.ntmps := by rw [Try.ntmps33]; simp) : CallOK Try.prog 33 args [] v [] :=
  callX (m := 0) (cx33 Try.prog 0) x33 rfl rfl (by kernel_rfl) Try.func33 rfl rfl hl mixed (chk33 _ rfl) (by rw [Try.results33]; exact h)

theorem bottom_algebra (n : Nat) (h20 : n ≤ 20) (h1 : 0 < n) (g : Nat → Nat → Bool) (j m : Nat → Nat → Nat) (hm : ∀ a b, a < n → b < n → m a b < n) :
    CallOK Try.prog 33 [.iptr (latN n g j m)] [] (.int .i64 ((List.range n).foldl m 0 : Nat)) [] := by
  refine op33 ?_
  (((try simp (implicitDefEqProofs := false) [latN]); (try simp (implicitDefEqProofs := false) (disch := first | assumption | (try simp only [lens]); omega -splitDisjunctions) [latN])); all_goals try (repeat' ((first | ((with_reducible first | refine And.intro ?_ ?_ | refine Exists.intro ?_ ?_); first | omega | (simp <;> omega)) | (with_reducible refine spl (And.intro ?_ ?_) <;> intro _)) <;> ((try simp (implicitDefEqProofs := false) [latN]); (try simp (implicitDefEqProofs := false) (disch := first | assumption | (try simp only [lens]); omega -splitDisjunctions) [latN])))))
  refine W_of fun Q hQ => ?_
  have main : ∀ k y x, y + k = n → x < n → (List.range n).foldl m 0 = ((List.range n).drop y).foldl m x → Q [(0, .iptr (latN n g j m)), (3, .int .i64 (x : Int)), (9, .int .i64 (n : Int)), (10, .int .i64 (y : Int))] [] := by
    intro k
    induction k with
    | zero =>
      intro y x hy hx hb
      rw [List.drop_of_length_le (by simp; omega)] at hb
      apply hQ
      rw [hb]
      (((try simp (implicitDefEqProofs := false) [latN]); (try simp (implicitDefEqProofs := false) (disch := first | assumption | (try simp only [lens]); omega -splitDisjunctions) [latN])); all_goals try (repeat' ((first | ((with_reducible first | refine And.intro ?_ ?_ | refine Exists.intro ?_ ?_); first | omega | (simp <;> omega)) | (with_reducible refine spl (And.intro ?_ ?_) <;> intro _)) <;> ((try simp (implicitDefEqProofs := false) [latN]); (try simp (implicitDefEqProofs := false) (disch := first | assumption | (try simp only [lens]); omega -splitDisjunctions) [latN])))))
    | succ k ih =>
      intro y x hy hx hb
      have hyn : y < n := by omega
      have hmx := hm x y hx hyn
      rw [List.drop_eq_getElem_cons (by simpa using hyn), List.foldl_cons, List.getElem_range] at hb
      have ih := ih (y + 1) (m x y) (by omega) hmx hb
      apply hQ
      clear hQ hb
      (((try simp (implicitDefEqProofs := false) [latN, hx, hyn, nRow, nCell]); (try simp (implicitDefEqProofs := false) (disch := first | assumption | (try simp only [lens]); omega -splitDisjunctions) [latN, hx, hyn, nRow, nCell])); all_goals try (repeat' ((first | ((with_reducible first | refine And.intro ?_ ?_ | refine Exists.intro ?_ ?_); first | omega | (simp <;> omega)) | (with_reducible refine spl (And.intro ?_ ?_) <;> intro _)) <;> ((try simp (implicitDefEqProofs := false) [latN, hx, hyn, nRow, nCell]); (try simp (implicitDefEqProofs := false) (disch := first | assumption | (try simp only [lens]); omega -splitDisjunctions) [latN, hx, hyn, nRow, nCell])))))
      refine at2 ih ?_ ?_ <;> simp [latN]
  refine at2 (main _ 0 0 (Nat.zero_add _) h1 rfl) ?_ ?_ <;> simp [latN]
def x41_T1 : XC := .seq (.reg [⟨some 24,.move (.tmp 3),none⟩,⟨some 2,.assign (.tmp 24),none⟩]) (.ret)
def x41_L0 : XC := .seq (.reg [⟨some 11,.binOp .lss 3 (.tmp 10) (.tmp 9) 3,none⟩]) (.seq (.cond (.tmp 11) (.skip) (.exit 0)) (.seq (.block 1 (.seq (.reg [⟨some 12,.move (.tmp 10),none⟩,⟨some 4,.assign (.tmp 12),none⟩]) (.reg [⟨some 13,.move (.tmp 0),none⟩,⟨some 14,.nilCheck (.tmp 13),none⟩,⟨some 15,.fieldAddr 64 (.tmp 14) 1,none⟩,⟨some 16,.load 33 (.tmp 15),none⟩,⟨some 17,.move (.tmp 3),none⟩,⟨some 18,.indexAddr 33 (.tmp 16) (.tmp 17),none⟩,⟨some 19,.load 37 (.tmp 18),none⟩,⟨some 20,.move (.tmp 4),none⟩,⟨some 21,.indexAddr 37 (.tmp 19) (.tmp 20),none⟩,⟨some 22,.load 3 (.tmp 21),none⟩,⟨some 3,.assign (.tmp 22),none⟩]))) (.reg [⟨some 23,.binOp .add 3 (.tmp 10) (.const (.int .i64 1)) 3,none⟩,⟨some 10,.move (.tmp 23),none⟩])))
def x41 : XC := .seq (.reg [⟨some 2,.assign (.const (.int .i64 0)),none⟩]) (.seq (.reg [⟨some 3,.assign (.const (.int .i64 0)),none⟩]) (.seq (.seq (.reg [⟨some 5,.move (.tmp 0),none⟩,⟨some 6,.nilCheck (.tmp 5),none⟩,⟨some 7,.fieldAddr 64 (.tmp 6) 0,none⟩,⟨some 8,.load 59 (.tmp 7),none⟩,⟨some 9,.call ⟨.builtin .len,#[.tmp 8],#[59]⟩,none⟩,⟨some 10,.move (.const (.int .i64 0)),none⟩]) (.bloop 0 x41_L0)) (x41_T1)))
@[simp] theorem x41_s {C : WC} {e : AE} {s : Store} {K : KS} : type_of% (@X_at C e s K _ _ x41_T1.eq_1) ∧ type_of% (@X_at C e s K _ _ x41_L0.eq_1) ∧ type_of% (@X_at C e s K _ _ x41.eq_1) := ⟨X_at x41_T1.eq_1, X_at x41_L0.eq_1, X_at x41.eq_1⟩
def an41 : Ann := ⟨[], [(0, [], [0, 3, 9, 10], [3])], []⟩
def cx41 (P : Program) (m : Nat) : WC := ⟨P, m, an41⟩
@[simp] theorem cx41_a {P : Program} {m : Nat} : (cx41 P m).P = P ∧ (cx41 P m).m = m ∧ (cx41 P m).A.loopOf 0 = ([], [0, 3, 9, 10], [3]) := ⟨rfl, rfl, rfl⟩
instance {P : Program} {m f : Nat} [h : EnT P f] : EnT (cx41 P m).P f := h
theorem chk41 : ∀ c, Try.f41.body = some c → chkC Try.f41.ntmps an41 c = true := by intro c h; obtain rfl := Option.some.inj h; decide +kernel
theorem op41 {args : List PV} {v : PV} (h : X (cx41 Try.prog 0) x41 (argsA 0 args) [] (.fin [.tmp 2] fun v1 s1 => deref s1 6 v1 = v)) (hl : args.length ≤ Try.f41.ntmps := by rw [Try.ntmps41]; simp) : CallOK Try.prog 41 args [] v [] :=
  callX (m := 0) (cx41 Try.prog 0) x41 rfl rfl (by kernel_rfl) Try.func41 rfl rfl hl mixed (chk41 _ rfl) (by rw [Try.results41]; exact h)

theorem top_algebra (n : Nat) (h20 : n ≤ 20) (h1 : 0 < n) (g : Nat → Nat → Bool) (j m : Nat → Nat → Nat) (hm : ∀ a b, a < n → b < n → j a b < n) :
    CallOK Try.prog 41 [.iptr (latN n g j m)] [] (.int .i64 ((List.range n).foldl j 0 : Nat)) [] := by
  refine op41 ?_
  (((try simp (implicitDefEqProofs := false) [latN]); (try simp (implicitDefEqProofs := false) (disch := first | assumption | (try simp only [lens]); omega -splitDisjunctions) [latN])); all_goals try (repeat' ((first | ((with_reducible first | refine And.intro ?_ ?_ | refine Exists.intro ?_ ?_); first | omega | (simp <;> omega)) | (with_reducible refine spl (And.intro ?_ ?_) <;> intro _)) <;> ((try simp (implicitDefEqProofs := false) [latN]); (try simp (implicitDefEqProofs := false) (disch := first | assumption | (try simp only [lens]); omega -splitDisjunctions) [latN])))))
  refine W_of fun Q hQ => ?_
  have main : ∀ k y x, y + k = n → x < n → (List.range n).foldl j 0 = ((List.range n).drop y).foldl j x → Q [(0, .iptr (latN n g j m)), (3, .int .i64 (x : Int)), (9, .int .i64 (n : Int)), (10, .int .i64 (y : Int))] [] := by
    intro k
    induction k with
    | zero =>
      intro y x hy hx hb
      rw [List.drop_of_length_le (by simp; omega)] at hb
      apply hQ
      rw [hb]
      (((try simp (implicitDefEqProofs := false) [latN]); (try simp (implicitDefEqProofs := false) (disch := first | assumption | (try simp only [lens]); omega -splitDisjunctions) [latN])); all_goals try (repeat' ((first | ((with_reducible first | refine And.intro ?_ ?_ | refine Exists.intro ?_ ?_); first | omega | (simp <;> omega)) | (with_reducible refine spl (And.intro ?_ ?_) <;> intro _)) <;> ((try simp (implicitDefEqProofs := false) [latN]); (try simp (implicitDefEqProofs := false) (disch := first | assumption | (try simp only [lens]); omega -splitDisjunctions) [latN])))))
    | succ k ih =>
      intro y x hy hx hb
      have hyn : y < n := by omega
      have hmx := hm x y hx hyn
      rw [List.drop_eq_getElem_cons (by simpa using hyn), List.foldl_cons, List.getElem_range] at hb
      have ih := ih (y + 1) (j x y) (by omega) hmx hb
      apply hQ
      clear hQ hb
      (((try simp (implicitDefEqProofs := false) [latN, hx, hyn, nRow, nCell]); (try simp (implicitDefEqProofs := false) (disch := first | assumption | (try simp only [lens]); omega -splitDisjunctions) [latN, hx, hyn, nRow, nCell])); all_goals try (repeat' ((first | ((with_reducible first | refine And.intro ?_ ?_ | refine Exists.intro ?_ ?_); first | omega | (simp <;> omega)) | (with_reducible refine spl (And.intro ?_ ?_) <;> intro _)) <;> ((try simp (implicitDefEqProofs := false) [latN, hx, hyn, nRow, nCell]); (try simp (implicitDefEqProofs := false) (disch := first | assumption | (try simp only [lens]); omega -splitDisjunctions) [latN, hx, hyn, nRow, nCell])))))
      refine at2 ih ?_ ?_ <;> simp [latN]
  refine at2 (main _ 0 0 (Nat.zero_add _) h1 rfl) ?_ ?_ <;> simp [latN]
def x28_L4 : XC := .seq (.reg [⟨some 30,.binOp .lss 3 (.tmp 29) (.tmp 28) 3,none⟩]) (.seq (.cond (.tmp 30) (.skip) (.exit 4)) (.seq (.block 5 (.seq (.reg [⟨some 31,.move (.tmp 29),none⟩,⟨some 7,.assign (.tmp 31),none⟩]) (.seq (.reg [⟨some 32,.move (.tmp 1),none⟩,⟨some 33,.move (.tmp 5),none⟩,⟨some 34,.move (.tmp 6),none⟩,⟨some 35,.move (.tmp 7),none⟩,⟨some 36,.call ⟨.value (.tmp 32),#[.tmp 33,.tmp 34,.tmp 35],#[3,3,3]⟩,none⟩,⟨some 37,.unOp .not 4 (.tmp 36),none⟩]) (.cond (.tmp 37) (.seq (.reg [⟨some 4,.assign (.const (.bool false)),none⟩]) (.ret)) (.skip))))) (.reg [⟨some 38,.binOp .add 3 (.tmp 29) (.const (.int .i64 1)) 3,none⟩,⟨some 29,.move (.tmp 38),none⟩])))
def x28_L2 : XC := .seq (.reg [⟨some 22,.binOp .lss 3 (.tmp 21) (.tmp 20) 3,none⟩]) (.seq (.cond (.tmp 22) (.skip) (.exit 2)) (.seq (.block 3 (.seq (.reg [⟨some 23,.move (.tmp 21),none⟩,⟨some 6,.assign (.tmp 23),none⟩]) (.seq (.reg [⟨some 24,.move (.tmp 0),none⟩,⟨some 25,.nilCheck (.tmp 24),none⟩,⟨some 26,.fieldAddr 64 (.tmp 25) 0,none⟩,⟨some 27,.load 59 (.tmp 26),none⟩,⟨some 28,.call ⟨.builtin .len,#[.tmp 27],#[59]⟩,none⟩,⟨some 29,.move (.const (.int .i64 0)),none⟩]) (.bloop 4 x28_L4)))) (.reg [⟨some 39,.binOp .add 3 (.tmp 21) (.const (.int .i64 1)) 3,none⟩,⟨some 21,.move (.tmp 39),none⟩])))
def x28_L0 : XC := .seq (.reg [⟨some 14,.binOp .lss 3 (.tmp 13) (.tmp 12) 3,none⟩]) (.seq (.cond (.tmp 14) (.skip) (.exit 0)) (.seq (.block 1 (.seq (.reg [⟨some 15,.move (.tmp 13),none⟩,⟨some 5,.assign (.tmp 15),none⟩]) (.seq (.reg [⟨some 16,.move (.tmp 0),none⟩,⟨some 17,.nilCheck (.tmp 16),none⟩,⟨some 18,.fieldAddr 64 (.tmp 17) 0,none⟩,⟨some 19,.load 59 (.tmp 18),none⟩,⟨some 20,.call ⟨.builtin .len,#[.tmp 19],#[59]⟩,none⟩,⟨some 21,.move (.const (.int .i64 0)),none⟩]) (.bloop 2 x28_L2)))) (.reg [⟨some 40,.binOp .add 3 (.tmp 13) (.const (.int .i64 1)) 3,none⟩,⟨some 13,.move (.tmp 40),none⟩])))
def x28 : XC := .seq (.reg [⟨some 4,.assign (.const (.bool false)),none⟩]) (.seq (.seq (.reg [⟨some 8,.move (.tmp 0),none⟩,⟨some 9,.nilCheck (.tmp 8),none⟩,⟨some 10,.fieldAddr 64 (.tmp 9) 0,none⟩,⟨some 11,.load 59 (.tmp 10),none⟩,⟨some 12,.call ⟨.builtin .len,#[.tmp 11],#[59]⟩,none⟩,⟨some 13,.move (.const (.int .i64 0)),none⟩]) (.bloop 0 x28_L0)) (.seq (.reg [⟨some 4,.assign (.const (.bool true)),none⟩]) (.ret)))
@[simp] theorem x28_s {C : WC} {e : AE} {s : Store} {K : KS} : type_of% (@X_at C e s K _ _ x28_L4.eq_1) ∧ type_of% (@X_at C e s K _ _ x28_L2.eq_1) ∧ type_of% (@X_at C e s K _ _ x28_L0.eq_1) ∧ type_of% (@X_at C e s K _ _ x28.eq_1) := ⟨X_at x28_L4.eq_1, X_at x28_L2.eq_1, X_at x28_L0.eq_1, X_at x28.eq_1⟩
def an28 : Ann := ⟨[], [(4, [], [0, 1, 5, 6, 12, 13, 20, 21, 28, 29], [0, 1, 4, 5, 12, 13, 20, 21]), (2, [], [0, 1, 5, 12, 13, 20, 21], [0, 1, 4, 12, 13]), (0, [], [0, 1, 12, 13], [4])], []⟩
def cx28 (P : Program) (m : Nat) : WC := ⟨P, m, an28⟩
@[simp] theorem cx28_a {P : Program} {m : Nat} : (cx28 P m).P = P ∧ (cx28 P m).m = m ∧ (cx28 P m).A.loopOf 4 = ([], [0, 1, 5, 6, 12, 13, 20, 21, 28, 29], [0, 1, 4, 5, 12, 13, 20, 21]) ∧ (cx28 P m).A.loopOf 2 = ([], [0, 1, 5, 12, 13, 20, 21], [0, 1, 4, 12, 13]) ∧ (cx28 P m).A.loopOf 0 = ([], [0, 1, 12, 13], [4]) := ⟨rfl, rfl, rfl, rfl, rfl⟩
instance {P : Program} {m f : Nat} [h : EnT P f] : EnT (cx28 P m).P f := h
theorem chk28 : ∀ c, Try.f28.body = some c → chkC Try.f28.ntmps an28 c = true := by intro c h; obtain rfl := Option.some.inj h; decide +kernel
theorem op28 {args : List PV} {v : PV} (h : X (cx28 Try.prog 0) x28 (argsA 0 args) [] (.fin [.tmp 4] fun v1 s1 => deref s1 6 v1 = v)) (hl : args.length ≤ Try.f28.ntmps := by rw [Try.ntmps28]; simp) : CallOK Try.prog 28 args [] v [] :=
  callX (m := 0) (cx28 Try.prog 0) x28 rfl rfl (by kernel_rfl) Try.func28 rfl rfl hl mixed (chk28 _ rfl) (by rw [Try.results28]; exact h)

theorem each_algebra (n : Nat) (h20 : n ≤ 20) (g : Nat → Nat → Bool) (j m : Nat → Nat → Nat) (f1 : Nat) [EnT Try.prog f1] (y1 : List PV) (is : Nat → Nat → Nat → Bool)
    (r1 : ∀ ρ, y1.map (renN ρ 3) = y1) (q1 : y1.flatMap (refsN 3) = [])
    (h1 : ∀ a b c, a < n → b < n → c < n → ∀ s, CallOK Try.prog f1 (.int .i64 (a : Int) :: .int .i64 (b : Int) :: .int .i64 (c : Int) :: y1) s (.bool (is a b c)) s) :
    CallOK Try.prog 28 [.iptr (latN n g j m), .fn (.func f1) [] y1] [] (.bool (each3 n is)) [] := by
  refine op28 ?_
  (((try simp (implicitDefEqProofs := false) [latN, r1, q1]); (try simp (implicitDefEqProofs := false) (disch := first | assumption | (try simp only [lens]); omega -splitDisjunctions) [latN, r1, q1])); all_goals try (repeat' ((first | ((with_reducible first | refine And.intro ?_ ?_ | refine Exists.intro ?_ ?_); first | omega | (simp <;> omega)) | (with_reducible refine spl (And.intro ?_ ?_) <;> intro _)) <;> ((try simp (implicitDefEqProofs := false) [latN, r1, q1]); (try simp (implicitDefEqProofs := false) (disch := first | assumption | (try simp only [lens]); omega -splitDisjunctions) [latN, r1, q1])))))
  refine W_of fun Q hQ => ?_
  have main : ∀ k a, a + k = n → each3 n is = ((List.range n).drop a).all (fun a => (List.range n).all fun b => (List.range n).all fun c => is a b c) → Q [(0, .iptr (latN n g j m)), (1, .fn (.func f1) [] y1), (12, .int .i64 (n : Int)), (13, .int .i64 (a : Int))] [] := by
    intro k
    induction k with
    | zero =>
      intro a ha hb
      rw [List.drop_of_length_le (by simp; omega)] at hb
      apply hQ
      rw [hb]
      (((try simp (implicitDefEqProofs := false) [latN, r1, q1]); (try simp (implicitDefEqProofs := false) (disch := first | assumption | (try simp only [lens]); omega -splitDisjunctions) [latN, r1, q1])); all_goals try (repeat' ((first | ((with_reducible first | refine And.intro ?_ ?_ | refine Exists.intro ?_ ?_); first | omega | (simp <;> omega)) | (with_reducible refine spl (And.intro ?_ ?_) <;> intro _)) <;> ((try simp (implicitDefEqProofs := false) [latN, r1, q1]); (try simp (implicitDefEqProofs := false) (disch := first | assumption | (try simp only [lens]); omega -splitDisjunctions) [latN, r1, q1])))))
    | succ k ih =>
      intro a ha hb
      have han : a < n := by omega
      have ih := ih (a + 1) (by omega)
      rw [List.drop_eq_getElem_cons (by simpa using han), List.all_cons, List.getElem_range] at hb
      generalize ((List.range n).drop (a + 1)).all (fun a => (List.range n).all fun b => (List.range n).all fun c => is a b c) = A at ih hb
      apply hQ
      clear hQ
      (((try simp (implicitDefEqProofs := false) [latN, r1, q1]); (try simp (implicitDefEqProofs := false) (disch := first | assumption | (try simp only [lens]); omega -splitDisjunctions) [latN, r1, q1])); all_goals try (repeat' ((first | ((with_reducible first | refine And.intro ?_ ?_ | refine Exists.intro ?_ ?_); first | omega | (simp <;> omega)) | (with_reducible refine spl (And.intro ?_ ?_) <;> intro _)) <;> ((try simp (implicitDefEqProofs := false) [latN, r1, q1]); (try simp (implicitDefEqProofs := false) (disch := first | assumption | (try simp only [lens]); omega -splitDisjunctions) [latN, r1, q1])))))
      refine W_of fun Q2 hQ2 => ?_
      have main2 : ∀ k b, b + k = n → each3 n is = (((List.range n).drop b).all (fun b => (List.range n).all fun c => is a b c) && A) → Q2 [(0, .iptr (latN n g j m)), (1, .fn (.func f1) [] y1), (5, .int .i64 (a : Int)), (12, .int .i64 (n : Int)), (13, .int .i64 (a : Int)), (20, .int .i64 (n : Int)), (21, .int .i64 (b : Int))] [] := by
        intro k
        induction k with
        | zero =>
          intro b hbn hb
          rw [List.drop_of_length_le (by simp; omega), List.all_nil, Bool.true_and] at hb
          have ih := ih hb
          apply hQ2
          clear hQ2
          (((try simp (implicitDefEqProofs := false) [latN, r1, q1]); (try simp (implicitDefEqProofs := false) (disch := first | assumption | (try simp only [lens]); omega -splitDisjunctions) [latN, r1, q1])); all_goals try (repeat' ((first | ((with_reducible first | refine And.intro ?_ ?_ | refine Exists.intro ?_ ?_); first | omega | (simp <;> omega)) | (with_reducible refine spl (And.intro ?_ ?_) <;> intro _)) <;> ((try simp (implicitDefEqProofs := false) [latN, r1, q1]); (try simp (implicitDefEqProofs := false) (disch := first | assumption | (try simp only [lens]); omega -splitDisjunctions) [latN, r1, q1])))))
          refine at2 ih ?_ ?_ <;> simp [latN]
        | succ k ih2 =>
          intro b hbn hb
          have hbn : b < n := by omega
          have ih2 := ih2 (b + 1) (by omega)
          rw [List.drop_eq_getElem_cons (by simpa using hbn), List.all_cons, List.getElem_range] at hb
          generalize ((List.range n).drop (b + 1)).all (fun b => (List.range n).all fun c => is a b c) = B at ih2 hb
          apply hQ2
          clear hQ2
          (((try simp (implicitDefEqProofs := false) [latN, r1, q1]); (try simp (implicitDefEqProofs := false) (disch := first | assumption | (try simp only [lens]); omega -splitDisjunctions) [latN, r1, q1])); all_goals try (repeat' ((first | ((with_reducible first | refine And.intro ?_ ?_ | refine Exists.intro ?_ ?_); first | omega | (simp <;> omega)) | (with_reducible refine spl (And.intro ?_ ?_) <;> intro _)) <;> ((try simp (implicitDefEqProofs := false) [latN, r1, q1]); (try simp (implicitDefEqProofs := false) (disch := first | assumption | (try simp only [lens]); omega -splitDisjunctions) [latN, r1, q1])))))
          refine W_of fun Q3 hQ3 => ?_
          have main3 : ∀ k c, c + k = n → each3 n is = (((List.range n).drop c).all (fun c => is a b c) && B && A) → Q3 [(0, .iptr (latN n g j m)), (1, .fn (.func f1) [] y1), (5, .int .i64 (a : Int)), (6, .int .i64 (b : Int)), (12, .int .i64 (n : Int)), (13, .int .i64 (a : Int)), (20, .int .i64 (n : Int)), (21, .int .i64 (b : Int)), (28, .int .i64 (n : Int)), (29, .int .i64 (c : Int))] [] := by
            intro k
            induction k with
            | zero =>
              intro c hcn hb
              rw [List.drop_of_length_le (by simp; omega), List.all_nil, Bool.true_and] at hb
              have ih2 := ih2 hb
              apply hQ3
              clear hQ3
              (((try simp (implicitDefEqProofs := false) [latN, r1, q1]); (try simp (implicitDefEqProofs := false) (disch := first | assumption | (try simp only [lens]); omega -splitDisjunctions) [latN, r1, q1])); all_goals try (repeat' ((first | ((with_reducible first | refine And.intro ?_ ?_ | refine Exists.intro ?_ ?_); first | omega | (simp <;> omega)) | (with_reducible refine spl (And.intro ?_ ?_) <;> intro _)) <;> ((try simp (implicitDefEqProofs := false) [latN, r1, q1]); (try simp (implicitDefEqProofs := false) (disch := first | assumption | (try simp only [lens]); omega -splitDisjunctions) [latN, r1, q1])))))
              refine at2 ih2 ?_ ?_ <;> simp [latN]
            | succ k ih3 =>
              intro c hcn hb
              have hcn : c < n := by omega
              have ih3 := ih3 (c + 1) (by omega)
              rw [List.drop_eq_getElem_cons (by simpa using hcn), List.all_cons, List.getElem_range] at hb
              have hc := h1 a b c han hbn hcn
              generalize is a b c = x at hb hc
              generalize ((List.range n).drop (c + 1)).all (fun c => is a b c) = D at ih3 hb
              apply hQ3
              clear hQ3
              cases x with
              | false =>
                rw [Bool.false_and, Bool.false_and, Bool.false_and] at hb
                rw [hb]
                (((try simp (implicitDefEqProofs := false) [latN, r1, q1]); (try simp (implicitDefEqProofs := false) (disch := first | assumption | (try simp only [lens]); omega -splitDisjunctions) [latN, r1, q1])); all_goals try (repeat' ((first | ((with_reducible first | refine And.intro ?_ ?_ | refine Exists.intro ?_ ?_); first | omega | (simp <;> omega)) | (with_reducible refine spl (And.intro ?_ ?_) <;> intro _) | (refine CL.of (hc _) ?_) | (refine CD.of (hc _) ?_) | (refine CM.of (hc) ?_)) <;> ((try simp (implicitDefEqProofs := false) [latN, r1, q1]); (try simp (implicitDefEqProofs := false) (disch := first | assumption | (try simp only [lens]); omega -splitDisjunctions) [latN, r1, q1])))))
              | true =>
                rw [Bool.true_and] at hb
                have ih3 := ih3 hb
                (((try simp (implicitDefEqProofs := false) [latN, r1, q1]); (try simp (implicitDefEqProofs := false) (disch := first | assumption | (try simp only [lens]); omega -splitDisjunctions) [latN, r1, q1])); all_goals try (repeat' ((first | ((with_reducible first | refine And.intro ?_ ?_ | refine Exists.intro ?_ ?_); first | omega | (simp <;> omega)) | (with_reducible refine spl (And.intro ?_ ?_) <;> intro _) | (refine CL.of (hc _) ?_) | (refine CD.of (hc _) ?_) | (refine CM.of (hc) ?_)) <;> ((try simp (implicitDefEqProofs := false) [latN, r1, q1]); (try simp (implicitDefEqProofs := false) (disch := first | assumption | (try simp only [lens]); omega -splitDisjunctions) [latN, r1, q1])))))
                refine at2 ih3 ?_ ?_ <;> simp [latN]
          refine at2 (main3 _ 0 (Nat.zero_add _) (by rw [List.drop_zero]; exact hb)) ?_ ?_ <;> simp [latN, r1]
      refine at2 (main2 _ 0 (Nat.zero_add _) (by rw [List.drop_zero]; exact hb)) ?_ ?_ <;> simp [latN, r1]
  refine at2 (main _ 0 (Nat.zero_add _) rfl) ?_ ?_ <;> simp [latN, r1]
def x29 : XC := .seq (.reg [⟨some 7,.assign (.const (.bool false)),none⟩]) (.seq (.drawn 1 [⟨some 8,.load 57 (.tmp 3),none⟩,⟨some 9,.nilCheck (.tmp 8),none⟩,⟨some 10,.fieldAddr 64 (.tmp 9) 0,none⟩,⟨some 11,.load 59 (.tmp 10),none⟩,⟨some 12,.move (.tmp 0),none⟩,⟨some 13,.indexAddr 59 (.tmp 11) (.tmp 12),none⟩,⟨some 14,.load 41 (.tmp 13),none⟩,⟨some 15,.move (.tmp 2),none⟩,⟨some 16,.indexAddr 41 (.tmp 14) (.tmp 15),none⟩,⟨some 17,.load 4 (.tmp 16),none⟩,⟨some 18,.unOp .not 4 (.tmp 17),none⟩,⟨some 19,.move (.tmp 18),none⟩,⟨some 20,.load 57 (.tmp 3),some (some 19,false)⟩,⟨some 21,.nilCheck (.tmp 20),some (some 19,false)⟩,⟨some 22,.fieldAddr 64 (.tmp 21) 1,some (some 19,false)⟩,⟨some 23,.load 33 (.tmp 22),some (some 19,false)⟩,⟨some 24,.move (.tmp 0),some (some 19,false)⟩,⟨some 25,.indexAddr 33 (.tmp 23) (.tmp 24),some (some 19,false)⟩,⟨some 26,.load 37 (.tmp 25),some (some 19,false)⟩,⟨some 27,.load 57 (.tmp 3),some (some 19,false)⟩,⟨some 28,.nilCheck (.tmp 27),some (some 19,false)⟩,⟨some 29,.fieldAddr 64 (.tmp 28) 2,some (some 19,false)⟩,⟨some 30,.load 33 (.tmp 29),some (some 19,false)⟩,⟨some 31,.move (.tmp 1),some (some 19,false)⟩,⟨some 32,.indexAddr 33 (.tmp 30) (.tmp 31),some (some 19,false)⟩,⟨some 33,.load 37 (.tmp 32),some (some 19,false)⟩,⟨some 34,.move (.tmp 2),some (some 19,false)⟩,⟨some 35,.indexAddr 37 (.tmp 33) (.tmp 34),some (some 19,false)⟩,⟨some 36,.load 3 (.tmp 35),some (some 19,false)⟩,⟨some 37,.indexAddr 37 (.tmp 26) (.tmp 36),some (some 19,false)⟩,⟨some 38,.load 3 (.tmp 37),some (some 19,false)⟩,⟨some 39,.load 57 (.tmp 3),some (some 19,false)⟩,⟨some 40,.nilCheck (.tmp 39),some (some 19,false)⟩,⟨some 41,.fieldAddr 64 (.tmp 40) 2,some (some 19,false)⟩,⟨some 42,.load 33 (.tmp 41),some (some 19,false)⟩,⟨some 43,.load 57 (.tmp 3),some (some 19,false)⟩,⟨some 44,.nilCheck (.tmp 43),some (some 19,false)⟩,⟨some 45,.fieldAddr 64 (.tmp 44) 1,some (some 19,false)⟩,⟨some 46,.load 33 (.tmp 45),some (some 19,false)⟩,⟨some 47,.move (.tmp 0),some (some 19,false)⟩,⟨some 48,.indexAddr 33 (.tmp 46) (.tmp 47),some (some 19,false)⟩,⟨some 49,.load 37 (.tmp 48),some (some 19,false)⟩,⟨some 50,.move (.tmp 1),some (some 19,false)⟩,⟨some 51,.indexAddr 37 (.tmp 49) (.tmp 50),some (some 19,false)⟩,⟨some 52,.load 3 (.tmp 51),some (some 19,false)⟩,⟨some 53,.indexAddr 33 (.tmp 42) (.tmp 52),some (some 19,false)⟩,⟨some 54,.load 37 (.tmp 53),some (some 19,false)⟩,⟨some 55,.move (.tmp 2),some (some 19,false)⟩,⟨some 56,.indexAddr 37 (.tmp 54) (.tmp 55),some (some 19,false)⟩,⟨some 57,.load 3 (.tmp 56),some (some 19,false)⟩,⟨some 58,.binOp .eql 3 (.tmp 38) (.tmp 57) 3,some (some 19,false)⟩,⟨some 59,.pick (.tmp 19) (.const (.bool true)) (.tmp 58),none⟩,⟨some 7,.assign (.tmp 59),none⟩]) (.ret))
@[simp] theorem x29_s {C : WC} {e : AE} {s : Store} {K : KS} : type_of% (@X_at C e s K _ _ x29.eq_1) := X_at x29.eq_1
def an29 : Ann := ⟨[(1, .mix 50)], [], []⟩
def cx29 (P : Program) (m : Nat) : WC := ⟨P, m, an29⟩
@[simp] theorem cx29_a {P : Program} {m : Nat} : (cx29 P m).P = P ∧ (cx29 P m).m = m ∧ (cx29 P m).A.clsOf 1 = .mix 50 ∧ (cx29 P m).A.frzOf 1 = [] := ⟨rfl, rfl, rfl, rfl⟩
instance {P : Program} {m f : Nat} [h : EnT P f] : EnT (cx29 P m).P f := h
theorem chk29 : ∀ c, Try.f29.body = some c → chkC Try.f29.ntmps an29 c = true := by intro c h; obtain rfl := Option.some.inj h; decide +kernel
theorem op29 {args : List PV} {v : PV} (h : X (cx29 Try.prog 0) x29 (argsA 0 args) [] (.fin [.tmp 7] fun v1 s1 => deref s1 6 v1 = v)) (hl : args.length ≤ Try.f29.ntmps := by rw [Try.ntmps29]; simp) : CallOK Try.prog 29 args [] v [] :=
  callX (m := 0) (cx29 Try.prog 0) x29 rfl rfl (by kernel_rfl) Try.func29 rfl rfl hl mixed (chk29 _ rfl) (by rw [Try.results29]; exact h)

theorem Kind1_algebra (n : Nat) (g : Nat → Nat → Bool) (j m : Nat → Nat → Nat) (hj : ∀ a b, a < n → b < n → j a b < n) (hm : ∀ a b, a < n → b < n → m a b < n) (a b c : Nat) (ha : a < n) (hb : b < n) (hc : c < n) :
    CallOK Try.prog 29 [.int .i64 (a : Int), .int .i64 (b : Int), .int .i64 (c : Int), .iptr [.iptr (latN n g j m)]] [] (.bool (!g a c || decide (j a (m b c) = m (j a b) c))) [] := by
  have h1 := hm b c hb hc
  have h2 := hj a b ha hb
  refine op29 ?_
  cases hg : g a c with
  | false =>
    (((try simp (implicitDefEqProofs := false) [latN, ha, hb, hc, hg, tabRowF, tabF_get, rowF_get]); (try simp (implicitDefEqProofs := false) (disch := first | assumption | (try simp only [lens]); omega -splitDisjunctions) [latN, ha, hb, hc, hg, tabRowF, tabF_get, rowF_get])); all_goals try (repeat' ((first | ((with_reducible first | refine And.intro ?_ ?_ | refine Exists.intro ?_ ?_); first | omega | (simp <;> omega)) | (with_reducible refine spl (And.intro ?_ ?_) <;> intro _)) <;> ((try simp (implicitDefEqProofs := false) [latN, ha, hb, hc, hg, tabRowF, tabF_get, rowF_get]); (try simp (implicitDefEqProofs := false) (disch := first | assumption | (try simp only [lens]); omega -splitDisjunctions) [latN, ha, hb, hc, hg, tabRowF, tabF_get, rowF_get])))))
  | true =>
    (((try simp (implicitDefEqProofs := false) [latN, ha, hb, hc, h1, h2, hg, tabRowF, tabF_get, rowF_get, nRow, nCell]); (try simp (implicitDefEqProofs := false) (disch := first | assumption | (try simp only [lens]); omega -splitDisjunctions) [latN, ha, hb, hc, h1, h2, hg, tabRowF, tabF_get, rowF_get, nRow, nCell])); all_goals try (repeat' ((first | ((with_reducible first | refine And.intro ?_ ?_ | refine Exists.intro ?_ ?_); first | omega | (simp <;> omega)) | (with_reducible refine spl (And.intro ?_ ?_) <;> intro _)) <;> ((try simp (implicitDefEqProofs := false) [latN, ha, hb, hc, h1, h2, hg, tabRowF, tabF_get, rowF_get, nRow, nCell]); (try simp (implicitDefEqProofs := false) (disch := first | assumption | (try simp only [lens]); omega -splitDisjunctions) [latN, ha, hb, hc, h1, h2, hg, tabRowF, tabF_get, rowF_get, nRow, nCell])))))
    all_goals omega
def x40 : XC := .seq (.reg [⟨some 7,.assign (.const (.bool false)),none⟩]) (.seq (.drawn 1 [⟨some 8,.load 57 (.tmp 3),none⟩,⟨some 9,.nilCheck (.tmp 8),none⟩,⟨some 10,.fieldAddr 64 (.tmp 9) 2,none⟩,⟨some 11,.load 33 (.tmp 10),none⟩,⟨some 12,.move (.tmp 0),none⟩,⟨some 13,.indexAddr 33 (.tmp 11) (.tmp 12),none⟩,⟨some 14,.load 37 (.tmp 13),none⟩,⟨some 15,.load 57 (.tmp 3),none⟩,⟨some 16,.nilCheck (.tmp 15),none⟩,⟨some 17,.fieldAddr 64 (.tmp 16) 1,none⟩,⟨some 18,.load 33 (.tmp 17),none⟩,⟨some 19,.move (.tmp 1),none⟩,⟨some 20,.indexAddr 33 (.tmp 18) (.tmp 19),none⟩,⟨some 21,.load 37 (.tmp 20),none⟩,⟨some 22,.move (.tmp 2),none⟩,⟨some 23,.indexAddr 37 (.tmp 21) (.tmp 22),none⟩,⟨some 24,.load 3 (.tmp 23),none⟩,⟨some 25,.indexAddr 37 (.tmp 14) (.tmp 24),none⟩,⟨some 26,.load 3 (.tmp 25),none⟩,⟨some 27,.load 57 (.tmp 3),none⟩,⟨some 28,.nilCheck (.tmp 27),none⟩,⟨some 29,.fieldAddr 64 (.tmp 28) 1,none⟩,⟨some 30,.load 33 (.tmp 29),none⟩,⟨some 31,.load 57 (.tmp 3),none⟩,⟨some 32,.nilCheck (.tmp 31),none⟩,⟨some 33,.fieldAddr 64 (.tmp 32) 2,none⟩,⟨some 34,.load 33 (.tmp 33),none⟩,⟨some 35,.move (.tmp 0),none⟩,⟨some 36,.indexAddr 33 (.tmp 34) (.tmp 35),none⟩,⟨some 37,.load 37 (.tmp 36),none⟩,⟨some 38,.move (.tmp 1),none⟩,⟨some 39,.indexAddr 37 (.tmp 37) (.tmp 38),none⟩,⟨some 40,.load 3 (.tmp 39),none⟩,⟨some 41,.indexAddr 33 (.tmp 30) (.tmp 40),none⟩,⟨some 42,.load 37 (.tmp 41),none⟩,⟨some 43,.load 57 (.tmp 3),none⟩,⟨some 44,.nilCheck (.tmp 43),none⟩,⟨some 45,.fieldAddr 64 (.tmp 44) 2,none⟩,⟨some 46,.load 33 (.tmp 45),none⟩,⟨some 47,.move (.tmp 0),none⟩,⟨some 48,.indexAddr 33 (.tmp 46) (.tmp 47),none⟩,⟨some 49,.load 37 (.tmp 48),none⟩,⟨some 50,.move (.tmp 2),none⟩,⟨some 51,.indexAddr 37 (.tmp 49) (.tmp 50),none⟩,⟨some 52,.load 3 (.tmp 51),none⟩,⟨some 53,.indexAddr 37 (.tmp 42) (.tmp 52),none⟩,⟨some 54,.load 3 (.tmp 53),none⟩,⟨some 55,.binOp .eql 3 (.tmp 26) (.tmp 54) 3,none⟩,⟨some 7,.assign (.tmp 55),none⟩]) (.ret))
@[simp] theorem x40_s {C : WC} {e : AE} {s : Store} {K : KS} : type_of% (@X_at C e s K _ _ x40.eq_1) := X_at x40.eq_1
def an40 : Ann := ⟨[], [], []⟩
def cx40 (P : Program) (m : Nat) : WC := ⟨P, m, an40⟩
@[simp] theorem cx40_a {P : Program} {m : Nat} : (cx40 P m).P = P ∧ (cx40 P m).m = m ∧ (cx40 P m).A.clsOf 1 = .draw ∧ (cx40 P m).A.frzOf 1 = [] := ⟨rfl, rfl, rfl, rfl⟩
instance {P : Program} {m f : Nat} [h : EnT P f] : EnT (cx40 P m).P f := h
theorem chk40 : ∀ c, Try.f40.body = some c → chkC Try.f40.ntmps an40 c = true := by intro c h; obtain rfl := Option.some.inj h; decide +kernel
theorem op40 {args : List PV} {v : PV} (h : X (cx40 Try.prog 0) x40 (argsA 0 args) [] (.fin [.tmp 7] fun v1 s1 => deref s1 6 v1 = v)) (hl : args.length ≤ Try.f40.ntmps := by rw [Try.ntmps40]; simp) : CallOK Try.prog 40 args [] v [] :=
  callX (m := 0) (cx40 Try.prog 0) x40 rfl rfl (by kernel_rfl) Try.func40 rfl rfl hl mixed (chk40 _ rfl) (by rw [Try.results40]; exact h)

theorem distributive1_algebra (n : Nat) (g : Nat → Nat → Bool) (j m : Nat → Nat → Nat) (hj : ∀ a b, a < n → b < n → j a b < n) (hm : ∀ a b, a < n → b < n → m a b < n) (a b c : Nat) (ha : a < n) (hb : b < n) (hc : c < n) :
    CallOK Try.prog 40 [.int .i64 (a : Int), .int .i64 (b : Int), .int .i64 (c : Int), .iptr [.iptr (latN n g j m)]] [] (.bool (decide (m a (j b c) = j (m a b) (m a c)))) [] := by
  have h1 := hj b c hb hc
  have h2 := hm a b ha hb
  have h3 := hm a c ha hc
  refine op40 ?_
  (((try simp (implicitDefEqProofs := false) [latN, ha, hb, hc, h1, h2, h3, nRow, nCell]); (try simp (implicitDefEqProofs := false) (disch := first | assumption | (try simp only [lens]); omega -splitDisjunctions) [latN, ha, hb, hc, h1, h2, h3, nRow, nCell])); all_goals try (repeat' ((first | ((with_reducible first | refine And.intro ?_ ?_ | refine Exists.intro ?_ ?_); first | omega | (simp <;> omega)) | (with_reducible refine spl (And.intro ?_ ?_) <;> intro _)) <;> ((try simp (implicitDefEqProofs := false) [latN, ha, hb, hc, h1, h2, h3, nRow, nCell]); (try simp (implicitDefEqProofs := false) (disch := first | assumption | (try simp only [lens]); omega -splitDisjunctions) [latN, ha, hb, hc, h1, h2, h3, nRow, nCell])))))
  all_goals omega
def x30 : XC := .seq (.reg [⟨some 1,.box 57 (.tmp 0),none⟩,⟨some 2,.assign (.const (.bool false)),none⟩]) (.seq (.reg [⟨some 3,.load 57 (.tmp 1),none⟩,⟨some 4,.makeFunc (.func 40) #[] #[.tmp 1],none⟩,⟨some 5,.call ⟨.value (.func 28),#[.tmp 3,.tmp 4],#[57,65]⟩,none⟩,⟨some 2,.assign (.tmp 5),none⟩]) (.ret))
@[simp] theorem x30_s {C : WC} {e : AE} {s : Store} {K : KS} : type_of% (@X_at C e s K _ _ x30.eq_1) := X_at x30.eq_1
def an30 : Ann := ⟨[], [], []⟩
def cx30 (P : Program) (m : Nat) : WC := ⟨P, m, an30⟩
@[simp] theorem cx30_a {P : Program} {m : Nat} : (cx30 P m).P = P ∧ (cx30 P m).m = m := ⟨rfl, rfl⟩
instance {P : Program} {m f : Nat} [h : EnT P f] : EnT (cx30 P m).P f := h
theorem chk30 : ∀ c, Try.f30.body = some c → chkC Try.f30.ntmps an30 c = true := by intro c h; obtain rfl := Option.some.inj h; decide +kernel
theorem op30 {args : List PV} {v : PV} (h : X (cx30 Try.prog 0) x30 (argsA 0 args) [] (.fin [.tmp 2] fun v1 s1 => deref s1 6 v1 = v)) (hl : args.length ≤ Try.f30.ntmps := by rw [Try.ntmps30]; simp) : CallOK Try.prog 30 args [] v [] :=
  callX (m := 0) (cx30 Try.prog 0) x30 rfl rfl (by kernel_rfl) Try.func30 rfl rfl hl mixed (chk30 _ rfl) (by rw [Try.results30]; exact h)

theorem distributive_algebra (n : Nat) (h20 : n ≤ 20) (g : Nat → Nat → Bool) (j m : Nat → Nat → Nat) (hj : ∀ a b, a < n → b < n → j a b < n) (hm : ∀ a b, a < n → b < n → m a b < n) :
    CallOK Try.prog 30 [.iptr (latN n g j m)] [] (.bool (each3 n fun a b c => decide (m a (j b c) = j (m a b) (m a c)))) [] := by
  have he := each_algebra n h20 g j m 40 [.iptr [.iptr (latN n g j m)]] (fun a b c => decide (m a (j b c) = j (m a b) (m a c))) (fun ρ => by simp) (by simp)
    (fun a b c ha hb hc s => CallOK.frame (distributive1_algebra n g j m hj hm a b c ha hb hc) (by simp [closed_agg, closed_fn, flatL_fn]))
  refine op30 ?_
  (((try simp (implicitDefEqProofs := false)); (try simp (implicitDefEqProofs := false) (disch := first | assumption | (try simp only [lens]); omega -splitDisjunctions))); all_goals try (repeat' ((first | ((with_reducible first | refine And.intro ?_ ?_ | refine Exists.intro ?_ ?_); first | omega | (simp <;> omega)) | (with_reducible refine spl (And.intro ?_ ?_) <;> intro _) | (refine CL.see (he) ?_ ?_ ?_; (focus (first | (simp; done) | (simp [scn]; done))); (focus (simp [flats]; done))) | (refine CD.see (he) ?_ ?_ ?_; (focus (first | (simp; done) | (simp [scn]; done))); (focus (simp [flats]; done)))) <;> ((try simp (implicitDefEqProofs := false)); (try simp (implicitDefEqProofs := false) (disch := first | assumption | (try simp only [lens]); omega -splitDisjunctions))))))
  all_goals rfl
/-- has each thing a complement? -/
def compN (n : Nat) (j m : Nat → Nat → Nat) : Bool := (List.range n).all fun a => (List.range n).any fun b => decide (j a b = (List.range n).foldl j 0) && decide (m a b = (List.range n).foldl m 0)
def x31_T2 : XC := .seq (.reg [⟨some 54,.move (.tmp 4),none⟩,⟨some 55,.unOp .not 4 (.tmp 54),none⟩]) (.cond (.tmp 55) (.seq (.reg [⟨some 2,.assign (.const (.bool false)),none⟩]) (.ret)) (.skip))
def x31_L2 : XC := .seq (.reg [⟨some 20,.binOp .lss 3 (.tmp 19) (.tmp 18) 3,none⟩]) (.seq (.cond (.tmp 20) (.skip) (.exit 2)) (.seq (.block 3 (.seq (.reg [⟨some 21,.move (.tmp 19),none⟩,⟨some 5,.assign (.tmp 21),none⟩]) (.drawn 8 [⟨some 22,.move (.tmp 4),none⟩,⟨some 23,.move (.tmp 22),none⟩,⟨some 24,.move (.tmp 0),some (some 23,false)⟩,⟨some 25,.nilCheck (.tmp 24),some (some 23,false)⟩,⟨some 26,.fieldAddr 64 (.tmp 25) 1,some (some 23,false)⟩,⟨some 27,.load 33 (.tmp 26),some (some 23,false)⟩,⟨some 28,.move (.tmp 3),some (some 23,false)⟩,⟨some 29,.indexAddr 33 (.tmp 27) (.tmp 28),some (some 23,false)⟩,⟨some 30,.load 37 (.tmp 29),some (some 23,false)⟩,⟨some 31,.move (.tmp 5),some (some 23,false)⟩,⟨some 32,.indexAddr 37 (.tmp 30) (.tmp 31),some (some 23,false)⟩,⟨some 33,.load 3 (.tmp 32),some (some 23,false)⟩,⟨some 34,.move (.tmp 0),some (some 23,false)⟩,⟨some 35,.call ⟨.value (.func 41),#[.tmp 34],#[57]⟩,some (some 23,false)⟩,⟨some 36,.binOp .eql 3 (.tmp 33) (.tmp 35) 3,some (some 23,false)⟩,⟨some 37,.move (.tmp 36),some (some 23,false)⟩,⟨some 38,.move (.tmp 0),some (some 37,true)⟩,⟨some 39,.nilCheck (.tmp 38),some (some 37,true)⟩,⟨some 40,.fieldAddr 64 (.tmp 39) 2,some (some 37,true)⟩,⟨some 41,.load 33 (.tmp 40),some (some 37,true)⟩,⟨some 42,.move (.tmp 3),some (some 37,true)⟩,⟨some 43,.indexAddr 33 (.tmp 41) (.tmp 42),some (some 37,true)⟩,⟨some 44,.load 37 (.tmp 43),some (some 37,true)⟩,⟨some 45,.move (.tmp 5),some (some 37,true)⟩,⟨some 46,.indexAddr 37 (.tmp 44) (.tmp 45),some (some 37,true)⟩,⟨some 47,.load 3 (.tmp 46),some (some 37,true)⟩,⟨some 48,.move (.tmp 0),some (some 37,true)⟩,⟨some 49,.call ⟨.value (.func 33),#[.tmp 48],#[57]⟩,some (some 37,true)⟩,⟨some 50,.binOp .eql 3 (.tmp 47) (.tmp 49) 3,some (some 37,true)⟩,⟨some 51,.pick (.tmp 37) (.tmp 50) (.const (.bool false)),some (some 23,false)⟩,⟨some 52,.pick (.tmp 23) (.const (.bool true)) (.tmp 51),none⟩,⟨some 4,.assign (.tmp 52),none⟩]))) (.reg [⟨some 53,.binOp .add 3 (.tmp 19) (.const (.int .i64 1)) 3,none⟩,⟨some 19,.move (.tmp 53),none⟩])))
def x31_L0 : XC := .seq (.reg [⟨some 12,.binOp .lss 3 (.tmp 11) (.tmp 10) 3,none⟩]) (.seq (.cond (.tmp 12) (.skip) (.exit 0)) (.seq (.block 1 (.seq (.reg [⟨some 13,.move (.tmp 11),none⟩,⟨some 3,.assign (.tmp 13),none⟩]) (.seq (.reg [⟨some 4,.assign (.const (.bool false)),none⟩]) (.seq (.seq (.reg [⟨some 14,.move (.tmp 0),none⟩,⟨some 15,.nilCheck (.tmp 14),none⟩,⟨some 16,.fieldAddr 64 (.tmp 15) 0,none⟩,⟨some 17,.load 59 (.tmp 16),none⟩,⟨some 18,.call ⟨.builtin .len,#[.tmp 17],#[59]⟩,none⟩,⟨some 19,.move (.const (.int .i64 0)),none⟩]) (.bloop 2 x31_L2)) (x31_T2))))) (.reg [⟨some 56,.binOp .add 3 (.tmp 11) (.const (.int .i64 1)) 3,none⟩,⟨some 11,.move (.tmp 56),none⟩])))
def x31 : XC := .seq (.reg [⟨some 2,.assign (.const (.bool false)),none⟩]) (.seq (.seq (.reg [⟨some 6,.move (.tmp 0),none⟩,⟨some 7,.nilCheck (.tmp 6),none⟩,⟨some 8,.fieldAddr 64 (.tmp 7) 0,none⟩,⟨some 9,.load 59 (.tmp 8),none⟩,⟨some 10,.call ⟨.builtin .len,#[.tmp 9],#[59]⟩,none⟩,⟨some 11,.move (.const (.int .i64 0)),none⟩]) (.bloop 0 x31_L0)) (.seq (.reg [⟨some 2,.assign (.const (.bool true)),none⟩]) (.ret)))
@[simp] theorem x31_s {C : WC} {e : AE} {s : Store} {K : KS} : type_of% (@X_at C e s K _ _ x31_T2.eq_1) ∧ type_of% (@X_at C e s K _ _ x31_L2.eq_1) ∧ type_of% (@X_at C e s K _ _ x31_L0.eq_1) ∧ type_of% (@X_at C e s K _ _ x31.eq_1) := ⟨X_at x31_T2.eq_1, X_at x31_L2.eq_1, X_at x31_L0.eq_1, X_at x31.eq_1⟩
def an31 : Ann := ⟨[(8, .mix 28)], [(2, [], [0, 3, 4, 10, 11, 18, 19], [0, 4, 10, 11]), (0, [], [0, 10, 11], [2])], []⟩
def cx31 (P : Program) (m : Nat) : WC := ⟨P, m, an31⟩
@[simp] theorem cx31_a {P : Program} {m : Nat} : (cx31 P m).P = P ∧ (cx31 P m).m = m ∧ (cx31 P m).A.clsOf 8 = .mix 28 ∧ (cx31 P m).A.frzOf 8 = [] ∧ (cx31 P m).A.loopOf 2 = ([], [0, 3, 4, 10, 11, 18, 19], [0, 4, 10, 11]) ∧ (cx31 P m).A.loopOf 0 = ([], [0, 10, 11], [2]) := ⟨rfl, rfl, rfl, rfl, rfl, rfl⟩
instance {P : Program} {m f : Nat} [h : EnT P f] : EnT (cx31 P m).P f := h
theorem chk31 : ∀ c, Try.f31.body = some c → chkC Try.f31.ntmps an31 c = true := by intro c h; obtain rfl := Option.some.inj h; decide +kernel
theorem op31 {args : List PV} {v : PV} (h : X (cx31 Try.prog 0) x31 (argsA 0 args) [] (.fin [.tmp 2] fun v1 s1 => deref s1 6 v1 = v)) (hl : args.length ≤ Try.f31.ntmps := by rw [Try.ntmps31]; simp) : CallOK Try.prog 31 args [] v [] :=
  callX (m := 0) (cx31 Try.prog 0) x31 rfl rfl (by kernel_rfl) Try.func31 rfl rfl hl mixed (chk31 _ rfl) (by rw [Try.results31]; exact h)

theorem complemented_algebra (n : Nat) (h20 : n ≤ 20) (h0 : 0 < n) (g : Nat → Nat → Bool) (j m : Nat → Nat → Nat) (hj : ∀ a b, a < n → b < n → j a b < n) (hm : ∀ a b, a < n → b < n → m a b < n) :
    CallOK Try.prog 31 [.iptr (latN n g j m)] [] (.bool (compN n j m)) [] := by
  have ht := top_algebra n h20 h0 g j m hj
  have hbo := bottom_algebra n h20 h0 g j m hm
  simp only [latN] at ht hbo
  unfold compN
  generalize (List.range n).foldl j 0 = T at ht ⊢
  generalize (List.range n).foldl m 0 = B at hbo ⊢
  refine op31 ?_
  (((try simp (implicitDefEqProofs := false) [latN]); (try simp (implicitDefEqProofs := false) (disch := first | assumption | (try simp only [lens]); omega -splitDisjunctions) [latN])); all_goals try (repeat' ((first | ((with_reducible first | refine And.intro ?_ ?_ | refine Exists.intro ?_ ?_); first | omega | (simp <;> omega)) | (with_reducible refine spl (And.intro ?_ ?_) <;> intro _)) <;> ((try simp (implicitDefEqProofs := false) [latN]); (try simp (implicitDefEqProofs := false) (disch := first | assumption | (try simp only [lens]); omega -splitDisjunctions) [latN])))))
  refine W_of fun Q hQ => ?_
  generalize hR : (List.range n).all (fun a => (List.range n).any fun b => decide (j a b = T) && decide (m a b = B)) = R at hQ ⊢
  have main : ∀ k a, a + k = n → R = ((List.range n).drop a).all (fun a => (List.range n).any fun b => decide (j a b = T) && decide (m a b = B)) → Q [(0, .iptr (latN n g j m)), (10, .int .i64 (n : Int)), (11, .int .i64 (a : Int))] [] := by
    intro k
    induction k with
    | zero =>
      intro a ha hb
      rw [List.drop_of_length_le (by simp; omega)] at hb
      apply hQ
      rw [hb]
      (((try simp (implicitDefEqProofs := false) [latN]); (try simp (implicitDefEqProofs := false) (disch := first | assumption | (try simp only [lens]); omega -splitDisjunctions) [latN])); all_goals try (repeat' ((first | ((with_reducible first | refine And.intro ?_ ?_ | refine Exists.intro ?_ ?_); first | omega | (simp <;> omega)) | (with_reducible refine spl (And.intro ?_ ?_) <;> intro _)) <;> ((try simp (implicitDefEqProofs := false) [latN]); (try simp (implicitDefEqProofs := false) (disch := first | assumption | (try simp only [lens]); omega -splitDisjunctions) [latN])))))
    | succ k ih =>
      intro a ha hb
      have han : a < n := by omega
      have ih := ih (a + 1) (by omega)
      rw [List.drop_eq_getElem_cons (by simpa using han), List.all_cons, List.getElem_range] at hb
      generalize ((List.range n).drop (a + 1)).all (fun a => (List.range n).any fun b => decide (j a b = T) && decide (m a b = B)) = A at ih hb
      apply hQ
      clear hQ
      (((try simp (implicitDefEqProofs := false) [latN]); (try simp (implicitDefEqProofs := false) (disch := first | assumption | (try simp only [lens]); omega -splitDisjunctions) [latN])); all_goals try (repeat' ((first | ((with_reducible first | refine And.intro ?_ ?_ | refine Exists.intro ?_ ?_); first | omega | (simp <;> omega)) | (with_reducible refine spl (And.intro ?_ ?_) <;> intro _)) <;> ((try simp (implicitDefEqProofs := false) [latN]); (try simp (implicitDefEqProofs := false) (disch := first | assumption | (try simp only [lens]); omega -splitDisjunctions) [latN])))))
      refine W_of fun Q2 hQ2 => ?_
      have main2 : ∀ k b, b + k = n → Q2 [(0, .iptr (latN n g j m)), (3, .int .i64 (a : Int)), (4, .bool ((List.range b).any fun b => decide (j a b = T) && decide (m a b = B))), (10, .int .i64 (n : Int)), (11, .int .i64 (a : Int)), (18, .int .i64 (n : Int)), (19, .int .i64 (b : Int))] [] := by
        intro k
        induction k with
        | zero =>
          intro b hbn
          obtain rfl : b = n := by omega
          apply hQ2
          clear hQ2
          cases hx : (List.range b).any fun b => decide (j a b = T) && decide (m a b = B) with
          | false =>
            rw [hx, Bool.false_and] at hb
            rw [hb]
            (((try simp (implicitDefEqProofs := false) [latN]); (try simp (implicitDefEqProofs := false) (disch := first | assumption | (try simp only [lens]); omega -splitDisjunctions) [latN])); all_goals try (repeat' ((first | ((with_reducible first | refine And.intro ?_ ?_ | refine Exists.intro ?_ ?_); first | omega | (simp <;> omega)) | (with_reducible refine spl (And.intro ?_ ?_) <;> intro _)) <;> ((try simp (implicitDefEqProofs := false) [latN]); (try simp (implicitDefEqProofs := false) (disch := first | assumption | (try simp only [lens]); omega -splitDisjunctions) [latN])))))
          | true =>
            rw [hx, Bool.true_and] at hb
            have ih := ih hb
            (((try simp (implicitDefEqProofs := false) [latN]); (try simp (implicitDefEqProofs := false) (disch := first | assumption | (try simp only [lens]); omega -splitDisjunctions) [latN])); all_goals try (repeat' ((first | ((with_reducible first | refine And.intro ?_ ?_ | refine Exists.intro ?_ ?_); first | omega | (simp <;> omega)) | (with_reducible refine spl (And.intro ?_ ?_) <;> intro _)) <;> ((try simp (implicitDefEqProofs := false) [latN]); (try simp (implicitDefEqProofs := false) (disch := first | assumption | (try simp only [lens]); omega -splitDisjunctions) [latN])))))
            refine at2 ih ?_ ?_ <;> simp [latN]
        | succ k ih2 =>
          intro b hbn
          have hbn : b < n := by omega
          have ih2 := ih2 (b + 1) (by omega)
          rw [List.range_succ, List.any_append, List.any_cons, List.any_nil, Bool.or_false] at ih2
          generalize (List.range b).any (fun b => decide (j a b = T) && decide (m a b = B)) = X at ih2 ⊢
          apply hQ2
          clear hQ2
          cases X with
          | true =>
            (((try simp (implicitDefEqProofs := false) [latN, han, hbn, nRow, nCell]); (try simp (implicitDefEqProofs := false) (disch := first | assumption | (try simp only [lens]); omega -splitDisjunctions) [latN, han, hbn, nRow, nCell])); all_goals try (repeat' ((first | ((with_reducible first | refine And.intro ?_ ?_ | refine Exists.intro ?_ ?_); first | omega | (simp <;> omega)) | (with_reducible refine spl (And.intro ?_ ?_) <;> intro _)) <;> ((try simp (implicitDefEqProofs := false) [latN, han, hbn, nRow, nCell]); (try simp (implicitDefEqProofs := false) (disch := first | assumption | (try simp only [lens]); omega -splitDisjunctions) [latN, han, hbn, nRow, nCell])))))
            refine at2 ih2 ?_ ?_ <;> simp [latN]
          | false =>
            by_cases hja : j a b = T
            · have ih2 : Q2 [(0, .iptr (latN n g j m)), (3, .int .i64 (a : Int)), (4, .bool (decide (m a b = B))), (10, .int .i64 (n : Int)), (11, .int .i64 (a : Int)), (18, .int .i64 (n : Int)), (19, .int .i64 ((b + 1 : Nat) : Int))] [] := by simpa [hja] using ih2
              have hx : decide (((m a b : Nat) : Int) = (B : Int)) = decide (m a b = B) := by rw [decide_eq_decide]; omega
              generalize decide (m a b = B) = Z at hx ih2
              (((try simp (implicitDefEqProofs := false) [latN, han, hbn, hja, nRow, nCell]); (try simp (implicitDefEqProofs := false) (disch := first | assumption | (try simp only [lens]); omega -splitDisjunctions) [latN, han, hbn, hja, nRow, nCell])); all_goals try (repeat' ((first | ((with_reducible first | refine And.intro ?_ ?_ | refine Exists.intro ?_ ?_); first | omega | (simp <;> omega)) | (with_reducible refine spl (And.intro ?_ ?_) <;> intro _) | (refine CL.clo (ht) ?_) | (refine CM.clo (ht) ?_) | (refine CD.clo (ht) ?_) | (refine CL.clo (hbo) ?_) | (refine CM.clo (hbo) ?_) | (refine CD.clo (hbo) ?_)) <;> ((try simp (implicitDefEqProofs := false) [latN, han, hbn, hja, nRow, nCell]); (try simp (implicitDefEqProofs := false) (disch := first | assumption | (try simp only [lens]); omega -splitDisjunctions) [latN, han, hbn, hja, nRow, nCell])))))
              all_goals (rw [hx]; refine at2 ih2 ?_ ?_ <;> simp [latN])
            · have ih2 : Q2 [(0, .iptr (latN n g j m)), (3, .int .i64 (a : Int)), (4, .bool false), (10, .int .i64 (n : Int)), (11, .int .i64 (a : Int)), (18, .int .i64 (n : Int)), (19, .int .i64 ((b + 1 : Nat) : Int))] [] := by simpa [hja] using ih2
              have hji : ¬ (((j a b : Nat) : Int) = (T : Int)) := by omega
              (((try simp (implicitDefEqProofs := false) [latN, han, hbn, hji, nRow, nCell]); (try simp (implicitDefEqProofs := false) (disch := first | assumption | (try simp only [lens]); omega -splitDisjunctions) [latN, han, hbn, hji, nRow, nCell])); all_goals try (repeat' ((first | ((with_reducible first | refine And.intro ?_ ?_ | refine Exists.intro ?_ ?_); first | omega | (simp <;> omega)) | (with_reducible refine spl (And.intro ?_ ?_) <;> intro _) | (refine CL.clo (ht) ?_) | (refine CM.clo (ht) ?_) | (refine CD.clo (ht) ?_) | (refine CL.clo (hbo) ?_) | (refine CM.clo (hbo) ?_) | (refine CD.clo (hbo) ?_)) <;> ((try simp (implicitDefEqProofs := false) [latN, han, hbn, hji, nRow, nCell]); (try simp (implicitDefEqProofs := false) (disch := first | assumption | (try simp only [lens]); omega -splitDisjunctions) [latN, han, hbn, hji, nRow, nCell])))))
              all_goals (refine at2 ih2 ?_ ?_ <;> simp [latN])
      refine at2 (main2 _ 0 (Nat.zero_add _)) ?_ ?_ <;> simp [latN]
  refine at2 (main _ 0 (Nat.zero_add _) (by rw [List.drop_zero]; exact hR.symm)) ?_ ?_ <;> simp [latN]
theorem ofault_ok {o : Ord} (h : (ofault o).1 = 0) : ofault o = (0, 0) ∧ 1 ≤ o.n ∧ o.n ≤ 20 ∧ o.ps.length ≤ 500 ∧ (∀ p ∈ o.ps, 0 ≤ p.1 ∧ p.1 < o.n ∧ 0 ≤ p.2 ∧ p.2 < o.n) ∧ ∀ i, i < o.n.toNat → cyc o.ps i = false := by
  unfold ofault at h ⊢
  split at h
  · simp at h
  · rename_i hn
    rw [if_neg hn]
    simp only [not_or, Int.not_lt, Nat.not_lt] at hn
    cases hr : relBad o.n o.ps 0 with
    | some p =>
      exfalso
      rw [hr] at h
      simp only [Option.some_or, Option.getD_some] at h
      have : ∀ (l : List (Int × Int)) i, relBad o.n l i = some p → p.1 = 3 := by
        intro l
        induction l with
        | nil => intro i h; cases h
        | cons a r ih =>
          intro i h
          unfold relBad at h
          split at h
          · exact ih _ h
          · cases h; rfl
      rw [this _ _ hr] at h
      cases h
    | none =>
      rw [hr] at h
      simp only [Option.none_or] at h ⊢
      cases hf : (List.range o.n.toNat).find? (cyc o.ps) with
      | some i => rw [hf] at h; simp at h
      | none =>
        rw [List.find?_eq_none] at hf
        exact ⟨rfl, by omega, by omega, by omega, relBad_none _ _ hr, fun i hi => by simpa using hf i (List.mem_range.2 hi)⟩
theorem leB_PO {o : Ord} (h : (ofault o).1 = 0) : PO o.n.toNat (leB o.ps) := by
  obtain ⟨_, _, _, _, _, hc⟩ := ofault_ok h
  refine ⟨fun i _ => leB_iff.2 (.refl i), fun i j k _ _ _ h1 h2 => leB_iff.2 ((leB_iff.1 h1).trans (leB_iff.1 h2)), fun i j hi hj h1 h2 => ?_⟩
  have key : ∀ i j, i < o.n.toNat → j < i → leB o.ps i j = true → leB o.ps j i = true → False := fun i j hi hj h1 h2 => by
    have := hc i hi
    unfold cyc at this
    rw [List.any_eq_false] at this
    exact this j (List.mem_range.2 hj) (by rw [h1, h2]; rfl)
  rcases Nat.lt_trichotomy i j with hlt | he | hlt
  · exact (key j i hj hlt h2 h1).elim
  · exact he
  · exact (key i j hi hlt h1 h2).elim
noncomputable def kindR (o : Ord) : List Bool := if (ofault o).1 = 0 then kindL o.n.toNat (leB o.ps) else [false, false, false, false]
def faultA (p : Int × Int) : PV := .agg [.int .i64 p.1, .int .i64 p.2]
def x9 : XC := .seq (.reg [⟨some 1,.box 24 (.tmp 0),none⟩,⟨some 2,.alloc 30,none⟩,⟨some 3,.alloc 27,none⟩]) (.seq (.seq (.reg [⟨some 9,.load 24 (.tmp 1),none⟩,⟨some 10,.call ⟨.value (.func 14),#[.tmp 9],#[24]⟩,none⟩,⟨some 4,.alloc 27,none⟩,⟨none,.store 27 (.tmp 4) (.tmp 10),none⟩]) (.seq (.reg [⟨some 11,.fieldAddr 27 (.tmp 4) 0,none⟩,⟨some 12,.load 3 (.tmp 11),none⟩,⟨some 13,.binOp .neq 3 (.tmp 12) (.const (.int .i64 0)) 3,none⟩]) (.cond (.tmp 13) (.seq (.drawn 3 [⟨some 14,.build 30 #[],none⟩,⟨some 15,.load 27 (.tmp 4),none⟩,⟨none,.store 30 (.tmp 2) (.tmp 14),none⟩,⟨none,.store 27 (.tmp 3) (.tmp 15),none⟩]) (.ret)) (.skip)))) (.seq (.reg [⟨some 17,.load 24 (.tmp 1),none⟩,⟨some 18,.call ⟨.value (.func 26),#[.tmp 17],#[24]⟩,none⟩,⟨some 19,.call ⟨.value (.func 27),#[.tmp 18],#[59]⟩,none⟩,⟨some 16,.move (.tmp 19),none⟩,⟨some 20,.extract (.tmp 16) 0,none⟩,⟨some 21,.extract (.tmp 16) 1,none⟩,⟨some 5,.alloc 57,none⟩,⟨none,.store 57 (.tmp 5) (.tmp 20),none⟩,⟨some 6,.assign (.tmp 21),none⟩]) (.seq (.seq (.reg [⟨some 22,.move (.tmp 6),none⟩,⟨some 23,.unOp .not 4 (.tmp 22),none⟩]) (.cond (.tmp 23) (.seq (.reg [⟨some 24,.build 30 #[],none⟩,⟨some 25,.build 27 #[],none⟩,⟨none,.store 30 (.tmp 2) (.tmp 24),none⟩,⟨none,.store 27 (.tmp 3) (.tmp 25),none⟩]) (.ret)) (.skip))) (.seq (.reg [⟨some 26,.load 57 (.tmp 5),none⟩,⟨some 27,.makeFunc (.func 29) #[] #[.tmp 5],none⟩,⟨some 28,.call ⟨.value (.func 28),#[.tmp 26,.tmp 27],#[57,65]⟩,none⟩,⟨some 7,.assign (.tmp 28),none⟩]) (.seq (.reg [⟨some 29,.load 57 (.tmp 5),none⟩,⟨some 30,.call ⟨.value (.func 30),#[.tmp 29],#[57]⟩,none⟩,⟨some 8,.assign (.tmp 30),none⟩]) (.seq (.reg [⟨some 31,.move (.tmp 7),none⟩,⟨some 32,.move (.tmp 8),none⟩,⟨some 33,.move (.tmp 8),none⟩,⟨some 34,.move (.tmp 33),none⟩,⟨some 35,.load 57 (.tmp 5),some (some 34,true)⟩,⟨some 36,.call ⟨.value (.func 31),#[.tmp 35],#[57]⟩,some (some 34,true)⟩,⟨some 37,.pick (.tmp 34) (.tmp 36) (.const (.bool false)),none⟩,⟨some 38,.build 30 #[(0,.const (.bool true)),(1,.tmp 31),(2,.tmp 32),(3,.tmp 37)],none⟩,⟨some 39,.build 27 #[],none⟩,⟨none,.store 30 (.tmp 2) (.tmp 38),none⟩,⟨none,.store 27 (.tmp 3) (.tmp 39),none⟩]) (.ret)))))))
@[simp] theorem x9_s {C : WC} {e : AE} {s : Store} {K : KS} : type_of% (@X_at C e s K _ _ x9.eq_1) := X_at x9.eq_1
def an9 : Ann := ⟨[(3, .mix3 2 1)], [], []⟩
def cx9 (P : Program) (m : Nat) : WC := ⟨P, m, an9⟩
@[simp] theorem cx9_a {P : Program} {m : Nat} : (cx9 P m).P = P ∧ (cx9 P m).m = m ∧ (cx9 P m).A.clsOf 3 = .mix3 2 1 ∧ (cx9 P m).A.frzOf 3 = [] := ⟨rfl, rfl, rfl, rfl⟩
instance {P : Program} {m f : Nat} [h : EnT P f] : EnT (cx9 P m).P f := h
theorem chk9 : ∀ c, Try.f9.body = some c → chkC Try.f9.ntmps an9 c = true := by intro c h; obtain rfl := Option.some.inj h; decide +kernel
theorem op9 {args : List PV} {v : PV} (h : X (cx9 Try.prog 0) x9 (argsA 0 args) [] (.fin [.cell 2 30, .cell 3 27] fun v1 s1 => deref s1 6 v1 = v)) (hl : args.length ≤ Try.f9.ntmps := by rw [Try.ntmps9]; simp) : CallOK Try.prog 9 args [] v [] :=
  callX (m := 0) (cx9 Try.prog 0) x9 rfl rfl (by kernel_rfl) Try.func9 rfl rfl hl mixed (chk9 _ rfl) (by rw [Try.results9]; exact h)

theorem Kind_algebra (o : Ord) : CallOK Try.prog 9 [.agg (ord o)] [] (.tuple [.agg ((kindR o).map .bool), faultA (ofault o)]) [] := by
  have hck := Check_algebra o
  unfold kindR faultA
  by_cases hz : (ofault o).1 = 0
  · obtain ⟨h0, h1, h2, h3, h4, h5⟩ := ofault_ok hz
    rw [if_pos hz]
    rw [h0] at hck ⊢
    obtain ⟨n, E⟩ := o
    simp only at h1 h2 h3 h4 h5 ⊢
    obtain ⟨n, rfl⟩ : ∃ k : Nat, n = (k : Int) := ⟨n.toNat, by omega⟩
    have hn := newTable_algebra ⟨n, E⟩ n rfl (by omega) h4
    have hl := lattice_algebra n (by omega) (leB E)
    simp only [Int.toNat_natCast]
    simp only [ord] at hck hn
    generalize leB E = g at hn hl ⊢
    refine op9 ?_
    unfold latV at hl
    unfold kindL
    cases hL : isLat n g with
    | false =>
      rw [hL] at hl
      simp only [Bool.false_eq_true, if_false, ord] at hl ⊢
      (((try simp (implicitDefEqProofs := false)); (try simp (implicitDefEqProofs := false) (disch := first | assumption | (try simp only [lens]); omega -splitDisjunctions))); all_goals try (repeat' ((first | ((with_reducible first | refine And.intro ?_ ?_ | refine Exists.intro ?_ ?_); first | omega | (simp <;> omega)) | (with_reducible refine spl (And.intro ?_ ?_) <;> intro _) | (refine CL.clo (hck) ?_) | (refine CM.clo (hck) ?_) | (refine CD.clo (hck) ?_) | (refine CL.clo (hn) ?_) | (refine CM.clo (hn) ?_) | (refine CD.clo (hn) ?_) | (refine CL.clo (hl) ?_) | (refine CM.clo (hl) ?_) | (refine CD.clo (hl) ?_)) <;> ((try simp (implicitDefEqProofs := false)); (try simp (implicitDefEqProofs := false) (disch := first | assumption | (try simp only [lens]); omega -splitDisjunctions))))))
    | true =>
      rw [hL, latC_N hL] at hl
      simp only [if_true, ord] at hl ⊢
      have hj := fun a b ha hb => (joinI_jn hL (a := a) (b := b) ha hb).2
      have hm := fun a b ha hb => (meetI_mt hL (a := a) (b := b) ha hb).2
      have he := each_algebra n (by omega) g (jn n g) (mt n g) 29 [.iptr [.iptr (latN n g (jn n g) (mt n g))]] _ (fun ρ => by simp) (by simp)
        (fun a b c ha hb hc s => CallOK.frame (Kind1_algebra n g _ _ hj hm a b c ha hb hc) (by simp [closed_agg, closed_fn, flatL_fn]))
      have hd := distributive_algebra n (by omega) g (jn n g) (mt n g) hj hm
      have hc := complemented_algebra n (by omega) (by omega) g (jn n g) (mt n g) hj hm
      replace he : CallOK Try.prog 28 [.iptr (latN n g (jn n g) (mt n g)), .fn (.func 29) [] [.iptr [.iptr (latN n g (jn n g) (mt n g))]]] [] (.bool (modL n g)) [] := he
      replace hd : CallOK Try.prog 30 [.iptr (latN n g (jn n g) (mt n g))] [] (.bool (distL n g)) [] := hd
      replace hc : CallOK Try.prog 31 [.iptr (latN n g (jn n g) (mt n g))] [] (.bool (compL n g)) [] := hc
      generalize modL n g = x at he ⊢
      generalize distL n g = y at hd ⊢
      generalize compL n g = z at hc ⊢
      generalize latN n g (jn n g) (mt n g) = W at *
      cases y
      · (((try simp (implicitDefEqProofs := false)); (try simp (implicitDefEqProofs := false) (disch := first | assumption | (try simp only [lens]); omega -splitDisjunctions))); all_goals try (repeat' ((first | ((with_reducible first | refine And.intro ?_ ?_ | refine Exists.intro ?_ ?_); first | omega | (simp <;> omega)) | (with_reducible refine spl (And.intro ?_ ?_) <;> intro _) | (refine CL.clo (hck) ?_) | (refine CM.clo (hck) ?_) | (refine CD.clo (hck) ?_) | (refine CL.clo (hn) ?_) | (refine CM.clo (hn) ?_) | (refine CD.clo (hn) ?_) | (refine CL.clo (hl) ?_) | (refine CM.clo (hl) ?_) | (refine CD.clo (hl) ?_) | (refine CL.see (he) ?_ ?_ ?_; (focus (first | (simp; done) | (simp [scn]; done))); (focus (simp [flats]; done))) | (refine CD.see (he) ?_ ?_ ?_; (focus (first | (simp; done) | (simp [scn]; done))); (focus (simp [flats]; done))) | (refine CL.clo (hd) ?_) | (refine CM.clo (hd) ?_) | (refine CD.clo (hd) ?_)) <;> ((try simp (implicitDefEqProofs := false)); (try simp (implicitDefEqProofs := false) (disch := first | assumption | (try simp only [lens]); omega -splitDisjunctions))))))
      · (((try simp (implicitDefEqProofs := false)); (try simp (implicitDefEqProofs := false) (disch := first | assumption | (try simp only [lens]); omega -splitDisjunctions))); all_goals try (repeat' ((first | ((with_reducible first | refine And.intro ?_ ?_ | refine Exists.intro ?_ ?_); first | omega | (simp <;> omega)) | (with_reducible refine spl (And.intro ?_ ?_) <;> intro _) | (refine CL.clo (hck) ?_) | (refine CM.clo (hck) ?_) | (refine CD.clo (hck) ?_) | (refine CL.clo (hn) ?_) | (refine CM.clo (hn) ?_) | (refine CD.clo (hn) ?_) | (refine CL.clo (hl) ?_) | (refine CM.clo (hl) ?_) | (refine CD.clo (hl) ?_) | (refine CL.see (he) ?_ ?_ ?_; (focus (first | (simp; done) | (simp [scn]; done))); (focus (simp [flats]; done))) | (refine CD.see (he) ?_ ?_ ?_; (focus (first | (simp; done) | (simp [scn]; done))); (focus (simp [flats]; done))) | (refine CL.clo (hd) ?_) | (refine CM.clo (hd) ?_) | (refine CD.clo (hd) ?_) | (refine CL.clo (hc) ?_) | (refine CM.clo (hc) ?_) | (refine CD.clo (hc) ?_)) <;> ((try simp (implicitDefEqProofs := false)); (try simp (implicitDefEqProofs := false) (disch := first | assumption | (try simp only [lens]); omega -splitDisjunctions))))))
  · rw [if_neg hz]
    generalize ofault o = w at hck hz ⊢
    obtain ⟨n, E⟩ := o
    simp only [ord] at hck
    refine op9 ?_
    simp only [ord]
    (((try simp (implicitDefEqProofs := false) [hz]); (try simp (implicitDefEqProofs := false) (disch := first | assumption | (try simp only [lens]); omega -splitDisjunctions) [hz])); all_goals try (repeat' ((first | ((with_reducible first | refine And.intro ?_ ?_ | refine Exists.intro ?_ ?_); first | omega | (simp <;> omega)) | (with_reducible refine spl (And.intro ?_ ?_) <;> intro _) | (refine CL.clo (hck) ?_) | (refine CM.clo (hck) ?_) | (refine CD.clo (hck) ?_)) <;> ((try simp (implicitDefEqProofs := false) [hz]); (try simp (implicitDefEqProofs := false) (disch := first | assumption | (try simp only [lens]); omega -splitDisjunctions) [hz])))))
noncomputable def latR (o : Ord) : PV := if (ofault o).1 = 0 then (if isLat o.n.toNat (leB o.ps) = true then .tuple [.list ((List.range o.n.toNat).map (nRow o.n.toNat (jn o.n.toNat (leB o.ps)))), .list ((List.range o.n.toNat).map (nRow o.n.toNat (mt o.n.toNat (leB o.ps)))), faultA (0, 0)]
  else .tuple [.list [], .list [], faultA (6, 0)]) else .tuple [.list [], .list [], faultA (ofault o)]
def x10 : XC := .seq (.reg [⟨some 1,.box 24 (.tmp 0),none⟩,⟨some 2,.assign (.const (.slice none 0 0)),none⟩,⟨some 3,.assign (.const (.slice none 0 0)),none⟩,⟨some 4,.alloc 27,none⟩]) (.seq (.seq (.reg [⟨some 8,.load 24 (.tmp 1),none⟩,⟨some 9,.call ⟨.value (.func 14),#[.tmp 8],#[24]⟩,none⟩,⟨some 5,.alloc 27,none⟩,⟨none,.store 27 (.tmp 5) (.tmp 9),none⟩]) (.seq (.reg [⟨some 10,.fieldAddr 27 (.tmp 5) 0,none⟩,⟨some 11,.load 3 (.tmp 10),none⟩,⟨some 12,.binOp .neq 3 (.tmp 11) (.const (.int .i64 0)) 3,none⟩]) (.cond (.tmp 12) (.seq (.drawn 3 [⟨some 13,.load 27 (.tmp 5),none⟩,⟨some 2,.assign (.const (.slice none 0 0)),none⟩,⟨some 3,.assign (.const (.slice none 0 0)),none⟩,⟨none,.store 27 (.tmp 4) (.tmp 13),none⟩]) (.ret)) (.skip)))) (.seq (.reg [⟨some 15,.load 24 (.tmp 1),none⟩,⟨some 16,.call ⟨.value (.func 26),#[.tmp 15],#[24]⟩,none⟩,⟨some 17,.call ⟨.value (.func 27),#[.tmp 16],#[59]⟩,none⟩,⟨some 14,.move (.tmp 17),none⟩,⟨some 18,.extract (.tmp 14) 0,none⟩,⟨some 19,.extract (.tmp 14) 1,none⟩,⟨some 6,.assign (.tmp 18),none⟩,⟨some 7,.assign (.tmp 19),none⟩]) (.seq (.seq (.reg [⟨some 20,.move (.tmp 7),none⟩,⟨some 21,.unOp .not 4 (.tmp 20),none⟩]) (.cond (.tmp 21) (.seq (.reg [⟨some 22,.call ⟨.value (.func 32),#[.const (.int .i64 6),.const (.int .i64 0)],#[3,3]⟩,none⟩,⟨some 2,.assign (.const (.slice none 0 0)),none⟩,⟨some 3,.assign (.const (.slice none 0 0)),none⟩,⟨none,.store 27 (.tmp 4) (.tmp 22),none⟩]) (.ret)) (.skip))) (.seq (.drawn 7 [⟨some 23,.move (.tmp 6),none⟩,⟨some 24,.nilCheck (.tmp 23),none⟩,⟨some 25,.fieldAddr 64 (.tmp 24) 1,none⟩,⟨some 26,.load 33 (.tmp 25),none⟩,⟨some 27,.move (.tmp 6),none⟩,⟨some 28,.nilCheck (.tmp 27),none⟩,⟨some 29,.fieldAddr 64 (.tmp 28) 2,none⟩,⟨some 30,.load 33 (.tmp 29),none⟩,⟨some 31,.load 27 (.tmp 4),none⟩,⟨some 2,.assign (.tmp 26),none⟩,⟨some 3,.assign (.tmp 30),none⟩,⟨none,.store 27 (.tmp 4) (.tmp 31),none⟩]) (.ret)))))
@[simp] theorem x10_s {C : WC} {e : AE} {s : Store} {K : KS} : type_of% (@X_at C e s K _ _ x10.eq_1) := X_at x10.eq_1
def an10 : Ann := ⟨[], [], []⟩
def cx10 (P : Program) (m : Nat) : WC := ⟨P, m, an10⟩
@[simp] theorem cx10_a {P : Program} {m : Nat} : (cx10 P m).P = P ∧ (cx10 P m).m = m ∧ (cx10 P m).A.clsOf 3 = .draw ∧ (cx10 P m).A.clsOf 7 = .draw ∧ (cx10 P m).A.frzOf 3 = [] ∧ (cx10 P m).A.frzOf 7 = [] := ⟨rfl, rfl, rfl, rfl, rfl, rfl⟩
instance {P : Program} {m f : Nat} [h : EnT P f] : EnT (cx10 P m).P f := h
theorem chk10 : ∀ c, Try.f10.body = some c → chkC Try.f10.ntmps an10 c = true := by intro c h; obtain rfl := Option.some.inj h; decide +kernel
theorem os10 {args : List PV} {v : PV} (h : X (cx10 Try.prog 0) x10 (argsA 0 args) [] (.fin [.tmp 2, .tmp 3, .cell 4 27] fun v1 s1 => softV (deref s1 6 v1) = v)) (hl : args.length ≤ Try.f10.ntmps := by rw [Try.ntmps10]; simp) : CallOK Try.prog 10 args [] v [] :=
  callXF (m := 0) (cx10 Try.prog 0) x10 rfl rfl (by kernel_rfl) Try.func10 rfl rfl hl mixed (chk10 _ rfl) (by rw [Try.results10]; exact h)

theorem Lattice_algebra (o : Ord) : CallOK Try.prog 10 [.agg (ord o)] [] (latR o) [] := by
  have hck := Check_algebra o
  unfold latR faultA
  by_cases hz : (ofault o).1 = 0
  · obtain ⟨h0, h1, h2, h3, h4, h5⟩ := ofault_ok hz
    rw [if_pos hz]
    rw [h0] at hck
    obtain ⟨n, E⟩ := o
    simp only at h1 h2 h3 h4 h5 ⊢
    obtain ⟨n, rfl⟩ : ∃ k : Nat, n = (k : Int) := ⟨n.toNat, by omega⟩
    have hn := newTable_algebra ⟨n, E⟩ n rfl (by omega) h4
    have hl := lattice_algebra n (by omega) (leB E)
    simp only [Int.toNat_natCast]
    simp only [ord] at hck hn
    generalize leB E = g at hn hl ⊢
    refine os10 ?_
    unfold latV at hl
    cases hL : isLat n g with
    | false =>
      rw [hL] at hl
      simp only [Bool.false_eq_true, if_false, ord] at hl ⊢
      (((try simp (implicitDefEqProofs := false)); (try simp (implicitDefEqProofs := false) (disch := first | assumption | (try simp only [lens]); omega -splitDisjunctions))); all_goals try (repeat' ((first | ((with_reducible first | refine And.intro ?_ ?_ | refine Exists.intro ?_ ?_); first | omega | (simp <;> omega)) | (with_reducible refine spl (And.intro ?_ ?_) <;> intro _) | (refine CL.clo (hck) ?_) | (refine CM.clo (hck) ?_) | (refine CD.clo (hck) ?_) | (refine CL.clo (hn) ?_) | (refine CM.clo (hn) ?_) | (refine CD.clo (hn) ?_) | (refine CL.clo (hl) ?_) | (refine CM.clo (hl) ?_) | (refine CD.clo (hl) ?_) | (refine CL.clo (fault_algebra _ _) ?_) | (refine CM.clo (fault_algebra _ _) ?_) | (refine CD.clo (fault_algebra _ _) ?_)) <;> ((try simp (implicitDefEqProofs := false)); (try simp (implicitDefEqProofs := false) (disch := first | assumption | (try simp only [lens]); omega -splitDisjunctions))))))
    | true =>
      rw [hL, latC_N hL, latN] at hl
      simp only [if_true, ord] at hl ⊢
      (((try simp (implicitDefEqProofs := false)); (try simp (implicitDefEqProofs := false) (disch := first | assumption | (try simp only [lens]); omega -splitDisjunctions))); all_goals try (repeat' ((first | ((with_reducible first | refine And.intro ?_ ?_ | refine Exists.intro ?_ ?_); first | omega | (simp <;> omega)) | (with_reducible refine spl (And.intro ?_ ?_) <;> intro _) | (refine CL.clo (hck) ?_) | (refine CM.clo (hck) ?_) | (refine CD.clo (hck) ?_) | (refine CL.clo (hn) ?_) | (refine CM.clo (hn) ?_) | (refine CD.clo (hn) ?_) | (refine CL.clo (hl) ?_) | (refine CM.clo (hl) ?_) | (refine CD.clo (hl) ?_)) <;> ((try simp (implicitDefEqProofs := false)); (try simp (implicitDefEqProofs := false) (disch := first | assumption | (try simp only [lens]); omega -splitDisjunctions))))))
  · rw [if_neg hz]
    generalize ofault o = w at hck hz ⊢
    obtain ⟨n, E⟩ := o
    simp only [ord] at hck
    refine os10 ?_
    simp only [ord]
    (((try simp (implicitDefEqProofs := false) [hz]); (try simp (implicitDefEqProofs := false) (disch := first | assumption | (try simp only [lens]); omega -splitDisjunctions) [hz])); all_goals try (repeat' ((first | ((with_reducible first | refine And.intro ?_ ?_ | refine Exists.intro ?_ ?_); first | omega | (simp <;> omega)) | (with_reducible refine spl (And.intro ?_ ?_) <;> intro _) | (refine CL.clo (hck) ?_) | (refine CM.clo (hck) ?_) | (refine CD.clo (hck) ?_)) <;> ((try simp (implicitDefEqProofs := false) [hz]); (try simp (implicitDefEqProofs := false) (disch := first | assumption | (try simp only [lens]); omega -splitDisjunctions) [hz])))))
end Go.Proofs.Ythnobaacfjihcaa
