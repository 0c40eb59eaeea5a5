/-
  sequentref.Makes, told without memory.
-/
import Derived.Test.YtbmpmmbcfabeeaaTrX
namespace Go.Proofs.Ytbmpmmbcfabeeaa
open Go Go.Pv
set_option linter.unusedVariables false
set_option linter.unusedSimpArgs false
set_option maxRecDepth 100000
set_option maxHeartbeats 4000000

def cntF (I : List Bool) : Nat := I.countP fun b => !b
theorem cnt_set : ∀ (I : List Bool) (f : Nat), f < I.length → gB I f = false → cntF (I.set f true) < cntF I
  | [], f, h, _ => by simp at h
  | b :: r, 0, _, h => by
    have : b = false := by simpa [gB] using h
    subst this
    simp [cntF]
  | b :: r, f + 1, h, hb => by
    have := cnt_set r f (by simpa using h) (by simpa [gB] using hb)
    unfold cntF at *
    rw [List.set_cons_succ, List.countP_cons, List.countP_cons]; omega
theorem gB_set (I : List Bool) (f x : Nat) (hf : f < I.length) : gB (I.set f true) x = (decide (f = x) || gB I x) := by
  unfold gB
  rw [List.getElem?_set]
  by_cases e : f = x
  · subst e; simp [hf]
  · simp [e]
def dig (k j : Nat) : Nat := k / 2 ^ (4 * j) % 16
theorem dig_lt (k j : Nat) : dig k j < 16 := Nat.mod_lt _ (by decide)
theorem ix_congr {a b : Nat → Nat} (row : Nat) : ∀ n, (∀ i, i < n → a i = b i) → ixOf a row n = ixOf b row n
  | 0, _ => rfl
  | n + 1, h => by rw [ixOf, ixOf, ix_congr row n fun i hi => h i (by omega), h n (by omega)]
theorem put_congr {B : List Bool} {n : Nat} {a b : Nat → Nat} (h : ∀ i, i < n → a i = b i) : putB B n a = putB B n b := by
  unfold putB; rw [ix_congr 0 n h, ix_congr 1 n h, ix_congr 2 n h, ix_congr 3 n h]
theorem digs (a : Nat → Nat) : ∀ n, (∀ i, i < n → a i < 16) → ∃ k, k < 2 ^ (4 * n) ∧ ∀ i, i < n → dig k i = a i
  | 0, _ => ⟨0, by simp, fun i hi => by omega⟩
  | n + 1, h => by
    obtain ⟨k, hk, hd⟩ := digs a n fun i hi => h i (by omega)
    have hn := h n (by omega)
    have hp := Nat.two_pow_pos (4 * n)
    have he : 2 ^ (4 * (n + 1)) = 16 * 2 ^ (4 * n) := by rw [show 4 * (n + 1) = 4 * n + 4 by omega, Nat.pow_add]; omega
    refine ⟨k + a n * 2 ^ (4 * n), ?_, fun i hi => ?_⟩
    · have : a n * 2 ^ (4 * n) ≤ 15 * 2 ^ (4 * n) := Nat.mul_le_mul_right _ (by omega)
      omega
    · unfold dig at *
      by_cases e : i = n
      · subst e
        rw [Nat.add_mul_div_right _ _ hp, Nat.div_eq_of_lt hk]; omega
      · have hin : i < n := by omega
        rw [← hd i hin]
        have h2 : 2 ^ (4 * n) = 2 ^ (4 * i) * (16 * 2 ^ (4 * (n - i - 1))) := by
          rw [show 16 * 2 ^ (4 * (n - i - 1)) = 2 ^ (4 + 4 * (n - i - 1)) by rw [Nat.pow_add], ← Nat.pow_add, show 4 * i + (4 + 4 * (n - i - 1)) = 4 * n by omega]
        rw [h2, show a n * (2 ^ (4 * i) * (16 * 2 ^ (4 * (n - i - 1)))) = 2 ^ (4 * i) * (16 * (a n * 2 ^ (4 * (n - i - 1)))) by ac_rfl, Nat.add_mul_div_left _ _ (Nat.two_pow_pos _), Nat.add_mul_mod_self_left]
def clK (t : Tab) (I : List Bool) (k : Nat) : Prop := (∀ j, j < t.n.toNat → gB I (dig k j) = true) → gB I (putB t.bits t.n.toNat (dig k)) = true
def clT (t : Tab) (I : List Bool) : Prop := ∀ k, k < 2 ^ (4 * t.n.toNat) → clK t I k
/-- in a round that began with I0 -/
structure Iv (l : List Tab) (I0 I : List Bool) (again : Bool) : Prop where
  len : I.length = 16
  snd : ∀ x, gB I x = true → Reach l x
  ten : gB I 10 = true
  twe : gB I 12 = true
  cnt : again = true → cntF I < cntF I0
  same : again = false → I = I0
theorem gB_lt {I : List Bool} {x : Nat} (h : gB I x = true) : x < I.length := by
  refine Classical.byContradiction fun g => ?_
  unfold gB at h
  rw [List.getElem?_eq_none (by omega)] at h
  cases h
theorem reach_put {l : List Tab} {t : Tab} (ht : t ∈ l) {a : Nat → Nat} (h : ∀ i, i < t.n.toNat → Reach l (a i) ∧ a i < 16) : Reach l (putB t.bits t.n.toNat a) :=
  fun S hS => hS.put t ht a fun i hi => ⟨(h i hi).1 S hS, (h i hi).2⟩
theorem Iv.put {l : List Tab} {I0 I : List Bool} {again : Bool} (h : Iv l I0 I again) {t : Tab} (ht : t ∈ l) {k : Nat} (hf : ∀ j, j < t.n.toNat → gB I (dig k j) = true) (hn : gB I (putB t.bits t.n.toNat (dig k)) = false) : Iv l I0 (I.set (putB t.bits t.n.toNat (dig k)) true) true := by
  have hlt : putB t.bits t.n.toNat (dig k) < I.length := by rw [h.len]; exact put_lt _ _ _
  refine ⟨by rw [List.length_set, h.len], fun x hx => ?_, by rw [gB_set _ _ _ hlt, h.ten]; simp, by rw [gB_set _ _ _ hlt, h.twe]; simp, fun _ => ?_, fun e => by cases e⟩
  · rw [gB_set _ _ _ hlt, Bool.or_eq_true] at hx
    rcases hx with hx | hx
    · rw [← of_decide_eq_true hx]
      exact reach_put ht fun i hi => ⟨h.snd _ (hf i hi), dig_lt _ _⟩
    · exact h.snd x hx
  · have h1 := cnt_set I _ hlt hn
    cases again with
    | true => have := h.cnt rfl; omega
    | false => rw [← h.same rfl]; exact h1
theorem Iv.done {l : List Tab} {I0 I : List Bool} (h : Iv l I0 I false) (hc : ∀ t ∈ l, clT t I) (x : Nat) (hx : Reach l x) : gB I x = true := by
  refine hx (fun y => gB I y = true) ⟨h.ten, h.twe, fun t ht a ha => ?_⟩
  obtain ⟨k, hk, hd⟩ := digs a t.n.toNat fun i hi => (ha i hi).2
  rw [← put_congr hd]
  exact hc t ht k hk fun j hj => by rw [hd j hj]; exact (ha j hj).1
@[simp] theorem fm_bools (k : Nat) (I : List Bool) : List.flatMap (refsN k) (List.map PV.bool I) = [] := by
  induction I with
  | nil => rfl
  | cons b r ih => rw [List.map_cons, List.flatMap_cons, ih]; cases k <;> simp [refsN]
@[simp] theorem fm_bset (k p : Nat) (b : Bool) (I : List Bool) : List.flatMap (refsN k) ((List.map PV.bool I).set p (.bool b)) = [] := by
  have := fm_bools k (I.set p b)
  rwa [List.map_set] at this
@[simp] theorem rn_bools (ρ : List Nat) (k : Nat) : (renN ρ k ∘ PV.bool) = PV.bool := by
  funext b; cases k <;> simp [renN, ren0]
def x30_L8 : XC := .seq (.seq (.reg [⟨some 78,.move (.tmp 11),none⟩,⟨some 79,.binOp .lss 3 (.tmp 78) (.const (.int .i64 16)) 3,none⟩]) (.cond (.tmp 79) (.skip) (.exit 8))) (.seq (.block 9 (.seq (.reg [⟨some 82,.move (.tmp 11),none⟩,⟨some 83,.indexAddr 111 (.tmp 3) (.tmp 82),none⟩,⟨some 84,.load 4 (.tmp 83),none⟩,⟨some 85,.unOp .not 4 (.tmp 84),none⟩]) (.cond (.tmp 85) (.seq (.reg [⟨some 2,.assign (.const (.bool false)),none⟩]) (.ret)) (.skip)))) (.reg [⟨some 80,.move (.tmp 11),none⟩,⟨some 81,.binOp .add 3 (.tmp 80) (.const (.int .i64 1)) 3,none⟩,⟨some 11,.assign (.tmp 81),none⟩]))
def x30_T5 : XC := .seq (.seq (.reg [⟨some 11,.assign (.const (.int .i64 0)),none⟩]) (.bloop 8 x30_L8)) (.seq (.reg [⟨some 2,.assign (.const (.bool true)),none⟩]) (.ret))
def x30_T4 : XC := .seq (.seq (.reg [⟨some 64,.move (.tmp 8),none⟩,⟨some 65,.unOp .not 4 (.tmp 64),none⟩]) (.cond (.tmp 65) (.exit 5) (.skip))) (.seq (.reg [⟨some 66,.move (.tmp 0),none⟩,⟨some 67,.move (.tmp 5),none⟩,⟨some 68,.indexAddr 40 (.tmp 66) (.tmp 67),none⟩,⟨some 69,.load 48 (.tmp 68),none⟩,⟨some 70,.move (.tmp 6),none⟩,⟨some 71,.call ⟨.value (.func 81),#[.tmp 69,.tmp 70],#[48,112]⟩,none⟩,⟨some 10,.assign (.tmp 71),none⟩]) (.seq (.reg [⟨some 72,.move (.tmp 10),none⟩,⟨some 73,.indexAddr 111 (.tmp 3) (.tmp 72),none⟩,⟨some 74,.load 4 (.tmp 73),none⟩,⟨some 75,.unOp .not 4 (.tmp 74),none⟩]) (.cond (.tmp 75) (.seq (.reg [⟨some 76,.move (.tmp 10),none⟩,⟨some 77,.indexAddr 111 (.tmp 3) (.tmp 76),none⟩,⟨none,.store 4 (.tmp 77) (.const (.bool true)),none⟩]) (.reg [⟨some 4,.assign (.const (.bool true)),none⟩])) (.skip))))
def x30_L6 : XC := .seq (.seq (.reg [⟨some 38,.move (.tmp 9),none⟩,⟨some 39,.move (.tmp 0),none⟩,⟨some 40,.move (.tmp 5),none⟩,⟨some 41,.indexAddr 40 (.tmp 39) (.tmp 40),none⟩,⟨some 42,.fieldAddr 48 (.tmp 41) 0,none⟩,⟨some 43,.load 3 (.tmp 42),none⟩,⟨some 44,.binOp .lss 3 (.tmp 38) (.tmp 43) 3,none⟩]) (.cond (.tmp 44) (.skip) (.exit 6))) (.seq (.block 7 (.seq (.reg [⟨some 47,.move (.tmp 6),none⟩,⟨some 48,.move (.tmp 9),none⟩,⟨some 49,.move (.tmp 7),none⟩,⟨some 50,.move (.tmp 9),none⟩,⟨some 51,.binOp .mul 3 (.const (.int .i64 4)) (.tmp 50) 3,none⟩,⟨some 52,.binOp .shr 3 (.tmp 49) (.tmp 51) 3,none⟩,⟨some 53,.binOp .and 3 (.tmp 52) (.const (.int .i64 15)) 3,none⟩,⟨some 54,.indexAddr 112 (.tmp 47) (.tmp 48),none⟩,⟨none,.store 3 (.tmp 54) (.tmp 53),none⟩]) (.reg [⟨some 55,.move (.tmp 8),none⟩,⟨some 56,.move (.tmp 55),none⟩,⟨some 57,.move (.tmp 6),some (some 56,true)⟩,⟨some 58,.move (.tmp 9),some (some 56,true)⟩,⟨some 59,.indexAddr 112 (.tmp 57) (.tmp 58),some (some 56,true)⟩,⟨some 60,.load 3 (.tmp 59),some (some 56,true)⟩,⟨some 61,.indexAddr 111 (.tmp 3) (.tmp 60),some (some 56,true)⟩,⟨some 62,.load 4 (.tmp 61),some (some 56,true)⟩,⟨some 63,.pick (.tmp 56) (.tmp 62) (.const (.bool false)),none⟩,⟨some 8,.assign (.tmp 63),none⟩]))) (.reg [⟨some 45,.move (.tmp 9),none⟩,⟨some 46,.binOp .add 3 (.tmp 45) (.const (.int .i64 1)) 3,none⟩,⟨some 9,.assign (.tmp 46),none⟩]))
def x30_L4 : XC := .seq (.seq (.reg [⟨some 27,.move (.tmp 7),none⟩,⟨some 28,.move (.tmp 0),none⟩,⟨some 29,.move (.tmp 5),none⟩,⟨some 30,.indexAddr 40 (.tmp 28) (.tmp 29),none⟩,⟨some 31,.fieldAddr 48 (.tmp 30) 0,none⟩,⟨some 32,.load 3 (.tmp 31),none⟩,⟨some 33,.binOp .mul 3 (.const (.int .i64 4)) (.tmp 32) 3,none⟩,⟨some 34,.binOp .shl 3 (.const (.int .i64 1)) (.tmp 33) 3,none⟩,⟨some 35,.binOp .lss 3 (.tmp 27) (.tmp 34) 3,none⟩]) (.cond (.tmp 35) (.skip) (.exit 4))) (.seq (.block 5 (.seq (.reg [⟨some 8,.assign (.const (.bool true)),none⟩]) (.seq (.seq (.reg [⟨some 9,.assign (.const (.int .i64 0)),none⟩]) (.bloop 6 x30_L6)) (x30_T4)))) (.reg [⟨some 36,.move (.tmp 7),none⟩,⟨some 37,.binOp .add 3 (.tmp 36) (.const (.int .i64 1)) 3,none⟩,⟨some 7,.assign (.tmp 37),none⟩]))
def x30_L2 : XC := .seq (.seq (.reg [⟨some 15,.move (.tmp 5),none⟩,⟨some 16,.move (.tmp 0),none⟩,⟨some 17,.call ⟨.builtin .len,#[.tmp 16],#[40]⟩,none⟩,⟨some 18,.binOp .lss 3 (.tmp 15) (.tmp 17) 3,none⟩]) (.cond (.tmp 18) (.skip) (.exit 2))) (.seq (.block 3 (.seq (.reg [⟨some 21,.move (.tmp 0),none⟩,⟨some 22,.move (.tmp 5),none⟩,⟨some 23,.indexAddr 40 (.tmp 21) (.tmp 22),none⟩,⟨some 24,.fieldAddr 48 (.tmp 23) 0,none⟩,⟨some 25,.load 3 (.tmp 24),none⟩,⟨some 26,.makeSlice 112 (.tmp 25) (.tmp 25),none⟩,⟨some 6,.assign (.tmp 26),none⟩]) (.seq (.reg [⟨some 7,.assign (.const (.int .i64 0)),none⟩]) (.bloop 4 x30_L4)))) (.reg [⟨some 19,.move (.tmp 5),none⟩,⟨some 20,.binOp .add 3 (.tmp 19) (.const (.int .i64 1)) 3,none⟩,⟨some 5,.assign (.tmp 20),none⟩]))
def x30_L0 : XC := .seq (.seq (.reg [⟨some 14,.move (.tmp 4),none⟩]) (.cond (.tmp 14) (.skip) (.exit 0))) (.block 1 (.seq (.reg [⟨some 4,.assign (.const (.bool false)),none⟩]) (.seq (.reg [⟨some 5,.assign (.const (.int .i64 0)),none⟩]) (.bloop 2 x30_L2))))
def x30 : XC := .seq (.reg [⟨some 2,.assign (.const (.bool false)),none⟩]) (.seq (.reg [⟨some 3,.alloc 111,none⟩]) (.seq (.reg [⟨some 12,.indexAddr 111 (.tmp 3) (.const (.int .i64 10)),none⟩,⟨none,.store 4 (.tmp 12) (.const (.bool true)),none⟩]) (.seq (.reg [⟨some 13,.indexAddr 111 (.tmp 3) (.const (.int .i64 12)),none⟩,⟨none,.store 4 (.tmp 13) (.const (.bool true)),none⟩]) (.seq (.seq (.reg [⟨some 4,.assign (.const (.bool true)),none⟩]) (.bloop 0 x30_L0)) (x30_T5)))))
@[simp] theorem x30_s {C : WC} {e : AE} {s : Store} {K : KS} : type_of% (@X_at C e s K _ _ x30_L8.eq_1) ∧ type_of% (@X_at C e s K _ _ x30_T5.eq_1) ∧ type_of% (@X_at C e s K _ _ x30_T4.eq_1) ∧ type_of% (@X_at C e s K _ _ x30_L6.eq_1) ∧ type_of% (@X_at C e s K _ _ x30_L4.eq_1) ∧ type_of% (@X_at C e s K _ _ x30_L2.eq_1) ∧ type_of% (@X_at C e s K _ _ x30_L0.eq_1) ∧ type_of% (@X_at C e s K _ _ x30.eq_1) := ⟨X_at x30_L8.eq_1, X_at x30_T5.eq_1, X_at x30_T4.eq_1, X_at x30_L6.eq_1, X_at x30_L4.eq_1, X_at x30_L2.eq_1, X_at x30_L0.eq_1, X_at x30.eq_1⟩
def an30 : Ann := ⟨[], [(8, [], [3, 11], [2]), (6, [], [0, 3, 4, 5, 6, 7, 8, 9], [0, 3, 4, 5, 6, 7, 8]), (4, [], [0, 3, 4, 5, 6, 7], [0, 3, 4, 5]), (2, [], [0, 3, 4, 5], [0, 3, 4]), (0, [], [0, 3, 4], [3])], []⟩
def cx30 (P : Program) (m : Nat) : WC := ⟨P, m, an30⟩
@[simp] theorem cx30_a {P : Program} {m : Nat} : (cx30 P m).P = P ∧ (cx30 P m).m = m ∧ (cx30 P m).A.loopOf 8 = ([], [3, 11], [2]) ∧ (cx30 P m).A.loopOf 6 = ([], [0, 3, 4, 5, 6, 7, 8, 9], [0, 3, 4, 5, 6, 7, 8]) ∧ (cx30 P m).A.loopOf 4 = ([], [0, 3, 4, 5, 6, 7], [0, 3, 4, 5]) ∧ (cx30 P m).A.loopOf 2 = ([], [0, 3, 4, 5], [0, 3, 4]) ∧ (cx30 P m).A.loopOf 0 = ([], [0, 3, 4], [3]) := ⟨rfl, rfl, rfl, rfl, rfl, rfl, rfl⟩
instance {P : Program} {m f : Nat} [h : EnT P f] : EnT (cx30 P m).P f := h
theorem chk30 : ∀ c, Try.f30.body = some c → chkC Try.f30.ntmps an30 c = true := by intro c h; obtain rfl := Option.some.inj h; decide +kernel
theorem op30 {args : List PV} {v : PV} (h : X (cx30 Try.prog 0) x30 (argsA 0 args) [] (.fin [.tmp 2] fun v1 s1 => deref s1 6 v1 = v)) (hl : args.length ≤ Try.f30.ntmps := by rw [Try.ntmps30]; simp) : CallOK Try.prog 30 args [] v [] :=
  callX (m := 0) (cx30 Try.prog 0) x30 rfl rfl (by kernel_rfl) Try.func30 rfl rfl hl mixed (chk30 _ rfl) (by rw [Try.results30]; exact h)

theorem Makes_ref (l : List Tab) (hl : ∀ t ∈ l, TabOK t t.n.toNat) (R : Bool) (hR : R = true ↔ ∀ f, f < 16 → Reach l f) : CallOK Try.prog 30 [.list (l.map tab)] [] (.bool R) [] := by
  refine op30 ?_
  (((try simp (implicitDefEqProofs := false)); (try simp (implicitDefEqProofs := false) (disch := first | assumption | (try simp only [lens]); omega -splitDisjunctions))); all_goals try (repeat' ((first | ((with_reducible first | refine And.intro ?_ ?_ | refine Exists.intro ?_ ?_); first | omega | (simp <;> omega)) | (with_reducible refine spl (And.intro ?_ ?_) <;> intro _)) <;> ((try simp (implicitDefEqProofs := false)); (try simp (implicitDefEqProofs := false) (disch := first | assumption | (try simp only [lens]); omega -splitDisjunctions))))))
  refine W_of fun Q hQ => ?_
  have fin : ∀ I : List Bool, I.length = 16 → (∀ x, x < 16 → (gB I x = true ↔ Reach l x)) → Q [(0, .list (l.map tab)), (3, .ptr 0 0 0), (4, .bool false)] [.rows 16 [I.map .bool]] := by
    intro I hI hx
    apply hQ
    clear hQ
    (((try simp (implicitDefEqProofs := false) [fm_bools]); (try simp (implicitDefEqProofs := false) (disch := first | assumption | (try simp only [lens]); omega -splitDisjunctions) [fm_bools])); all_goals try (repeat' ((first | ((with_reducible first | refine And.intro ?_ ?_ | refine Exists.intro ?_ ?_); first | omega | (simp <;> omega)) | (with_reducible refine spl (And.intro ?_ ?_) <;> intro _)) <;> ((try simp (implicitDefEqProofs := false) [fm_bools]); (try simp (implicitDefEqProofs := false) (disch := first | assumption | (try simp only [lens]); omega -splitDisjunctions) [fm_bools])))))
    refine W_of fun Q8 hQ8 => ?_
    have main8 : ∀ r k, k + r = 16 → (∀ j, j < k → gB I j = true) → Q8 [(3, .ptr 0 0 0), (11, .int .i64 (k : Int))] [.rows 16 [I.map .bool]] := by
      intro r
      induction r with
      | zero =>
        intro k hk ha
        obtain rfl : k = 16 := by omega
        have : R = true := hR.2 fun f hf => (hx f hf).1 (ha f hf)
        subst this
        apply hQ8
        clear hQ8
        (((try simp (implicitDefEqProofs := false)); (try simp (implicitDefEqProofs := false) (disch := first | assumption | (try simp only [lens]); omega -splitDisjunctions))); all_goals try (repeat' ((first | ((with_reducible first | refine And.intro ?_ ?_ | refine Exists.intro ?_ ?_); first | omega | (simp <;> omega)) | (with_reducible refine spl (And.intro ?_ ?_) <;> intro _)) <;> ((try simp (implicitDefEqProofs := false)); (try simp (implicitDefEqProofs := false) (disch := first | assumption | (try simp only [lens]); omega -splitDisjunctions))))))
      | succ r ih =>
        intro k hk ha
        have ih := ih (k + 1) (by omega)
        have hkI : k < I.length := by omega
        have hk16 : k < 16 := by omega
        have hg := gB_eq hkI
        apply hQ8
        clear hQ8
        cases hb : gB I k with
        | true =>
          rw [hb] at hg
          have ih := ih fun j hj => by
            by_cases e : j = k
            · subst e; exact hb
            · exact ha j (by omega)
          (((try simp (implicitDefEqProofs := false) [hk16, hI, hg]); (try simp (implicitDefEqProofs := false) (disch := first | assumption | (try simp only [lens]); omega -splitDisjunctions) [hk16, hI, hg])); all_goals try (repeat' ((first | ((with_reducible first | refine And.intro ?_ ?_ | refine Exists.intro ?_ ?_); first | omega | (simp <;> omega)) | (with_reducible refine spl (And.intro ?_ ?_) <;> intro _)) <;> ((try simp (implicitDefEqProofs := false) [hk16, hI, hg]); (try simp (implicitDefEqProofs := false) (disch := first | assumption | (try simp only [lens]); omega -splitDisjunctions) [hk16, hI, hg])))))
          all_goals (all_goals first | exact ih | (refine at2 ih ?_ ?_ <;> simp; done) | (exfalso; first | omega | (simp_all; done) | (simp_all; omega)))
        | false =>
          rw [hb] at hg
          have : R = false := by
            cases R with
            | false => rfl
            | true => have := (hx k hk16).2 (hR.1 rfl k hk16); rw [hb] at this; cases this
          subst this
          (((try simp (implicitDefEqProofs := false) [hk16, hI, hg]); (try simp (implicitDefEqProofs := false) (disch := first | assumption | (try simp only [lens]); omega -splitDisjunctions) [hk16, hI, hg])); all_goals try (repeat' ((first | ((with_reducible first | refine And.intro ?_ ?_ | refine Exists.intro ?_ ?_); first | omega | (simp <;> omega)) | (with_reducible refine spl (And.intro ?_ ?_) <;> intro _)) <;> ((try simp (implicitDefEqProofs := false) [hk16, hI, hg]); (try simp (implicitDefEqProofs := false) (disch := first | assumption | (try simp only [lens]); omega -splitDisjunctions) [hk16, hI, hg])))))
    all_goals first | exact main8 16 0 rfl (fun j hj => by omega) | (refine at2 main8 16 0 rfl (fun j hj => by omega) ?_ ?_ <;> simp; done) | (exfalso; first | omega | (simp_all; done) | (simp_all; omega))
  have main : ∀ d (I0 : List Bool), cntF I0 < d → I0.length = 16 → (∀ x, gB I0 x = true → Reach l x) → gB I0 10 = true → gB I0 12 = true → Q [(0, .list (l.map tab)), (3, .ptr 0 0 0), (4, .bool true)] [.rows 16 [I0.map .bool]] := by
    intro d
    induction d with
    | zero => intro I0 h; omega
    | succ d ih =>
      intro I0 hd h16 hs h10 h12
      have hI0 : Iv l I0 I0 false := ⟨h16, hs, h10, h12, fun e => by (cases e), fun _ => rfl⟩
      apply hQ
      clear hQ
      (((try simp (implicitDefEqProofs := false) [fm_bools]); (try simp (implicitDefEqProofs := false) (disch := first | assumption | (try simp only [lens]); omega -splitDisjunctions) [fm_bools])); all_goals try (repeat' ((first | ((with_reducible first | refine And.intro ?_ ?_ | refine Exists.intro ?_ ?_); first | omega | (simp <;> omega)) | (with_reducible refine spl (And.intro ?_ ?_) <;> intro _)) <;> ((try simp (implicitDefEqProofs := false) [fm_bools]); (try simp (implicitDefEqProofs := false) (disch := first | assumption | (try simp only [lens]); omega -splitDisjunctions) [fm_bools])))))
      refine W_of fun Q2 hQ2 => ?_
      have main2 : ∀ r i I again, i + r = l.length → Iv l I0 I again → (again = false → ∀ t ∈ l.take i, clT t I) → Q2 [(0, .list (l.map tab)), (3, .ptr 0 0 0), (4, .bool again), (5, .int .i64 (i : Int))] [.rows 16 [I.map .bool]] := by
        intro r
        induction r with
        | zero =>
          intro i I again hi hv hc
          obtain rfl : i = l.length := by omega
          rw [List.take_length] at hc
          have key : Q [(0, .list (l.map tab)), (3, .ptr 0 0 0), (4, .bool again)] [.rows 16 [I.map .bool]] := by
            cases again with
            | true => exact ih I (by have := hv.cnt rfl; omega) hv.len hv.snd hv.ten hv.twe
            | false => exact fin I hv.len fun x hx => ⟨hv.snd x, hv.done (hc rfl) x⟩
          apply hQ2
          clear hQ2
          (((try simp (implicitDefEqProofs := false) [fm_bools]); (try simp (implicitDefEqProofs := false) (disch := first | assumption | (try simp only [lens]); omega -splitDisjunctions) [fm_bools])); all_goals try (repeat' ((first | ((with_reducible first | refine And.intro ?_ ?_ | refine Exists.intro ?_ ?_); first | omega | (simp <;> omega)) | (with_reducible refine spl (And.intro ?_ ?_) <;> intro _)) <;> ((try simp (implicitDefEqProofs := false) [fm_bools]); (try simp (implicitDefEqProofs := false) (disch := first | assumption | (try simp only [lens]); omega -splitDisjunctions) [fm_bools])))))
          all_goals first | exact key | (refine at2 key ?_ ?_ <;> simp; done) | (exfalso; first | omega | (simp_all; done) | (simp_all; omega))
        | succ r ih2 =>
          intro i I again hi hv hc
          have ih2 := fun I again => ih2 (i + 1) I again (by omega)
          have hil : i < l.length := by omega
          have htk := take_snoc hil
          rw [htk] at ih2
          have htl : l[i] ∈ l := List.getElem_mem hil
          have hti := hl _ htl
          generalize hn : l[i].n.toNat = n at *
          have hli : l[i].n = (n : Int) := hti.n_eq
          have hn4 := hti.le
          apply hQ2
          clear hQ2
          (((try simp (implicitDefEqProofs := false) [hil, hli, fm_bools]); (try simp (implicitDefEqProofs := false) (disch := first | assumption | (try simp only [lens]); omega -splitDisjunctions) [hil, hli, fm_bools])); all_goals try (repeat' ((first | ((with_reducible first | refine And.intro ?_ ?_ | refine Exists.intro ?_ ?_); first | omega | (simp <;> omega)) | (with_reducible refine spl (And.intro ?_ ?_) <;> intro _)) <;> ((try simp (implicitDefEqProofs := false) [hil, hli, fm_bools]); (try simp (implicitDefEqProofs := false) (disch := first | assumption | (try simp only [lens]); omega -splitDisjunctions) [hil, hli, fm_bools])))))
          refine W_of fun Q4 hQ4 => ?_
          have hsh : shlI .i64 1 (4 * (n : Int)) = ((2 ^ (4 * n) : Nat) : Int) := by rw [← shl_nat (4 * n) (by omega)]; congr 1
          have h4z : ¬ (4 * (n : Int) < 0) := by omega
          have hK : 2 ^ (4 * n) ≤ 2 ^ 16 := Nat.pow_le_pow_right (by decide) (by omega)
          have hcl : ∀ I, (∀ k, k < 2 ^ (4 * n) → clK l[i] I k) → clT l[i] I := fun I h k hk => h k (by rw [hn] at hk; exact hk)
          have hput := fun k (L : List Int) h1 h2 => put_ref l[i] n hti L (dig k) h1 h2 fun j _ => dig_lt _ _
          have hiv := fun I again (h : Iv l I0 I again) => @Iv.put l I0 I again h l[i] htl
          unfold clK at hcl
          simp only [hn] at hiv hcl
          generalize 2 ^ (4 * n) = K at *
          generalize hT : l[i] = T at *
          have htab : tab T = [.int .i64 (n : Int), .list (T.bits.map boolRow)] := by simp [tab, hli]
          simp only [htab] at hput
          have main4 : ∀ r k I again (L : List Int), k + r = K → L.length = n → Iv l I0 I again → (again = false → ∀ t ∈ l.take i, clT t I) → (again = false → ∀ k', k' < k → (∀ j, j < n → gB I (dig k' j) = true) → gB I (putB T.bits n (dig k')) = true) → Q4 [(0, .list (l.map tab)), (3, .ptr 0 0 0), (4, .bool again), (5, .int .i64 (i : Int)), (6, .sl 1 0 n), (7, .int .i64 (k : Int))] [.rows 16 [I.map .bool], .rows 1 (L.map intRow)] := by
            intro r
            induction r with
            | zero =>
              intro k I again L hk hL hv hc hd
              obtain rfl : k = K := by omega
              have ih2 := ih2 I again hv fun e t ht => by
                rw [List.mem_append, List.mem_singleton] at ht
                rcases ht with ht | rfl
                · exact hc e t ht
                · exact hcl I (hd e)
              apply hQ4
              clear hQ4
              (((try simp (implicitDefEqProofs := false) [hil, hli, hT, hsh, h4z]); (try simp (implicitDefEqProofs := false) (disch := first | assumption | (try simp only [lens]); omega -splitDisjunctions) [hil, hli, hT, hsh, h4z])); all_goals try (repeat' ((first | ((with_reducible first | refine And.intro ?_ ?_ | refine Exists.intro ?_ ?_); first | omega | (simp <;> omega)) | (with_reducible refine spl (And.intro ?_ ?_) <;> intro _)) <;> ((try simp (implicitDefEqProofs := false) [hil, hli, hT, hsh, h4z]); (try simp (implicitDefEqProofs := false) (disch := first | assumption | (try simp only [lens]); omega -splitDisjunctions) [hil, hli, hT, hsh, h4z])))))
              all_goals first | exact ih2 | (refine at2 ih2 ?_ ?_ <;> simp; done) | (exfalso; first | omega | (simp_all; done) | (simp_all; omega))
            | succ r ih4 =>
              intro k I again L hk hL hv hc hd
              have ih4 := fun I again L => ih4 (k + 1) I again L (by omega)
              have hkK : k < K := by omega
              apply hQ4
              clear hQ4
              (((try simp (implicitDefEqProofs := false) [hil, hli, hT, hsh, h4z, hkK]); (try simp (implicitDefEqProofs := false) (disch := first | assumption | (try simp only [lens]); omega -splitDisjunctions) [hil, hli, hT, hsh, h4z, hkK])); all_goals try (repeat' ((first | ((with_reducible first | refine And.intro ?_ ?_ | refine Exists.intro ?_ ?_); first | omega | (simp <;> omega)) | (with_reducible refine spl (And.intro ?_ ?_) <;> intro _)) <;> ((try simp (implicitDefEqProofs := false) [hil, hli, hT, hsh, h4z, hkK]); (try simp (implicitDefEqProofs := false) (disch := first | assumption | (try simp only [lens]); omega -splitDisjunctions) [hil, hli, hT, hsh, h4z, hkK])))))
              refine W_of fun Q6 hQ6 => ?_
              have main6 : ∀ r j (L : List Int) (fine : Bool), j + r = n → L.length = n → (fine = true ↔ ∀ j', j' < j → gB I (dig k j') = true) → (∀ j' (h : j' < L.length), j' < j → L[j'] = (dig k j' : Int)) → Q6 [(0, .list (l.map tab)), (3, .ptr 0 0 0), (4, .bool again), (5, .int .i64 (i : Int)), (6, .sl 1 0 n), (7, .int .i64 (k : Int)), (8, .bool fine), (9, .int .i64 (j : Int))] [.rows 16 [I.map .bool], .rows 1 (L.map intRow)] := by
                intro r
                induction r with
                | zero =>
                  intro j L fine hj hL hf hLd
                  obtain rfl : j = n := by omega
                  have htk2 : List.take j (L.map intRow) = L.map intRow := List.take_of_length_le (by rw [List.length_map]; omega)
                  have hpt := hput k L hL fun j' h => hLd j' h (by omega)
                  have hI16 := hv.len
                  have hplt : putB T.bits j (dig k) < I.length := by rw [hI16]; exact put_lt _ _ _
                  have hp16 := put_lt T.bits j (dig k)
                  have hgp := gB_eq hplt
                  have hset : List.take (putB T.bits j (dig k)) (I.map PV.bool) ++ PV.bool true :: List.drop (putB T.bits j (dig k) + 1) (I.map PV.bool) = (I.map PV.bool).set (putB T.bits j (dig k)) (.bool true) := by rw [List.set_eq_take_append_cons_drop, if_pos (by rw [List.length_map]; exact hplt)]
                  cases fine with
                  | false =>
                    have ih4 := ih4 I again L hL hv hc fun e k' hk' h => by
                      by_cases e2 : k' = k
                      · subst e2; have := hf.2 h; cases this
                      · exact hd e k' (by omega) h
                    apply hQ6
                    clear hQ6
                    (((try simp (implicitDefEqProofs := false) [hil, hli, hT]); (try simp (implicitDefEqProofs := false) (disch := first | assumption | (try simp only [lens]); omega -splitDisjunctions) [hil, hli, hT])); all_goals try (repeat' ((first | ((with_reducible first | refine And.intro ?_ ?_ | refine Exists.intro ?_ ?_); first | omega | (simp <;> omega)) | (with_reducible refine spl (And.intro ?_ ?_) <;> intro _)) <;> ((try simp (implicitDefEqProofs := false) [hil, hli, hT]); (try simp (implicitDefEqProofs := false) (disch := first | assumption | (try simp only [lens]); omega -splitDisjunctions) [hil, hli, hT])))))
                    all_goals first | exact ih4 | (refine at2 ih4 ?_ ?_ <;> simp; done) | (exfalso; first | omega | (simp_all; done) | (simp_all; omega))
                  | true =>
                    have hfa := hf.1 rfl
                    cases hb : gB I (putB T.bits j (dig k)) with
                    | true =>
                      have ih4 := ih4 I again L hL hv hc fun e k' hk' h => by
                        by_cases e2 : k' = k
                        · subst e2; exact hb
                        · exact hd e k' (by omega) h
                      rw [hb] at hgp
                      generalize putB T.bits j (dig k) = p at *
                      apply hQ6
                      clear hQ6
                      (((try simp (implicitDefEqProofs := false) [hil, hli, hT]); (try simp (implicitDefEqProofs := false) (disch := first | assumption | (try simp only [lens]); omega -splitDisjunctions) [hil, hli, hT])); all_goals try (repeat' ((first | ((with_reducible first | refine And.intro ?_ ?_ | refine Exists.intro ?_ ?_); first | omega | (simp <;> omega)) | (with_reducible refine spl (And.intro ?_ ?_) <;> intro _)) <;> ((try simp (implicitDefEqProofs := false) [hil, hli, hT]); (try simp (implicitDefEqProofs := false) (disch := first | assumption | (try simp only [lens]); omega -splitDisjunctions) [hil, hli, hT])))))
                      (first | refine CL.see (hpt) (by simp [hL, htk2]) (by simp [flats]) ?_ | refine CD.see (hpt) (by simp [hL, htk2]) (by simp [flats]) ?_ | refine CM.see (hpt) (fun _ => by simp [hL, htk2]) (by simp [flats]) ?_)
                      (((try simp (implicitDefEqProofs := false) [hI16, hp16, hgp]); (try simp (implicitDefEqProofs := false) (disch := first | assumption | (try simp only [lens]); omega -splitDisjunctions) [hI16, hp16, hgp])); all_goals try (repeat' ((first | ((with_reducible first | refine And.intro ?_ ?_ | refine Exists.intro ?_ ?_); first | omega | (simp <;> omega)) | (with_reducible refine spl (And.intro ?_ ?_) <;> intro _)) <;> ((try simp (implicitDefEqProofs := false) [hI16, hp16, hgp]); (try simp (implicitDefEqProofs := false) (disch := first | assumption | (try simp only [lens]); omega -splitDisjunctions) [hI16, hp16, hgp])))))
                      all_goals first | exact ih4 | (refine at2 ih4 ?_ ?_ <;> simp; done) | (exfalso; first | omega | (simp_all; done) | (simp_all; omega))
                    | false =>
                      have ih4 := ih4 _ true L hL (hiv I again hv hfa hb) (fun e => by cases e) (fun e => by cases e)
                      rw [List.map_set] at ih4
                      rw [hb] at hgp
                      generalize putB T.bits j (dig k) = p at *
                      apply hQ6
                      clear hQ6
                      (((try simp (implicitDefEqProofs := false) [hil, hli, hT]); (try simp (implicitDefEqProofs := false) (disch := first | assumption | (try simp only [lens]); omega -splitDisjunctions) [hil, hli, hT])); all_goals try (repeat' ((first | ((with_reducible first | refine And.intro ?_ ?_ | refine Exists.intro ?_ ?_); first | omega | (simp <;> omega)) | (with_reducible refine spl (And.intro ?_ ?_) <;> intro _)) <;> ((try simp (implicitDefEqProofs := false) [hil, hli, hT]); (try simp (implicitDefEqProofs := false) (disch := first | assumption | (try simp only [lens]); omega -splitDisjunctions) [hil, hli, hT])))))
                      (first | refine CL.see (hpt) (by simp [hL, htk2]) (by simp [flats]) ?_ | refine CD.see (hpt) (by simp [hL, htk2]) (by simp [flats]) ?_ | refine CM.see (hpt) (fun _ => by simp [hL, htk2]) (by simp [flats]) ?_)
                      (((try simp (implicitDefEqProofs := false) [hI16, hp16, hgp, hset]); (try simp (implicitDefEqProofs := false) (disch := first | assumption | (try simp only [lens]); omega -splitDisjunctions) [hI16, hp16, hgp, hset])); all_goals try (repeat' ((first | ((with_reducible first | refine And.intro ?_ ?_ | refine Exists.intro ?_ ?_); first | omega | (simp <;> omega)) | (with_reducible refine spl (And.intro ?_ ?_) <;> intro _)) <;> ((try simp (implicitDefEqProofs := false) [hI16, hp16, hgp, hset]); (try simp (implicitDefEqProofs := false) (disch := first | assumption | (try simp only [lens]); omega -splitDisjunctions) [hI16, hp16, hgp, hset])))))
                      all_goals first | exact ih4 | (refine at2 ih4 ?_ ?_ <;> simp; done) | (exfalso; first | omega | (simp_all; done) | (simp_all; omega))
                | succ r ih6 =>
                  intro j L fine hj hL hf hLd
                  have hjn : j < n := by omega
                  have hjL : j < L.length := by omega
                  have ih6 := fun L fine => ih6 (j + 1) L fine (by omega)
                  have hsr : andI .i64 (shrI .i64 (k : Int) (4 * (j : Int))) 15 = (dig k j : Int) := by
                    have e1 : (4 * (j : Int)) = ((4 * j : Nat) : Int) := by omega
                    have hle : k / 2 ^ (4 * j) ≤ k := Nat.div_le_self _ _
                    rw [e1, shr_nat k (4 * j) (by omega), show (15 : Int) = ((15 : Nat) : Int) from rfl, and_nat _ _ (by omega) (by omega), show (15 : Nat) = 2 ^ 4 - 1 from rfl, Nat.and_two_pow_sub_one_eq_mod]
                    rfl
                  have h4j : ¬ (4 * (j : Int) < 0) := by omega
                  have hI16 := hv.len
                  have hd16 := dig_lt k j
                  have hdI : dig k j < I.length := by omega
                  have hgd := gB_eq hdI
                  have hset : (L.map intRow).set j [.int .i64 (dig k j : Int)] = (L.set j (dig k j : Int)).map intRow := by rw [List.map_set]; rfl
                  have ih6 := fun fine hf => ih6 (L.set j (dig k j : Int)) fine (by rw [List.length_set, hL]) hf fun j' h hj' => by
                    rw [List.getElem_set]
                    split
                    · rename_i e; subst e; rfl
                    · exact hLd j' (by rw [List.length_set] at h; exact h) (by omega)
                  have hall : (∀ j', j' < j + 1 → gB I (dig k j') = true) ↔ (∀ j', j' < j → gB I (dig k j') = true) ∧ gB I (dig k j) = true := ⟨fun h => ⟨fun j' hj' => h j' (by omega), h j (by omega)⟩, fun h j' hj' => by
                    by_cases e : j' = j
                    · subst e; exact h.2
                    · exact h.1 j' (by omega)⟩
                  rw [hall, ← hf] at ih6
                  obtain ⟨L2, e2⟩ : ∃ L2, L.set j (dig k j : Int) = L2 := ⟨_, rfl⟩
                  rw [e2] at hset ih6
                  have hL2 : L2.length = n := by rw [← e2, List.length_set, hL]
                  have hLj : L2[j]'(by omega) = (dig k j : Int) := by subst e2; exact List.getElem_set_self ..
                  clear e2
                  apply hQ6
                  clear hQ6 hf hLd hall
                  cases fine with
                  | false =>
                    have ih7 := ih6 false (by simp)
                    clear ih6
                    generalize dig k j = d at *
                    (((try simp (implicitDefEqProofs := false) [hil, hT, hli, hjn, hjL, hsr, h4j, hL, hset, hI16, hd16, hL2, hLj]); (try simp (implicitDefEqProofs := false) (disch := first | assumption | (try simp only [lens]); omega -splitDisjunctions) [hil, hT, hli, hjn, hjL, hsr, h4j, hL, hset, hI16, hd16, hL2, hLj])); all_goals try (repeat' ((first | ((with_reducible first | refine And.intro ?_ ?_ | refine Exists.intro ?_ ?_); first | omega | (simp <;> omega)) | (with_reducible refine spl (And.intro ?_ ?_) <;> intro _)) <;> ((try simp (implicitDefEqProofs := false) [hil, hT, hli, hjn, hjL, hsr, h4j, hL, hset, hI16, hd16, hL2, hLj]); (try simp (implicitDefEqProofs := false) (disch := first | assumption | (try simp only [lens]); omega -splitDisjunctions) [hil, hT, hli, hjn, hjL, hsr, h4j, hL, hset, hI16, hd16, hL2, hLj])))))
                    all_goals first | exact ih7 | (refine at2 ih7 ?_ ?_ <;> simp; done) | (exfalso; first | omega | (simp_all; done) | (simp_all; omega))
                  | true =>
                    have ih7 := ih6 (gB I (dig k j)) (by simp)
                    clear ih6
                    generalize gB I (dig k j) = b at *
                    generalize dig k j = d at *
                    (((try simp (implicitDefEqProofs := false) [hil, hT, hli, hjn, hjL, hsr, h4j, hL, hset, hI16, hd16, hL2, hLj, hgd]); (try simp (implicitDefEqProofs := false) (disch := first | assumption | (try simp only [lens]); omega -splitDisjunctions) [hil, hT, hli, hjn, hjL, hsr, h4j, hL, hset, hI16, hd16, hL2, hLj, hgd])); all_goals try (repeat' ((first | ((with_reducible first | refine And.intro ?_ ?_ | refine Exists.intro ?_ ?_); first | omega | (simp <;> omega)) | (with_reducible refine spl (And.intro ?_ ?_) <;> intro _)) <;> ((try simp (implicitDefEqProofs := false) [hil, hT, hli, hjn, hjL, hsr, h4j, hL, hset, hI16, hd16, hL2, hLj, hgd]); (try simp (implicitDefEqProofs := false) (disch := first | assumption | (try simp only [lens]); omega -splitDisjunctions) [hil, hT, hli, hjn, hjL, hsr, h4j, hL, hset, hI16, hd16, hL2, hLj, hgd])))))
                    all_goals first | exact ih7 | (refine at2 ih7 ?_ ?_ <;> simp; done) | (exfalso; first | omega | (simp_all; done) | (simp_all; omega))
              all_goals first | exact main6 n 0 L true (Nat.zero_add _) hL (by simp) (fun j' h h0 => by omega) | (refine at2 main6 n 0 L true (Nat.zero_add _) hL (by simp) (fun j' h h0 => by omega) ?_ ?_ <;> simp; done) | (exfalso; first | omega | (simp_all; done) | (simp_all; omega))
          have m4 := main4 K 0 I again (List.replicate n 0) (Nat.zero_add _) (by simp) hv hc (fun _ k' hk' => by omega)
          rw [show (List.replicate n (0 : Int)).map intRow = List.replicate n [PV.int .i64 0] by rw [List.map_replicate]; rfl] at m4
          all_goals first | exact m4 | (refine at2 m4 ?_ ?_ <;> simp; done) | (exfalso; first | omega | (simp_all; done) | (simp_all; omega))
      all_goals first | exact main2 _ 0 I0 false (Nat.zero_add _) hI0 (fun _ t ht => by simp at ht) | (refine at2 main2 _ 0 I0 false (Nat.zero_add _) hI0 (fun _ t ht => by simp at ht) ?_ ?_ <;> simp; done) | (exfalso; first | omega | (simp_all; done) | (simp_all; omega))
  have h0 := main (cntF [false, false, false, false, false, false, false, false, false, false, true, false, true, false, false, false] + 1) [false, false, false, false, false, false, false, false, false, false, true, false, true, false, false, false] (by omega) rfl (fun x hx => by
    have hxl := gB_lt hx
    simp only [List.length_cons, List.length_nil] at hxl
    have : x = 10 ∨ x = 12 := by
      have : x = 0 ∨ x = 1 ∨ x = 2 ∨ x = 3 ∨ x = 4 ∨ x = 5 ∨ x = 6 ∨ x = 7 ∨ x = 8 ∨ x = 9 ∨ x = 10 ∨ x = 11 ∨ x = 12 ∨ x = 13 ∨ x = 14 ∨ x = 15 := by omega
      rcases this with rfl | rfl | rfl | rfl | rfl | rfl | rfl | rfl | rfl | rfl | rfl | rfl | rfl | rfl | rfl | rfl
      all_goals first | (exact .inl rfl) | (exact .inr rfl) | (cases hx)
    rcases this with rfl | rfl
    · exact fun S hS => hS.x
    · exact fun S hS => hS.y) rfl rfl
  all_goals first | exact h0 | (refine at2 h0 ?_ ?_ <;> simp; done) | (exfalso; first | omega | (simp_all; done) | (simp_all; omega))
end Go.Proofs.Ytbmpmmbcfabeeaa
