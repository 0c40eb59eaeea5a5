/-
  sequentref: put, InClass, told without memory.
-/
import Derived.Test.YtbmpmmbcfabeeaaTrT
namespace Go.Proofs.Ytbmpmmbcfabeeaa
open Go Go.Pv
set_option linter.unusedVariables false
set_option linter.unusedSimpArgs false
set_option maxRecDepth 100000
set_option maxHeartbeats 4000000

def outB (B : List Bool) (n : Nat) (a : Nat → Nat) : Nat → Nat
  | 0 => 0
  | r + 1 => outB B n a r + if gB B (ixOf a r n) = true then 2 ^ r else 0
theorem out_lt (B : List Bool) (n : Nat) (a : Nat → Nat) : ∀ r, outB B n a r < 2 ^ r
  | 0 => by simp [outB]
  | r + 1 => by
    have := out_lt B n a r
    rw [outB, Nat.pow_succ]
    split <;> omega
theorem out_put (B : List Bool) (n : Nat) (a : Nat → Nat) : outB B n a 4 = putB B n a := by
  unfold putB
  rw [outB, outB, outB, outB, outB, Nat.zero_add]
def x81_T3 : XC := .seq (.reg [⟨some 40,.move (.tmp 5),none⟩,⟨some 4,.assign (.tmp 40),none⟩]) (.ret)
def x81_T2 : XC := .seq (.reg [⟨some 31,.fieldAddr 48 (.tmp 2) 1,none⟩,⟨some 32,.load 46 (.tmp 31),none⟩,⟨some 33,.move (.tmp 7),none⟩,⟨some 34,.indexAddr 46 (.tmp 32) (.tmp 33),none⟩,⟨some 35,.load 4 (.tmp 34),none⟩]) (.cond (.tmp 35) (.reg [⟨some 36,.move (.tmp 5),none⟩,⟨some 37,.move (.tmp 6),none⟩,⟨some 38,.binOp .shl 3 (.const (.int .i64 1)) (.tmp 37) 3,none⟩,⟨some 39,.binOp .add 3 (.tmp 36) (.tmp 38) 3,none⟩,⟨some 5,.assign (.tmp 39),none⟩]) (.skip))
def x81_L2 : XC := .seq (.seq (.reg [⟨some 13,.move (.tmp 8),none⟩,⟨some 14,.move (.tmp 1),none⟩,⟨some 15,.call ⟨.builtin .len,#[.tmp 14],#[112]⟩,none⟩,⟨some 16,.binOp .lss 3 (.tmp 13) (.tmp 15) 3,none⟩]) (.cond (.tmp 16) (.skip) (.exit 2))) (.seq (.block 3 (.seq (.reg [⟨some 19,.move (.tmp 1),none⟩,⟨some 20,.move (.tmp 8),none⟩,⟨some 21,.indexAddr 112 (.tmp 19) (.tmp 20),none⟩,⟨some 22,.load 3 (.tmp 21),none⟩,⟨some 23,.move (.tmp 6),none⟩,⟨some 24,.binOp .shr 3 (.tmp 22) (.tmp 23) 3,none⟩,⟨some 25,.binOp .and 3 (.tmp 24) (.const (.int .i64 1)) 3,none⟩,⟨some 26,.binOp .eql 3 (.tmp 25) (.const (.int .i64 1)) 3,none⟩]) (.cond (.tmp 26) (.reg [⟨some 27,.move (.tmp 7),none⟩,⟨some 28,.move (.tmp 8),none⟩,⟨some 29,.binOp .shl 3 (.const (.int .i64 1)) (.tmp 28) 3,none⟩,⟨some 30,.binOp .add 3 (.tmp 27) (.tmp 29) 3,none⟩,⟨some 7,.assign (.tmp 30),none⟩]) (.skip)))) (.reg [⟨some 17,.move (.tmp 8),none⟩,⟨some 18,.binOp .add 3 (.tmp 17) (.const (.int .i64 1)) 3,none⟩,⟨some 8,.assign (.tmp 18),none⟩]))
def x81_L0 : XC := .seq (.seq (.reg [⟨some 9,.move (.tmp 6),none⟩,⟨some 10,.binOp .lss 3 (.tmp 9) (.const (.int .i64 4)) 3,none⟩]) (.cond (.tmp 10) (.skip) (.exit 0))) (.seq (.block 1 (.seq (.reg [⟨some 7,.assign (.const (.int .i64 0)),none⟩]) (.seq (.seq (.reg [⟨some 8,.assign (.const (.int .i64 0)),none⟩]) (.bloop 2 x81_L2)) (x81_T2)))) (.reg [⟨some 11,.move (.tmp 6),none⟩,⟨some 12,.binOp .add 3 (.tmp 11) (.const (.int .i64 1)) 3,none⟩,⟨some 6,.assign (.tmp 12),none⟩]))
def x81 : XC := .seq (.reg [⟨some 2,.box 48 (.tmp 0),none⟩,⟨some 4,.assign (.const (.int .i64 0)),none⟩]) (.seq (.reg [⟨some 5,.assign (.const (.int .i64 0)),none⟩]) (.seq (.seq (.reg [⟨some 6,.assign (.const (.int .i64 0)),none⟩]) (.bloop 0 x81_L0)) (x81_T3)))
@[simp] theorem x81_s {C : WC} {e : AE} {s : Store} {K : KS} : type_of% (@X_at C e s K _ _ x81_T3.eq_1) ∧ type_of% (@X_at C e s K _ _ x81_T2.eq_1) ∧ type_of% (@X_at C e s K _ _ x81_L2.eq_1) ∧ type_of% (@X_at C e s K _ _ x81_L0.eq_1) ∧ type_of% (@X_at C e s K _ _ x81.eq_1) := ⟨X_at x81_T3.eq_1, X_at x81_T2.eq_1, X_at x81_L2.eq_1, X_at x81_L0.eq_1, X_at x81.eq_1⟩
def an81 : Ann := ⟨[], [(2, [], [1, 2, 5, 6, 7, 8], [1, 2, 5, 6, 7]), (0, [], [1, 2, 5, 6], [5])], []⟩
def cx81 (P : Program) (m : Nat) : WC := ⟨P, m, an81⟩
@[simp] theorem cx81_a {P : Program} {m : Nat} : (cx81 P m).P = P ∧ (cx81 P m).m = m ∧ (cx81 P m).A.loopOf 2 = ([], [1, 2, 5, 6, 7, 8], [1, 2, 5, 6, 7]) ∧ (cx81 P m).A.loopOf 0 = ([], [1, 2, 5, 6], [5]) := ⟨rfl, rfl, rfl, rfl⟩
instance {P : Program} {m f : Nat} [h : EnT P f] : EnT (cx81 P m).P f := h
theorem chk81 : ∀ c, Try.f81.body = some c → chkC Try.f81.ntmps an81 c = true := by intro c h; obtain rfl := Option.some.inj h; decide +kernel
theorem op81 {args : List PV} {v : PV} (h : X (cx81 Try.prog 0) x81 (argsA 0 args) [] (.fin [.tmp 4] fun v1 s1 => deref s1 6 v1 = v)) (hl : args.length ≤ Try.f81.ntmps := by rw [Try.ntmps81]; simp) : CallOK Try.prog 81 args [] v [] :=
  callX (m := 0) (cx81 Try.prog 0) x81 rfl rfl (by kernel_rfl) Try.func81 rfl rfl hl mixed (chk81 _ rfl) (by rw [Try.results81]; exact h)

theorem put_ref (t : Tab) (n : Nat) (ht : TabOK t n) (L : List Int) (a : Nat → Nat) (hL : L.length = n) (ha : ∀ i (h : i < L.length), L[i] = (a i : Int)) (h16 : ∀ i, i < n → a i < 16) : CallOK Try.prog 81 [.agg (tab t), .list (L.map intRow)] [] (.int .i64 (putB t.bits n a : Nat)) [] := by
  obtain ⟨tn, B⟩ := t
  obtain ⟨hn, hn4, hB⟩ := ht
  simp only at hn hB ⊢
  subst hn
  have hM : 2 ^ n ≤ 2 ^ 4 := Nat.pow_le_pow_right (by decide) hn4
  rw [← out_put]
  have hol := out_lt B n a
  have ho1 : ∀ r, outB B n a (r + 1) = outB B n a r + if gB B (ixOf a r n) = true then 2 ^ r else 0 := fun r => rfl
  have ho0 : outB B n a 0 = 0 := rfl
  generalize outB B n a = o at *
  refine op81 ?_
  simp only [tab]
  (((try simp (implicitDefEqProofs := false)); (try simp (implicitDefEqProofs := false) (disch := first | assumption | (try simp only [lens]); omega -splitDisjunctions))); all_goals try (repeat' ((first | ((with_reducible first | refine And.intro ?_ ?_ | refine Exists.intro ?_ ?_); first | omega | (simp <;> omega)) | (with_reducible refine spl (And.intro ?_ ?_) <;> intro _)) <;> ((try simp (implicitDefEqProofs := false)); (try simp (implicitDefEqProofs := false) (disch := first | assumption | (try simp only [lens]); omega -splitDisjunctions))))))
  refine W_of fun Q hQ => ?_
  have main : ∀ r k, k + r = 4 → Q [(1, .list (L.map intRow)), (2, .ptr 0 0 0), (5, .int .i64 (o k : Nat)), (6, .int .i64 (k : Int))] [.rows 2 [[.int .i64 (n : Int), .list (B.map boolRow)]]] := by
    intro r
    induction r with
    | zero =>
      intro k hk
      obtain rfl : k = 4 := by omega
      apply hQ
      clear hQ
      (((try simp (implicitDefEqProofs := false)); (try simp (implicitDefEqProofs := false) (disch := first | assumption | (try simp only [lens]); omega -splitDisjunctions))); all_goals try (repeat' ((first | ((with_reducible first | refine And.intro ?_ ?_ | refine Exists.intro ?_ ?_); first | omega | (simp <;> omega)) | (with_reducible refine spl (And.intro ?_ ?_) <;> intro _)) <;> ((try simp (implicitDefEqProofs := false)); (try simp (implicitDefEqProofs := false) (disch := first | assumption | (try simp only [lens]); omega -splitDisjunctions))))))
    | succ r ih =>
      intro k hk
      have ih := ih (k + 1) (by omega)
      rw [ho1] at ih
      have hok := hol k
      have h2k : 2 ^ k ≤ 2 ^ 3 := Nat.pow_le_pow_right (by decide) (by omega)
      have hk4 : k < 4 := by omega
      apply hQ
      clear hQ
      (((try simp (implicitDefEqProofs := false) [hk4]); (try simp (implicitDefEqProofs := false) (disch := first | assumption | (try simp only [lens]); omega -splitDisjunctions) [hk4])); all_goals try (repeat' ((first | ((with_reducible first | refine And.intro ?_ ?_ | refine Exists.intro ?_ ?_); first | omega | (simp <;> omega)) | (with_reducible refine spl (And.intro ?_ ?_) <;> intro _)) <;> ((try simp (implicitDefEqProofs := false) [hk4]); (try simp (implicitDefEqProofs := false) (disch := first | assumption | (try simp only [lens]); omega -splitDisjunctions) [hk4])))))
      refine W_of fun Q2 hQ2 => ?_
      have main2 : ∀ r i, i + r = n → Q2 [(1, .list (L.map intRow)), (2, .ptr 0 0 0), (5, .int .i64 (o k : Nat)), (6, .int .i64 (k : Int)), (7, .int .i64 (ixOf a k i : Nat)), (8, .int .i64 (i : Int))] [.rows 2 [[.int .i64 (n : Int), .list (B.map boolRow)]]] := by
        intro r
        induction r with
        | zero =>
          intro i hi
          obtain rfl : i = n := by omega
          have hx := ix_lt a k i
          generalize ixOf a k i = x at *
          have hxB : x < B.length := by omega
          have hg := gB_eq hxB
          have hsh := shl_nat k (by omega)
          have hk0 : ¬ ((k : Int) < 0) := by omega
          generalize gB B x = b at *
          apply hQ2
          clear hQ2
          cases b with
          | true =>
            rw [if_pos rfl] at ih
            generalize 2 ^ k = z at *
            (((try simp (implicitDefEqProofs := false) [hL, hxB, hg, hsh, hk0]); (try simp (implicitDefEqProofs := false) (disch := first | assumption | (try simp only [lens]); omega -splitDisjunctions) [hL, hxB, hg, hsh, hk0])); all_goals try (repeat' ((first | ((with_reducible first | refine And.intro ?_ ?_ | refine Exists.intro ?_ ?_); first | omega | (simp <;> omega)) | (with_reducible refine spl (And.intro ?_ ?_) <;> intro _)) <;> ((try simp (implicitDefEqProofs := false) [hL, hxB, hg, hsh, hk0]); (try simp (implicitDefEqProofs := false) (disch := first | assumption | (try simp only [lens]); omega -splitDisjunctions) [hL, hxB, hg, hsh, hk0])))))
            all_goals first | exact ih | (refine at2 ih ?_ ?_ <;> simp; done) | (exfalso; first | omega | (simp_all; done) | (simp_all; omega))
          | false =>
            rw [if_neg (by simp), Nat.add_zero] at ih
            (((try simp (implicitDefEqProofs := false) [hL, hxB, hg]); (try simp (implicitDefEqProofs := false) (disch := first | assumption | (try simp only [lens]); omega -splitDisjunctions) [hL, hxB, hg])); all_goals try (repeat' ((first | ((with_reducible first | refine And.intro ?_ ?_ | refine Exists.intro ?_ ?_); first | omega | (simp <;> omega)) | (with_reducible refine spl (And.intro ?_ ?_) <;> intro _)) <;> ((try simp (implicitDefEqProofs := false) [hL, hxB, hg]); (try simp (implicitDefEqProofs := false) (disch := first | assumption | (try simp only [lens]); omega -splitDisjunctions) [hL, hxB, hg])))))
            all_goals first | exact ih | (refine at2 ih ?_ ?_ <;> simp; done) | (exfalso; first | omega | (simp_all; done) | (simp_all; omega))
        | succ r ih2 =>
          intro i hi
          have ih2 := ih2 (i + 1) (by omega)
          rw [ixOf] at ih2
          have hx := ix_lt a k i
          have hiL : i < L.length := by omega
          have hin : i < n := by omega
          have hLi := ha i hiL
          have hb := has_bits (a i) k (by have := h16 i hin; omega)
          have h2i : 2 ^ i ≤ 2 ^ 3 := Nat.pow_le_pow_right (by decide) (by omega)
          have hsh := shl_nat i (by omega)
          have hi0 : ¬ ((i : Int) < 0) := by omega
          have hk0 : ¬ ((k : Int) < 0) := by omega
          generalize ixOf a k i = x at *
          generalize (a i).testBit k = b at *
          apply hQ2
          clear hQ2 ih
          cases b with
          | true =>
            rw [if_pos rfl] at ih2 hb
            generalize 2 ^ i = z at *
            (((try simp (implicitDefEqProofs := false) [hL, hin, hiL, hLi, hb, hsh, hi0, hk0]); (try simp (implicitDefEqProofs := false) (disch := first | assumption | (try simp only [lens]); omega -splitDisjunctions) [hL, hin, hiL, hLi, hb, hsh, hi0, hk0])); all_goals try (repeat' ((first | ((with_reducible first | refine And.intro ?_ ?_ | refine Exists.intro ?_ ?_); first | omega | (simp <;> omega)) | (with_reducible refine spl (And.intro ?_ ?_) <;> intro _)) <;> ((try simp (implicitDefEqProofs := false) [hL, hin, hiL, hLi, hb, hsh, hi0, hk0]); (try simp (implicitDefEqProofs := false) (disch := first | assumption | (try simp only [lens]); omega -splitDisjunctions) [hL, hin, hiL, hLi, hb, hsh, hi0, hk0])))))
            all_goals first | exact ih2 | (refine at2 ih2 ?_ ?_ <;> simp; done) | (exfalso; first | omega | (simp_all; done) | (simp_all; omega))
          | false =>
            rw [if_neg (by simp)] at ih2 hb
            rw [Nat.add_zero] at ih2
            (((try simp (implicitDefEqProofs := false) [hL, hin, hiL, hLi, hb, hi0, hk0]); (try simp (implicitDefEqProofs := false) (disch := first | assumption | (try simp only [lens]); omega -splitDisjunctions) [hL, hin, hiL, hLi, hb, hi0, hk0])); all_goals try (repeat' ((first | ((with_reducible first | refine And.intro ?_ ?_ | refine Exists.intro ?_ ?_); first | omega | (simp <;> omega)) | (with_reducible refine spl (And.intro ?_ ?_) <;> intro _)) <;> ((try simp (implicitDefEqProofs := false) [hL, hin, hiL, hLi, hb, hi0, hk0]); (try simp (implicitDefEqProofs := false) (disch := first | assumption | (try simp only [lens]); omega -splitDisjunctions) [hL, hin, hiL, hLi, hb, hi0, hk0])))))
            all_goals first | exact ih2 | (refine at2 ih2 ?_ ?_ <;> simp; done) | (exfalso; first | omega | (simp_all; done) | (simp_all; omega))
      all_goals first | exact main2 _ 0 (Nat.zero_add _) | (refine at2 main2 _ 0 (Nat.zero_add _) ?_ ?_ <;> simp; done) | (exfalso; first | omega | (simp_all; done) | (simp_all; omega))
  have m0 := main 4 0 rfl
  rw [ho0] at m0
  all_goals first | exact m0 | (refine at2 m0 ?_ ?_ <;> simp; done) | (exfalso; first | omega | (simp_all; done) | (simp_all; omega))
end Go.Proofs.Ytbmpmmbcfabeeaa
