/-
  sequentref: Texts, Row. sequentlaw: ownModel, sameModel.
-/
import Derived.Test.YtnoklmapofogeaaZQTn
namespace Go.Proofs.Ytnoklmapofogeaa
open Go Go.Pv
set_option linter.unusedVariables false
set_option linter.unusedSimpArgs false
set_option maxRecDepth 100000
set_option maxHeartbeats 4000000

/-- the names whose bits are set -/
def rowL : List ByteArray → Nat → List ByteArray
  | [], _ => []
  | x :: r, k => if k % 2 = 1 then x :: rowL r (k / 2) else rowL r (k / 2)
def x43_T1 : XC := .seq (.reg [⟨some 25,.move (.tmp 5),none⟩,⟨some 4,.assign (.tmp 25),none⟩]) (.ret)
def x43_L0 : XC := .seq (.seq (.reg [⟨some 7,.move (.tmp 6),none⟩,⟨some 8,.move (.tmp 0),none⟩,⟨some 9,.call ⟨.builtin .len,#[.tmp 8],#[35]⟩,none⟩,⟨some 10,.binOp .lss 3 (.tmp 7) (.tmp 9) 3,none⟩]) (.cond (.tmp 10) (.skip) (.exit 0))) (.seq (.block 1 (.seq (.seq (.reg [⟨some 13,.move (.tmp 1),none⟩,⟨some 14,.binOp .rem 3 (.tmp 13) (.const (.int .i64 2)) 3,none⟩,⟨some 15,.binOp .eql 3 (.tmp 14) (.const (.int .i64 1)) 3,none⟩]) (.cond (.tmp 15) (.reg [⟨some 16,.move (.tmp 5),none⟩,⟨some 17,.move (.tmp 0),none⟩,⟨some 18,.move (.tmp 6),none⟩,⟨some 19,.indexAddr 35 (.tmp 17) (.tmp 18),none⟩,⟨some 20,.load 9 (.tmp 19),none⟩,⟨some 21,.buildSlice 35 1 #[(0,.tmp 20)],none⟩,⟨some 22,.call ⟨.builtin .append,#[.tmp 16,.tmp 21],#[35,35]⟩,none⟩,⟨some 5,.assign (.tmp 22),none⟩]) (.skip))) (.reg [⟨some 23,.move (.tmp 1),none⟩,⟨some 24,.binOp .quo 3 (.tmp 23) (.const (.int .i64 2)) 3,none⟩,⟨some 1,.assign (.tmp 24),none⟩]))) (.reg [⟨some 11,.move (.tmp 6),none⟩,⟨some 12,.binOp .add 3 (.tmp 11) (.const (.int .i64 1)) 3,none⟩,⟨some 6,.assign (.tmp 12),none⟩]))
def x43 : XC := .seq (.reg [⟨some 4,.assign (.const (.slice none 0 0)),none⟩]) (.seq (.reg [⟨some 5,.assign (.const (.slice none 0 0)),none⟩]) (.seq (.seq (.reg [⟨some 6,.assign (.const (.int .i64 0)),none⟩]) (.bloop 0 x43_L0)) (x43_T1)))
@[simp] theorem x43_s {C : WC} {e : AE} {s : Store} {K : KS} : type_of% (@X_at C e s K _ _ x43_T1.eq_1) ∧ type_of% (@X_at C e s K _ _ x43_L0.eq_1) ∧ type_of% (@X_at C e s K _ _ x43.eq_1) := ⟨X_at x43_T1.eq_1, X_at x43_L0.eq_1, X_at x43.eq_1⟩
def an43 : Ann := ⟨[], [(0, [(5, none, 1)], [0, 1, 5, 6], [5])], []⟩
def cx43 (P : Program) (m : Nat) : WC := ⟨P, m, an43⟩
@[simp] theorem cx43_a {P : Program} {m : Nat} : (cx43 P m).P = P ∧ (cx43 P m).m = m ∧ (cx43 P m).A.loopOf 0 = ([(5, none, 1)], [0, 1, 5, 6], [5]) := ⟨rfl, rfl, rfl⟩
instance {P : Program} {m f : Nat} [h : EnT P f] : EnT (cx43 P m).P f := h
theorem chk43 : ∀ c, Try.f43.body = some c → chkC Try.f43.ntmps an43 c = true := by intro c h; obtain rfl := Option.some.inj h; decide +kernel
theorem os43 {args : List PV} {v : PV} (h : X (cx43 Try.prog 0) x43 (argsA 0 args) [] (.fin [.tmp 4] fun v1 s1 => softV (deref s1 6 v1) = v)) (hl : args.length ≤ Try.f43.ntmps := by rw [Try.ntmps43]; simp) : CallOK Try.prog 43 args [] v [] :=
  callXF (m := 0) (cx43 Try.prog 0) x43 rfl rfl (by kernel_rfl) Try.func43 rfl rfl hl mixed (chk43 _ rfl) (by rw [Try.results43]; exact h)

theorem Row_ref (ns : List ByteArray) (hns : ns.length ≤ 1000) (k : Nat) (hk : k < 1048576) : CallOK Try.prog 43 [.list (ns.map strRow), .int .i64 (k : Int)] [] (.list ((rowL ns k).map strRow)) [] := by
  generalize hR : rowL ns k = R
  refine os43 ?_
  (((try simp (implicitDefEqProofs := false)); (try simp (implicitDefEqProofs := false) (disch := first | assumption | (try simp only [lens]); omega -splitDisjunctions))); all_goals try (repeat' ((first | ((with_reducible first | refine And.intro ?_ ?_ | refine Exists.intro ?_ ?_); first | omega | (simp <;> omega)) | (with_reducible refine spl (And.intro ?_ ?_) <;> intro _)) <;> ((try simp (implicitDefEqProofs := false)); (try simp (implicitDefEqProofs := false) (disch := first | assumption | (try simp only [lens]); omega -splitDisjunctions))))))
  refine W_of fun Q hQ => ?_
  have main : ∀ r i k acc, i + r = ns.length → k < 1048576 → acc.length ≤ i → acc ++ rowL (ns.drop i) k = R → Q [(0, .list (ns.map strRow)), (1, .int .i64 (k : Int)), (5, .sl 0 0 acc.length), (6, .int .i64 (i : Int))] [.rows 1 (acc.map strRow)] := by
    intro r
    induction r with
    | zero =>
      intro i k acc hi hk hai hb
      rw [List.drop_of_length_le (by omega), rowL, List.append_nil] at hb
      apply hQ
      rw [hb]
      (((try simp (implicitDefEqProofs := false)); (try simp (implicitDefEqProofs := false) (disch := first | assumption | (try simp only [lens]); omega -splitDisjunctions))); all_goals try (repeat' ((first | ((with_reducible first | refine And.intro ?_ ?_ | refine Exists.intro ?_ ?_); first | omega | (simp <;> omega)) | (with_reducible refine spl (And.intro ?_ ?_) <;> intro _)) <;> ((try simp (implicitDefEqProofs := false)); (try simp (implicitDefEqProofs := false) (disch := first | assumption | (try simp only [lens]); omega -splitDisjunctions))))))
    | succ r ih =>
      intro i k acc hi hk hai hb
      have hin : i < ns.length := by omega
      rw [List.drop_eq_getElem_cons hin, rowL] at hb
      apply hQ
      clear hQ
      have h2 := Nat.mod_two_eq_zero_or_one k
      rcases h2 with h2 | h2
      · rw [if_neg (by omega)] at hb
        have ih := ih (i + 1) (k / 2) acc (by omega) (by omega) (by omega) hb
        have h2i : (k : Int) % 2 = 0 := by omega
        have h2t : (k : Int).tmod 2 = 0 := by rw [Int.tmod_eq_emod_of_nonneg (by omega)]; exact h2i
        (((try simp (implicitDefEqProofs := false) [hin, h2i, h2t]); (try simp (implicitDefEqProofs := false) (disch := first | assumption | (try simp only [lens]); omega -splitDisjunctions) [hin, h2i, h2t])); all_goals try (repeat' ((first | ((with_reducible first | refine And.intro ?_ ?_ | refine Exists.intro ?_ ?_); first | omega | (simp <;> omega)) | (with_reducible refine spl (And.intro ?_ ?_) <;> intro _)) <;> ((try simp (implicitDefEqProofs := false) [hin, h2i, h2t]); (try simp (implicitDefEqProofs := false) (disch := first | assumption | (try simp only [lens]); omega -splitDisjunctions) [hin, h2i, h2t])))))
        all_goals first | exact ih | (refine at2 ih ?_ ?_ <;> simp; done) | (exfalso; first | omega | (simp_all; done) | (simp_all; omega))
      · rw [if_pos h2] at hb
        have ih := ih (i + 1) (k / 2) (acc ++ [ns[i]]) (by omega) (by omega) (by simp; omega) (by rw [List.append_assoc]; exact hb)
        have h2i : (k : Int) % 2 = 1 := by omega
        have h2t : (k : Int).tmod 2 = 1 := by rw [Int.tmod_eq_emod_of_nonneg (by omega)]; exact h2i
        (((try simp (implicitDefEqProofs := false) [hin, h2i, h2t]); (try simp (implicitDefEqProofs := false) (disch := first | assumption | (try simp only [lens]); omega -splitDisjunctions) [hin, h2i, h2t])); all_goals try (repeat' ((first | ((with_reducible first | refine And.intro ?_ ?_ | refine Exists.intro ?_ ?_); first | omega | (simp <;> omega)) | (with_reducible refine spl (And.intro ?_ ?_) <;> intro _)) <;> ((try simp (implicitDefEqProofs := false) [hin, h2i, h2t]); (try simp (implicitDefEqProofs := false) (disch := first | assumption | (try simp only [lens]); omega -splitDisjunctions) [hin, h2i, h2t])))))
        all_goals first | exact ih | (refine at2 ih ?_ ?_ <;> simp; done) | (exfalso; first | omega | (simp_all; done) | (simp_all; omega))
  refine at2 (main _ 0 k [] (Nat.zero_add _) hk (by simp) (by simpa using hR)) ?_ ?_ <;> simp
end Go.Proofs.Ytnoklmapofogeaa
