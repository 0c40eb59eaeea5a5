/-
  sequentref.HasText.
-/
import Derived.Test.YtnoklmapofogeaaZPvQt
import Derived.Test.YtnoklmapofogeaaZTPa
namespace Go.Proofs.Ytnoklmapofogeaa
open Go Go.Pv
set_option linter.unusedVariables false
set_option linter.unusedSimpArgs false
set_option maxRecDepth 100000
set_option maxHeartbeats 4000000

def x59_L0 : XC := .seq (.seq (.reg [⟨some 6,.move (.tmp 5),none⟩,⟨some 7,.move (.tmp 0),none⟩,⟨some 8,.call ⟨.builtin .len,#[.tmp 7],#[35]⟩,none⟩,⟨some 9,.binOp .lss 3 (.tmp 6) (.tmp 8) 3,none⟩]) (.cond (.tmp 9) (.skip) (.exit 0))) (.seq (.block 1 (.seq (.reg [⟨some 12,.move (.tmp 0),none⟩,⟨some 13,.move (.tmp 5),none⟩,⟨some 14,.indexAddr 35 (.tmp 12) (.tmp 13),none⟩,⟨some 15,.load 9 (.tmp 14),none⟩,⟨some 16,.move (.tmp 1),none⟩,⟨some 17,.binOp .eql 9 (.tmp 15) (.tmp 16) 9,none⟩]) (.cond (.tmp 17) (.seq (.reg [⟨some 4,.assign (.const (.bool true)),none⟩]) (.ret)) (.skip)))) (.reg [⟨some 10,.move (.tmp 5),none⟩,⟨some 11,.binOp .add 3 (.tmp 10) (.const (.int .i64 1)) 3,none⟩,⟨some 5,.assign (.tmp 11),none⟩]))
def x59 : XC := .seq (.reg [⟨some 4,.assign (.const (.bool false)),none⟩]) (.seq (.seq (.reg [⟨some 5,.assign (.const (.int .i64 0)),none⟩]) (.bloop 0 x59_L0)) (.seq (.reg [⟨some 4,.assign (.const (.bool false)),none⟩]) (.ret)))
@[simp] theorem x59_s {C : WC} {e : AE} {s : Store} {K : KS} : type_of% (@X_at C e s K _ _ x59_L0.eq_1) ∧ type_of% (@X_at C e s K _ _ x59.eq_1) := ⟨X_at x59_L0.eq_1, X_at x59.eq_1⟩
def an59 : Ann := ⟨[], [(0, [], [0, 1, 5], [4])], []⟩
def cx59 (P : Program) (m : Nat) : WC := ⟨P, m, an59⟩
@[simp] theorem cx59_a {P : Program} {m : Nat} : (cx59 P m).P = P ∧ (cx59 P m).m = m ∧ (cx59 P m).A.loopOf 0 = ([], [0, 1, 5], [4]) := ⟨rfl, rfl, rfl⟩
instance {P : Program} {m f : Nat} [h : EnT P f] : EnT (cx59 P m).P f := h
theorem chk59 : ∀ c, Try.f59.body = some c → chkC Try.f59.ntmps an59 c = true := by intro c h; obtain rfl := Option.some.inj h; decide +kernel
theorem op59 {args : List PV} {v : PV} (h : X (cx59 Try.prog 0) x59 (argsA 0 args) [] (.fin [.tmp 4] fun v1 s1 => deref s1 6 v1 = v)) (hl : args.length ≤ Try.f59.ntmps := by rw [Try.ntmps59]; simp) : CallOK Try.prog 59 args [] v [] :=
  callX (m := 0) (cx59 Try.prog 0) x59 rfl rfl (by kernel_rfl) Try.func59 rfl rfl hl mixed (chk59 _ rfl) (by rw [Try.results59]; exact h)

theorem HasText_ref (l : List ByteArray) (u : ByteArray) : CallOK Try.prog 59 [.list (l.map strRow), .str u] [] (.bool (memB u l)) [] := by
  refine op59 ?_
  (((try simp (implicitDefEqProofs := false)); (try simp (implicitDefEqProofs := false) (disch := first | assumption | (try simp only [lens]); omega -splitDisjunctions))); all_goals try (repeat' ((first | ((with_reducible first | refine And.intro ?_ ?_ | refine Exists.intro ?_ ?_); first | omega | (simp <;> omega)) | (with_reducible refine spl (And.intro ?_ ?_) <;> intro _)) <;> ((try simp (implicitDefEqProofs := false)); (try simp (implicitDefEqProofs := false) (disch := first | assumption | (try simp only [lens]); omega -splitDisjunctions))))))
  refine W_of fun Q hQ => ?_
  have main : ∀ n i, i + n = l.length → (∀ j (h : j < l.length), j < i → l[j] ≠ u) → Q [(0, .list (l.map strRow)), (1, .str u), (5, .int .i64 (i : Int))] [] := by
    intro n
    induction n with
    | zero =>
      intro i hi hl
      have hno : memB u l = false := by
        rw [Bool.eq_false_iff, Ne, memB_iff]
        intro h
        obtain ⟨j, hj, e⟩ := List.mem_iff_getElem.1 h
        exact hl j hj (by omega) e
      apply hQ
      (((try simp (implicitDefEqProofs := false)); (try simp (implicitDefEqProofs := false) (disch := first | assumption | (try simp only [lens]); omega -splitDisjunctions))); all_goals try (repeat' ((first | ((with_reducible first | refine And.intro ?_ ?_ | refine Exists.intro ?_ ?_); first | omega | (simp <;> omega)) | (with_reducible refine spl (And.intro ?_ ?_) <;> intro _)) <;> ((try simp (implicitDefEqProofs := false)); (try simp (implicitDefEqProofs := false) (disch := first | assumption | (try simp only [lens]); omega -splitDisjunctions))))))
      all_goals simp [hno]
    | succ n ih =>
      intro i hi hl
      have hlt : i < l.length := by omega
      by_cases hb : l[i] = u
      · have hyes : memB u l = true := memB_iff.2 (hb ▸ List.getElem_mem hlt)
        apply hQ
        (((try simp (implicitDefEqProofs := false)); (try simp (implicitDefEqProofs := false) (disch := first | assumption | (try simp only [lens]); omega -splitDisjunctions))); all_goals try (repeat' ((first | ((with_reducible first | refine And.intro ?_ ?_ | refine Exists.intro ?_ ?_); first | omega | (simp <;> omega)) | (with_reducible refine spl (And.intro ?_ ?_) <;> intro _)) <;> ((try simp (implicitDefEqProofs := false)); (try simp (implicitDefEqProofs := false) (disch := first | assumption | (try simp only [lens]); omega -splitDisjunctions))))))
        all_goals simp_all
      · have ih := ih (i + 1) (by omega) (fun j hj hji => by
          by_cases e : j = i
          · subst e; exact hb
          · exact hl j hj (by omega))
        apply hQ
        (((try simp (implicitDefEqProofs := false)); (try simp (implicitDefEqProofs := false) (disch := first | assumption | (try simp only [lens]); omega -splitDisjunctions))); all_goals try (repeat' ((first | ((with_reducible first | refine And.intro ?_ ?_ | refine Exists.intro ?_ ?_); first | omega | (simp <;> omega)) | (with_reducible refine spl (And.intro ?_ ?_) <;> intro _)) <;> ((try simp (implicitDefEqProofs := false)); (try simp (implicitDefEqProofs := false) (disch := first | assumption | (try simp only [lens]); omega -splitDisjunctions))))))
        all_goals first | (exfalso; simp_all; done) | simpa using ih
  refine at2 (main _ 0 (Nat.zero_add _) (fun j h hj => by omega)) ?_ ?_ <;> simp
end Go.Proofs.Ytnoklmapofogeaa
