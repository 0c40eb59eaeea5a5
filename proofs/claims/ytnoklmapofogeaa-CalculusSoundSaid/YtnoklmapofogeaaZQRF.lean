/-
  sequentref: F, Arity, IsName, FormulaFault.
-/
import Derived.Test.YtnoklmapofogeaaZTPa
import Derived.Test.YtnoklmapofogeaaZModE
namespace Go.Proofs.Ytnoklmapofogeaa
open Go Go.Pv
set_option linter.unusedVariables false
set_option linter.unusedSimpArgs false
set_option maxRecDepth 100000
set_option maxHeartbeats 4000000

def x38 : XC := .seq (.reg [⟨some 4,.alloc 33,none⟩]) (.seq (.reg [⟨some 5,.move (.tmp 0),none⟩,⟨some 6,.move (.tmp 1),none⟩,⟨some 7,.build 33 #[(0,.tmp 5),(1,.tmp 6)],none⟩,⟨none,.store 33 (.tmp 4) (.tmp 7),none⟩]) (.ret))
@[simp] theorem x38_s {C : WC} {e : AE} {s : Store} {K : KS} : type_of% (@X_at C e s K _ _ x38.eq_1) := X_at x38.eq_1
def an38 : Ann := ⟨[], [], []⟩
def cx38 (P : Program) (m : Nat) : WC := ⟨P, m, an38⟩
@[simp] theorem cx38_a {P : Program} {m : Nat} : (cx38 P m).P = P ∧ (cx38 P m).m = m := ⟨rfl, rfl⟩
instance {P : Program} {m f : Nat} [h : EnT P f] : EnT (cx38 P m).P f := h
theorem chk38 : ∀ c, Try.f38.body = some c → chkC Try.f38.ntmps an38 c = true := by intro c h; obtain rfl := Option.some.inj h; decide +kernel
theorem op38 {args : List PV} {v : PV} (h : X (cx38 Try.prog 0) x38 (argsA 0 args) [] (.fin [.cell 4 33] fun v1 s1 => deref s1 6 v1 = v)) (hl : args.length ≤ Try.f38.ntmps := by rw [Try.ntmps38]; simp) : CallOK Try.prog 38 args [] v [] :=
  callX (m := 0) (cx38 Try.prog 0) x38 rfl rfl (by kernel_rfl) Try.func38 rfl rfl hl mixed (chk38 _ rfl) (by rw [Try.results38]; exact h)

theorem F_ref (a b : Int) : CallOK Try.prog 38 [.int .i64 a, .int .i64 b] [] (.agg [.int .i64 a, .int .i64 b]) [] := by
  refine op38 ?_
  ((try simp (implicitDefEqProofs := false) (disch := first | assumption | (try simp only [lens]); omega -splitDisjunctions)); all_goals try (repeat' ((first | ((with_reducible first | refine And.intro ?_ ?_ | refine Exists.intro ?_ ?_); first | omega | (simp <;> omega)) | (with_reducible refine spl (And.intro ?_ ?_) <;> intro _)) <;> (try simp (implicitDefEqProofs := false) (disch := first | assumption | (try simp only [lens]); omega -splitDisjunctions)))))
end Go.Proofs.Ytnoklmapofogeaa
