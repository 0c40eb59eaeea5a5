/-
  Plain laws of calculus: proofs turned (formulas put for names, a formula more at the left) stay proofs.
-/
import Derived.Test.YtnoklmapofogeaaVCcH
namespace Go.Proofs.Ytnoklmapofogeaa
open Go Go.Pv
set_option linter.unusedVariables false
set_option linter.unusedSimpArgs false
set_option maxRecDepth 100000

/-- premises alike, in whatever order each bag is -/
def PermP : List Prem → List Prem → Prop
  | [], [] => True
  | p :: ps, q :: qs => p.1.Perm q.1 ∧ p.2.Perm q.2 ∧ PermP ps qs
  | _, _ => False
/-- a turn of formulas -/
structure Turn (σ : Fm → Fm) : Prop where
  k2 : ∀ f, Pl f → f.kind ≠ 1 → (σ f).kind = f.kind ∧ (σ f).kids = f.kids.map σ
  none : ∀ f, noneF f = true → noneF (σ f) = true
theorem Turn.id : Turn id := ⟨fun f _ _ => ⟨rfl, by simp⟩, fun f h => h⟩
section
variable {σ : Fm → Fm} {e : List Fm} {f : Fm} {l r : List Fm}
end
theorem PermP.len : ∀ {a b : List Prem}, PermP a b → a.length = b.length
  | [], [], _ => rfl
  | _ :: _, _ :: _, h => by simp [PermP.len h.2.2]
  | [], _ :: _, h => h.elim
  | _ :: _, [], h => h.elim
mutual
/-- all steps of a proof, each ahead of those in it -/
def stepsP : Pf → List Pf
  | .mk a f l r ks => .mk a f l r ks :: stepsPs ks
def stepsPs : List Pf → List Pf
  | [] => []
  | p :: r => stepsP p ++ stepsPs r
end
theorem stepsPs_eq (l : List Pf) : stepsPs l = l.flatMap stepsP := by
  induction l with
  | nil => rfl
  | cons p r ih => rw [stepsPs, ih]; rfl
theorem stepsP_eq (p : Pf) : stepsP p = p :: p.kids.flatMap stepsP := by
  cases p with | mk a f l r ks => rw [stepsP, stepsPs_eq]; rfl
end Go.Proofs.Ytnoklmapofogeaa
