/-
  formula: NamesOf; sequentref: NamesIn.
-/
import Derived.Test.YtnoklmapofogeaaVPvQt
import Derived.Test.YtnoklmapofogeaaVTy
import Derived.Ground.NamesProg
import Derived.Shelf.Slices.In.CompactS
import Derived.Shelf.Slices.In.SortAlone
import Derived.Shelf.Slices.In.SortNone
import Derived.Sort.EveryDepth
import Derived.Sort.Grow
import Derived.Lib.RowBridge
import Derived.Sort.Walk0
import Derived.Test.YtnoklmapofogeaaVQRF
import Derived.Test.YtnoklmapofogeaaVTPa
namespace Go.Proofs.Ytnoklmapofogeaa
open Go Go.Pv
set_option linter.unusedVariables false
set_option linter.unusedSimpArgs false
set_option maxRecDepth 100000
set_option maxHeartbeats 4000000

theorem nodesGo_len (M : Nat) : ∀ (n : Nat) (st : List Fm), (nodesGo M n st).length ≤ n
  | 0, st => by simp [nodesGo]
  | n + 1, [] => by simp [nodesGo]
  | n + 1, x :: r => by rw [nodesGo_succ]; have := nodesGo_len M n (x.kids.take M ++ r); simp; omega
/-- what a call hands back may be given away -/
theorem callOK_done {P : Program} {f : FuncId} {args : List PV} {v v' : PV} {s1 : Store} (h : CallOK P f args [] v s1) (e : deref s1 6 v = v') : CallOK P f args [] v' [] := by
  intro pub σ w cargs hb ha
  refine Calls.mono (h pub σ w cargs hb ha) ?_
  rintro en w' ⟨cv, pub', σ', rfl, hs, hr⟩
  have hσ : σ = noSig := funext fun i => hb.sig i (Nat.zero_le _)
  obtain ⟨p, t, h1, h2⟩ := RetView.done 6 e ⟨w, pub, σ, dom [] σ⟩ pub' σ' w' cv (fun i _ => by rw [hσ]; rfl) hs hr
  exact ⟨cv, p, t, rfl, h1, h2⟩
end Go.Proofs.Ytnoklmapofogeaa
