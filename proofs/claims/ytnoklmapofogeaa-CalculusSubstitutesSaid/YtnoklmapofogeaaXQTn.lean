/-
  formula: NamesOf; sequentref: NamesIn.
-/
import Derived.Test.YtnoklmapofogeaaXPvQt
import Derived.Test.YtnoklmapofogeaaXTy
import Derived.Ground.NamesProg
import Derived.Shelf.Slices.In.CompactS
import Derived.Shelf.Slices.In.SortAlone
import Derived.Shelf.Slices.In.SortNone
import Derived.Sort.EveryDepth
import Derived.Sort.Grow
import Derived.Lib.RowBridge
import Derived.Sort.Walk0
import Derived.Test.YtnoklmapofogeaaXQRF
import Derived.Test.YtnoklmapofogeaaXTPa
namespace Go.Proofs.Ytnoklmapofogeaa
open Go Go.Pv
set_option linter.unusedVariables false
set_option linter.unusedSimpArgs false
set_option maxRecDepth 100000
set_option maxHeartbeats 4000000

theorem nodesGo_len (M : Nat) : ∀ (n : Nat) (st : List Fm), (nodesGo M n st).length ≤ n
  | 0, st => by simp [nodesGo]
  | n + 1, [] => by simp [nodesGo]
  | n + 1, x :: r => by rw [nodesGo_succ]; have := nodesGo_len M n (x.kids.take M ++ r); simp; omega
end Go.Proofs.Ytnoklmapofogeaa
