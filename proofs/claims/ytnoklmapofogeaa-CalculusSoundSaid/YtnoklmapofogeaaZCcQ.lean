/-
  calculus: cuts.
-/
import Derived.Test.YtnoklmapofogeaaZCcP
import Derived.Test.YtnoklmapofogeaaZQTn
namespace Go.Proofs.Ytnoklmapofogeaa
open Go Go.Pv
set_option linter.unusedVariables false
set_option linter.unusedSimpArgs false
set_option maxRecDepth 100000
set_option maxHeartbeats 4000000
end Go.Proofs.Ytnoklmapofogeaa
