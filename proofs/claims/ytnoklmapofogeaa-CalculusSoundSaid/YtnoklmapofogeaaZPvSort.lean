/-
  Values seen as data: the library's sort and compaction of strings, by the kit's contracts.
-/
import Derived.Test.YtnoklmapofogeaaZPvQt
import Derived.Test.YtnoklmapofogeaaZTy
import Derived.Ground.NamesProg
import Derived.Shelf.Slices.In.CompactS
import Derived.Shelf.Slices.In.SortAlone
import Derived.Shelf.Slices.In.SortNone
import Derived.Sort.EveryDepth
import Derived.Sort.Grow
import Derived.Lib.RowBridge
namespace Go.Proofs
open Go.Shelf
end Go.Proofs
namespace Go.Pv
open Go Go.Sort Go.Proofs
set_option linter.unusedVariables false
set_option linter.unusedSimpArgs false

def toL (b : ByteArray) : List UInt8 := b.data.toList
section
variable {C : Ctx} {p : PHeap} {σ : Sig} {s : Store} {w : World}
end
end Go.Pv
