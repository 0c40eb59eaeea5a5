/-
  NARROWER THAN 'FOR EVERY INPUT', by the rows' own cells (each row's printed sentence says how): BisimClasses: loops.
  DERIVED. THE GIVEN ROWS OF THIS SEAT. 3 by the template 'for every input the law returns true; each argument reads behind the call as it read before'; 0 by the template 'total and deterministic' (their statements: YticchggapegnlaaTotals.lean).
  GIVEN WITH THE SEED: the statements are not yours to turn. If you find one false, say at which input.
  Laid BY PROGRAM, IN A SANDBOX (cutbox-rows.mjs): the forced cells as the released guide's own fill.sh prints them over the translation ca965d89a15798dd… (all of the seat's roots in one cut). By AI agents, Wed Nov 11 2026. No macro, syntax, notation, axiom, sorry.
-/
import Derived.Test.YticchggapegnlaaChecked
import GoSem.Claim
import GoSem.ClaimJoined
import GoSem.ClaimMapViews
import Derived.JoinedTies
import Derived.KernelRfl
namespace Go.Proofs.Yticchggapegnlaa
/- THE CELL 'sum', in the pinned program and in every row, IS THE sha256 OF THE DUMP (.gsa) THAT YticchggapegnlaaProg.lean LOADS. Nothing in Lean hashes anything: it is a label: what it is worth is what the hold of that sum in a sandbox is worth. -/
noncomputable def Try.pinned : Pinned := { name := "yticchggapegnlaa", sum := "ca965d89a15798dd84c0ee68eae498ebcbe633192150d4921fc1f7895d99b9e7", checked := Try.checked }
namespace Rows
def none {H : Type} : Left H := { results := [], args := [] }

/-- 'sequentlaw.BisimTwice': WHATEVER THE INPUT: true; the input reads as it did. -/
def bisimTwiceSpec : ChangeSpec := { name := "bisimTwice", fn := fun _ => fun
  | [d] => { results := [.lit (.bool true)], args := [d] }
  | _ => none }
def bisimTwiceRow : OpenClaim := { program := "yticchggapegnlaa", sum := "ca965d89a15798dd84c0ee68eae498ebcbe633192150d4921fc1f7895d99b9e7", func := "sequent/sequentlaw.BisimTwice", spec := "bisimTwice", unfollowed := true, recurses := true, apart := false }
def BisimTwiceSaid : Prop := bisimTwiceRow.holds Try.pinned (OpenSpec.ofChange bisimTwiceSpec)

/-- ITS FALSE NEIGHBOUR: 'it returns false'. Refute it at one input. -/
def bisimTwiceWrong : ChangeSpec := { name := "bisimTwice", fn := fun _ => fun
  | [d] => { results := [.lit (.bool false)], args := [d] }
  | _ => none }
def BisimTwiceWrongFalsely : Prop := bisimTwiceRow.holds Try.pinned (OpenSpec.ofChange bisimTwiceWrong)

/-- 'sequentlaw.BisimClasses': WHATEVER THE INPUT: true; the input reads as it did. -/
def bisimClassesSpec : ChangeSpec := { name := "bisimClasses", fn := fun _ => fun
  | [d1, d2] => { results := [.lit (.bool true)], args := [d1, d2] }
  | _ => none }
def bisimClassesRow : OpenClaim := { program := "yticchggapegnlaa", sum := "ca965d89a15798dd84c0ee68eae498ebcbe633192150d4921fc1f7895d99b9e7", func := "sequent/sequentlaw.BisimClasses", spec := "bisimClasses", unfollowed := true, recurses := true, loops := true, apart := false }
def BisimClassesSaid : Prop := bisimClassesRow.holds Try.pinned (OpenSpec.ofChange bisimClassesSpec)

/-- ITS FALSE NEIGHBOUR: 'it returns false'. Refute it at one input. -/
def bisimClassesWrong : ChangeSpec := { name := "bisimClasses", fn := fun _ => fun
  | [d1, d2] => { results := [.lit (.bool false)], args := [d1, d2] }
  | _ => none }
def BisimClassesWrongFalsely : Prop := bisimClassesRow.holds Try.pinned (OpenSpec.ofChange bisimClassesWrong)

/-- 'sequentlaw.BisimTells': WHATEVER THE INPUT: true; the input reads as it did. -/
def bisimTellsSpec : ChangeSpec := { name := "bisimTells", fn := fun _ => fun
  | [d1, d2, d3] => { results := [.lit (.bool true)], args := [d1, d2, d3] }
  | _ => none }
def bisimTellsRow : OpenClaim := { program := "yticchggapegnlaa", sum := "ca965d89a15798dd84c0ee68eae498ebcbe633192150d4921fc1f7895d99b9e7", func := "sequent/sequentlaw.BisimTells", spec := "bisimTells", unfollowed := true, recurses := true, apart := false }
def BisimTellsSaid : Prop := bisimTellsRow.holds Try.pinned (OpenSpec.ofChange bisimTellsSpec)

/-- ITS FALSE NEIGHBOUR: 'it returns false'. Refute it at one input. -/
def bisimTellsWrong : ChangeSpec := { name := "bisimTells", fn := fun _ => fun
  | [d1, d2, d3] => { results := [.lit (.bool false)], args := [d1, d2, d3] }
  | _ => none }
def BisimTellsWrongFalsely : Prop := bisimTellsRow.holds Try.pinned (OpenSpec.ofChange bisimTellsWrong)

/- THE SECOND FORM. 'bulk': how many values and letters a reading holds, each counted each time it is reached (what is shared counts as often as it is met; a slice's spare places count too). A statement '..UptoSaid' is the law's where the arguments, and the package variables that the reading takes, are together of bulk at most 1048576: NARROWER than '..Said'. Prove '..Said' where nothing that the law and all that it calls make is longer than what came in: it says more and counts as full. Else prove '..UptoSaid'. A law counts once. -/
mutual
def uptoBulk {H : Type} : DataW H → Nat
  | .lit (.string bytes) => bytes.length + 1
  | .lit _ => 1
  | .nil => 1
  | .ptr d => uptoBulk d + 1
  | .slice elems spare => uptoBulkAll elems + uptoBulkAll spare + 1
  | .agg parts => uptoBulkAll parts + 1
  | .iface _ d => uptoBulk d + 1
  | .map entries => uptoBulkEntries entries + 1
  | .held _ => 1
def uptoBulkAll {H : Type} : List (DataW H) → Nat
  | [] => 0
  | d :: r => uptoBulk d + uptoBulkAll r
def uptoBulkEntries {H : Type} : List (Lit × DataW H) → Nat
  | [] => 0
  | x :: r => uptoBulkEntry x + uptoBulkEntries r
def uptoBulkEntry {H : Type} : Lit × DataW H → Nat
  | (.string bytes, d) => bytes.length + uptoBulk d + 1
  | (_, d) => uptoBulk d + 1
 end
def uptoSmall : (H : Type) → List (DataW H) → Bool := fun _ ds => decide (uptoBulkAll ds ≤ 1048576)
def OpenSpec.upto (s : _root_.Go.ChangeSpec) : _root_.Go.OpenSpec := { _root_.Go.OpenSpec.ofChange s with cond := some uptoSmall }

/-- 'sequentlaw.BisimTwice', WHERE WHAT IT READS IS OF BULK AT MOST 1048576: true; the input reads as it did. -/
def bisimTwiceUptoRow : OpenClaim := { program := "yticchggapegnlaa", sum := "ca965d89a15798dd84c0ee68eae498ebcbe633192150d4921fc1f7895d99b9e7", func := "sequent/sequentlaw.BisimTwice", spec := "bisimTwice", unfollowed := true, recurses := true, apart := false, narrowed := true }
def BisimTwiceUptoSaid : Prop := bisimTwiceUptoRow.holds Try.pinned (OpenSpec.upto bisimTwiceSpec)

/-- 'sequentlaw.BisimClasses', WHERE WHAT IT READS IS OF BULK AT MOST 1048576: true; the input reads as it did. -/
def bisimClassesUptoRow : OpenClaim := { program := "yticchggapegnlaa", sum := "ca965d89a15798dd84c0ee68eae498ebcbe633192150d4921fc1f7895d99b9e7", func := "sequent/sequentlaw.BisimClasses", spec := "bisimClasses", unfollowed := true, recurses := true, loops := true, apart := false, narrowed := true }
def BisimClassesUptoSaid : Prop := bisimClassesUptoRow.holds Try.pinned (OpenSpec.upto bisimClassesSpec)

/-- 'sequentlaw.BisimTells', WHERE WHAT IT READS IS OF BULK AT MOST 1048576: true; the input reads as it did. -/
def bisimTellsUptoRow : OpenClaim := { program := "yticchggapegnlaa", sum := "ca965d89a15798dd84c0ee68eae498ebcbe633192150d4921fc1f7895d99b9e7", func := "sequent/sequentlaw.BisimTells", spec := "bisimTells", unfollowed := true, recurses := true, apart := false, narrowed := true }
def BisimTellsUptoSaid : Prop := bisimTellsUptoRow.holds Try.pinned (OpenSpec.upto bisimTellsSpec)

end Rows
end Go.Proofs.Yticchggapegnlaa
