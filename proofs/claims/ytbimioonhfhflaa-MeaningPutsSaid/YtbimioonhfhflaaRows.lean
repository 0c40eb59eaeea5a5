/-
  NARROWER THAN 'FOR EVERY INPUT', by the rows' own cells (each row's printed sentence says how): MeaningPuts: loops · FirstSwaps: loops.
  DERIVED. THE GIVEN ROWS OF THIS SEAT. 2 by the template 'for every input the law returns true; each argument reads behind the call as it read before'; 0 by the template 'total and deterministic' (their statements: YtbimioonhfhflaaTotals.lean).
  GIVEN WITH THE SEED: the statements are not yours to turn. If you find one false, say at which input.
  Laid BY PROGRAM, IN A SANDBOX (cutbox-rows.mjs): the forced cells as the released guide's own fill.sh prints them over the translation 17d0de9fcbd12a8a… (all of the seat's roots in one cut). By AI agents, Wed Nov 11 2026. No macro, syntax, notation, axiom, sorry.
-/
import Derived.Test.YtbimioonhfhflaaChecked
import GoSem.Claim
import GoSem.ClaimJoined
import GoSem.ClaimMapViews
import Derived.JoinedTies
import Derived.KernelRfl
namespace Go.Proofs.Ytbimioonhfhflaa
/- THE CELL 'sum', in the pinned program and in every row, IS THE sha256 OF THE DUMP (.gsa) THAT YtbimioonhfhflaaProg.lean LOADS. Nothing in Lean hashes anything: it is a label: what it is worth is what the hold of that sum in a sandbox is worth. -/
noncomputable def Try.pinned : Pinned := { name := "ytbimioonhfhflaa", sum := "17d0de9fcbd12a8a0f615fea8620987688c9f5f3a3bf7d6863b9b0b9f541e0e1", checked := Try.checked }
namespace Rows
def none {H : Type} : Left H := { results := [], args := [] }

/-- 'sequentlaw.MeaningPuts': WHATEVER THE INPUT: true; the input reads as it did. -/
def meaningPutsSpec : ChangeSpec := { name := "meaningPuts", fn := fun _ => fun
  | [d1, d2, d3, d4, d5, d6] => { results := [.lit (.bool true)], args := [d1, d2, d3, d4, d5, d6] }
  | _ => none }
def meaningPutsRow : OpenClaim := { program := "ytbimioonhfhflaa", sum := "17d0de9fcbd12a8a0f615fea8620987688c9f5f3a3bf7d6863b9b0b9f541e0e1", func := "sequent/sequentlaw.MeaningPuts", spec := "meaningPuts", unfollowed := true, recurses := true, loops := true, apart := false }
def MeaningPutsSaid : Prop := meaningPutsRow.holds Try.pinned (OpenSpec.ofChange meaningPutsSpec)

/-- ITS FALSE NEIGHBOUR: 'it returns false'. Refute it at one input. -/
def meaningPutsWrong : ChangeSpec := { name := "meaningPuts", fn := fun _ => fun
  | [d1, d2, d3, d4, d5, d6] => { results := [.lit (.bool false)], args := [d1, d2, d3, d4, d5, d6] }
  | _ => none }
def MeaningPutsWrongFalsely : Prop := meaningPutsRow.holds Try.pinned (OpenSpec.ofChange meaningPutsWrong)

/-- 'sequentlaw.FirstSwaps': WHATEVER THE INPUT: true; the input reads as it did. -/
def firstSwapsSpec : ChangeSpec := { name := "firstSwaps", fn := fun _ => fun
  | [d1, d2, d3] => { results := [.lit (.bool true)], args := [d1, d2, d3] }
  | _ => none }
def firstSwapsRow : OpenClaim := { program := "ytbimioonhfhflaa", sum := "17d0de9fcbd12a8a0f615fea8620987688c9f5f3a3bf7d6863b9b0b9f541e0e1", func := "sequent/sequentlaw.FirstSwaps", spec := "firstSwaps", inPlace := ["internal/abi.NoEscape", "internal/bytealg.MakeNoZero"], unfollowed := true, recurses := true, loops := true, apart := false }
def FirstSwapsSaid : Prop := firstSwapsRow.holds Try.pinned (OpenSpec.ofChange firstSwapsSpec)

/-- ITS FALSE NEIGHBOUR: 'it returns false'. Refute it at one input. -/
def firstSwapsWrong : ChangeSpec := { name := "firstSwaps", fn := fun _ => fun
  | [d1, d2, d3] => { results := [.lit (.bool false)], args := [d1, d2, d3] }
  | _ => none }
def FirstSwapsWrongFalsely : Prop := firstSwapsRow.holds Try.pinned (OpenSpec.ofChange firstSwapsWrong)

/- THE SECOND FORM. 'bulk': how many values and letters a reading holds, each counted each time it is reached (what is shared counts as often as it is met; a slice's spare places count too). A statement '..UptoSaid' is the law's where the arguments, and the package variables that the reading takes, are together of bulk at most 1048576: NARROWER than '..Said'. Prove '..Said' where nothing that the law and all that it calls make is longer than what came in: it says more and counts as full. Else prove '..UptoSaid'. A law counts once. -/
mutual
def uptoBulk {H : Type} : DataW H → Nat
  | .lit (.string bytes) => bytes.length + 1
  | .lit _ => 1
  | .nil => 1
  | .ptr d => uptoBulk d + 1
  | .slice elems spare => uptoBulkAll elems + uptoBulkAll spare + 1
  | .agg parts => uptoBulkAll parts + 1
  | .iface _ d => uptoBulk d + 1
  | .map entries => uptoBulkEntries entries + 1
  | .held _ => 1
def uptoBulkAll {H : Type} : List (DataW H) → Nat
  | [] => 0
  | d :: r => uptoBulk d + uptoBulkAll r
def uptoBulkEntries {H : Type} : List (Lit × DataW H) → Nat
  | [] => 0
  | x :: r => uptoBulkEntry x + uptoBulkEntries r
def uptoBulkEntry {H : Type} : Lit × DataW H → Nat
  | (.string bytes, d) => bytes.length + uptoBulk d + 1
  | (_, d) => uptoBulk d + 1
 end
def uptoSmall : (H : Type) → List (DataW H) → Bool := fun _ ds => decide (uptoBulkAll ds ≤ 1048576)
def OpenSpec.upto (s : _root_.Go.ChangeSpec) : _root_.Go.OpenSpec := { _root_.Go.OpenSpec.ofChange s with cond := some uptoSmall }

/-- 'sequentlaw.MeaningPuts', WHERE WHAT IT READS IS OF BULK AT MOST 1048576: true; the input reads as it did. -/
def meaningPutsUptoRow : OpenClaim := { program := "ytbimioonhfhflaa", sum := "17d0de9fcbd12a8a0f615fea8620987688c9f5f3a3bf7d6863b9b0b9f541e0e1", func := "sequent/sequentlaw.MeaningPuts", spec := "meaningPuts", unfollowed := true, recurses := true, loops := true, apart := false, narrowed := true }
def MeaningPutsUptoSaid : Prop := meaningPutsUptoRow.holds Try.pinned (OpenSpec.upto meaningPutsSpec)

/-- 'sequentlaw.FirstSwaps', WHERE WHAT IT READS IS OF BULK AT MOST 1048576: true; the input reads as it did. -/
def firstSwapsUptoRow : OpenClaim := { program := "ytbimioonhfhflaa", sum := "17d0de9fcbd12a8a0f615fea8620987688c9f5f3a3bf7d6863b9b0b9f541e0e1", func := "sequent/sequentlaw.FirstSwaps", spec := "firstSwaps", inPlace := ["internal/abi.NoEscape", "internal/bytealg.MakeNoZero"], unfollowed := true, recurses := true, loops := true, apart := false, narrowed := true }
def FirstSwapsUptoSaid : Prop := firstSwapsUptoRow.holds Try.pinned (OpenSpec.upto firstSwapsSpec)

end Rows
end Go.Proofs.Ytbimioonhfhflaa
