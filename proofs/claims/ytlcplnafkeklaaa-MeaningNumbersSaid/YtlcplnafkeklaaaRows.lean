/-
  NARROWER THAN 'FOR EVERY INPUT', by the rows' own cells (each row's printed sentence says how): MeaningValues: loops · MeaningDuals: loops · MeaningNumbers: loops.
  DERIVED. THE GIVEN ROWS OF THIS SEAT. 3 by the template 'for every input the law returns true; each argument reads behind the call as it read before'; 0 by the template 'total and deterministic' (their statements: YtlcplnafkeklaaaTotals.lean).
  GIVEN WITH THE SEED: the statements are not yours to turn. If you find one false, say at which input.
  Laid BY PROGRAM, IN A SANDBOX (cutbox-rows.mjs): the forced cells as the released guide's own fill.sh prints them over the translation 06d76258e459e5cb… (all of the seat's roots in one cut). By AI agents, Wed Nov 11 2026. No macro, syntax, notation, axiom, sorry.
-/
import Derived.Test.YtlcplnafkeklaaaChecked
import GoSem.Claim
import GoSem.ClaimJoined
import GoSem.ClaimMapViews
import Derived.JoinedTies
import Derived.KernelRfl
namespace Go.Proofs.Ytlcplnafkeklaaa
/- THE CELL 'sum', in the pinned program and in every row, IS THE sha256 OF THE DUMP (.gsa) THAT YtlcplnafkeklaaaProg.lean LOADS. Nothing in Lean hashes anything: it is a label: what it is worth is what the hold of that sum in a sandbox is worth. -/
noncomputable def Try.pinned : Pinned := { name := "ytlcplnafkeklaaa", sum := "06d76258e459e5cb7cf7f06cad30e738f661cc4d7f5e08a7e8326e96ef227430", checked := Try.checked }
namespace Rows
def none {H : Type} : Left H := { results := [], args := [] }

/-- 'sequentlaw.MeaningValues': WHATEVER THE INPUT: true; the input reads as it did. -/
def meaningValuesSpec : ChangeSpec := { name := "meaningValues", fn := fun _ => fun
  | [d1, d2, d3, d4] => { results := [.lit (.bool true)], args := [d1, d2, d3, d4] }
  | _ => none }
def meaningValuesRow : OpenClaim := { program := "ytlcplnafkeklaaa", sum := "06d76258e459e5cb7cf7f06cad30e738f661cc4d7f5e08a7e8326e96ef227430", func := "sequent/sequentlaw.MeaningValues", spec := "meaningValues", unfollowed := true, recurses := true, loops := true, apart := false }
def MeaningValuesSaid : Prop := meaningValuesRow.holds Try.pinned (OpenSpec.ofChange meaningValuesSpec)

/-- ITS FALSE NEIGHBOUR: 'it returns false'. Refute it at one input. -/
def meaningValuesWrong : ChangeSpec := { name := "meaningValues", fn := fun _ => fun
  | [d1, d2, d3, d4] => { results := [.lit (.bool false)], args := [d1, d2, d3, d4] }
  | _ => none }
def MeaningValuesWrongFalsely : Prop := meaningValuesRow.holds Try.pinned (OpenSpec.ofChange meaningValuesWrong)

/-- 'sequentlaw.MeaningDuals': WHATEVER THE INPUT: true; the input reads as it did. -/
def meaningDualsSpec : ChangeSpec := { name := "meaningDuals", fn := fun _ => fun
  | [d1, d2, d3, d4, d5] => { results := [.lit (.bool true)], args := [d1, d2, d3, d4, d5] }
  | _ => none }
def meaningDualsRow : OpenClaim := { program := "ytlcplnafkeklaaa", sum := "06d76258e459e5cb7cf7f06cad30e738f661cc4d7f5e08a7e8326e96ef227430", func := "sequent/sequentlaw.MeaningDuals", spec := "meaningDuals", unfollowed := true, recurses := true, loops := true, apart := false }
def MeaningDualsSaid : Prop := meaningDualsRow.holds Try.pinned (OpenSpec.ofChange meaningDualsSpec)

/-- ITS FALSE NEIGHBOUR: 'it returns false'. Refute it at one input. -/
def meaningDualsWrong : ChangeSpec := { name := "meaningDuals", fn := fun _ => fun
  | [d1, d2, d3, d4, d5] => { results := [.lit (.bool false)], args := [d1, d2, d3, d4, d5] }
  | _ => none }
def MeaningDualsWrongFalsely : Prop := meaningDualsRow.holds Try.pinned (OpenSpec.ofChange meaningDualsWrong)

/-- 'sequentlaw.MeaningNumbers': WHATEVER THE INPUT: true; the input reads as it did. -/
def meaningNumbersSpec : ChangeSpec := { name := "meaningNumbers", fn := fun _ => fun
  | [d1, d2, d3, d4, d5] => { results := [.lit (.bool true)], args := [d1, d2, d3, d4, d5] }
  | _ => none }
def meaningNumbersRow : OpenClaim := { program := "ytlcplnafkeklaaa", sum := "06d76258e459e5cb7cf7f06cad30e738f661cc4d7f5e08a7e8326e96ef227430", func := "sequent/sequentlaw.MeaningNumbers", spec := "meaningNumbers", unfollowed := true, recurses := true, loops := true, apart := false }
def MeaningNumbersSaid : Prop := meaningNumbersRow.holds Try.pinned (OpenSpec.ofChange meaningNumbersSpec)

/-- ITS FALSE NEIGHBOUR: 'it returns false'. Refute it at one input. -/
def meaningNumbersWrong : ChangeSpec := { name := "meaningNumbers", fn := fun _ => fun
  | [d1, d2, d3, d4, d5] => { results := [.lit (.bool false)], args := [d1, d2, d3, d4, d5] }
  | _ => none }
def MeaningNumbersWrongFalsely : Prop := meaningNumbersRow.holds Try.pinned (OpenSpec.ofChange meaningNumbersWrong)

/- THE SECOND FORM. 'bulk': how many values and letters a reading holds, each counted each time it is reached (what is shared counts as often as it is met; a slice's spare places count too). A statement '..UptoSaid' is the law's where the arguments, and the package variables that the reading takes, are together of bulk at most 1048576: NARROWER than '..Said'. Prove '..Said' where nothing that the law and all that it calls make is longer than what came in: it says more and counts as full. Else prove '..UptoSaid'. A law counts once. -/
mutual
def uptoBulk {H : Type} : DataW H → Nat
  | .lit (.string bytes) => bytes.length + 1
  | .lit _ => 1
  | .nil => 1
  | .ptr d => uptoBulk d + 1
  | .slice elems spare => uptoBulkAll elems + uptoBulkAll spare + 1
  | .agg parts => uptoBulkAll parts + 1
  | .iface _ d => uptoBulk d + 1
  | .map entries => uptoBulkEntries entries + 1
  | .held _ => 1
def uptoBulkAll {H : Type} : List (DataW H) → Nat
  | [] => 0
  | d :: r => uptoBulk d + uptoBulkAll r
def uptoBulkEntries {H : Type} : List (Lit × DataW H) → Nat
  | [] => 0
  | x :: r => uptoBulkEntry x + uptoBulkEntries r
def uptoBulkEntry {H : Type} : Lit × DataW H → Nat
  | (.string bytes, d) => bytes.length + uptoBulk d + 1
  | (_, d) => uptoBulk d + 1
 end
def uptoSmall : (H : Type) → List (DataW H) → Bool := fun _ ds => decide (uptoBulkAll ds ≤ 1048576)
def OpenSpec.upto (s : _root_.Go.ChangeSpec) : _root_.Go.OpenSpec := { _root_.Go.OpenSpec.ofChange s with cond := some uptoSmall }

/-- 'sequentlaw.MeaningValues', WHERE WHAT IT READS IS OF BULK AT MOST 1048576: true; the input reads as it did. -/
def meaningValuesUptoRow : OpenClaim := { program := "ytlcplnafkeklaaa", sum := "06d76258e459e5cb7cf7f06cad30e738f661cc4d7f5e08a7e8326e96ef227430", func := "sequent/sequentlaw.MeaningValues", spec := "meaningValues", unfollowed := true, recurses := true, loops := true, apart := false, narrowed := true }
def MeaningValuesUptoSaid : Prop := meaningValuesUptoRow.holds Try.pinned (OpenSpec.upto meaningValuesSpec)

/-- 'sequentlaw.MeaningDuals', WHERE WHAT IT READS IS OF BULK AT MOST 1048576: true; the input reads as it did. -/
def meaningDualsUptoRow : OpenClaim := { program := "ytlcplnafkeklaaa", sum := "06d76258e459e5cb7cf7f06cad30e738f661cc4d7f5e08a7e8326e96ef227430", func := "sequent/sequentlaw.MeaningDuals", spec := "meaningDuals", unfollowed := true, recurses := true, loops := true, apart := false, narrowed := true }
def MeaningDualsUptoSaid : Prop := meaningDualsUptoRow.holds Try.pinned (OpenSpec.upto meaningDualsSpec)

/-- 'sequentlaw.MeaningNumbers', WHERE WHAT IT READS IS OF BULK AT MOST 1048576: true; the input reads as it did. -/
def meaningNumbersUptoRow : OpenClaim := { program := "ytlcplnafkeklaaa", sum := "06d76258e459e5cb7cf7f06cad30e738f661cc4d7f5e08a7e8326e96ef227430", func := "sequent/sequentlaw.MeaningNumbers", spec := "meaningNumbers", unfollowed := true, recurses := true, loops := true, apart := false, narrowed := true }
def MeaningNumbersUptoSaid : Prop := meaningNumbersUptoRow.holds Try.pinned (OpenSpec.upto meaningNumbersSpec)

end Rows
end Go.Proofs.Ytlcplnafkeklaaa
