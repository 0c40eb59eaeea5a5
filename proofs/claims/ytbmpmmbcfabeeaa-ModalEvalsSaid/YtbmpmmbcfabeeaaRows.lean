/-
  NARROWER THAN 'FOR EVERY INPUT', by the rows' own cells (each row's printed sentence says how): FormulaChecks: loops · FormulaBack: loops · TruthSubstitutes: loops · ModalEvals: loops · TruthMorgan: loops · TruthMade: loops · TruthValues: loops · FormulaSwaps: loops · FormulaParts: loops.
  DERIVED. THE GIVEN ROWS OF THIS SEAT. 12 by the template 'for every input the law returns true; each argument reads behind the call as it read before'; 0 by the template 'total and deterministic' (their statements: YtbmpmmbcfabeeaaTotals.lean).
  GIVEN WITH THE SEED: the statements are not yours to turn. If you find one false, say at which input.
  Laid BY PROGRAM, IN A SANDBOX (cutbox-rows.mjs): the forced cells as the released guide's own fill.sh prints them over the translation bc36c90b22d05e1f… (all of the seat's roots in one cut). By AI agents, Wed Nov 11 2026. No macro, syntax, notation, axiom, sorry.
-/
import Derived.Test.YtbmpmmbcfabeeaaChecked
import GoSem.Claim
import GoSem.ClaimJoined
import GoSem.ClaimMapViews
import Derived.JoinedTies
import Derived.KernelRfl
namespace Go.Proofs.Ytbmpmmbcfabeeaa
/- THE CELL 'sum', in the pinned program and in every row, IS THE sha256 OF THE DUMP (.gsa) THAT YtbmpmmbcfabeeaaProg.lean LOADS. Nothing in Lean hashes anything: it is a label: what it is worth is what the hold of that sum in a sandbox is worth. -/
noncomputable def Try.pinned : Pinned := { name := "ytbmpmmbcfabeeaa", sum := "bc36c90b22d05e1f8d050f1e9b6086c41b29414c14e1c7817db5204dde1f962b", checked := Try.checked }
namespace Rows
def none {H : Type} : Left H := { results := [], args := [] }

/-- 'sequentlaw.FormulaChecks': WHATEVER THE INPUT: true; the input reads as it did. -/
def formulaChecksSpec : ChangeSpec := { name := "formulaChecks", fn := fun _ => fun
  | [d] => { results := [.lit (.bool true)], args := [d] }
  | _ => none }
def formulaChecksRow : OpenClaim := { program := "ytbmpmmbcfabeeaa", sum := "bc36c90b22d05e1f8d050f1e9b6086c41b29414c14e1c7817db5204dde1f962b", func := "sequent/sequentlaw.FormulaChecks", spec := "formulaChecks", unfollowed := true, recurses := true, loops := true, apart := false }
def FormulaChecksSaid : Prop := formulaChecksRow.holds Try.pinned (OpenSpec.ofChange formulaChecksSpec)

/-- ITS FALSE NEIGHBOUR: 'it returns false'. Refute it at one input. -/
def formulaChecksWrong : ChangeSpec := { name := "formulaChecks", fn := fun _ => fun
  | [d] => { results := [.lit (.bool false)], args := [d] }
  | _ => none }
def FormulaChecksWrongFalsely : Prop := formulaChecksRow.holds Try.pinned (OpenSpec.ofChange formulaChecksWrong)

/-- 'sequentlaw.FormulaReads': WHATEVER THE INPUT: true; the input reads as it did. -/
def formulaReadsSpec : ChangeSpec := { name := "formulaReads", fn := fun _ => fun
  | [d] => { results := [.lit (.bool true)], args := [d] }
  | _ => none }
def formulaReadsRow : OpenClaim := { program := "ytbmpmmbcfabeeaa", sum := "bc36c90b22d05e1f8d050f1e9b6086c41b29414c14e1c7817db5204dde1f962b", func := "sequent/sequentlaw.FormulaReads", spec := "formulaReads", unfollowed := true, recurses := true, apart := false }
def FormulaReadsSaid : Prop := formulaReadsRow.holds Try.pinned (OpenSpec.ofChange formulaReadsSpec)

/-- ITS FALSE NEIGHBOUR: 'it returns false'. Refute it at one input. -/
def formulaReadsWrong : ChangeSpec := { name := "formulaReads", fn := fun _ => fun
  | [d] => { results := [.lit (.bool false)], args := [d] }
  | _ => none }
def FormulaReadsWrongFalsely : Prop := formulaReadsRow.holds Try.pinned (OpenSpec.ofChange formulaReadsWrong)

/-- 'sequentlaw.FormulaBack': WHATEVER THE INPUT: true; the input reads as it did. -/
def formulaBackSpec : ChangeSpec := { name := "formulaBack", fn := fun _ => fun
  | [d1, d2] => { results := [.lit (.bool true)], args := [d1, d2] }
  | _ => none }
def formulaBackRow : OpenClaim := { program := "ytbmpmmbcfabeeaa", sum := "bc36c90b22d05e1f8d050f1e9b6086c41b29414c14e1c7817db5204dde1f962b", func := "sequent/sequentlaw.FormulaBack", spec := "formulaBack", unfollowed := true, recurses := true, loops := true, apart := false }
def FormulaBackSaid : Prop := formulaBackRow.holds Try.pinned (OpenSpec.ofChange formulaBackSpec)

/-- ITS FALSE NEIGHBOUR: 'it returns false'. Refute it at one input. -/
def formulaBackWrong : ChangeSpec := { name := "formulaBack", fn := fun _ => fun
  | [d1, d2] => { results := [.lit (.bool false)], args := [d1, d2] }
  | _ => none }
def FormulaBackWrongFalsely : Prop := formulaBackRow.holds Try.pinned (OpenSpec.ofChange formulaBackWrong)

/-- 'sequentlaw.TruthPost': WHATEVER THE INPUT: true; the input reads as it did. -/
def truthPostSpec : ChangeSpec := { name := "truthPost", fn := fun _ => fun
  | [d] => { results := [.lit (.bool true)], args := [d] }
  | _ => none }
def truthPostRow : OpenClaim := { program := "ytbmpmmbcfabeeaa", sum := "bc36c90b22d05e1f8d050f1e9b6086c41b29414c14e1c7817db5204dde1f962b", func := "sequent/sequentlaw.TruthPost", spec := "truthPost", unfollowed := true, recurses := true, apart := false }
def TruthPostSaid : Prop := truthPostRow.holds Try.pinned (OpenSpec.ofChange truthPostSpec)

/-- ITS FALSE NEIGHBOUR: 'it returns false'. Refute it at one input. -/
def truthPostWrong : ChangeSpec := { name := "truthPost", fn := fun _ => fun
  | [d] => { results := [.lit (.bool false)], args := [d] }
  | _ => none }
def TruthPostWrongFalsely : Prop := truthPostRow.holds Try.pinned (OpenSpec.ofChange truthPostWrong)

/-- 'sequentlaw.TruthSubstitutes': WHATEVER THE INPUT: true; the input reads as it did. -/
def truthSubstitutesSpec : ChangeSpec := { name := "truthSubstitutes", fn := fun _ => fun
  | [d1, d2, d3, d4] => { results := [.lit (.bool true)], args := [d1, d2, d3, d4] }
  | _ => none }
def truthSubstitutesRow : OpenClaim := { program := "ytbmpmmbcfabeeaa", sum := "bc36c90b22d05e1f8d050f1e9b6086c41b29414c14e1c7817db5204dde1f962b", func := "sequent/sequentlaw.TruthSubstitutes", spec := "truthSubstitutes", unfollowed := true, recurses := true, loops := true, apart := false }
def TruthSubstitutesSaid : Prop := truthSubstitutesRow.holds Try.pinned (OpenSpec.ofChange truthSubstitutesSpec)

/-- ITS FALSE NEIGHBOUR: 'it returns false'. Refute it at one input. -/
def truthSubstitutesWrong : ChangeSpec := { name := "truthSubstitutes", fn := fun _ => fun
  | [d1, d2, d3, d4] => { results := [.lit (.bool false)], args := [d1, d2, d3, d4] }
  | _ => none }
def TruthSubstitutesWrongFalsely : Prop := truthSubstitutesRow.holds Try.pinned (OpenSpec.ofChange truthSubstitutesWrong)

/-- 'sequentlaw.ModalEvals': WHATEVER THE INPUT: true; the input reads as it did. -/
def modalEvalsSpec : ChangeSpec := { name := "modalEvals", fn := fun _ => fun
  | [d1, d2] => { results := [.lit (.bool true)], args := [d1, d2] }
  | _ => none }
def modalEvalsRow : OpenClaim := { program := "ytbmpmmbcfabeeaa", sum := "bc36c90b22d05e1f8d050f1e9b6086c41b29414c14e1c7817db5204dde1f962b", func := "sequent/sequentlaw.ModalEvals", spec := "modalEvals", unfollowed := true, recurses := true, loops := true, apart := false }
def ModalEvalsSaid : Prop := modalEvalsRow.holds Try.pinned (OpenSpec.ofChange modalEvalsSpec)

/-- ITS FALSE NEIGHBOUR: 'it returns false'. Refute it at one input. -/
def modalEvalsWrong : ChangeSpec := { name := "modalEvals", fn := fun _ => fun
  | [d1, d2] => { results := [.lit (.bool false)], args := [d1, d2] }
  | _ => none }
def ModalEvalsWrongFalsely : Prop := modalEvalsRow.holds Try.pinned (OpenSpec.ofChange modalEvalsWrong)

/-- 'sequentlaw.ModalShapes': WHATEVER THE INPUT: true; the input reads as it did. -/
def modalShapesSpec : ChangeSpec := { name := "modalShapes", fn := fun _ => fun
  | [d] => { results := [.lit (.bool true)], args := [d] }
  | _ => none }
def modalShapesRow : OpenClaim := { program := "ytbmpmmbcfabeeaa", sum := "bc36c90b22d05e1f8d050f1e9b6086c41b29414c14e1c7817db5204dde1f962b", func := "sequent/sequentlaw.ModalShapes", spec := "modalShapes", unfollowed := true, recurses := true, apart := false }
def ModalShapesSaid : Prop := modalShapesRow.holds Try.pinned (OpenSpec.ofChange modalShapesSpec)

/-- ITS FALSE NEIGHBOUR: 'it returns false'. Refute it at one input. -/
def modalShapesWrong : ChangeSpec := { name := "modalShapes", fn := fun _ => fun
  | [d] => { results := [.lit (.bool false)], args := [d] }
  | _ => none }
def ModalShapesWrongFalsely : Prop := modalShapesRow.holds Try.pinned (OpenSpec.ofChange modalShapesWrong)

/-- 'sequentlaw.TruthMorgan': WHATEVER THE INPUT: true; the input reads as it did. -/
def truthMorganSpec : ChangeSpec := { name := "truthMorgan", fn := fun _ => fun
  | [d1, d2] => { results := [.lit (.bool true)], args := [d1, d2] }
  | _ => none }
def truthMorganRow : OpenClaim := { program := "ytbmpmmbcfabeeaa", sum := "bc36c90b22d05e1f8d050f1e9b6086c41b29414c14e1c7817db5204dde1f962b", func := "sequent/sequentlaw.TruthMorgan", spec := "truthMorgan", unfollowed := true, recurses := true, loops := true, apart := false }
def TruthMorganSaid : Prop := truthMorganRow.holds Try.pinned (OpenSpec.ofChange truthMorganSpec)

/-- ITS FALSE NEIGHBOUR: 'it returns false'. Refute it at one input. -/
def truthMorganWrong : ChangeSpec := { name := "truthMorgan", fn := fun _ => fun
  | [d1, d2] => { results := [.lit (.bool false)], args := [d1, d2] }
  | _ => none }
def TruthMorganWrongFalsely : Prop := truthMorganRow.holds Try.pinned (OpenSpec.ofChange truthMorganWrong)

/-- 'sequentlaw.TruthMade': WHATEVER THE INPUT: true; the input reads as it did. -/
def truthMadeSpec : ChangeSpec := { name := "truthMade", fn := fun _ => fun
  | [d1, d2] => { results := [.lit (.bool true)], args := [d1, d2] }
  | _ => none }
def truthMadeRow : OpenClaim := { program := "ytbmpmmbcfabeeaa", sum := "bc36c90b22d05e1f8d050f1e9b6086c41b29414c14e1c7817db5204dde1f962b", func := "sequent/sequentlaw.TruthMade", spec := "truthMade", unfollowed := true, recurses := true, loops := true, apart := false }
def TruthMadeSaid : Prop := truthMadeRow.holds Try.pinned (OpenSpec.ofChange truthMadeSpec)

/-- ITS FALSE NEIGHBOUR: 'it returns false'. Refute it at one input. -/
def truthMadeWrong : ChangeSpec := { name := "truthMade", fn := fun _ => fun
  | [d1, d2] => { results := [.lit (.bool false)], args := [d1, d2] }
  | _ => none }
def TruthMadeWrongFalsely : Prop := truthMadeRow.holds Try.pinned (OpenSpec.ofChange truthMadeWrong)

/-- 'sequentlaw.TruthValues': WHATEVER THE INPUT: true; the input reads as it did. -/
def truthValuesSpec : ChangeSpec := { name := "truthValues", fn := fun _ => fun
  | [d1, d2] => { results := [.lit (.bool true)], args := [d1, d2] }
  | _ => none }
def truthValuesRow : OpenClaim := { program := "ytbmpmmbcfabeeaa", sum := "bc36c90b22d05e1f8d050f1e9b6086c41b29414c14e1c7817db5204dde1f962b", func := "sequent/sequentlaw.TruthValues", spec := "truthValues", unfollowed := true, recurses := true, loops := true, apart := false }
def TruthValuesSaid : Prop := truthValuesRow.holds Try.pinned (OpenSpec.ofChange truthValuesSpec)

/-- ITS FALSE NEIGHBOUR: 'it returns false'. Refute it at one input. -/
def truthValuesWrong : ChangeSpec := { name := "truthValues", fn := fun _ => fun
  | [d1, d2] => { results := [.lit (.bool false)], args := [d1, d2] }
  | _ => none }
def TruthValuesWrongFalsely : Prop := truthValuesRow.holds Try.pinned (OpenSpec.ofChange truthValuesWrong)

/-- 'sequentlaw.FormulaSwaps': WHATEVER THE INPUT: true; the input reads as it did. -/
def formulaSwapsSpec : ChangeSpec := { name := "formulaSwaps", fn := fun _ => fun
  | [d1, d2, d3] => { results := [.lit (.bool true)], args := [d1, d2, d3] }
  | _ => none }
def formulaSwapsRow : OpenClaim := { program := "ytbmpmmbcfabeeaa", sum := "bc36c90b22d05e1f8d050f1e9b6086c41b29414c14e1c7817db5204dde1f962b", func := "sequent/sequentlaw.FormulaSwaps", spec := "formulaSwaps", unfollowed := true, recurses := true, loops := true, apart := false }
def FormulaSwapsSaid : Prop := formulaSwapsRow.holds Try.pinned (OpenSpec.ofChange formulaSwapsSpec)

/-- ITS FALSE NEIGHBOUR: 'it returns false'. Refute it at one input. -/
def formulaSwapsWrong : ChangeSpec := { name := "formulaSwaps", fn := fun _ => fun
  | [d1, d2, d3] => { results := [.lit (.bool false)], args := [d1, d2, d3] }
  | _ => none }
def FormulaSwapsWrongFalsely : Prop := formulaSwapsRow.holds Try.pinned (OpenSpec.ofChange formulaSwapsWrong)

/-- 'sequentlaw.FormulaParts': WHATEVER THE INPUT: true; the input reads as it did. -/
def formulaPartsSpec : ChangeSpec := { name := "formulaParts", fn := fun _ => fun
  | [d1, d2, d3] => { results := [.lit (.bool true)], args := [d1, d2, d3] }
  | _ => none }
def formulaPartsRow : OpenClaim := { program := "ytbmpmmbcfabeeaa", sum := "bc36c90b22d05e1f8d050f1e9b6086c41b29414c14e1c7817db5204dde1f962b", func := "sequent/sequentlaw.FormulaParts", spec := "formulaParts", unfollowed := true, recurses := true, loops := true, apart := false }
def FormulaPartsSaid : Prop := formulaPartsRow.holds Try.pinned (OpenSpec.ofChange formulaPartsSpec)

/-- ITS FALSE NEIGHBOUR: 'it returns false'. Refute it at one input. -/
def formulaPartsWrong : ChangeSpec := { name := "formulaParts", fn := fun _ => fun
  | [d1, d2, d3] => { results := [.lit (.bool false)], args := [d1, d2, d3] }
  | _ => none }
def FormulaPartsWrongFalsely : Prop := formulaPartsRow.holds Try.pinned (OpenSpec.ofChange formulaPartsWrong)

/- THE SECOND FORM. 'bulk': how many values and letters a reading holds, each counted each time it is reached (what is shared counts as often as it is met; a slice's spare places count too). A statement '..UptoSaid' is the law's where the arguments, and the package variables that the reading takes, are together of bulk at most 1048576: NARROWER than '..Said'. Prove '..Said' where nothing that the law and all that it calls make is longer than what came in: it says more and counts as full. Else prove '..UptoSaid'. A law counts once. -/
mutual
def uptoBulk {H : Type} : DataW H → Nat
  | .lit (.string bytes) => bytes.length + 1
  | .lit _ => 1
  | .nil => 1
  | .ptr d => uptoBulk d + 1
  | .slice elems spare => uptoBulkAll elems + uptoBulkAll spare + 1
  | .agg parts => uptoBulkAll parts + 1
  | .iface _ d => uptoBulk d + 1
  | .map entries => uptoBulkEntries entries + 1
  | .held _ => 1
def uptoBulkAll {H : Type} : List (DataW H) → Nat
  | [] => 0
  | d :: r => uptoBulk d + uptoBulkAll r
def uptoBulkEntries {H : Type} : List (Lit × DataW H) → Nat
  | [] => 0
  | x :: r => uptoBulkEntry x + uptoBulkEntries r
def uptoBulkEntry {H : Type} : Lit × DataW H → Nat
  | (.string bytes, d) => bytes.length + uptoBulk d + 1
  | (_, d) => uptoBulk d + 1
 end
def uptoSmall : (H : Type) → List (DataW H) → Bool := fun _ ds => decide (uptoBulkAll ds ≤ 1048576)
def OpenSpec.upto (s : _root_.Go.ChangeSpec) : _root_.Go.OpenSpec := { _root_.Go.OpenSpec.ofChange s with cond := some uptoSmall }

/-- 'sequentlaw.FormulaChecks', WHERE WHAT IT READS IS OF BULK AT MOST 1048576: true; the input reads as it did. -/
def formulaChecksUptoRow : OpenClaim := { program := "ytbmpmmbcfabeeaa", sum := "bc36c90b22d05e1f8d050f1e9b6086c41b29414c14e1c7817db5204dde1f962b", func := "sequent/sequentlaw.FormulaChecks", spec := "formulaChecks", unfollowed := true, recurses := true, loops := true, apart := false, narrowed := true }
def FormulaChecksUptoSaid : Prop := formulaChecksUptoRow.holds Try.pinned (OpenSpec.upto formulaChecksSpec)

/-- 'sequentlaw.FormulaReads', WHERE WHAT IT READS IS OF BULK AT MOST 1048576: true; the input reads as it did. -/
def formulaReadsUptoRow : OpenClaim := { program := "ytbmpmmbcfabeeaa", sum := "bc36c90b22d05e1f8d050f1e9b6086c41b29414c14e1c7817db5204dde1f962b", func := "sequent/sequentlaw.FormulaReads", spec := "formulaReads", unfollowed := true, recurses := true, apart := false, narrowed := true }
def FormulaReadsUptoSaid : Prop := formulaReadsUptoRow.holds Try.pinned (OpenSpec.upto formulaReadsSpec)

/-- 'sequentlaw.FormulaBack', WHERE WHAT IT READS IS OF BULK AT MOST 1048576: true; the input reads as it did. -/
def formulaBackUptoRow : OpenClaim := { program := "ytbmpmmbcfabeeaa", sum := "bc36c90b22d05e1f8d050f1e9b6086c41b29414c14e1c7817db5204dde1f962b", func := "sequent/sequentlaw.FormulaBack", spec := "formulaBack", unfollowed := true, recurses := true, loops := true, apart := false, narrowed := true }
def FormulaBackUptoSaid : Prop := formulaBackUptoRow.holds Try.pinned (OpenSpec.upto formulaBackSpec)

/-- 'sequentlaw.TruthPost', WHERE WHAT IT READS IS OF BULK AT MOST 1048576: true; the input reads as it did. -/
def truthPostUptoRow : OpenClaim := { program := "ytbmpmmbcfabeeaa", sum := "bc36c90b22d05e1f8d050f1e9b6086c41b29414c14e1c7817db5204dde1f962b", func := "sequent/sequentlaw.TruthPost", spec := "truthPost", unfollowed := true, recurses := true, apart := false, narrowed := true }
def TruthPostUptoSaid : Prop := truthPostUptoRow.holds Try.pinned (OpenSpec.upto truthPostSpec)

/-- 'sequentlaw.TruthSubstitutes', WHERE WHAT IT READS IS OF BULK AT MOST 1048576: true; the input reads as it did. -/
def truthSubstitutesUptoRow : OpenClaim := { program := "ytbmpmmbcfabeeaa", sum := "bc36c90b22d05e1f8d050f1e9b6086c41b29414c14e1c7817db5204dde1f962b", func := "sequent/sequentlaw.TruthSubstitutes", spec := "truthSubstitutes", unfollowed := true, recurses := true, loops := true, apart := false, narrowed := true }
def TruthSubstitutesUptoSaid : Prop := truthSubstitutesUptoRow.holds Try.pinned (OpenSpec.upto truthSubstitutesSpec)

/-- 'sequentlaw.ModalEvals', WHERE WHAT IT READS IS OF BULK AT MOST 1048576: true; the input reads as it did. -/
def modalEvalsUptoRow : OpenClaim := { program := "ytbmpmmbcfabeeaa", sum := "bc36c90b22d05e1f8d050f1e9b6086c41b29414c14e1c7817db5204dde1f962b", func := "sequent/sequentlaw.ModalEvals", spec := "modalEvals", unfollowed := true, recurses := true, loops := true, apart := false, narrowed := true }
def ModalEvalsUptoSaid : Prop := modalEvalsUptoRow.holds Try.pinned (OpenSpec.upto modalEvalsSpec)

/-- 'sequentlaw.ModalShapes', WHERE WHAT IT READS IS OF BULK AT MOST 1048576: true; the input reads as it did. -/
def modalShapesUptoRow : OpenClaim := { program := "ytbmpmmbcfabeeaa", sum := "bc36c90b22d05e1f8d050f1e9b6086c41b29414c14e1c7817db5204dde1f962b", func := "sequent/sequentlaw.ModalShapes", spec := "modalShapes", unfollowed := true, recurses := true, apart := false, narrowed := true }
def ModalShapesUptoSaid : Prop := modalShapesUptoRow.holds Try.pinned (OpenSpec.upto modalShapesSpec)

/-- 'sequentlaw.TruthMorgan', WHERE WHAT IT READS IS OF BULK AT MOST 1048576: true; the input reads as it did. -/
def truthMorganUptoRow : OpenClaim := { program := "ytbmpmmbcfabeeaa", sum := "bc36c90b22d05e1f8d050f1e9b6086c41b29414c14e1c7817db5204dde1f962b", func := "sequent/sequentlaw.TruthMorgan", spec := "truthMorgan", unfollowed := true, recurses := true, loops := true, apart := false, narrowed := true }
def TruthMorganUptoSaid : Prop := truthMorganUptoRow.holds Try.pinned (OpenSpec.upto truthMorganSpec)

/-- 'sequentlaw.TruthMade', WHERE WHAT IT READS IS OF BULK AT MOST 1048576: true; the input reads as it did. -/
def truthMadeUptoRow : OpenClaim := { program := "ytbmpmmbcfabeeaa", sum := "bc36c90b22d05e1f8d050f1e9b6086c41b29414c14e1c7817db5204dde1f962b", func := "sequent/sequentlaw.TruthMade", spec := "truthMade", unfollowed := true, recurses := true, loops := true, apart := false, narrowed := true }
def TruthMadeUptoSaid : Prop := truthMadeUptoRow.holds Try.pinned (OpenSpec.upto truthMadeSpec)

/-- 'sequentlaw.TruthValues', WHERE WHAT IT READS IS OF BULK AT MOST 1048576: true; the input reads as it did. -/
def truthValuesUptoRow : OpenClaim := { program := "ytbmpmmbcfabeeaa", sum := "bc36c90b22d05e1f8d050f1e9b6086c41b29414c14e1c7817db5204dde1f962b", func := "sequent/sequentlaw.TruthValues", spec := "truthValues", unfollowed := true, recurses := true, loops := true, apart := false, narrowed := true }
def TruthValuesUptoSaid : Prop := truthValuesUptoRow.holds Try.pinned (OpenSpec.upto truthValuesSpec)

/-- 'sequentlaw.FormulaSwaps', WHERE WHAT IT READS IS OF BULK AT MOST 1048576: true; the input reads as it did. -/
def formulaSwapsUptoRow : OpenClaim := { program := "ytbmpmmbcfabeeaa", sum := "bc36c90b22d05e1f8d050f1e9b6086c41b29414c14e1c7817db5204dde1f962b", func := "sequent/sequentlaw.FormulaSwaps", spec := "formulaSwaps", unfollowed := true, recurses := true, loops := true, apart := false, narrowed := true }
def FormulaSwapsUptoSaid : Prop := formulaSwapsUptoRow.holds Try.pinned (OpenSpec.upto formulaSwapsSpec)

/-- 'sequentlaw.FormulaParts', WHERE WHAT IT READS IS OF BULK AT MOST 1048576: true; the input reads as it did. -/
def formulaPartsUptoRow : OpenClaim := { program := "ytbmpmmbcfabeeaa", sum := "bc36c90b22d05e1f8d050f1e9b6086c41b29414c14e1c7817db5204dde1f962b", func := "sequent/sequentlaw.FormulaParts", spec := "formulaParts", unfollowed := true, recurses := true, loops := true, apart := false, narrowed := true }
def FormulaPartsUptoSaid : Prop := formulaPartsUptoRow.holds Try.pinned (OpenSpec.upto formulaPartsSpec)

end Rows
end Go.Proofs.Ytbmpmmbcfabeeaa
