/-
  NARROWER THAN 'FOR EVERY INPUT', by the rows' own cells (each row's printed sentence says how): FormulaChecks: loops · FormulaBack: loops · NetIdentity: loops · NetTensors: loops · FormulaSwaps: loops · FormulaParts: loops.
  DERIVED. THE GIVEN ROWS OF THIS SEAT. 8 by the template 'for every input the law returns true; each argument reads behind the call as it read before'; 0 by the template 'total and deterministic' (their statements: YtcllmionhlmjfaaTotals.lean).
  GIVEN WITH THE SEED: the statements are not yours to turn. If you find one false, say at which input.
  Laid BY PROGRAM, IN A SANDBOX (cutbox-rows.mjs): the forced cells as the released guide's own fill.sh prints them over the translation 004af4c47d307b4f… (all of the seat's roots in one cut). By AI agents, Wed Nov 11 2026. No macro, syntax, notation, axiom, sorry.
-/
import Derived.Test.YtcllmionhlmjfaaChecked
import GoSem.Claim
import GoSem.ClaimJoined
import GoSem.ClaimMapViews
import Derived.JoinedTies
import Derived.KernelRfl
namespace Go.Proofs.Ytcllmionhlmjfaa
/- THE CELL 'sum', in the pinned program and in every row, IS THE sha256 OF THE DUMP (.gsa) THAT YtcllmionhlmjfaaProg.lean LOADS. Nothing in Lean hashes anything: it is a label: what it is worth is what the hold of that sum in a sandbox is worth. -/
noncomputable def Try.pinned : Pinned := { name := "ytcllmionhlmjfaa", sum := "004af4c47d307b4f750f4e9030d7f029a2e0c41c4e7b8f4f500d708897a36aba", checked := Try.checked }
namespace Rows
def none {H : Type} : Left H := { results := [], args := [] }

/-- 'sequentlaw.FormulaChecks': WHATEVER THE INPUT: true; the input reads as it did. -/
def formulaChecksSpec : ChangeSpec := { name := "formulaChecks", fn := fun _ => fun
  | [d] => { results := [.lit (.bool true)], args := [d] }
  | _ => none }
def formulaChecksRow : OpenClaim := { program := "ytcllmionhlmjfaa", sum := "004af4c47d307b4f750f4e9030d7f029a2e0c41c4e7b8f4f500d708897a36aba", func := "sequent/sequentlaw.FormulaChecks", spec := "formulaChecks", unfollowed := true, recurses := true, loops := true, apart := false }
def FormulaChecksSaid : Prop := formulaChecksRow.holds Try.pinned (OpenSpec.ofChange formulaChecksSpec)

/-- ITS FALSE NEIGHBOUR: 'it returns false'. Refute it at one input. -/
def formulaChecksWrong : ChangeSpec := { name := "formulaChecks", fn := fun _ => fun
  | [d] => { results := [.lit (.bool false)], args := [d] }
  | _ => none }
def FormulaChecksWrongFalsely : Prop := formulaChecksRow.holds Try.pinned (OpenSpec.ofChange formulaChecksWrong)

/-- 'sequentlaw.FormulaReads': WHATEVER THE INPUT: true; the input reads as it did. -/
def formulaReadsSpec : ChangeSpec := { name := "formulaReads", fn := fun _ => fun
  | [d] => { results := [.lit (.bool true)], args := [d] }
  | _ => none }
def formulaReadsRow : OpenClaim := { program := "ytcllmionhlmjfaa", sum := "004af4c47d307b4f750f4e9030d7f029a2e0c41c4e7b8f4f500d708897a36aba", func := "sequent/sequentlaw.FormulaReads", spec := "formulaReads", unfollowed := true, recurses := true, apart := false }
def FormulaReadsSaid : Prop := formulaReadsRow.holds Try.pinned (OpenSpec.ofChange formulaReadsSpec)

/-- ITS FALSE NEIGHBOUR: 'it returns false'. Refute it at one input. -/
def formulaReadsWrong : ChangeSpec := { name := "formulaReads", fn := fun _ => fun
  | [d] => { results := [.lit (.bool false)], args := [d] }
  | _ => none }
def FormulaReadsWrongFalsely : Prop := formulaReadsRow.holds Try.pinned (OpenSpec.ofChange formulaReadsWrong)

/-- 'sequentlaw.FormulaBack': WHATEVER THE INPUT: true; the input reads as it did. -/
def formulaBackSpec : ChangeSpec := { name := "formulaBack", fn := fun _ => fun
  | [d1, d2] => { results := [.lit (.bool true)], args := [d1, d2] }
  | _ => none }
def formulaBackRow : OpenClaim := { program := "ytcllmionhlmjfaa", sum := "004af4c47d307b4f750f4e9030d7f029a2e0c41c4e7b8f4f500d708897a36aba", func := "sequent/sequentlaw.FormulaBack", spec := "formulaBack", unfollowed := true, recurses := true, loops := true, apart := false }
def FormulaBackSaid : Prop := formulaBackRow.holds Try.pinned (OpenSpec.ofChange formulaBackSpec)

/-- ITS FALSE NEIGHBOUR: 'it returns false'. Refute it at one input. -/
def formulaBackWrong : ChangeSpec := { name := "formulaBack", fn := fun _ => fun
  | [d1, d2] => { results := [.lit (.bool false)], args := [d1, d2] }
  | _ => none }
def FormulaBackWrongFalsely : Prop := formulaBackRow.holds Try.pinned (OpenSpec.ofChange formulaBackWrong)

/-- 'sequentlaw.NetIdentity': WHATEVER THE INPUT: true; the input reads as it did. -/
def netIdentitySpec : ChangeSpec := { name := "netIdentity", fn := fun _ => fun
  | [d1, d2, d3] => { results := [.lit (.bool true)], args := [d1, d2, d3] }
  | _ => none }
def netIdentityRow : OpenClaim := { program := "ytcllmionhlmjfaa", sum := "004af4c47d307b4f750f4e9030d7f029a2e0c41c4e7b8f4f500d708897a36aba", func := "sequent/sequentlaw.NetIdentity", spec := "netIdentity", unfollowed := true, recurses := true, loops := true, apart := false }
def NetIdentitySaid : Prop := netIdentityRow.holds Try.pinned (OpenSpec.ofChange netIdentitySpec)

/-- ITS FALSE NEIGHBOUR: 'it returns false'. Refute it at one input. -/
def netIdentityWrong : ChangeSpec := { name := "netIdentity", fn := fun _ => fun
  | [d1, d2, d3] => { results := [.lit (.bool false)], args := [d1, d2, d3] }
  | _ => none }
def NetIdentityWrongFalsely : Prop := netIdentityRow.holds Try.pinned (OpenSpec.ofChange netIdentityWrong)

/-- 'sequentlaw.NetTensors': WHATEVER THE INPUT: true; the input reads as it did. -/
def netTensorsSpec : ChangeSpec := { name := "netTensors", fn := fun _ => fun
  | [d1, d2, d3, d4] => { results := [.lit (.bool true)], args := [d1, d2, d3, d4] }
  | _ => none }
def netTensorsRow : OpenClaim := { program := "ytcllmionhlmjfaa", sum := "004af4c47d307b4f750f4e9030d7f029a2e0c41c4e7b8f4f500d708897a36aba", func := "sequent/sequentlaw.NetTensors", spec := "netTensors", unfollowed := true, recurses := true, loops := true, apart := false }
def NetTensorsSaid : Prop := netTensorsRow.holds Try.pinned (OpenSpec.ofChange netTensorsSpec)

/-- ITS FALSE NEIGHBOUR: 'it returns false'. Refute it at one input. -/
def netTensorsWrong : ChangeSpec := { name := "netTensors", fn := fun _ => fun
  | [d1, d2, d3, d4] => { results := [.lit (.bool false)], args := [d1, d2, d3, d4] }
  | _ => none }
def NetTensorsWrongFalsely : Prop := netTensorsRow.holds Try.pinned (OpenSpec.ofChange netTensorsWrong)

/-- 'sequentlaw.FirstReads': WHATEVER THE INPUT: true; the input reads as it did. -/
def firstReadsSpec : ChangeSpec := { name := "firstReads", fn := fun _ => fun
  | [d] => { results := [.lit (.bool true)], args := [d] }
  | _ => none }
def firstReadsRow : OpenClaim := { program := "ytcllmionhlmjfaa", sum := "004af4c47d307b4f750f4e9030d7f029a2e0c41c4e7b8f4f500d708897a36aba", func := "sequent/sequentlaw.FirstReads", spec := "firstReads", inPlace := ["internal/abi.NoEscape", "internal/bytealg.MakeNoZero"], unfollowed := true, recurses := true, apart := false }
def FirstReadsSaid : Prop := firstReadsRow.holds Try.pinned (OpenSpec.ofChange firstReadsSpec)

/-- ITS FALSE NEIGHBOUR: 'it returns false'. Refute it at one input. -/
def firstReadsWrong : ChangeSpec := { name := "firstReads", fn := fun _ => fun
  | [d] => { results := [.lit (.bool false)], args := [d] }
  | _ => none }
def FirstReadsWrongFalsely : Prop := firstReadsRow.holds Try.pinned (OpenSpec.ofChange firstReadsWrong)

/-- 'sequentlaw.FormulaSwaps': WHATEVER THE INPUT: true; the input reads as it did. -/
def formulaSwapsSpec : ChangeSpec := { name := "formulaSwaps", fn := fun _ => fun
  | [d1, d2, d3] => { results := [.lit (.bool true)], args := [d1, d2, d3] }
  | _ => none }
def formulaSwapsRow : OpenClaim := { program := "ytcllmionhlmjfaa", sum := "004af4c47d307b4f750f4e9030d7f029a2e0c41c4e7b8f4f500d708897a36aba", func := "sequent/sequentlaw.FormulaSwaps", spec := "formulaSwaps", unfollowed := true, recurses := true, loops := true, apart := false }
def FormulaSwapsSaid : Prop := formulaSwapsRow.holds Try.pinned (OpenSpec.ofChange formulaSwapsSpec)

/-- ITS FALSE NEIGHBOUR: 'it returns false'. Refute it at one input. -/
def formulaSwapsWrong : ChangeSpec := { name := "formulaSwaps", fn := fun _ => fun
  | [d1, d2, d3] => { results := [.lit (.bool false)], args := [d1, d2, d3] }
  | _ => none }
def FormulaSwapsWrongFalsely : Prop := formulaSwapsRow.holds Try.pinned (OpenSpec.ofChange formulaSwapsWrong)

/-- 'sequentlaw.FormulaParts': WHATEVER THE INPUT: true; the input reads as it did. -/
def formulaPartsSpec : ChangeSpec := { name := "formulaParts", fn := fun _ => fun
  | [d1, d2, d3] => { results := [.lit (.bool true)], args := [d1, d2, d3] }
  | _ => none }
def formulaPartsRow : OpenClaim := { program := "ytcllmionhlmjfaa", sum := "004af4c47d307b4f750f4e9030d7f029a2e0c41c4e7b8f4f500d708897a36aba", func := "sequent/sequentlaw.FormulaParts", spec := "formulaParts", unfollowed := true, recurses := true, loops := true, apart := false }
def FormulaPartsSaid : Prop := formulaPartsRow.holds Try.pinned (OpenSpec.ofChange formulaPartsSpec)

/-- ITS FALSE NEIGHBOUR: 'it returns false'. Refute it at one input. -/
def formulaPartsWrong : ChangeSpec := { name := "formulaParts", fn := fun _ => fun
  | [d1, d2, d3] => { results := [.lit (.bool false)], args := [d1, d2, d3] }
  | _ => none }
def FormulaPartsWrongFalsely : Prop := formulaPartsRow.holds Try.pinned (OpenSpec.ofChange formulaPartsWrong)

/- THE SECOND FORM. 'bulk': how many values and letters a reading holds, each counted each time it is reached (what is shared counts as often as it is met; a slice's spare places count too). A statement '..UptoSaid' is the law's where the arguments, and the package variables that the reading takes, are together of bulk at most 1048576: NARROWER than '..Said'. Prove '..Said' where nothing that the law and all that it calls make is longer than what came in: it says more and counts as full. Else prove '..UptoSaid'. A law counts once. -/
mutual
def uptoBulk {H : Type} : DataW H → Nat
  | .lit (.string bytes) => bytes.length + 1
  | .lit _ => 1
  | .nil => 1
  | .ptr d => uptoBulk d + 1
  | .slice elems spare => uptoBulkAll elems + uptoBulkAll spare + 1
  | .agg parts => uptoBulkAll parts + 1
  | .iface _ d => uptoBulk d + 1
  | .map entries => uptoBulkEntries entries + 1
  | .held _ => 1
def uptoBulkAll {H : Type} : List (DataW H) → Nat
  | [] => 0
  | d :: r => uptoBulk d + uptoBulkAll r
def uptoBulkEntries {H : Type} : List (Lit × DataW H) → Nat
  | [] => 0
  | x :: r => uptoBulkEntry x + uptoBulkEntries r
def uptoBulkEntry {H : Type} : Lit × DataW H → Nat
  | (.string bytes, d) => bytes.length + uptoBulk d + 1
  | (_, d) => uptoBulk d + 1
 end
def uptoSmall : (H : Type) → List (DataW H) → Bool := fun _ ds => decide (uptoBulkAll ds ≤ 1048576)
def OpenSpec.upto (s : _root_.Go.ChangeSpec) : _root_.Go.OpenSpec := { _root_.Go.OpenSpec.ofChange s with cond := some uptoSmall }

/-- 'sequentlaw.FormulaChecks', WHERE WHAT IT READS IS OF BULK AT MOST 1048576: true; the input reads as it did. -/
def formulaChecksUptoRow : OpenClaim := { program := "ytcllmionhlmjfaa", sum := "004af4c47d307b4f750f4e9030d7f029a2e0c41c4e7b8f4f500d708897a36aba", func := "sequent/sequentlaw.FormulaChecks", spec := "formulaChecks", unfollowed := true, recurses := true, loops := true, apart := false, narrowed := true }
def FormulaChecksUptoSaid : Prop := formulaChecksUptoRow.holds Try.pinned (OpenSpec.upto formulaChecksSpec)

/-- 'sequentlaw.FormulaReads', WHERE WHAT IT READS IS OF BULK AT MOST 1048576: true; the input reads as it did. -/
def formulaReadsUptoRow : OpenClaim := { program := "ytcllmionhlmjfaa", sum := "004af4c47d307b4f750f4e9030d7f029a2e0c41c4e7b8f4f500d708897a36aba", func := "sequent/sequentlaw.FormulaReads", spec := "formulaReads", unfollowed := true, recurses := true, apart := false, narrowed := true }
def FormulaReadsUptoSaid : Prop := formulaReadsUptoRow.holds Try.pinned (OpenSpec.upto formulaReadsSpec)

/-- 'sequentlaw.FormulaBack', WHERE WHAT IT READS IS OF BULK AT MOST 1048576: true; the input reads as it did. -/
def formulaBackUptoRow : OpenClaim := { program := "ytcllmionhlmjfaa", sum := "004af4c47d307b4f750f4e9030d7f029a2e0c41c4e7b8f4f500d708897a36aba", func := "sequent/sequentlaw.FormulaBack", spec := "formulaBack", unfollowed := true, recurses := true, loops := true, apart := false, narrowed := true }
def FormulaBackUptoSaid : Prop := formulaBackUptoRow.holds Try.pinned (OpenSpec.upto formulaBackSpec)

/-- 'sequentlaw.NetIdentity', WHERE WHAT IT READS IS OF BULK AT MOST 1048576: true; the input reads as it did. -/
def netIdentityUptoRow : OpenClaim := { program := "ytcllmionhlmjfaa", sum := "004af4c47d307b4f750f4e9030d7f029a2e0c41c4e7b8f4f500d708897a36aba", func := "sequent/sequentlaw.NetIdentity", spec := "netIdentity", unfollowed := true, recurses := true, loops := true, apart := false, narrowed := true }
def NetIdentityUptoSaid : Prop := netIdentityUptoRow.holds Try.pinned (OpenSpec.upto netIdentitySpec)

/-- 'sequentlaw.NetTensors', WHERE WHAT IT READS IS OF BULK AT MOST 1048576: true; the input reads as it did. -/
def netTensorsUptoRow : OpenClaim := { program := "ytcllmionhlmjfaa", sum := "004af4c47d307b4f750f4e9030d7f029a2e0c41c4e7b8f4f500d708897a36aba", func := "sequent/sequentlaw.NetTensors", spec := "netTensors", unfollowed := true, recurses := true, loops := true, apart := false, narrowed := true }
def NetTensorsUptoSaid : Prop := netTensorsUptoRow.holds Try.pinned (OpenSpec.upto netTensorsSpec)

/-- 'sequentlaw.FirstReads', WHERE WHAT IT READS IS OF BULK AT MOST 1048576: true; the input reads as it did. -/
def firstReadsUptoRow : OpenClaim := { program := "ytcllmionhlmjfaa", sum := "004af4c47d307b4f750f4e9030d7f029a2e0c41c4e7b8f4f500d708897a36aba", func := "sequent/sequentlaw.FirstReads", spec := "firstReads", inPlace := ["internal/abi.NoEscape", "internal/bytealg.MakeNoZero"], unfollowed := true, recurses := true, apart := false, narrowed := true }
def FirstReadsUptoSaid : Prop := firstReadsUptoRow.holds Try.pinned (OpenSpec.upto firstReadsSpec)

/-- 'sequentlaw.FormulaSwaps', WHERE WHAT IT READS IS OF BULK AT MOST 1048576: true; the input reads as it did. -/
def formulaSwapsUptoRow : OpenClaim := { program := "ytcllmionhlmjfaa", sum := "004af4c47d307b4f750f4e9030d7f029a2e0c41c4e7b8f4f500d708897a36aba", func := "sequent/sequentlaw.FormulaSwaps", spec := "formulaSwaps", unfollowed := true, recurses := true, loops := true, apart := false, narrowed := true }
def FormulaSwapsUptoSaid : Prop := formulaSwapsUptoRow.holds Try.pinned (OpenSpec.upto formulaSwapsSpec)

/-- 'sequentlaw.FormulaParts', WHERE WHAT IT READS IS OF BULK AT MOST 1048576: true; the input reads as it did. -/
def formulaPartsUptoRow : OpenClaim := { program := "ytcllmionhlmjfaa", sum := "004af4c47d307b4f750f4e9030d7f029a2e0c41c4e7b8f4f500d708897a36aba", func := "sequent/sequentlaw.FormulaParts", spec := "formulaParts", unfollowed := true, recurses := true, loops := true, apart := false, narrowed := true }
def FormulaPartsUptoSaid : Prop := formulaPartsUptoRow.holds Try.pinned (OpenSpec.upto formulaPartsSpec)

end Rows
end Go.Proofs.Ytcllmionhlmjfaa
