/-
  NARROWER THAN 'FOR EVERY INPUT', by the rows' own cells (each row's printed sentence says how): NetIdentity: loops · NetTensors: loops · NetProves: loops · NetJoins: loops · NetCorrect: loops.
  DERIVED. THE GIVEN ROWS OF THIS SEAT. 5 by the template 'for every input the law returns true; each argument reads behind the call as it read before'; 0 by the template 'total and deterministic' (their statements: YtbdionmmfigfiaaTotals.lean).
  GIVEN WITH THE SEED: the statements are not yours to turn. If you find one false, say at which input.
  Laid BY PROGRAM, IN A SANDBOX (cutbox-rows.mjs): the forced cells as the released guide's own fill.sh prints them over the translation ff8f588d18cdbdb5… (all of the seat's roots in one cut). By AI agents, Wed Nov 11 2026. No macro, syntax, notation, axiom, sorry.
-/
import Derived.Test.YtbdionmmfigfiaaChecked
import GoSem.Claim
import GoSem.ClaimJoined
import GoSem.ClaimMapViews
import Derived.JoinedTies
import Derived.KernelRfl
namespace Go.Proofs.Ytbdionmmfigfiaa
/- THE CELL 'sum', in the pinned program and in every row, IS THE sha256 OF THE DUMP (.gsa) THAT YtbdionmmfigfiaaProg.lean LOADS. Nothing in Lean hashes anything: it is a label: what it is worth is what the hold of that sum in a sandbox is worth. -/
noncomputable def Try.pinned : Pinned := { name := "ytbdionmmfigfiaa", sum := "ff8f588d18cdbdb57768d226835f279b216bfe0051233eda7a69330fba101a30", checked := Try.checked }
namespace Rows
def none {H : Type} : Left H := { results := [], args := [] }

/-- 'sequentlaw.NetIdentity': WHATEVER THE INPUT: true; the input reads as it did. -/
def netIdentitySpec : ChangeSpec := { name := "netIdentity", fn := fun _ => fun
  | [d1, d2, d3] => { results := [.lit (.bool true)], args := [d1, d2, d3] }
  | _ => none }
def netIdentityRow : OpenClaim := { program := "ytbdionmmfigfiaa", sum := "ff8f588d18cdbdb57768d226835f279b216bfe0051233eda7a69330fba101a30", func := "sequent/sequentlaw.NetIdentity", spec := "netIdentity", unfollowed := true, recurses := true, loops := true, apart := false }
def NetIdentitySaid : Prop := netIdentityRow.holds Try.pinned (OpenSpec.ofChange netIdentitySpec)

/-- ITS FALSE NEIGHBOUR: 'it returns false'. Refute it at one input. -/
def netIdentityWrong : ChangeSpec := { name := "netIdentity", fn := fun _ => fun
  | [d1, d2, d3] => { results := [.lit (.bool false)], args := [d1, d2, d3] }
  | _ => none }
def NetIdentityWrongFalsely : Prop := netIdentityRow.holds Try.pinned (OpenSpec.ofChange netIdentityWrong)

/-- 'sequentlaw.NetTensors': WHATEVER THE INPUT: true; the input reads as it did. -/
def netTensorsSpec : ChangeSpec := { name := "netTensors", fn := fun _ => fun
  | [d1, d2, d3, d4] => { results := [.lit (.bool true)], args := [d1, d2, d3, d4] }
  | _ => none }
def netTensorsRow : OpenClaim := { program := "ytbdionmmfigfiaa", sum := "ff8f588d18cdbdb57768d226835f279b216bfe0051233eda7a69330fba101a30", func := "sequent/sequentlaw.NetTensors", spec := "netTensors", unfollowed := true, recurses := true, loops := true, apart := false }
def NetTensorsSaid : Prop := netTensorsRow.holds Try.pinned (OpenSpec.ofChange netTensorsSpec)

/-- ITS FALSE NEIGHBOUR: 'it returns false'. Refute it at one input. -/
def netTensorsWrong : ChangeSpec := { name := "netTensors", fn := fun _ => fun
  | [d1, d2, d3, d4] => { results := [.lit (.bool false)], args := [d1, d2, d3, d4] }
  | _ => none }
def NetTensorsWrongFalsely : Prop := netTensorsRow.holds Try.pinned (OpenSpec.ofChange netTensorsWrong)

/-- 'sequentlaw.NetProves': WHATEVER THE INPUT: true; the input reads as it did. -/
def netProvesSpec : ChangeSpec := { name := "netProves", fn := fun _ => fun
  | [d] => { results := [.lit (.bool true)], args := [d] }
  | _ => none }
def netProvesRow : OpenClaim := { program := "ytbdionmmfigfiaa", sum := "ff8f588d18cdbdb57768d226835f279b216bfe0051233eda7a69330fba101a30", func := "sequent/sequentlaw.NetProves", spec := "netProves", unfollowed := true, recurses := true, loops := true, apart := false }
def NetProvesSaid : Prop := netProvesRow.holds Try.pinned (OpenSpec.ofChange netProvesSpec)

/-- ITS FALSE NEIGHBOUR: 'it returns false'. Refute it at one input. -/
def netProvesWrong : ChangeSpec := { name := "netProves", fn := fun _ => fun
  | [d] => { results := [.lit (.bool false)], args := [d] }
  | _ => none }
def NetProvesWrongFalsely : Prop := netProvesRow.holds Try.pinned (OpenSpec.ofChange netProvesWrong)

/-- 'sequentlaw.NetJoins': WHATEVER THE INPUT: true; the input reads as it did. -/
def netJoinsSpec : ChangeSpec := { name := "netJoins", fn := fun _ => fun
  | [d1, d2, d3, d4] => { results := [.lit (.bool true)], args := [d1, d2, d3, d4] }
  | _ => none }
def netJoinsRow : OpenClaim := { program := "ytbdionmmfigfiaa", sum := "ff8f588d18cdbdb57768d226835f279b216bfe0051233eda7a69330fba101a30", func := "sequent/sequentlaw.NetJoins", spec := "netJoins", unfollowed := true, recurses := true, loops := true, apart := false }
def NetJoinsSaid : Prop := netJoinsRow.holds Try.pinned (OpenSpec.ofChange netJoinsSpec)

/-- ITS FALSE NEIGHBOUR: 'it returns false'. Refute it at one input. -/
def netJoinsWrong : ChangeSpec := { name := "netJoins", fn := fun _ => fun
  | [d1, d2, d3, d4] => { results := [.lit (.bool false)], args := [d1, d2, d3, d4] }
  | _ => none }
def NetJoinsWrongFalsely : Prop := netJoinsRow.holds Try.pinned (OpenSpec.ofChange netJoinsWrong)

/-- 'sequentlaw.NetCorrect': WHATEVER THE INPUT: true; the input reads as it did. -/
def netCorrectSpec : ChangeSpec := { name := "netCorrect", fn := fun _ => fun
  | [d1, d2] => { results := [.lit (.bool true)], args := [d1, d2] }
  | _ => none }
def netCorrectRow : OpenClaim := { program := "ytbdionmmfigfiaa", sum := "ff8f588d18cdbdb57768d226835f279b216bfe0051233eda7a69330fba101a30", func := "sequent/sequentlaw.NetCorrect", spec := "netCorrect", unfollowed := true, recurses := true, loops := true, apart := false }
def NetCorrectSaid : Prop := netCorrectRow.holds Try.pinned (OpenSpec.ofChange netCorrectSpec)

/-- ITS FALSE NEIGHBOUR: 'it returns false'. Refute it at one input. -/
def netCorrectWrong : ChangeSpec := { name := "netCorrect", fn := fun _ => fun
  | [d1, d2] => { results := [.lit (.bool false)], args := [d1, d2] }
  | _ => none }
def NetCorrectWrongFalsely : Prop := netCorrectRow.holds Try.pinned (OpenSpec.ofChange netCorrectWrong)

/- THE SECOND FORM. 'bulk': how many values and letters a reading holds, each counted each time it is reached (what is shared counts as often as it is met; a slice's spare places count too). A statement '..UptoSaid' is the law's where the arguments, and the package variables that the reading takes, are together of bulk at most 1048576: NARROWER than '..Said'. Prove '..Said' where nothing that the law and all that it calls make is longer than what came in: it says more and counts as full. Else prove '..UptoSaid'. A law counts once. -/
mutual
def uptoBulk {H : Type} : DataW H → Nat
  | .lit (.string bytes) => bytes.length + 1
  | .lit _ => 1
  | .nil => 1
  | .ptr d => uptoBulk d + 1
  | .slice elems spare => uptoBulkAll elems + uptoBulkAll spare + 1
  | .agg parts => uptoBulkAll parts + 1
  | .iface _ d => uptoBulk d + 1
  | .map entries => uptoBulkEntries entries + 1
  | .held _ => 1
def uptoBulkAll {H : Type} : List (DataW H) → Nat
  | [] => 0
  | d :: r => uptoBulk d + uptoBulkAll r
def uptoBulkEntries {H : Type} : List (Lit × DataW H) → Nat
  | [] => 0
  | x :: r => uptoBulkEntry x + uptoBulkEntries r
def uptoBulkEntry {H : Type} : Lit × DataW H → Nat
  | (.string bytes, d) => bytes.length + uptoBulk d + 1
  | (_, d) => uptoBulk d + 1
 end
def uptoSmall : (H : Type) → List (DataW H) → Bool := fun _ ds => decide (uptoBulkAll ds ≤ 1048576)
def OpenSpec.upto (s : _root_.Go.ChangeSpec) : _root_.Go.OpenSpec := { _root_.Go.OpenSpec.ofChange s with cond := some uptoSmall }

/-- 'sequentlaw.NetIdentity', WHERE WHAT IT READS IS OF BULK AT MOST 1048576: true; the input reads as it did. -/
def netIdentityUptoRow : OpenClaim := { program := "ytbdionmmfigfiaa", sum := "ff8f588d18cdbdb57768d226835f279b216bfe0051233eda7a69330fba101a30", func := "sequent/sequentlaw.NetIdentity", spec := "netIdentity", unfollowed := true, recurses := true, loops := true, apart := false, narrowed := true }
def NetIdentityUptoSaid : Prop := netIdentityUptoRow.holds Try.pinned (OpenSpec.upto netIdentitySpec)

/-- 'sequentlaw.NetTensors', WHERE WHAT IT READS IS OF BULK AT MOST 1048576: true; the input reads as it did. -/
def netTensorsUptoRow : OpenClaim := { program := "ytbdionmmfigfiaa", sum := "ff8f588d18cdbdb57768d226835f279b216bfe0051233eda7a69330fba101a30", func := "sequent/sequentlaw.NetTensors", spec := "netTensors", unfollowed := true, recurses := true, loops := true, apart := false, narrowed := true }
def NetTensorsUptoSaid : Prop := netTensorsUptoRow.holds Try.pinned (OpenSpec.upto netTensorsSpec)

/-- 'sequentlaw.NetProves', WHERE WHAT IT READS IS OF BULK AT MOST 1048576: true; the input reads as it did. -/
def netProvesUptoRow : OpenClaim := { program := "ytbdionmmfigfiaa", sum := "ff8f588d18cdbdb57768d226835f279b216bfe0051233eda7a69330fba101a30", func := "sequent/sequentlaw.NetProves", spec := "netProves", unfollowed := true, recurses := true, loops := true, apart := false, narrowed := true }
def NetProvesUptoSaid : Prop := netProvesUptoRow.holds Try.pinned (OpenSpec.upto netProvesSpec)

/-- 'sequentlaw.NetJoins', WHERE WHAT IT READS IS OF BULK AT MOST 1048576: true; the input reads as it did. -/
def netJoinsUptoRow : OpenClaim := { program := "ytbdionmmfigfiaa", sum := "ff8f588d18cdbdb57768d226835f279b216bfe0051233eda7a69330fba101a30", func := "sequent/sequentlaw.NetJoins", spec := "netJoins", unfollowed := true, recurses := true, loops := true, apart := false, narrowed := true }
def NetJoinsUptoSaid : Prop := netJoinsUptoRow.holds Try.pinned (OpenSpec.upto netJoinsSpec)

/-- 'sequentlaw.NetCorrect', WHERE WHAT IT READS IS OF BULK AT MOST 1048576: true; the input reads as it did. -/
def netCorrectUptoRow : OpenClaim := { program := "ytbdionmmfigfiaa", sum := "ff8f588d18cdbdb57768d226835f279b216bfe0051233eda7a69330fba101a30", func := "sequent/sequentlaw.NetCorrect", spec := "netCorrect", unfollowed := true, recurses := true, loops := true, apart := false, narrowed := true }
def NetCorrectUptoSaid : Prop := netCorrectUptoRow.holds Try.pinned (OpenSpec.upto netCorrectSpec)

end Rows
end Go.Proofs.Ytbdionmmfigfiaa
