/-
  NARROWER THAN 'FOR EVERY INPUT', by the rows' own cells (each row's printed sentence says how): ModalDuals: loops · ModalGenerated: loops · ModalEvals: loops.
  DERIVED. THE GIVEN ROWS OF THIS SEAT. 4 by the template 'for every input the law returns true; each argument reads behind the call as it read before'; 0 by the template 'total and deterministic' (their statements: YtckkpipmpdahiaaTotals.lean).
  GIVEN WITH THE SEED: the statements are not yours to turn. If you find one false, say at which input.
  Laid BY PROGRAM, IN A SANDBOX (cutbox-rows.mjs): the forced cells as the released guide's own fill.sh prints them over the translation 3e33284c7180ffea… (all of the seat's roots in one cut). By AI agents, Wed Nov 11 2026. No macro, syntax, notation, axiom, sorry.
-/
import Derived.Test.YtckkpipmpdahiaaChecked
import GoSem.Claim
import GoSem.ClaimJoined
import GoSem.ClaimMapViews
import Derived.JoinedTies
import Derived.KernelRfl
namespace Go.Proofs.Ytckkpipmpdahiaa
/- THE CELL 'sum', in the pinned program and in every row, IS THE sha256 OF THE DUMP (.gsa) THAT YtckkpipmpdahiaaProg.lean LOADS. Nothing in Lean hashes anything: it is a label: what it is worth is what the hold of that sum in a sandbox is worth. -/
noncomputable def Try.pinned : Pinned := { name := "ytckkpipmpdahiaa", sum := "3e33284c7180ffeaf113150ab09d556f608921027dd6cab10b5d1c48bcc75454", checked := Try.checked }
namespace Rows
def none {H : Type} : Left H := { results := [], args := [] }

/-- 'sequentlaw.ModalDuals': WHATEVER THE INPUT: true; the input reads as it did. -/
def modalDualsSpec : ChangeSpec := { name := "modalDuals", fn := fun _ => fun
  | [d1, d2, d3] => { results := [.lit (.bool true)], args := [d1, d2, d3] }
  | _ => none }
def modalDualsRow : OpenClaim := { program := "ytckkpipmpdahiaa", sum := "3e33284c7180ffeaf113150ab09d556f608921027dd6cab10b5d1c48bcc75454", func := "sequent/sequentlaw.ModalDuals", spec := "modalDuals", unfollowed := true, recurses := true, loops := true, apart := false }
def ModalDualsSaid : Prop := modalDualsRow.holds Try.pinned (OpenSpec.ofChange modalDualsSpec)

/-- ITS FALSE NEIGHBOUR: 'it returns false'. Refute it at one input. -/
def modalDualsWrong : ChangeSpec := { name := "modalDuals", fn := fun _ => fun
  | [d1, d2, d3] => { results := [.lit (.bool false)], args := [d1, d2, d3] }
  | _ => none }
def ModalDualsWrongFalsely : Prop := modalDualsRow.holds Try.pinned (OpenSpec.ofChange modalDualsWrong)

/-- 'sequentlaw.ModalGenerated': WHATEVER THE INPUT: true; the input reads as it did. -/
def modalGeneratedSpec : ChangeSpec := { name := "modalGenerated", fn := fun _ => fun
  | [d1, d2, d3] => { results := [.lit (.bool true)], args := [d1, d2, d3] }
  | _ => none }
def modalGeneratedRow : OpenClaim := { program := "ytckkpipmpdahiaa", sum := "3e33284c7180ffeaf113150ab09d556f608921027dd6cab10b5d1c48bcc75454", func := "sequent/sequentlaw.ModalGenerated", spec := "modalGenerated", unfollowed := true, recurses := true, loops := true, apart := false }
def ModalGeneratedSaid : Prop := modalGeneratedRow.holds Try.pinned (OpenSpec.ofChange modalGeneratedSpec)

/-- ITS FALSE NEIGHBOUR: 'it returns false'. Refute it at one input. -/
def modalGeneratedWrong : ChangeSpec := { name := "modalGenerated", fn := fun _ => fun
  | [d1, d2, d3] => { results := [.lit (.bool false)], args := [d1, d2, d3] }
  | _ => none }
def ModalGeneratedWrongFalsely : Prop := modalGeneratedRow.holds Try.pinned (OpenSpec.ofChange modalGeneratedWrong)

/-- 'sequentlaw.ModalEvals': WHATEVER THE INPUT: true; the input reads as it did. -/
def modalEvalsSpec : ChangeSpec := { name := "modalEvals", fn := fun _ => fun
  | [d1, d2] => { results := [.lit (.bool true)], args := [d1, d2] }
  | _ => none }
def modalEvalsRow : OpenClaim := { program := "ytckkpipmpdahiaa", sum := "3e33284c7180ffeaf113150ab09d556f608921027dd6cab10b5d1c48bcc75454", func := "sequent/sequentlaw.ModalEvals", spec := "modalEvals", unfollowed := true, recurses := true, loops := true, apart := false }
def ModalEvalsSaid : Prop := modalEvalsRow.holds Try.pinned (OpenSpec.ofChange modalEvalsSpec)

/-- ITS FALSE NEIGHBOUR: 'it returns false'. Refute it at one input. -/
def modalEvalsWrong : ChangeSpec := { name := "modalEvals", fn := fun _ => fun
  | [d1, d2] => { results := [.lit (.bool false)], args := [d1, d2] }
  | _ => none }
def ModalEvalsWrongFalsely : Prop := modalEvalsRow.holds Try.pinned (OpenSpec.ofChange modalEvalsWrong)

/-- 'sequentlaw.ModalShapes': WHATEVER THE INPUT: true; the input reads as it did. -/
def modalShapesSpec : ChangeSpec := { name := "modalShapes", fn := fun _ => fun
  | [d] => { results := [.lit (.bool true)], args := [d] }
  | _ => none }
def modalShapesRow : OpenClaim := { program := "ytckkpipmpdahiaa", sum := "3e33284c7180ffeaf113150ab09d556f608921027dd6cab10b5d1c48bcc75454", func := "sequent/sequentlaw.ModalShapes", spec := "modalShapes", unfollowed := true, recurses := true, apart := false }
def ModalShapesSaid : Prop := modalShapesRow.holds Try.pinned (OpenSpec.ofChange modalShapesSpec)

/-- ITS FALSE NEIGHBOUR: 'it returns false'. Refute it at one input. -/
def modalShapesWrong : ChangeSpec := { name := "modalShapes", fn := fun _ => fun
  | [d] => { results := [.lit (.bool false)], args := [d] }
  | _ => none }
def ModalShapesWrongFalsely : Prop := modalShapesRow.holds Try.pinned (OpenSpec.ofChange modalShapesWrong)

/- THE SECOND FORM. 'bulk': how many values and letters a reading holds, each counted each time it is reached (what is shared counts as often as it is met; a slice's spare places count too). A statement '..UptoSaid' is the law's where the arguments, and the package variables that the reading takes, are together of bulk at most 1048576: NARROWER than '..Said'. Prove '..Said' where nothing that the law and all that it calls make is longer than what came in: it says more and counts as full. Else prove '..UptoSaid'. A law counts once. -/
mutual
def uptoBulk {H : Type} : DataW H → Nat
  | .lit (.string bytes) => bytes.length + 1
  | .lit _ => 1
  | .nil => 1
  | .ptr d => uptoBulk d + 1
  | .slice elems spare => uptoBulkAll elems + uptoBulkAll spare + 1
  | .agg parts => uptoBulkAll parts + 1
  | .iface _ d => uptoBulk d + 1
  | .map entries => uptoBulkEntries entries + 1
  | .held _ => 1
def uptoBulkAll {H : Type} : List (DataW H) → Nat
  | [] => 0
  | d :: r => uptoBulk d + uptoBulkAll r
def uptoBulkEntries {H : Type} : List (Lit × DataW H) → Nat
  | [] => 0
  | x :: r => uptoBulkEntry x + uptoBulkEntries r
def uptoBulkEntry {H : Type} : Lit × DataW H → Nat
  | (.string bytes, d) => bytes.length + uptoBulk d + 1
  | (_, d) => uptoBulk d + 1
 end
def uptoSmall : (H : Type) → List (DataW H) → Bool := fun _ ds => decide (uptoBulkAll ds ≤ 1048576)
def OpenSpec.upto (s : _root_.Go.ChangeSpec) : _root_.Go.OpenSpec := { _root_.Go.OpenSpec.ofChange s with cond := some uptoSmall }

/-- 'sequentlaw.ModalDuals', WHERE WHAT IT READS IS OF BULK AT MOST 1048576: true; the input reads as it did. -/
def modalDualsUptoRow : OpenClaim := { program := "ytckkpipmpdahiaa", sum := "3e33284c7180ffeaf113150ab09d556f608921027dd6cab10b5d1c48bcc75454", func := "sequent/sequentlaw.ModalDuals", spec := "modalDuals", unfollowed := true, recurses := true, loops := true, apart := false, narrowed := true }
def ModalDualsUptoSaid : Prop := modalDualsUptoRow.holds Try.pinned (OpenSpec.upto modalDualsSpec)

/-- 'sequentlaw.ModalGenerated', WHERE WHAT IT READS IS OF BULK AT MOST 1048576: true; the input reads as it did. -/
def modalGeneratedUptoRow : OpenClaim := { program := "ytckkpipmpdahiaa", sum := "3e33284c7180ffeaf113150ab09d556f608921027dd6cab10b5d1c48bcc75454", func := "sequent/sequentlaw.ModalGenerated", spec := "modalGenerated", unfollowed := true, recurses := true, loops := true, apart := false, narrowed := true }
def ModalGeneratedUptoSaid : Prop := modalGeneratedUptoRow.holds Try.pinned (OpenSpec.upto modalGeneratedSpec)

/-- 'sequentlaw.ModalEvals', WHERE WHAT IT READS IS OF BULK AT MOST 1048576: true; the input reads as it did. -/
def modalEvalsUptoRow : OpenClaim := { program := "ytckkpipmpdahiaa", sum := "3e33284c7180ffeaf113150ab09d556f608921027dd6cab10b5d1c48bcc75454", func := "sequent/sequentlaw.ModalEvals", spec := "modalEvals", unfollowed := true, recurses := true, loops := true, apart := false, narrowed := true }
def ModalEvalsUptoSaid : Prop := modalEvalsUptoRow.holds Try.pinned (OpenSpec.upto modalEvalsSpec)

/-- 'sequentlaw.ModalShapes', WHERE WHAT IT READS IS OF BULK AT MOST 1048576: true; the input reads as it did. -/
def modalShapesUptoRow : OpenClaim := { program := "ytckkpipmpdahiaa", sum := "3e33284c7180ffeaf113150ab09d556f608921027dd6cab10b5d1c48bcc75454", func := "sequent/sequentlaw.ModalShapes", spec := "modalShapes", unfollowed := true, recurses := true, apart := false, narrowed := true }
def ModalShapesUptoSaid : Prop := modalShapesUptoRow.holds Try.pinned (OpenSpec.upto modalShapesSpec)

end Rows
end Go.Proofs.Ytckkpipmpdahiaa
