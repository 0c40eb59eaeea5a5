/-
  NARROWER THAN 'FOR EVERY INPUT', by the rows' own cells (each row's printed sentence says how): CalculusSound: loops · CalculusWeakens: loops · CalculusSubstitutes: loops · CalculusChecks: loops · BetweenCraig: loops · BetweenProjects: loops · BetweenJoint: loops · BetweenTwice: loops · ClassicProves: loops · ClassicCuts: loops · BetweenBeth: loops.
  DERIVED. THE GIVEN ROWS OF THIS SEAT. 11 by the template 'for every input the law returns true; each argument reads behind the call as it read before'; 0 by the template 'total and deterministic' (their statements: YtnoklmapofogeaaTotals.lean).
  GIVEN WITH THE SEED: the statements are not yours to turn. If you find one false, say at which input.
  Laid BY PROGRAM, IN A SANDBOX (cutbox-rows.mjs): the forced cells as the released guide's own fill.sh prints them over the translation 0ef8abb37c1ece9a… (all of the seat's roots in one cut). By AI agents, Wed Nov 11 2026. No macro, syntax, notation, axiom, sorry.
-/
import Derived.Test.YtnoklmapofogeaaChecked
import GoSem.Claim
import GoSem.ClaimJoined
import GoSem.ClaimMapViews
import Derived.JoinedTies
import Derived.KernelRfl
namespace Go.Proofs.Ytnoklmapofogeaa
/- THE CELL 'sum', in the pinned program and in every row, IS THE sha256 OF THE DUMP (.gsa) THAT YtnoklmapofogeaaProg.lean LOADS. Nothing in Lean hashes anything: it is a label: what it is worth is what the hold of that sum in a sandbox is worth. -/
noncomputable def Try.pinned : Pinned := { name := "ytnoklmapofogeaa", sum := "0ef8abb37c1ece9aa0b5a1c596f63727b9dd6af1bb57f88567dbe096fe45c427", checked := Try.checked }
namespace Rows
def none {H : Type} : Left H := { results := [], args := [] }

/-- 'sequentlaw.CalculusSound': WHATEVER THE INPUT: true; the input reads as it did. -/
def calculusSoundSpec : ChangeSpec := { name := "calculusSound", fn := fun _ => fun
  | [d1, d2] => { results := [.lit (.bool true)], args := [d1, d2] }
  | _ => none }
def calculusSoundRow : OpenClaim := { program := "ytnoklmapofogeaa", sum := "0ef8abb37c1ece9aa0b5a1c596f63727b9dd6af1bb57f88567dbe096fe45c427", func := "sequent/sequentlaw.CalculusSound", spec := "calculusSound", unfollowed := true, recurses := true, loops := true, apart := false }
def CalculusSoundSaid : Prop := calculusSoundRow.holds Try.pinned (OpenSpec.ofChange calculusSoundSpec)

/-- ITS FALSE NEIGHBOUR: 'it returns false'. Refute it at one input. -/
def calculusSoundWrong : ChangeSpec := { name := "calculusSound", fn := fun _ => fun
  | [d1, d2] => { results := [.lit (.bool false)], args := [d1, d2] }
  | _ => none }
def CalculusSoundWrongFalsely : Prop := calculusSoundRow.holds Try.pinned (OpenSpec.ofChange calculusSoundWrong)

/-- 'sequentlaw.CalculusWeakens': WHATEVER THE INPUT: true; the input reads as it did. -/
def calculusWeakensSpec : ChangeSpec := { name := "calculusWeakens", fn := fun _ => fun
  | [d1, d2, d3] => { results := [.lit (.bool true)], args := [d1, d2, d3] }
  | _ => none }
def calculusWeakensRow : OpenClaim := { program := "ytnoklmapofogeaa", sum := "0ef8abb37c1ece9aa0b5a1c596f63727b9dd6af1bb57f88567dbe096fe45c427", func := "sequent/sequentlaw.CalculusWeakens", spec := "calculusWeakens", unfollowed := true, recurses := true, loops := true, apart := false }
def CalculusWeakensSaid : Prop := calculusWeakensRow.holds Try.pinned (OpenSpec.ofChange calculusWeakensSpec)

/-- ITS FALSE NEIGHBOUR: 'it returns false'. Refute it at one input. -/
def calculusWeakensWrong : ChangeSpec := { name := "calculusWeakens", fn := fun _ => fun
  | [d1, d2, d3] => { results := [.lit (.bool false)], args := [d1, d2, d3] }
  | _ => none }
def CalculusWeakensWrongFalsely : Prop := calculusWeakensRow.holds Try.pinned (OpenSpec.ofChange calculusWeakensWrong)

/-- 'sequentlaw.CalculusSubstitutes': WHATEVER THE INPUT: true; the input reads as it did. -/
def calculusSubstitutesSpec : ChangeSpec := { name := "calculusSubstitutes", fn := fun _ => fun
  | [d1, d2, d3, d4] => { results := [.lit (.bool true)], args := [d1, d2, d3, d4] }
  | _ => none }
def calculusSubstitutesRow : OpenClaim := { program := "ytnoklmapofogeaa", sum := "0ef8abb37c1ece9aa0b5a1c596f63727b9dd6af1bb57f88567dbe096fe45c427", func := "sequent/sequentlaw.CalculusSubstitutes", spec := "calculusSubstitutes", unfollowed := true, recurses := true, loops := true, apart := false }
def CalculusSubstitutesSaid : Prop := calculusSubstitutesRow.holds Try.pinned (OpenSpec.ofChange calculusSubstitutesSpec)

/-- ITS FALSE NEIGHBOUR: 'it returns false'. Refute it at one input. -/
def calculusSubstitutesWrong : ChangeSpec := { name := "calculusSubstitutes", fn := fun _ => fun
  | [d1, d2, d3, d4] => { results := [.lit (.bool false)], args := [d1, d2, d3, d4] }
  | _ => none }
def CalculusSubstitutesWrongFalsely : Prop := calculusSubstitutesRow.holds Try.pinned (OpenSpec.ofChange calculusSubstitutesWrong)

/-- 'sequentlaw.CalculusChecks': WHATEVER THE INPUT: true; the input reads as it did. -/
def calculusChecksSpec : ChangeSpec := { name := "calculusChecks", fn := fun _ => fun
  | [d1, d2] => { results := [.lit (.bool true)], args := [d1, d2] }
  | _ => none }
def calculusChecksRow : OpenClaim := { program := "ytnoklmapofogeaa", sum := "0ef8abb37c1ece9aa0b5a1c596f63727b9dd6af1bb57f88567dbe096fe45c427", func := "sequent/sequentlaw.CalculusChecks", spec := "calculusChecks", unfollowed := true, recurses := true, loops := true, apart := false }
def CalculusChecksSaid : Prop := calculusChecksRow.holds Try.pinned (OpenSpec.ofChange calculusChecksSpec)

/-- ITS FALSE NEIGHBOUR: 'it returns false'. Refute it at one input. -/
def calculusChecksWrong : ChangeSpec := { name := "calculusChecks", fn := fun _ => fun
  | [d1, d2] => { results := [.lit (.bool false)], args := [d1, d2] }
  | _ => none }
def CalculusChecksWrongFalsely : Prop := calculusChecksRow.holds Try.pinned (OpenSpec.ofChange calculusChecksWrong)

/-- 'sequentlaw.BetweenCraig': WHATEVER THE INPUT: true; the input reads as it did. -/
def betweenCraigSpec : ChangeSpec := { name := "betweenCraig", fn := fun _ => fun
  | [d1, d2] => { results := [.lit (.bool true)], args := [d1, d2] }
  | _ => none }
def betweenCraigRow : OpenClaim := { program := "ytnoklmapofogeaa", sum := "0ef8abb37c1ece9aa0b5a1c596f63727b9dd6af1bb57f88567dbe096fe45c427", func := "sequent/sequentlaw.BetweenCraig", spec := "betweenCraig", unfollowed := true, recurses := true, loops := true, apart := false }
def BetweenCraigSaid : Prop := betweenCraigRow.holds Try.pinned (OpenSpec.ofChange betweenCraigSpec)

/-- ITS FALSE NEIGHBOUR: 'it returns false'. Refute it at one input. -/
def betweenCraigWrong : ChangeSpec := { name := "betweenCraig", fn := fun _ => fun
  | [d1, d2] => { results := [.lit (.bool false)], args := [d1, d2] }
  | _ => none }
def BetweenCraigWrongFalsely : Prop := betweenCraigRow.holds Try.pinned (OpenSpec.ofChange betweenCraigWrong)

/-- 'sequentlaw.BetweenProjects': WHATEVER THE INPUT: true; the input reads as it did. -/
def betweenProjectsSpec : ChangeSpec := { name := "betweenProjects", fn := fun _ => fun
  | [d1, d2] => { results := [.lit (.bool true)], args := [d1, d2] }
  | _ => none }
def betweenProjectsRow : OpenClaim := { program := "ytnoklmapofogeaa", sum := "0ef8abb37c1ece9aa0b5a1c596f63727b9dd6af1bb57f88567dbe096fe45c427", func := "sequent/sequentlaw.BetweenProjects", spec := "betweenProjects", unfollowed := true, recurses := true, loops := true, apart := false }
def BetweenProjectsSaid : Prop := betweenProjectsRow.holds Try.pinned (OpenSpec.ofChange betweenProjectsSpec)

/-- ITS FALSE NEIGHBOUR: 'it returns false'. Refute it at one input. -/
def betweenProjectsWrong : ChangeSpec := { name := "betweenProjects", fn := fun _ => fun
  | [d1, d2] => { results := [.lit (.bool false)], args := [d1, d2] }
  | _ => none }
def BetweenProjectsWrongFalsely : Prop := betweenProjectsRow.holds Try.pinned (OpenSpec.ofChange betweenProjectsWrong)

/-- 'sequentlaw.BetweenJoint': WHATEVER THE INPUT: true; the input reads as it did. -/
def betweenJointSpec : ChangeSpec := { name := "betweenJoint", fn := fun _ => fun
  | [d1, d2] => { results := [.lit (.bool true)], args := [d1, d2] }
  | _ => none }
def betweenJointRow : OpenClaim := { program := "ytnoklmapofogeaa", sum := "0ef8abb37c1ece9aa0b5a1c596f63727b9dd6af1bb57f88567dbe096fe45c427", func := "sequent/sequentlaw.BetweenJoint", spec := "betweenJoint", unfollowed := true, recurses := true, loops := true, apart := false }
def BetweenJointSaid : Prop := betweenJointRow.holds Try.pinned (OpenSpec.ofChange betweenJointSpec)

/-- ITS FALSE NEIGHBOUR: 'it returns false'. Refute it at one input. -/
def betweenJointWrong : ChangeSpec := { name := "betweenJoint", fn := fun _ => fun
  | [d1, d2] => { results := [.lit (.bool false)], args := [d1, d2] }
  | _ => none }
def BetweenJointWrongFalsely : Prop := betweenJointRow.holds Try.pinned (OpenSpec.ofChange betweenJointWrong)

/-- 'sequentlaw.BetweenTwice': WHATEVER THE INPUT: true; the input reads as it did. -/
def betweenTwiceSpec : ChangeSpec := { name := "betweenTwice", fn := fun _ => fun
  | [d1, d2, d3] => { results := [.lit (.bool true)], args := [d1, d2, d3] }
  | _ => none }
def betweenTwiceRow : OpenClaim := { program := "ytnoklmapofogeaa", sum := "0ef8abb37c1ece9aa0b5a1c596f63727b9dd6af1bb57f88567dbe096fe45c427", func := "sequent/sequentlaw.BetweenTwice", spec := "betweenTwice", unfollowed := true, recurses := true, loops := true, apart := false }
def BetweenTwiceSaid : Prop := betweenTwiceRow.holds Try.pinned (OpenSpec.ofChange betweenTwiceSpec)

/-- ITS FALSE NEIGHBOUR: 'it returns false'. Refute it at one input. -/
def betweenTwiceWrong : ChangeSpec := { name := "betweenTwice", fn := fun _ => fun
  | [d1, d2, d3] => { results := [.lit (.bool false)], args := [d1, d2, d3] }
  | _ => none }
def BetweenTwiceWrongFalsely : Prop := betweenTwiceRow.holds Try.pinned (OpenSpec.ofChange betweenTwiceWrong)

/-- 'sequentlaw.ClassicProves': WHATEVER THE INPUT: true; the input reads as it did. -/
def classicProvesSpec : ChangeSpec := { name := "classicProves", fn := fun _ => fun
  | [d] => { results := [.lit (.bool true)], args := [d] }
  | _ => none }
def classicProvesRow : OpenClaim := { program := "ytnoklmapofogeaa", sum := "0ef8abb37c1ece9aa0b5a1c596f63727b9dd6af1bb57f88567dbe096fe45c427", func := "sequent/sequentlaw.ClassicProves", spec := "classicProves", unfollowed := true, recurses := true, loops := true, apart := false }
def ClassicProvesSaid : Prop := classicProvesRow.holds Try.pinned (OpenSpec.ofChange classicProvesSpec)

/-- ITS FALSE NEIGHBOUR: 'it returns false'. Refute it at one input. -/
def classicProvesWrong : ChangeSpec := { name := "classicProves", fn := fun _ => fun
  | [d] => { results := [.lit (.bool false)], args := [d] }
  | _ => none }
def ClassicProvesWrongFalsely : Prop := classicProvesRow.holds Try.pinned (OpenSpec.ofChange classicProvesWrong)

/-- 'sequentlaw.ClassicCuts': WHATEVER THE INPUT: true; the input reads as it did. -/
def classicCutsSpec : ChangeSpec := { name := "classicCuts", fn := fun _ => fun
  | [d1, d2] => { results := [.lit (.bool true)], args := [d1, d2] }
  | _ => none }
def classicCutsRow : OpenClaim := { program := "ytnoklmapofogeaa", sum := "0ef8abb37c1ece9aa0b5a1c596f63727b9dd6af1bb57f88567dbe096fe45c427", func := "sequent/sequentlaw.ClassicCuts", spec := "classicCuts", unfollowed := true, recurses := true, loops := true, apart := false }
def ClassicCutsSaid : Prop := classicCutsRow.holds Try.pinned (OpenSpec.ofChange classicCutsSpec)

/-- ITS FALSE NEIGHBOUR: 'it returns false'. Refute it at one input. -/
def classicCutsWrong : ChangeSpec := { name := "classicCuts", fn := fun _ => fun
  | [d1, d2] => { results := [.lit (.bool false)], args := [d1, d2] }
  | _ => none }
def ClassicCutsWrongFalsely : Prop := classicCutsRow.holds Try.pinned (OpenSpec.ofChange classicCutsWrong)

/-- 'sequentlaw.BetweenBeth': WHATEVER THE INPUT: true; the input reads as it did. -/
def betweenBethSpec : ChangeSpec := { name := "betweenBeth", fn := fun _ => fun
  | [d1, d2] => { results := [.lit (.bool true)], args := [d1, d2] }
  | _ => none }
def betweenBethRow : OpenClaim := { program := "ytnoklmapofogeaa", sum := "0ef8abb37c1ece9aa0b5a1c596f63727b9dd6af1bb57f88567dbe096fe45c427", func := "sequent/sequentlaw.BetweenBeth", spec := "betweenBeth", unfollowed := true, recurses := true, loops := true, apart := false }
def BetweenBethSaid : Prop := betweenBethRow.holds Try.pinned (OpenSpec.ofChange betweenBethSpec)

/-- ITS FALSE NEIGHBOUR: 'it returns false'. Refute it at one input. -/
def betweenBethWrong : ChangeSpec := { name := "betweenBeth", fn := fun _ => fun
  | [d1, d2] => { results := [.lit (.bool false)], args := [d1, d2] }
  | _ => none }
def BetweenBethWrongFalsely : Prop := betweenBethRow.holds Try.pinned (OpenSpec.ofChange betweenBethWrong)

/- THE SECOND FORM. 'bulk': how many values and letters a reading holds, each counted each time it is reached (what is shared counts as often as it is met; a slice's spare places count too). A statement '..UptoSaid' is the law's where the arguments, and the package variables that the reading takes, are together of bulk at most 1048576: NARROWER than '..Said'. Prove '..Said' where nothing that the law and all that it calls make is longer than what came in: it says more and counts as full. Else prove '..UptoSaid'. A law counts once. -/
mutual
def uptoBulk {H : Type} : DataW H → Nat
  | .lit (.string bytes) => bytes.length + 1
  | .lit _ => 1
  | .nil => 1
  | .ptr d => uptoBulk d + 1
  | .slice elems spare => uptoBulkAll elems + uptoBulkAll spare + 1
  | .agg parts => uptoBulkAll parts + 1
  | .iface _ d => uptoBulk d + 1
  | .map entries => uptoBulkEntries entries + 1
  | .held _ => 1
def uptoBulkAll {H : Type} : List (DataW H) → Nat
  | [] => 0
  | d :: r => uptoBulk d + uptoBulkAll r
def uptoBulkEntries {H : Type} : List (Lit × DataW H) → Nat
  | [] => 0
  | x :: r => uptoBulkEntry x + uptoBulkEntries r
def uptoBulkEntry {H : Type} : Lit × DataW H → Nat
  | (.string bytes, d) => bytes.length + uptoBulk d + 1
  | (_, d) => uptoBulk d + 1
 end
def uptoSmall : (H : Type) → List (DataW H) → Bool := fun _ ds => decide (uptoBulkAll ds ≤ 1048576)
def OpenSpec.upto (s : _root_.Go.ChangeSpec) : _root_.Go.OpenSpec := { _root_.Go.OpenSpec.ofChange s with cond := some uptoSmall }

/-- 'sequentlaw.CalculusSound', WHERE WHAT IT READS IS OF BULK AT MOST 1048576: true; the input reads as it did. -/
def calculusSoundUptoRow : OpenClaim := { program := "ytnoklmapofogeaa", sum := "0ef8abb37c1ece9aa0b5a1c596f63727b9dd6af1bb57f88567dbe096fe45c427", func := "sequent/sequentlaw.CalculusSound", spec := "calculusSound", unfollowed := true, recurses := true, loops := true, apart := false, narrowed := true }
def CalculusSoundUptoSaid : Prop := calculusSoundUptoRow.holds Try.pinned (OpenSpec.upto calculusSoundSpec)

/-- 'sequentlaw.CalculusWeakens', WHERE WHAT IT READS IS OF BULK AT MOST 1048576: true; the input reads as it did. -/
def calculusWeakensUptoRow : OpenClaim := { program := "ytnoklmapofogeaa", sum := "0ef8abb37c1ece9aa0b5a1c596f63727b9dd6af1bb57f88567dbe096fe45c427", func := "sequent/sequentlaw.CalculusWeakens", spec := "calculusWeakens", unfollowed := true, recurses := true, loops := true, apart := false, narrowed := true }
def CalculusWeakensUptoSaid : Prop := calculusWeakensUptoRow.holds Try.pinned (OpenSpec.upto calculusWeakensSpec)

/-- 'sequentlaw.CalculusSubstitutes', WHERE WHAT IT READS IS OF BULK AT MOST 1048576: true; the input reads as it did. -/
def calculusSubstitutesUptoRow : OpenClaim := { program := "ytnoklmapofogeaa", sum := "0ef8abb37c1ece9aa0b5a1c596f63727b9dd6af1bb57f88567dbe096fe45c427", func := "sequent/sequentlaw.CalculusSubstitutes", spec := "calculusSubstitutes", unfollowed := true, recurses := true, loops := true, apart := false, narrowed := true }
def CalculusSubstitutesUptoSaid : Prop := calculusSubstitutesUptoRow.holds Try.pinned (OpenSpec.upto calculusSubstitutesSpec)

/-- 'sequentlaw.CalculusChecks', WHERE WHAT IT READS IS OF BULK AT MOST 1048576: true; the input reads as it did. -/
def calculusChecksUptoRow : OpenClaim := { program := "ytnoklmapofogeaa", sum := "0ef8abb37c1ece9aa0b5a1c596f63727b9dd6af1bb57f88567dbe096fe45c427", func := "sequent/sequentlaw.CalculusChecks", spec := "calculusChecks", unfollowed := true, recurses := true, loops := true, apart := false, narrowed := true }
def CalculusChecksUptoSaid : Prop := calculusChecksUptoRow.holds Try.pinned (OpenSpec.upto calculusChecksSpec)

/-- 'sequentlaw.BetweenCraig', WHERE WHAT IT READS IS OF BULK AT MOST 1048576: true; the input reads as it did. -/
def betweenCraigUptoRow : OpenClaim := { program := "ytnoklmapofogeaa", sum := "0ef8abb37c1ece9aa0b5a1c596f63727b9dd6af1bb57f88567dbe096fe45c427", func := "sequent/sequentlaw.BetweenCraig", spec := "betweenCraig", unfollowed := true, recurses := true, loops := true, apart := false, narrowed := true }
def BetweenCraigUptoSaid : Prop := betweenCraigUptoRow.holds Try.pinned (OpenSpec.upto betweenCraigSpec)

/-- 'sequentlaw.BetweenProjects', WHERE WHAT IT READS IS OF BULK AT MOST 1048576: true; the input reads as it did. -/
def betweenProjectsUptoRow : OpenClaim := { program := "ytnoklmapofogeaa", sum := "0ef8abb37c1ece9aa0b5a1c596f63727b9dd6af1bb57f88567dbe096fe45c427", func := "sequent/sequentlaw.BetweenProjects", spec := "betweenProjects", unfollowed := true, recurses := true, loops := true, apart := false, narrowed := true }
def BetweenProjectsUptoSaid : Prop := betweenProjectsUptoRow.holds Try.pinned (OpenSpec.upto betweenProjectsSpec)

/-- 'sequentlaw.BetweenJoint', WHERE WHAT IT READS IS OF BULK AT MOST 1048576: true; the input reads as it did. -/
def betweenJointUptoRow : OpenClaim := { program := "ytnoklmapofogeaa", sum := "0ef8abb37c1ece9aa0b5a1c596f63727b9dd6af1bb57f88567dbe096fe45c427", func := "sequent/sequentlaw.BetweenJoint", spec := "betweenJoint", unfollowed := true, recurses := true, loops := true, apart := false, narrowed := true }
def BetweenJointUptoSaid : Prop := betweenJointUptoRow.holds Try.pinned (OpenSpec.upto betweenJointSpec)

/-- 'sequentlaw.BetweenTwice', WHERE WHAT IT READS IS OF BULK AT MOST 1048576: true; the input reads as it did. -/
def betweenTwiceUptoRow : OpenClaim := { program := "ytnoklmapofogeaa", sum := "0ef8abb37c1ece9aa0b5a1c596f63727b9dd6af1bb57f88567dbe096fe45c427", func := "sequent/sequentlaw.BetweenTwice", spec := "betweenTwice", unfollowed := true, recurses := true, loops := true, apart := false, narrowed := true }
def BetweenTwiceUptoSaid : Prop := betweenTwiceUptoRow.holds Try.pinned (OpenSpec.upto betweenTwiceSpec)

/-- 'sequentlaw.ClassicProves', WHERE WHAT IT READS IS OF BULK AT MOST 1048576: true; the input reads as it did. -/
def classicProvesUptoRow : OpenClaim := { program := "ytnoklmapofogeaa", sum := "0ef8abb37c1ece9aa0b5a1c596f63727b9dd6af1bb57f88567dbe096fe45c427", func := "sequent/sequentlaw.ClassicProves", spec := "classicProves", unfollowed := true, recurses := true, loops := true, apart := false, narrowed := true }
def ClassicProvesUptoSaid : Prop := classicProvesUptoRow.holds Try.pinned (OpenSpec.upto classicProvesSpec)

/-- 'sequentlaw.ClassicCuts', WHERE WHAT IT READS IS OF BULK AT MOST 1048576: true; the input reads as it did. -/
def classicCutsUptoRow : OpenClaim := { program := "ytnoklmapofogeaa", sum := "0ef8abb37c1ece9aa0b5a1c596f63727b9dd6af1bb57f88567dbe096fe45c427", func := "sequent/sequentlaw.ClassicCuts", spec := "classicCuts", unfollowed := true, recurses := true, loops := true, apart := false, narrowed := true }
def ClassicCutsUptoSaid : Prop := classicCutsUptoRow.holds Try.pinned (OpenSpec.upto classicCutsSpec)

/-- 'sequentlaw.BetweenBeth', WHERE WHAT IT READS IS OF BULK AT MOST 1048576: true; the input reads as it did. -/
def betweenBethUptoRow : OpenClaim := { program := "ytnoklmapofogeaa", sum := "0ef8abb37c1ece9aa0b5a1c596f63727b9dd6af1bb57f88567dbe096fe45c427", func := "sequent/sequentlaw.BetweenBeth", spec := "betweenBeth", unfollowed := true, recurses := true, loops := true, apart := false, narrowed := true }
def BetweenBethUptoSaid : Prop := betweenBethUptoRow.holds Try.pinned (OpenSpec.upto betweenBethSpec)

end Rows
end Go.Proofs.Ytnoklmapofogeaa
