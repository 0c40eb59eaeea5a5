/-
  No cell of these rows narrows 'for every input' (looked for: loops, veiled, ifaces, maps, wideKeys, modest, calm, conditions, laid).
  DERIVED. THE GIVEN ROWS OF THIS SEAT. 4 by the template 'for every input the law returns true; each argument reads behind the call as it read before'; 0 by the template 'total and deterministic' (their statements: YthnobaacfjihcaaTotals.lean).
  GIVEN WITH THE SEED: the statements are not yours to turn. If you find one false, say at which input.
  Laid BY PROGRAM, IN A SANDBOX (cutbox-rows.mjs): the forced cells as the released guide's own fill.sh prints them over the translation c8810ba181fdcf33… (all of the seat's roots in one cut). By AI agents, Wed Nov 11 2026. No macro, syntax, notation, axiom, sorry.
-/
import Derived.Test.YthnobaacfjihcaaChecked
import GoSem.Claim
import GoSem.ClaimJoined
import GoSem.ClaimMapViews
import Derived.JoinedTies
import Derived.KernelRfl
namespace Go.Proofs.Ythnobaacfjihcaa
/- THE CELL 'sum', in the pinned program and in every row, IS THE sha256 OF THE DUMP (.gsa) THAT YthnobaacfjihcaaProg.lean LOADS. Nothing in Lean hashes anything: it is a label: what it is worth is what the hold of that sum in a sandbox is worth. -/
noncomputable def Try.pinned : Pinned := { name := "ythnobaacfjihcaa", sum := "c8810ba181fdcf337dceed5f06ed813138ef5d983eedc89a50c4cd482f3d8344", checked := Try.checked }
namespace Rows
def none {H : Type} : Left H := { results := [], args := [] }

/-- 'sequentlaw.AlgebraTurns': WHATEVER THE INPUT: true; the input reads as it did. -/
def algebraTurnsSpec : ChangeSpec := { name := "algebraTurns", fn := fun _ => fun
  | [d] => { results := [.lit (.bool true)], args := [d] }
  | _ => none }
def algebraTurnsRow : OpenClaim := { program := "ythnobaacfjihcaa", sum := "c8810ba181fdcf337dceed5f06ed813138ef5d983eedc89a50c4cd482f3d8344", func := "sequent/sequentlaw.AlgebraTurns", spec := "algebraTurns", unfollowed := true, recurses := true, apart := false }
def AlgebraTurnsSaid : Prop := algebraTurnsRow.holds Try.pinned (OpenSpec.ofChange algebraTurnsSpec)

/-- ITS FALSE NEIGHBOUR: 'it returns false'. Refute it at one input. -/
def algebraTurnsWrong : ChangeSpec := { name := "algebraTurns", fn := fun _ => fun
  | [d] => { results := [.lit (.bool false)], args := [d] }
  | _ => none }
def AlgebraTurnsWrongFalsely : Prop := algebraTurnsRow.holds Try.pinned (OpenSpec.ofChange algebraTurnsWrong)

/-- 'sequentlaw.AlgebraProducts': WHATEVER THE INPUT: true; the input reads as it did. -/
def algebraProductsSpec : ChangeSpec := { name := "algebraProducts", fn := fun _ => fun
  | [d1, d2] => { results := [.lit (.bool true)], args := [d1, d2] }
  | _ => none }
def algebraProductsRow : OpenClaim := { program := "ythnobaacfjihcaa", sum := "c8810ba181fdcf337dceed5f06ed813138ef5d983eedc89a50c4cd482f3d8344", func := "sequent/sequentlaw.AlgebraProducts", spec := "algebraProducts", unfollowed := true, recurses := true, apart := false }
def AlgebraProductsSaid : Prop := algebraProductsRow.holds Try.pinned (OpenSpec.ofChange algebraProductsSpec)

/-- ITS FALSE NEIGHBOUR: 'it returns false'. Refute it at one input. -/
def algebraProductsWrong : ChangeSpec := { name := "algebraProducts", fn := fun _ => fun
  | [d1, d2] => { results := [.lit (.bool false)], args := [d1, d2] }
  | _ => none }
def AlgebraProductsWrongFalsely : Prop := algebraProductsRow.holds Try.pinned (OpenSpec.ofChange algebraProductsWrong)

/-- 'sequentlaw.AlgebraKinds': WHATEVER THE INPUT: true; the input reads as it did. -/
def algebraKindsSpec : ChangeSpec := { name := "algebraKinds", fn := fun _ => fun
  | [d] => { results := [.lit (.bool true)], args := [d] }
  | _ => none }
def algebraKindsRow : OpenClaim := { program := "ythnobaacfjihcaa", sum := "c8810ba181fdcf337dceed5f06ed813138ef5d983eedc89a50c4cd482f3d8344", func := "sequent/sequentlaw.AlgebraKinds", spec := "algebraKinds", unfollowed := true, recurses := true, apart := false }
def AlgebraKindsSaid : Prop := algebraKindsRow.holds Try.pinned (OpenSpec.ofChange algebraKindsSpec)

/-- ITS FALSE NEIGHBOUR: 'it returns false'. Refute it at one input. -/
def algebraKindsWrong : ChangeSpec := { name := "algebraKinds", fn := fun _ => fun
  | [d] => { results := [.lit (.bool false)], args := [d] }
  | _ => none }
def AlgebraKindsWrongFalsely : Prop := algebraKindsRow.holds Try.pinned (OpenSpec.ofChange algebraKindsWrong)

/-- 'sequentlaw.AlgebraBirkhoff': WHATEVER THE INPUT: true; the input reads as it did. -/
def algebraBirkhoffSpec : ChangeSpec := { name := "algebraBirkhoff", fn := fun _ => fun
  | [d] => { results := [.lit (.bool true)], args := [d] }
  | _ => none }
def algebraBirkhoffRow : OpenClaim := { program := "ythnobaacfjihcaa", sum := "c8810ba181fdcf337dceed5f06ed813138ef5d983eedc89a50c4cd482f3d8344", func := "sequent/sequentlaw.AlgebraBirkhoff", spec := "algebraBirkhoff", unfollowed := true, recurses := true, apart := false }
def AlgebraBirkhoffSaid : Prop := algebraBirkhoffRow.holds Try.pinned (OpenSpec.ofChange algebraBirkhoffSpec)

/-- ITS FALSE NEIGHBOUR: 'it returns false'. Refute it at one input. -/
def algebraBirkhoffWrong : ChangeSpec := { name := "algebraBirkhoff", fn := fun _ => fun
  | [d] => { results := [.lit (.bool false)], args := [d] }
  | _ => none }
def AlgebraBirkhoffWrongFalsely : Prop := algebraBirkhoffRow.holds Try.pinned (OpenSpec.ofChange algebraBirkhoffWrong)

/- THE SECOND FORM. 'bulk': how many values and letters a reading holds, each counted each time it is reached (what is shared counts as often as it is met; a slice's spare places count too). A statement '..UptoSaid' is the law's where the arguments, and the package variables that the reading takes, are together of bulk at most 1048576: NARROWER than '..Said'. Prove '..Said' where nothing that the law and all that it calls make is longer than what came in: it says more and counts as full. Else prove '..UptoSaid'. A law counts once. -/
mutual
def uptoBulk {H : Type} : DataW H → Nat
  | .lit (.string bytes) => bytes.length + 1
  | .lit _ => 1
  | .nil => 1
  | .ptr d => uptoBulk d + 1
  | .slice elems spare => uptoBulkAll elems + uptoBulkAll spare + 1
  | .agg parts => uptoBulkAll parts + 1
  | .iface _ d => uptoBulk d + 1
  | .map entries => uptoBulkEntries entries + 1
  | .held _ => 1
def uptoBulkAll {H : Type} : List (DataW H) → Nat
  | [] => 0
  | d :: r => uptoBulk d + uptoBulkAll r
def uptoBulkEntries {H : Type} : List (Lit × DataW H) → Nat
  | [] => 0
  | x :: r => uptoBulkEntry x + uptoBulkEntries r
def uptoBulkEntry {H : Type} : Lit × DataW H → Nat
  | (.string bytes, d) => bytes.length + uptoBulk d + 1
  | (_, d) => uptoBulk d + 1
 end
def uptoSmall : (H : Type) → List (DataW H) → Bool := fun _ ds => decide (uptoBulkAll ds ≤ 1048576)
def OpenSpec.upto (s : _root_.Go.ChangeSpec) : _root_.Go.OpenSpec := { _root_.Go.OpenSpec.ofChange s with cond := some uptoSmall }

/-- 'sequentlaw.AlgebraTurns', WHERE WHAT IT READS IS OF BULK AT MOST 1048576: true; the input reads as it did. -/
def algebraTurnsUptoRow : OpenClaim := { program := "ythnobaacfjihcaa", sum := "c8810ba181fdcf337dceed5f06ed813138ef5d983eedc89a50c4cd482f3d8344", func := "sequent/sequentlaw.AlgebraTurns", spec := "algebraTurns", unfollowed := true, recurses := true, apart := false, narrowed := true }
def AlgebraTurnsUptoSaid : Prop := algebraTurnsUptoRow.holds Try.pinned (OpenSpec.upto algebraTurnsSpec)

/-- 'sequentlaw.AlgebraProducts', WHERE WHAT IT READS IS OF BULK AT MOST 1048576: true; the input reads as it did. -/
def algebraProductsUptoRow : OpenClaim := { program := "ythnobaacfjihcaa", sum := "c8810ba181fdcf337dceed5f06ed813138ef5d983eedc89a50c4cd482f3d8344", func := "sequent/sequentlaw.AlgebraProducts", spec := "algebraProducts", unfollowed := true, recurses := true, apart := false, narrowed := true }
def AlgebraProductsUptoSaid : Prop := algebraProductsUptoRow.holds Try.pinned (OpenSpec.upto algebraProductsSpec)

/-- 'sequentlaw.AlgebraKinds', WHERE WHAT IT READS IS OF BULK AT MOST 1048576: true; the input reads as it did. -/
def algebraKindsUptoRow : OpenClaim := { program := "ythnobaacfjihcaa", sum := "c8810ba181fdcf337dceed5f06ed813138ef5d983eedc89a50c4cd482f3d8344", func := "sequent/sequentlaw.AlgebraKinds", spec := "algebraKinds", unfollowed := true, recurses := true, apart := false, narrowed := true }
def AlgebraKindsUptoSaid : Prop := algebraKindsUptoRow.holds Try.pinned (OpenSpec.upto algebraKindsSpec)

/-- 'sequentlaw.AlgebraBirkhoff', WHERE WHAT IT READS IS OF BULK AT MOST 1048576: true; the input reads as it did. -/
def algebraBirkhoffUptoRow : OpenClaim := { program := "ythnobaacfjihcaa", sum := "c8810ba181fdcf337dceed5f06ed813138ef5d983eedc89a50c4cd482f3d8344", func := "sequent/sequentlaw.AlgebraBirkhoff", spec := "algebraBirkhoff", unfollowed := true, recurses := true, apart := false, narrowed := true }
def AlgebraBirkhoffUptoSaid : Prop := algebraBirkhoffUptoRow.holds Try.pinned (OpenSpec.upto algebraBirkhoffSpec)

end Rows
end Go.Proofs.Ythnobaacfjihcaa
