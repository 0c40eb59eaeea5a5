/-
  NARROWER THAN 'FOR EVERY INPUT', by the rows' own cells (each row's printed sentence says how): GamesFraisse: loops.
  DERIVED. THE GIVEN ROWS OF THIS SEAT. 3 by the template 'for every input the law returns true; each argument reads behind the call as it read before'; 0 by the template 'total and deterministic' (their statements: YtfhakdonenhnbaaTotals.lean).
  GIVEN WITH THE SEED: the statements are not yours to turn. If you find one false, say at which input.
  Laid BY PROGRAM, IN A SANDBOX (cutbox-rows.mjs): the forced cells as the released guide's own fill.sh prints them over the translation 803d38668598f92b… (all of the seat's roots in one cut). By AI agents, Wed Nov 11 2026. No macro, syntax, notation, axiom, sorry.
-/
import Derived.Test.YtfhakdonenhnbaaChecked
import GoSem.Claim
import GoSem.ClaimJoined
import GoSem.ClaimMapViews
import Derived.JoinedTies
import Derived.KernelRfl
namespace Go.Proofs.Ytfhakdonenhnbaa
/- THE CELL 'sum', in the pinned program and in every row, IS THE sha256 OF THE DUMP (.gsa) THAT YtfhakdonenhnbaaProg.lean LOADS. Nothing in Lean hashes anything: it is a label: what it is worth is what the hold of that sum in a sandbox is worth. -/
noncomputable def Try.pinned : Pinned := { name := "ytfhakdonenhnbaa", sum := "803d38668598f92bbd91d9120dabf831b44be4abfc68591cbea5b8ca1e9c4ac1", checked := Try.checked }
namespace Rows
def none {H : Type} : Left H := { results := [], args := [] }

/-- 'sequentlaw.GamesFraisse': WHATEVER THE INPUT: true; the input reads as it did. -/
def gamesFraisseSpec : ChangeSpec := { name := "gamesFraisse", fn := fun _ => fun
  | [d1, d2, d3, d4] => { results := [.lit (.bool true)], args := [d1, d2, d3, d4] }
  | _ => none }
def gamesFraisseRow : OpenClaim := { program := "ytfhakdonenhnbaa", sum := "803d38668598f92bbd91d9120dabf831b44be4abfc68591cbea5b8ca1e9c4ac1", func := "sequent/sequentlaw.GamesFraisse", spec := "gamesFraisse", unfollowed := true, recurses := true, loops := true, plainKeys := false, apart := false }
def GamesFraisseSaid : Prop := gamesFraisseRow.holds Try.pinned (OpenSpec.ofChange gamesFraisseSpec)

/-- ITS FALSE NEIGHBOUR: 'it returns false'. Refute it at one input. -/
def gamesFraisseWrong : ChangeSpec := { name := "gamesFraisse", fn := fun _ => fun
  | [d1, d2, d3, d4] => { results := [.lit (.bool false)], args := [d1, d2, d3, d4] }
  | _ => none }
def GamesFraisseWrongFalsely : Prop := gamesFraisseRow.holds Try.pinned (OpenSpec.ofChange gamesFraisseWrong)

/-- 'sequentlaw.GamesOrders': WHATEVER THE INPUT: true; the input reads as it did. -/
def gamesOrdersSpec : ChangeSpec := { name := "gamesOrders", fn := fun _ => fun
  | [d1, d2, d3] => { results := [.lit (.bool true)], args := [d1, d2, d3] }
  | _ => none }
def gamesOrdersRow : OpenClaim := { program := "ytfhakdonenhnbaa", sum := "803d38668598f92bbd91d9120dabf831b44be4abfc68591cbea5b8ca1e9c4ac1", func := "sequent/sequentlaw.GamesOrders", spec := "gamesOrders", unfollowed := true, recurses := true, plainKeys := false, apart := false }
def GamesOrdersSaid : Prop := gamesOrdersRow.holds Try.pinned (OpenSpec.ofChange gamesOrdersSpec)

/-- ITS FALSE NEIGHBOUR: 'it returns false'. Refute it at one input. -/
def gamesOrdersWrong : ChangeSpec := { name := "gamesOrders", fn := fun _ => fun
  | [d1, d2, d3] => { results := [.lit (.bool false)], args := [d1, d2, d3] }
  | _ => none }
def GamesOrdersWrongFalsely : Prop := gamesOrdersRow.holds Try.pinned (OpenSpec.ofChange gamesOrdersWrong)

/-- 'sequentlaw.GamesGrow': WHATEVER THE INPUT: true; the input reads as it did. -/
def gamesGrowSpec : ChangeSpec := { name := "gamesGrow", fn := fun _ => fun
  | [d1, d2, d3, d4] => { results := [.lit (.bool true)], args := [d1, d2, d3, d4] }
  | _ => none }
def gamesGrowRow : OpenClaim := { program := "ytfhakdonenhnbaa", sum := "803d38668598f92bbd91d9120dabf831b44be4abfc68591cbea5b8ca1e9c4ac1", func := "sequent/sequentlaw.GamesGrow", spec := "gamesGrow", unfollowed := true, recurses := true, plainKeys := false, apart := false }
def GamesGrowSaid : Prop := gamesGrowRow.holds Try.pinned (OpenSpec.ofChange gamesGrowSpec)

/-- ITS FALSE NEIGHBOUR: 'it returns false'. Refute it at one input. -/
def gamesGrowWrong : ChangeSpec := { name := "gamesGrow", fn := fun _ => fun
  | [d1, d2, d3, d4] => { results := [.lit (.bool false)], args := [d1, d2, d3, d4] }
  | _ => none }
def GamesGrowWrongFalsely : Prop := gamesGrowRow.holds Try.pinned (OpenSpec.ofChange gamesGrowWrong)

/- THE SECOND FORM. 'bulk': how many values and letters a reading holds, each counted each time it is reached (what is shared counts as often as it is met; a slice's spare places count too). A statement '..UptoSaid' is the law's where the arguments, and the package variables that the reading takes, are together of bulk at most 1048576: NARROWER than '..Said'. Prove '..Said' where nothing that the law and all that it calls make is longer than what came in: it says more and counts as full. Else prove '..UptoSaid'. A law counts once. -/
mutual
def uptoBulk {H : Type} : DataW H → Nat
  | .lit (.string bytes) => bytes.length + 1
  | .lit _ => 1
  | .nil => 1
  | .ptr d => uptoBulk d + 1
  | .slice elems spare => uptoBulkAll elems + uptoBulkAll spare + 1
  | .agg parts => uptoBulkAll parts + 1
  | .iface _ d => uptoBulk d + 1
  | .map entries => uptoBulkEntries entries + 1
  | .held _ => 1
def uptoBulkAll {H : Type} : List (DataW H) → Nat
  | [] => 0
  | d :: r => uptoBulk d + uptoBulkAll r
def uptoBulkEntries {H : Type} : List (Lit × DataW H) → Nat
  | [] => 0
  | x :: r => uptoBulkEntry x + uptoBulkEntries r
def uptoBulkEntry {H : Type} : Lit × DataW H → Nat
  | (.string bytes, d) => bytes.length + uptoBulk d + 1
  | (_, d) => uptoBulk d + 1
 end
def uptoSmall : (H : Type) → List (DataW H) → Bool := fun _ ds => decide (uptoBulkAll ds ≤ 1048576)
def OpenSpec.upto (s : _root_.Go.ChangeSpec) : _root_.Go.OpenSpec := { _root_.Go.OpenSpec.ofChange s with cond := some uptoSmall }

/-- 'sequentlaw.GamesFraisse', WHERE WHAT IT READS IS OF BULK AT MOST 1048576: true; the input reads as it did. -/
def gamesFraisseUptoRow : OpenClaim := { program := "ytfhakdonenhnbaa", sum := "803d38668598f92bbd91d9120dabf831b44be4abfc68591cbea5b8ca1e9c4ac1", func := "sequent/sequentlaw.GamesFraisse", spec := "gamesFraisse", unfollowed := true, recurses := true, loops := true, plainKeys := false, apart := false, narrowed := true }
def GamesFraisseUptoSaid : Prop := gamesFraisseUptoRow.holds Try.pinned (OpenSpec.upto gamesFraisseSpec)

/-- 'sequentlaw.GamesOrders', WHERE WHAT IT READS IS OF BULK AT MOST 1048576: true; the input reads as it did. -/
def gamesOrdersUptoRow : OpenClaim := { program := "ytfhakdonenhnbaa", sum := "803d38668598f92bbd91d9120dabf831b44be4abfc68591cbea5b8ca1e9c4ac1", func := "sequent/sequentlaw.GamesOrders", spec := "gamesOrders", unfollowed := true, recurses := true, plainKeys := false, apart := false, narrowed := true }
def GamesOrdersUptoSaid : Prop := gamesOrdersUptoRow.holds Try.pinned (OpenSpec.upto gamesOrdersSpec)

/-- 'sequentlaw.GamesGrow', WHERE WHAT IT READS IS OF BULK AT MOST 1048576: true; the input reads as it did. -/
def gamesGrowUptoRow : OpenClaim := { program := "ytfhakdonenhnbaa", sum := "803d38668598f92bbd91d9120dabf831b44be4abfc68591cbea5b8ca1e9c4ac1", func := "sequent/sequentlaw.GamesGrow", spec := "gamesGrow", unfollowed := true, recurses := true, plainKeys := false, apart := false, narrowed := true }
def GamesGrowUptoSaid : Prop := gamesGrowUptoRow.holds Try.pinned (OpenSpec.upto gamesGrowSpec)

end Rows
end Go.Proofs.Ytfhakdonenhnbaa
