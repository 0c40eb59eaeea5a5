/-
  NARROWER THAN 'FOR EVERY INPUT', by the rows' own cells (each row's printed sentence says how): GamesFraisse: loops · MeaningValues: loops · MeaningDuals: loops · MeaningNumbers: loops · CutMeasures: loops · CutParts: loops · BisimClasses: loops.
  DERIVED. THE GIVEN ROWS OF THIS SEAT. 11 by the template 'for every input the law returns true; each argument reads behind the call as it read before'; 0 by the template 'total and deterministic' (their statements: YtkadceiolddmhaaTotals.lean).
  GIVEN WITH THE SEED: the statements are not yours to turn. If you find one false, say at which input.
  Laid BY PROGRAM, IN A SANDBOX (cutbox-rows.mjs): the forced cells as the released guide's own fill.sh prints them over the translation cc18fe42d4fec0bc… (all of the seat's roots in one cut). By AI agents, Wed Nov 11 2026. No macro, syntax, notation, axiom, sorry.
-/
import Derived.Test.YtkadceiolddmhaaChecked
import GoSem.Claim
import GoSem.ClaimJoined
import GoSem.ClaimMapViews
import Derived.JoinedTies
import Derived.KernelRfl
namespace Go.Proofs.Ytkadceiolddmhaa
/- THE CELL 'sum', in the pinned program and in every row, IS THE sha256 OF THE DUMP (.gsa) THAT YtkadceiolddmhaaProg.lean LOADS. Nothing in Lean hashes anything: it is a label: what it is worth is what the hold of that sum in a sandbox is worth. -/
noncomputable def Try.pinned : Pinned := { name := "ytkadceiolddmhaa", sum := "cc18fe42d4fec0bc250c90cf03ace0a6c3dd0cb5399e72660476ba85808b7478", checked := Try.checked }
namespace Rows
def none {H : Type} : Left H := { results := [], args := [] }

/-- 'sequentlaw.GamesFraisse': WHATEVER THE INPUT: true; the input reads as it did. -/
def gamesFraisseSpec : ChangeSpec := { name := "gamesFraisse", fn := fun _ => fun
  | [d1, d2, d3, d4] => { results := [.lit (.bool true)], args := [d1, d2, d3, d4] }
  | _ => none }
def gamesFraisseRow : OpenClaim := { program := "ytkadceiolddmhaa", sum := "cc18fe42d4fec0bc250c90cf03ace0a6c3dd0cb5399e72660476ba85808b7478", func := "sequent/sequentlaw.GamesFraisse", spec := "gamesFraisse", unfollowed := true, recurses := true, loops := true, plainKeys := false, apart := false }
def GamesFraisseSaid : Prop := gamesFraisseRow.holds Try.pinned (OpenSpec.ofChange gamesFraisseSpec)

/-- ITS FALSE NEIGHBOUR: 'it returns false'. Refute it at one input. -/
def gamesFraisseWrong : ChangeSpec := { name := "gamesFraisse", fn := fun _ => fun
  | [d1, d2, d3, d4] => { results := [.lit (.bool false)], args := [d1, d2, d3, d4] }
  | _ => none }
def GamesFraisseWrongFalsely : Prop := gamesFraisseRow.holds Try.pinned (OpenSpec.ofChange gamesFraisseWrong)

/-- 'sequentlaw.GamesOrders': WHATEVER THE INPUT: true; the input reads as it did. -/
def gamesOrdersSpec : ChangeSpec := { name := "gamesOrders", fn := fun _ => fun
  | [d1, d2, d3] => { results := [.lit (.bool true)], args := [d1, d2, d3] }
  | _ => none }
def gamesOrdersRow : OpenClaim := { program := "ytkadceiolddmhaa", sum := "cc18fe42d4fec0bc250c90cf03ace0a6c3dd0cb5399e72660476ba85808b7478", func := "sequent/sequentlaw.GamesOrders", spec := "gamesOrders", unfollowed := true, recurses := true, plainKeys := false, apart := false }
def GamesOrdersSaid : Prop := gamesOrdersRow.holds Try.pinned (OpenSpec.ofChange gamesOrdersSpec)

/-- ITS FALSE NEIGHBOUR: 'it returns false'. Refute it at one input. -/
def gamesOrdersWrong : ChangeSpec := { name := "gamesOrders", fn := fun _ => fun
  | [d1, d2, d3] => { results := [.lit (.bool false)], args := [d1, d2, d3] }
  | _ => none }
def GamesOrdersWrongFalsely : Prop := gamesOrdersRow.holds Try.pinned (OpenSpec.ofChange gamesOrdersWrong)

/-- 'sequentlaw.GamesGrow': WHATEVER THE INPUT: true; the input reads as it did. -/
def gamesGrowSpec : ChangeSpec := { name := "gamesGrow", fn := fun _ => fun
  | [d1, d2, d3, d4] => { results := [.lit (.bool true)], args := [d1, d2, d3, d4] }
  | _ => none }
def gamesGrowRow : OpenClaim := { program := "ytkadceiolddmhaa", sum := "cc18fe42d4fec0bc250c90cf03ace0a6c3dd0cb5399e72660476ba85808b7478", func := "sequent/sequentlaw.GamesGrow", spec := "gamesGrow", unfollowed := true, recurses := true, plainKeys := false, apart := false }
def GamesGrowSaid : Prop := gamesGrowRow.holds Try.pinned (OpenSpec.ofChange gamesGrowSpec)

/-- ITS FALSE NEIGHBOUR: 'it returns false'. Refute it at one input. -/
def gamesGrowWrong : ChangeSpec := { name := "gamesGrow", fn := fun _ => fun
  | [d1, d2, d3, d4] => { results := [.lit (.bool false)], args := [d1, d2, d3, d4] }
  | _ => none }
def GamesGrowWrongFalsely : Prop := gamesGrowRow.holds Try.pinned (OpenSpec.ofChange gamesGrowWrong)

/-- 'sequentlaw.MeaningValues': WHATEVER THE INPUT: true; the input reads as it did. -/
def meaningValuesSpec : ChangeSpec := { name := "meaningValues", fn := fun _ => fun
  | [d1, d2, d3, d4] => { results := [.lit (.bool true)], args := [d1, d2, d3, d4] }
  | _ => none }
def meaningValuesRow : OpenClaim := { program := "ytkadceiolddmhaa", sum := "cc18fe42d4fec0bc250c90cf03ace0a6c3dd0cb5399e72660476ba85808b7478", func := "sequent/sequentlaw.MeaningValues", spec := "meaningValues", unfollowed := true, recurses := true, loops := true, plainKeys := false, apart := false }
def MeaningValuesSaid : Prop := meaningValuesRow.holds Try.pinned (OpenSpec.ofChange meaningValuesSpec)

/-- ITS FALSE NEIGHBOUR: 'it returns false'. Refute it at one input. -/
def meaningValuesWrong : ChangeSpec := { name := "meaningValues", fn := fun _ => fun
  | [d1, d2, d3, d4] => { results := [.lit (.bool false)], args := [d1, d2, d3, d4] }
  | _ => none }
def MeaningValuesWrongFalsely : Prop := meaningValuesRow.holds Try.pinned (OpenSpec.ofChange meaningValuesWrong)

/-- 'sequentlaw.MeaningDuals': WHATEVER THE INPUT: true; the input reads as it did. -/
def meaningDualsSpec : ChangeSpec := { name := "meaningDuals", fn := fun _ => fun
  | [d1, d2, d3, d4, d5] => { results := [.lit (.bool true)], args := [d1, d2, d3, d4, d5] }
  | _ => none }
def meaningDualsRow : OpenClaim := { program := "ytkadceiolddmhaa", sum := "cc18fe42d4fec0bc250c90cf03ace0a6c3dd0cb5399e72660476ba85808b7478", func := "sequent/sequentlaw.MeaningDuals", spec := "meaningDuals", unfollowed := true, recurses := true, loops := true, plainKeys := false, apart := false }
def MeaningDualsSaid : Prop := meaningDualsRow.holds Try.pinned (OpenSpec.ofChange meaningDualsSpec)

/-- ITS FALSE NEIGHBOUR: 'it returns false'. Refute it at one input. -/
def meaningDualsWrong : ChangeSpec := { name := "meaningDuals", fn := fun _ => fun
  | [d1, d2, d3, d4, d5] => { results := [.lit (.bool false)], args := [d1, d2, d3, d4, d5] }
  | _ => none }
def MeaningDualsWrongFalsely : Prop := meaningDualsRow.holds Try.pinned (OpenSpec.ofChange meaningDualsWrong)

/-- 'sequentlaw.MeaningNumbers': WHATEVER THE INPUT: true; the input reads as it did. -/
def meaningNumbersSpec : ChangeSpec := { name := "meaningNumbers", fn := fun _ => fun
  | [d1, d2, d3, d4, d5] => { results := [.lit (.bool true)], args := [d1, d2, d3, d4, d5] }
  | _ => none }
def meaningNumbersRow : OpenClaim := { program := "ytkadceiolddmhaa", sum := "cc18fe42d4fec0bc250c90cf03ace0a6c3dd0cb5399e72660476ba85808b7478", func := "sequent/sequentlaw.MeaningNumbers", spec := "meaningNumbers", unfollowed := true, recurses := true, loops := true, plainKeys := false, apart := false }
def MeaningNumbersSaid : Prop := meaningNumbersRow.holds Try.pinned (OpenSpec.ofChange meaningNumbersSpec)

/-- ITS FALSE NEIGHBOUR: 'it returns false'. Refute it at one input. -/
def meaningNumbersWrong : ChangeSpec := { name := "meaningNumbers", fn := fun _ => fun
  | [d1, d2, d3, d4, d5] => { results := [.lit (.bool false)], args := [d1, d2, d3, d4, d5] }
  | _ => none }
def MeaningNumbersWrongFalsely : Prop := meaningNumbersRow.holds Try.pinned (OpenSpec.ofChange meaningNumbersWrong)

/-- 'sequentlaw.CutMeasures': WHATEVER THE INPUT: true; the input reads as it did. -/
def cutMeasuresSpec : ChangeSpec := { name := "cutMeasures", fn := fun _ => fun
  | [d1, d2] => { results := [.lit (.bool true)], args := [d1, d2] }
  | _ => none }
def cutMeasuresRow : OpenClaim := { program := "ytkadceiolddmhaa", sum := "cc18fe42d4fec0bc250c90cf03ace0a6c3dd0cb5399e72660476ba85808b7478", func := "sequent/sequentlaw.CutMeasures", spec := "cutMeasures", unfollowed := true, recurses := true, loops := true, plainKeys := false, apart := false }
def CutMeasuresSaid : Prop := cutMeasuresRow.holds Try.pinned (OpenSpec.ofChange cutMeasuresSpec)

/-- ITS FALSE NEIGHBOUR: 'it returns false'. Refute it at one input. -/
def cutMeasuresWrong : ChangeSpec := { name := "cutMeasures", fn := fun _ => fun
  | [d1, d2] => { results := [.lit (.bool false)], args := [d1, d2] }
  | _ => none }
def CutMeasuresWrongFalsely : Prop := cutMeasuresRow.holds Try.pinned (OpenSpec.ofChange cutMeasuresWrong)

/-- 'sequentlaw.CutParts': WHATEVER THE INPUT: true; the input reads as it did. -/
def cutPartsSpec : ChangeSpec := { name := "cutParts", fn := fun _ => fun
  | [d1, d2] => { results := [.lit (.bool true)], args := [d1, d2] }
  | _ => none }
def cutPartsRow : OpenClaim := { program := "ytkadceiolddmhaa", sum := "cc18fe42d4fec0bc250c90cf03ace0a6c3dd0cb5399e72660476ba85808b7478", func := "sequent/sequentlaw.CutParts", spec := "cutParts", unfollowed := true, recurses := true, loops := true, plainKeys := false, apart := false }
def CutPartsSaid : Prop := cutPartsRow.holds Try.pinned (OpenSpec.ofChange cutPartsSpec)

/-- ITS FALSE NEIGHBOUR: 'it returns false'. Refute it at one input. -/
def cutPartsWrong : ChangeSpec := { name := "cutParts", fn := fun _ => fun
  | [d1, d2] => { results := [.lit (.bool false)], args := [d1, d2] }
  | _ => none }
def CutPartsWrongFalsely : Prop := cutPartsRow.holds Try.pinned (OpenSpec.ofChange cutPartsWrong)

/-- 'sequentlaw.BisimTwice': WHATEVER THE INPUT: true; the input reads as it did. -/
def bisimTwiceSpec : ChangeSpec := { name := "bisimTwice", fn := fun _ => fun
  | [d] => { results := [.lit (.bool true)], args := [d] }
  | _ => none }
def bisimTwiceRow : OpenClaim := { program := "ytkadceiolddmhaa", sum := "cc18fe42d4fec0bc250c90cf03ace0a6c3dd0cb5399e72660476ba85808b7478", func := "sequent/sequentlaw.BisimTwice", spec := "bisimTwice", unfollowed := true, recurses := true, plainKeys := false, apart := false }
def BisimTwiceSaid : Prop := bisimTwiceRow.holds Try.pinned (OpenSpec.ofChange bisimTwiceSpec)

/-- ITS FALSE NEIGHBOUR: 'it returns false'. Refute it at one input. -/
def bisimTwiceWrong : ChangeSpec := { name := "bisimTwice", fn := fun _ => fun
  | [d] => { results := [.lit (.bool false)], args := [d] }
  | _ => none }
def BisimTwiceWrongFalsely : Prop := bisimTwiceRow.holds Try.pinned (OpenSpec.ofChange bisimTwiceWrong)

/-- 'sequentlaw.BisimClasses': WHATEVER THE INPUT: true; the input reads as it did. -/
def bisimClassesSpec : ChangeSpec := { name := "bisimClasses", fn := fun _ => fun
  | [d1, d2] => { results := [.lit (.bool true)], args := [d1, d2] }
  | _ => none }
def bisimClassesRow : OpenClaim := { program := "ytkadceiolddmhaa", sum := "cc18fe42d4fec0bc250c90cf03ace0a6c3dd0cb5399e72660476ba85808b7478", func := "sequent/sequentlaw.BisimClasses", spec := "bisimClasses", unfollowed := true, recurses := true, loops := true, plainKeys := false, apart := false }
def BisimClassesSaid : Prop := bisimClassesRow.holds Try.pinned (OpenSpec.ofChange bisimClassesSpec)

/-- ITS FALSE NEIGHBOUR: 'it returns false'. Refute it at one input. -/
def bisimClassesWrong : ChangeSpec := { name := "bisimClasses", fn := fun _ => fun
  | [d1, d2] => { results := [.lit (.bool false)], args := [d1, d2] }
  | _ => none }
def BisimClassesWrongFalsely : Prop := bisimClassesRow.holds Try.pinned (OpenSpec.ofChange bisimClassesWrong)

/-- 'sequentlaw.BisimTells': WHATEVER THE INPUT: true; the input reads as it did. -/
def bisimTellsSpec : ChangeSpec := { name := "bisimTells", fn := fun _ => fun
  | [d1, d2, d3] => { results := [.lit (.bool true)], args := [d1, d2, d3] }
  | _ => none }
def bisimTellsRow : OpenClaim := { program := "ytkadceiolddmhaa", sum := "cc18fe42d4fec0bc250c90cf03ace0a6c3dd0cb5399e72660476ba85808b7478", func := "sequent/sequentlaw.BisimTells", spec := "bisimTells", unfollowed := true, recurses := true, plainKeys := false, apart := false }
def BisimTellsSaid : Prop := bisimTellsRow.holds Try.pinned (OpenSpec.ofChange bisimTellsSpec)

/-- ITS FALSE NEIGHBOUR: 'it returns false'. Refute it at one input. -/
def bisimTellsWrong : ChangeSpec := { name := "bisimTells", fn := fun _ => fun
  | [d1, d2, d3] => { results := [.lit (.bool false)], args := [d1, d2, d3] }
  | _ => none }
def BisimTellsWrongFalsely : Prop := bisimTellsRow.holds Try.pinned (OpenSpec.ofChange bisimTellsWrong)

/- THE SECOND FORM. 'bulk': how many values and letters a reading holds, each counted each time it is reached (what is shared counts as often as it is met; a slice's spare places count too). A statement '..UptoSaid' is the law's where the arguments, and the package variables that the reading takes, are together of bulk at most 1048576: NARROWER than '..Said'. Prove '..Said' where nothing that the law and all that it calls make is longer than what came in: it says more and counts as full. Else prove '..UptoSaid'. A law counts once. -/
mutual
def uptoBulk {H : Type} : DataW H → Nat
  | .lit (.string bytes) => bytes.length + 1
  | .lit _ => 1
  | .nil => 1
  | .ptr d => uptoBulk d + 1
  | .slice elems spare => uptoBulkAll elems + uptoBulkAll spare + 1
  | .agg parts => uptoBulkAll parts + 1
  | .iface _ d => uptoBulk d + 1
  | .map entries => uptoBulkEntries entries + 1
  | .held _ => 1
def uptoBulkAll {H : Type} : List (DataW H) → Nat
  | [] => 0
  | d :: r => uptoBulk d + uptoBulkAll r
def uptoBulkEntries {H : Type} : List (Lit × DataW H) → Nat
  | [] => 0
  | x :: r => uptoBulkEntry x + uptoBulkEntries r
def uptoBulkEntry {H : Type} : Lit × DataW H → Nat
  | (.string bytes, d) => bytes.length + uptoBulk d + 1
  | (_, d) => uptoBulk d + 1
 end
def uptoSmall : (H : Type) → List (DataW H) → Bool := fun _ ds => decide (uptoBulkAll ds ≤ 1048576)
def OpenSpec.upto (s : _root_.Go.ChangeSpec) : _root_.Go.OpenSpec := { _root_.Go.OpenSpec.ofChange s with cond := some uptoSmall }

/-- 'sequentlaw.GamesFraisse', WHERE WHAT IT READS IS OF BULK AT MOST 1048576: true; the input reads as it did. -/
def gamesFraisseUptoRow : OpenClaim := { program := "ytkadceiolddmhaa", sum := "cc18fe42d4fec0bc250c90cf03ace0a6c3dd0cb5399e72660476ba85808b7478", func := "sequent/sequentlaw.GamesFraisse", spec := "gamesFraisse", unfollowed := true, recurses := true, loops := true, plainKeys := false, apart := false, narrowed := true }
def GamesFraisseUptoSaid : Prop := gamesFraisseUptoRow.holds Try.pinned (OpenSpec.upto gamesFraisseSpec)

/-- 'sequentlaw.GamesOrders', WHERE WHAT IT READS IS OF BULK AT MOST 1048576: true; the input reads as it did. -/
def gamesOrdersUptoRow : OpenClaim := { program := "ytkadceiolddmhaa", sum := "cc18fe42d4fec0bc250c90cf03ace0a6c3dd0cb5399e72660476ba85808b7478", func := "sequent/sequentlaw.GamesOrders", spec := "gamesOrders", unfollowed := true, recurses := true, plainKeys := false, apart := false, narrowed := true }
def GamesOrdersUptoSaid : Prop := gamesOrdersUptoRow.holds Try.pinned (OpenSpec.upto gamesOrdersSpec)

/-- 'sequentlaw.GamesGrow', WHERE WHAT IT READS IS OF BULK AT MOST 1048576: true; the input reads as it did. -/
def gamesGrowUptoRow : OpenClaim := { program := "ytkadceiolddmhaa", sum := "cc18fe42d4fec0bc250c90cf03ace0a6c3dd0cb5399e72660476ba85808b7478", func := "sequent/sequentlaw.GamesGrow", spec := "gamesGrow", unfollowed := true, recurses := true, plainKeys := false, apart := false, narrowed := true }
def GamesGrowUptoSaid : Prop := gamesGrowUptoRow.holds Try.pinned (OpenSpec.upto gamesGrowSpec)

/-- 'sequentlaw.MeaningValues', WHERE WHAT IT READS IS OF BULK AT MOST 1048576: true; the input reads as it did. -/
def meaningValuesUptoRow : OpenClaim := { program := "ytkadceiolddmhaa", sum := "cc18fe42d4fec0bc250c90cf03ace0a6c3dd0cb5399e72660476ba85808b7478", func := "sequent/sequentlaw.MeaningValues", spec := "meaningValues", unfollowed := true, recurses := true, loops := true, plainKeys := false, apart := false, narrowed := true }
def MeaningValuesUptoSaid : Prop := meaningValuesUptoRow.holds Try.pinned (OpenSpec.upto meaningValuesSpec)

/-- 'sequentlaw.MeaningDuals', WHERE WHAT IT READS IS OF BULK AT MOST 1048576: true; the input reads as it did. -/
def meaningDualsUptoRow : OpenClaim := { program := "ytkadceiolddmhaa", sum := "cc18fe42d4fec0bc250c90cf03ace0a6c3dd0cb5399e72660476ba85808b7478", func := "sequent/sequentlaw.MeaningDuals", spec := "meaningDuals", unfollowed := true, recurses := true, loops := true, plainKeys := false, apart := false, narrowed := true }
def MeaningDualsUptoSaid : Prop := meaningDualsUptoRow.holds Try.pinned (OpenSpec.upto meaningDualsSpec)

/-- 'sequentlaw.MeaningNumbers', WHERE WHAT IT READS IS OF BULK AT MOST 1048576: true; the input reads as it did. -/
def meaningNumbersUptoRow : OpenClaim := { program := "ytkadceiolddmhaa", sum := "cc18fe42d4fec0bc250c90cf03ace0a6c3dd0cb5399e72660476ba85808b7478", func := "sequent/sequentlaw.MeaningNumbers", spec := "meaningNumbers", unfollowed := true, recurses := true, loops := true, plainKeys := false, apart := false, narrowed := true }
def MeaningNumbersUptoSaid : Prop := meaningNumbersUptoRow.holds Try.pinned (OpenSpec.upto meaningNumbersSpec)

/-- 'sequentlaw.CutMeasures', WHERE WHAT IT READS IS OF BULK AT MOST 1048576: true; the input reads as it did. -/
def cutMeasuresUptoRow : OpenClaim := { program := "ytkadceiolddmhaa", sum := "cc18fe42d4fec0bc250c90cf03ace0a6c3dd0cb5399e72660476ba85808b7478", func := "sequent/sequentlaw.CutMeasures", spec := "cutMeasures", unfollowed := true, recurses := true, loops := true, plainKeys := false, apart := false, narrowed := true }
def CutMeasuresUptoSaid : Prop := cutMeasuresUptoRow.holds Try.pinned (OpenSpec.upto cutMeasuresSpec)

/-- 'sequentlaw.CutParts', WHERE WHAT IT READS IS OF BULK AT MOST 1048576: true; the input reads as it did. -/
def cutPartsUptoRow : OpenClaim := { program := "ytkadceiolddmhaa", sum := "cc18fe42d4fec0bc250c90cf03ace0a6c3dd0cb5399e72660476ba85808b7478", func := "sequent/sequentlaw.CutParts", spec := "cutParts", unfollowed := true, recurses := true, loops := true, plainKeys := false, apart := false, narrowed := true }
def CutPartsUptoSaid : Prop := cutPartsUptoRow.holds Try.pinned (OpenSpec.upto cutPartsSpec)

/-- 'sequentlaw.BisimTwice', WHERE WHAT IT READS IS OF BULK AT MOST 1048576: true; the input reads as it did. -/
def bisimTwiceUptoRow : OpenClaim := { program := "ytkadceiolddmhaa", sum := "cc18fe42d4fec0bc250c90cf03ace0a6c3dd0cb5399e72660476ba85808b7478", func := "sequent/sequentlaw.BisimTwice", spec := "bisimTwice", unfollowed := true, recurses := true, plainKeys := false, apart := false, narrowed := true }
def BisimTwiceUptoSaid : Prop := bisimTwiceUptoRow.holds Try.pinned (OpenSpec.upto bisimTwiceSpec)

/-- 'sequentlaw.BisimClasses', WHERE WHAT IT READS IS OF BULK AT MOST 1048576: true; the input reads as it did. -/
def bisimClassesUptoRow : OpenClaim := { program := "ytkadceiolddmhaa", sum := "cc18fe42d4fec0bc250c90cf03ace0a6c3dd0cb5399e72660476ba85808b7478", func := "sequent/sequentlaw.BisimClasses", spec := "bisimClasses", unfollowed := true, recurses := true, loops := true, plainKeys := false, apart := false, narrowed := true }
def BisimClassesUptoSaid : Prop := bisimClassesUptoRow.holds Try.pinned (OpenSpec.upto bisimClassesSpec)

/-- 'sequentlaw.BisimTells', WHERE WHAT IT READS IS OF BULK AT MOST 1048576: true; the input reads as it did. -/
def bisimTellsUptoRow : OpenClaim := { program := "ytkadceiolddmhaa", sum := "cc18fe42d4fec0bc250c90cf03ace0a6c3dd0cb5399e72660476ba85808b7478", func := "sequent/sequentlaw.BisimTells", spec := "bisimTells", unfollowed := true, recurses := true, plainKeys := false, apart := false, narrowed := true }
def BisimTellsUptoSaid : Prop := bisimTellsUptoRow.holds Try.pinned (OpenSpec.upto bisimTellsSpec)

end Rows
end Go.Proofs.Ytkadceiolddmhaa
