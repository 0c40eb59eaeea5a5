/-
  NARROWER THAN 'FOR EVERY INPUT', by the rows' own cells (each row's printed sentence says how): ModlogDecides: loops · ModlogSound: loops · ModlogRules: loops · ModlogChain: loops.
  DERIVED. THE GIVEN ROWS OF THIS SEAT. 4 by the template 'for every input the law returns true; each argument reads behind the call as it read before'; 0 by the template 'total and deterministic' (their statements: YtliockncjdeloaaTotals.lean).
  GIVEN WITH THE SEED: the statements are not yours to turn. If you find one false, say at which input.
  Laid BY PROGRAM, IN A SANDBOX (cutbox-rows.mjs): the forced cells as the released guide's own fill.sh prints them over the translation 1e832a7d8201d78a… (all of the seat's roots in one cut). By AI agents, Wed Nov 11 2026. No macro, syntax, notation, axiom, sorry.
-/
import Derived.Test.YtliockncjdeloaaChecked
import GoSem.Claim
import GoSem.ClaimJoined
import GoSem.ClaimMapViews
import Derived.JoinedTies
import Derived.KernelRfl
namespace Go.Proofs.Ytliockncjdeloaa
/- THE CELL 'sum', in the pinned program and in every row, IS THE sha256 OF THE DUMP (.gsa) THAT YtliockncjdeloaaProg.lean LOADS. Nothing in Lean hashes anything: it is a label: what it is worth is what the hold of that sum in a sandbox is worth. -/
noncomputable def Try.pinned : Pinned := { name := "ytliockncjdeloaa", sum := "1e832a7d8201d78ad845e52b8c1b26242f43917b3e2a91866c7a171daed74cd1", checked := Try.checked }
namespace Rows
def none {H : Type} : Left H := { results := [], args := [] }

/-- 'sequentlaw.ModlogDecides': WHATEVER THE INPUT: true; the input reads as it did. -/
def modlogDecidesSpec : ChangeSpec := { name := "modlogDecides", fn := fun _ => fun
  | [d1, d2] => { results := [.lit (.bool true)], args := [d1, d2] }
  | _ => none }
def modlogDecidesRow : OpenClaim := { program := "ytliockncjdeloaa", sum := "1e832a7d8201d78ad845e52b8c1b26242f43917b3e2a91866c7a171daed74cd1", func := "sequent/sequentlaw.ModlogDecides", spec := "modlogDecides", unfollowed := true, recurses := true, loops := true, apart := false }
def ModlogDecidesSaid : Prop := modlogDecidesRow.holds Try.pinned (OpenSpec.ofChange modlogDecidesSpec)

/-- ITS FALSE NEIGHBOUR: 'it returns false'. Refute it at one input. -/
def modlogDecidesWrong : ChangeSpec := { name := "modlogDecides", fn := fun _ => fun
  | [d1, d2] => { results := [.lit (.bool false)], args := [d1, d2] }
  | _ => none }
def ModlogDecidesWrongFalsely : Prop := modlogDecidesRow.holds Try.pinned (OpenSpec.ofChange modlogDecidesWrong)

/-- 'sequentlaw.ModlogSound': WHATEVER THE INPUT: true; the input reads as it did. -/
def modlogSoundSpec : ChangeSpec := { name := "modlogSound", fn := fun _ => fun
  | [d1, d2, d3] => { results := [.lit (.bool true)], args := [d1, d2, d3] }
  | _ => none }
def modlogSoundRow : OpenClaim := { program := "ytliockncjdeloaa", sum := "1e832a7d8201d78ad845e52b8c1b26242f43917b3e2a91866c7a171daed74cd1", func := "sequent/sequentlaw.ModlogSound", spec := "modlogSound", unfollowed := true, recurses := true, loops := true, apart := false }
def ModlogSoundSaid : Prop := modlogSoundRow.holds Try.pinned (OpenSpec.ofChange modlogSoundSpec)

/-- ITS FALSE NEIGHBOUR: 'it returns false'. Refute it at one input. -/
def modlogSoundWrong : ChangeSpec := { name := "modlogSound", fn := fun _ => fun
  | [d1, d2, d3] => { results := [.lit (.bool false)], args := [d1, d2, d3] }
  | _ => none }
def ModlogSoundWrongFalsely : Prop := modlogSoundRow.holds Try.pinned (OpenSpec.ofChange modlogSoundWrong)

/-- 'sequentlaw.ModlogRules': WHATEVER THE INPUT: true; the input reads as it did. -/
def modlogRulesSpec : ChangeSpec := { name := "modlogRules", fn := fun _ => fun
  | [d1, d2, d3, d4] => { results := [.lit (.bool true)], args := [d1, d2, d3, d4] }
  | _ => none }
def modlogRulesRow : OpenClaim := { program := "ytliockncjdeloaa", sum := "1e832a7d8201d78ad845e52b8c1b26242f43917b3e2a91866c7a171daed74cd1", func := "sequent/sequentlaw.ModlogRules", spec := "modlogRules", unfollowed := true, recurses := true, loops := true, apart := false }
def ModlogRulesSaid : Prop := modlogRulesRow.holds Try.pinned (OpenSpec.ofChange modlogRulesSpec)

/-- ITS FALSE NEIGHBOUR: 'it returns false'. Refute it at one input. -/
def modlogRulesWrong : ChangeSpec := { name := "modlogRules", fn := fun _ => fun
  | [d1, d2, d3, d4] => { results := [.lit (.bool false)], args := [d1, d2, d3, d4] }
  | _ => none }
def ModlogRulesWrongFalsely : Prop := modlogRulesRow.holds Try.pinned (OpenSpec.ofChange modlogRulesWrong)

/-- 'sequentlaw.ModlogChain': WHATEVER THE INPUT: true; the input reads as it did. -/
def modlogChainSpec : ChangeSpec := { name := "modlogChain", fn := fun _ => fun
  | [d] => { results := [.lit (.bool true)], args := [d] }
  | _ => none }
def modlogChainRow : OpenClaim := { program := "ytliockncjdeloaa", sum := "1e832a7d8201d78ad845e52b8c1b26242f43917b3e2a91866c7a171daed74cd1", func := "sequent/sequentlaw.ModlogChain", spec := "modlogChain", unfollowed := true, recurses := true, loops := true, apart := false }
def ModlogChainSaid : Prop := modlogChainRow.holds Try.pinned (OpenSpec.ofChange modlogChainSpec)

/-- ITS FALSE NEIGHBOUR: 'it returns false'. Refute it at one input. -/
def modlogChainWrong : ChangeSpec := { name := "modlogChain", fn := fun _ => fun
  | [d] => { results := [.lit (.bool false)], args := [d] }
  | _ => none }
def ModlogChainWrongFalsely : Prop := modlogChainRow.holds Try.pinned (OpenSpec.ofChange modlogChainWrong)

/- THE SECOND FORM. 'bulk': how many values and letters a reading holds, each counted each time it is reached (what is shared counts as often as it is met; a slice's spare places count too). A statement '..UptoSaid' is the law's where the arguments, and the package variables that the reading takes, are together of bulk at most 1048576: NARROWER than '..Said'. Prove '..Said' where nothing that the law and all that it calls make is longer than what came in: it says more and counts as full. Else prove '..UptoSaid'. A law counts once. -/
mutual
def uptoBulk {H : Type} : DataW H → Nat
  | .lit (.string bytes) => bytes.length + 1
  | .lit _ => 1
  | .nil => 1
  | .ptr d => uptoBulk d + 1
  | .slice elems spare => uptoBulkAll elems + uptoBulkAll spare + 1
  | .agg parts => uptoBulkAll parts + 1
  | .iface _ d => uptoBulk d + 1
  | .map entries => uptoBulkEntries entries + 1
  | .held _ => 1
def uptoBulkAll {H : Type} : List (DataW H) → Nat
  | [] => 0
  | d :: r => uptoBulk d + uptoBulkAll r
def uptoBulkEntries {H : Type} : List (Lit × DataW H) → Nat
  | [] => 0
  | x :: r => uptoBulkEntry x + uptoBulkEntries r
def uptoBulkEntry {H : Type} : Lit × DataW H → Nat
  | (.string bytes, d) => bytes.length + uptoBulk d + 1
  | (_, d) => uptoBulk d + 1
 end
def uptoSmall : (H : Type) → List (DataW H) → Bool := fun _ ds => decide (uptoBulkAll ds ≤ 1048576)
def OpenSpec.upto (s : _root_.Go.ChangeSpec) : _root_.Go.OpenSpec := { _root_.Go.OpenSpec.ofChange s with cond := some uptoSmall }

/-- 'sequentlaw.ModlogDecides', WHERE WHAT IT READS IS OF BULK AT MOST 1048576: true; the input reads as it did. -/
def modlogDecidesUptoRow : OpenClaim := { program := "ytliockncjdeloaa", sum := "1e832a7d8201d78ad845e52b8c1b26242f43917b3e2a91866c7a171daed74cd1", func := "sequent/sequentlaw.ModlogDecides", spec := "modlogDecides", unfollowed := true, recurses := true, loops := true, apart := false, narrowed := true }
def ModlogDecidesUptoSaid : Prop := modlogDecidesUptoRow.holds Try.pinned (OpenSpec.upto modlogDecidesSpec)

/-- 'sequentlaw.ModlogSound', WHERE WHAT IT READS IS OF BULK AT MOST 1048576: true; the input reads as it did. -/
def modlogSoundUptoRow : OpenClaim := { program := "ytliockncjdeloaa", sum := "1e832a7d8201d78ad845e52b8c1b26242f43917b3e2a91866c7a171daed74cd1", func := "sequent/sequentlaw.ModlogSound", spec := "modlogSound", unfollowed := true, recurses := true, loops := true, apart := false, narrowed := true }
def ModlogSoundUptoSaid : Prop := modlogSoundUptoRow.holds Try.pinned (OpenSpec.upto modlogSoundSpec)

/-- 'sequentlaw.ModlogRules', WHERE WHAT IT READS IS OF BULK AT MOST 1048576: true; the input reads as it did. -/
def modlogRulesUptoRow : OpenClaim := { program := "ytliockncjdeloaa", sum := "1e832a7d8201d78ad845e52b8c1b26242f43917b3e2a91866c7a171daed74cd1", func := "sequent/sequentlaw.ModlogRules", spec := "modlogRules", unfollowed := true, recurses := true, loops := true, apart := false, narrowed := true }
def ModlogRulesUptoSaid : Prop := modlogRulesUptoRow.holds Try.pinned (OpenSpec.upto modlogRulesSpec)

/-- 'sequentlaw.ModlogChain', WHERE WHAT IT READS IS OF BULK AT MOST 1048576: true; the input reads as it did. -/
def modlogChainUptoRow : OpenClaim := { program := "ytliockncjdeloaa", sum := "1e832a7d8201d78ad845e52b8c1b26242f43917b3e2a91866c7a171daed74cd1", func := "sequent/sequentlaw.ModlogChain", spec := "modlogChain", unfollowed := true, recurses := true, loops := true, apart := false, narrowed := true }
def ModlogChainUptoSaid : Prop := modlogChainUptoRow.holds Try.pinned (OpenSpec.upto modlogChainSpec)

end Rows
end Go.Proofs.Ytliockncjdeloaa
