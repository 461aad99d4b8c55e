/-
  No cell of these rows narrows 'for every input' (looked for: loops, veiled, ifaces, maps, wideKeys, modest, calm, conditions, laid).
  DERIVED. THE GIVEN ROWS OF THIS SEAT. 14 by the template 'for every input the law returns true; each argument reads behind the call as it read before'; 0 by the template 'total and deterministic' (their statements: YtnpacpdpgngdpaaTotals.lean).
  GIVEN WITH THE SEED: the statements are not yours to turn. If you find one false, say at which input.
  Laid BY PROGRAM, IN A SANDBOX (cutbox-rows.mjs): the forced cells as the released guide's own fill.sh prints them over the translation 7a968ec50aa36834… (all of the seat's roots in one cut). By AI agents, Wed Nov 11 2026. No macro, syntax, notation, axiom, sorry.
-/
import Derived.Test.YtnpacpdpgngdpaaChecked
import GoSem.Claim
import GoSem.ClaimJoined
import GoSem.ClaimMapViews
import Derived.JoinedTies
import Derived.KernelRfl
namespace Go.Proofs.Ytnpacpdpgngdpaa
/- THE CELL 'sum', in the pinned program and in every row, IS THE sha256 OF THE DUMP (.gsa) THAT YtnpacpdpgngdpaaProg.lean LOADS. Nothing in Lean hashes anything: it is a label: what it is worth is what the hold of that sum in a sandbox is worth. -/
noncomputable def Try.pinned : Pinned := { name := "ytnpacpdpgngdpaa", sum := "7a968ec50aa36834bcae75d63fb0dfe3e56cc0f9a01cec1257b08ac74720d52f", checked := Try.checked }
namespace Rows
def none {H : Type} : Left H := { results := [], args := [] }

/-- 'laws.FnExactNumbersByCell': WHATEVER THE INPUT: true; the input reads as it did. -/
def fnExactNumbersByCellSpec : ChangeSpec := { name := "fnExactNumbersByCell", fn := fun _ => fun
  | [d1, d2, d3] => { results := [.lit (.bool true)], args := [d1, d2, d3] }
  | _ => none }
def fnExactNumbersByCellRow : OpenClaim := { program := "ytnpacpdpgngdpaa", sum := "7a968ec50aa36834bcae75d63fb0dfe3e56cc0f9a01cec1257b08ac74720d52f", func := "loop.example/g01125/laws.FnExactNumbersByCell", spec := "fnExactNumbersByCell", unfollowed := true, recurses := true, apart := false }
def FnExactNumbersByCellSaid : Prop := fnExactNumbersByCellRow.holds Try.pinned (OpenSpec.ofChange fnExactNumbersByCellSpec)

/-- ITS FALSE NEIGHBOUR: 'it returns false'. Refute it at one input. -/
def fnExactNumbersByCellWrong : ChangeSpec := { name := "fnExactNumbersByCell", fn := fun _ => fun
  | [d1, d2, d3] => { results := [.lit (.bool false)], args := [d1, d2, d3] }
  | _ => none }
def FnExactNumbersByCellWrongFalsely : Prop := fnExactNumbersByCellRow.holds Try.pinned (OpenSpec.ofChange fnExactNumbersByCellWrong)

/-- 'laws.FnExactCountBoth': WHATEVER THE INPUT: true; the input reads as it did. -/
def fnExactCountBothSpec : ChangeSpec := { name := "fnExactCountBoth", fn := fun _ => fun
  | [d1, d2] => { results := [.lit (.bool true)], args := [d1, d2] }
  | _ => none }
def fnExactCountBothRow : OpenClaim := { program := "ytnpacpdpgngdpaa", sum := "7a968ec50aa36834bcae75d63fb0dfe3e56cc0f9a01cec1257b08ac74720d52f", func := "loop.example/g01125/laws.FnExactCountBoth", spec := "fnExactCountBoth", unfollowed := true, recurses := true, apart := false }
def FnExactCountBothSaid : Prop := fnExactCountBothRow.holds Try.pinned (OpenSpec.ofChange fnExactCountBothSpec)

/-- ITS FALSE NEIGHBOUR: 'it returns false'. Refute it at one input. -/
def fnExactCountBothWrong : ChangeSpec := { name := "fnExactCountBoth", fn := fun _ => fun
  | [d1, d2] => { results := [.lit (.bool false)], args := [d1, d2] }
  | _ => none }
def FnExactCountBothWrongFalsely : Prop := fnExactCountBothRow.holds Try.pinned (OpenSpec.ofChange fnExactCountBothWrong)

/-- 'laws.FnExactLeastWatch': WHATEVER THE INPUT: true; the input reads as it did. -/
def fnExactLeastWatchSpec : ChangeSpec := { name := "fnExactLeastWatch", fn := fun _ => fun
  | [d] => { results := [.lit (.bool true)], args := [d] }
  | _ => none }
def fnExactLeastWatchRow : OpenClaim := { program := "ytnpacpdpgngdpaa", sum := "7a968ec50aa36834bcae75d63fb0dfe3e56cc0f9a01cec1257b08ac74720d52f", func := "loop.example/g01125/laws.FnExactLeastWatch", spec := "fnExactLeastWatch", unfollowed := true, recurses := true, apart := false }
def FnExactLeastWatchSaid : Prop := fnExactLeastWatchRow.holds Try.pinned (OpenSpec.ofChange fnExactLeastWatchSpec)

/-- ITS FALSE NEIGHBOUR: 'it returns false'. Refute it at one input. -/
def fnExactLeastWatchWrong : ChangeSpec := { name := "fnExactLeastWatch", fn := fun _ => fun
  | [d] => { results := [.lit (.bool false)], args := [d] }
  | _ => none }
def FnExactLeastWatchWrongFalsely : Prop := fnExactLeastWatchRow.holds Try.pinned (OpenSpec.ofChange fnExactLeastWatchWrong)

/-- 'laws.FnExactMostKings': WHATEVER THE INPUT: true; the input reads as it did. -/
def fnExactMostKingsSpec : ChangeSpec := { name := "fnExactMostKings", fn := fun _ => fun
  | [d] => { results := [.lit (.bool true)], args := [d] }
  | _ => none }
def fnExactMostKingsRow : OpenClaim := { program := "ytnpacpdpgngdpaa", sum := "7a968ec50aa36834bcae75d63fb0dfe3e56cc0f9a01cec1257b08ac74720d52f", func := "loop.example/g01125/laws.FnExactMostKings", spec := "fnExactMostKings", unfollowed := true, recurses := true, apart := false }
def FnExactMostKingsSaid : Prop := fnExactMostKingsRow.holds Try.pinned (OpenSpec.ofChange fnExactMostKingsSpec)

/-- ITS FALSE NEIGHBOUR: 'it returns false'. Refute it at one input. -/
def fnExactMostKingsWrong : ChangeSpec := { name := "fnExactMostKings", fn := fun _ => fun
  | [d] => { results := [.lit (.bool false)], args := [d] }
  | _ => none }
def FnExactMostKingsWrongFalsely : Prop := fnExactMostKingsRow.holds Try.pinned (OpenSpec.ofChange fnExactMostKingsWrong)

/-- 'laws.FnExactKingNumbers': WHATEVER THE INPUT: true; the input reads as it did. -/
def fnExactKingNumbersSpec : ChangeSpec := { name := "fnExactKingNumbers", fn := fun _ => fun
  | [d] => { results := [.lit (.bool true)], args := [d] }
  | _ => none }
def fnExactKingNumbersRow : OpenClaim := { program := "ytnpacpdpgngdpaa", sum := "7a968ec50aa36834bcae75d63fb0dfe3e56cc0f9a01cec1257b08ac74720d52f", func := "loop.example/g01125/laws.FnExactKingNumbers", spec := "fnExactKingNumbers", unfollowed := true, recurses := true, apart := false }
def FnExactKingNumbersSaid : Prop := fnExactKingNumbersRow.holds Try.pinned (OpenSpec.ofChange fnExactKingNumbersSpec)

/-- ITS FALSE NEIGHBOUR: 'it returns false'. Refute it at one input. -/
def fnExactKingNumbersWrong : ChangeSpec := { name := "fnExactKingNumbers", fn := fun _ => fun
  | [d] => { results := [.lit (.bool false)], args := [d] }
  | _ => none }
def FnExactKingNumbersWrongFalsely : Prop := fnExactKingNumbersRow.holds Try.pinned (OpenSpec.ofChange fnExactKingNumbersWrong)

/-- 'laws.FnExactCyclesOfFiles': WHATEVER THE INPUT: true; the input reads as it did. -/
def fnExactCyclesOfFilesSpec : ChangeSpec := { name := "fnExactCyclesOfFiles", fn := fun _ => fun
  | [d] => { results := [.lit (.bool true)], args := [d] }
  | _ => none }
def fnExactCyclesOfFilesRow : OpenClaim := { program := "ytnpacpdpgngdpaa", sum := "7a968ec50aa36834bcae75d63fb0dfe3e56cc0f9a01cec1257b08ac74720d52f", func := "loop.example/g01125/laws.FnExactCyclesOfFiles", spec := "fnExactCyclesOfFiles", inPlace := ["slices.overlaps[int]"], unfollowed := true, recurses := true, apart := false }
def FnExactCyclesOfFilesSaid : Prop := fnExactCyclesOfFilesRow.holds Try.pinned (OpenSpec.ofChange fnExactCyclesOfFilesSpec)

/-- ITS FALSE NEIGHBOUR: 'it returns false'. Refute it at one input. -/
def fnExactCyclesOfFilesWrong : ChangeSpec := { name := "fnExactCyclesOfFiles", fn := fun _ => fun
  | [d] => { results := [.lit (.bool false)], args := [d] }
  | _ => none }
def FnExactCyclesOfFilesWrongFalsely : Prop := fnExactCyclesOfFilesRow.holds Try.pinned (OpenSpec.ofChange fnExactCyclesOfFilesWrong)

/-- 'laws.FnExactFirstKings': WHATEVER THE INPUT: true; the input reads as it did. -/
def fnExactFirstKingsSpec : ChangeSpec := { name := "fnExactFirstKings", fn := fun _ => fun
  | [d1, d2] => { results := [.lit (.bool true)], args := [d1, d2] }
  | _ => none }
def fnExactFirstKingsRow : OpenClaim := { program := "ytnpacpdpgngdpaa", sum := "7a968ec50aa36834bcae75d63fb0dfe3e56cc0f9a01cec1257b08ac74720d52f", func := "loop.example/g01125/laws.FnExactFirstKings", spec := "fnExactFirstKings", unfollowed := true, recurses := true, apart := false }
def FnExactFirstKingsSaid : Prop := fnExactFirstKingsRow.holds Try.pinned (OpenSpec.ofChange fnExactFirstKingsSpec)

/-- ITS FALSE NEIGHBOUR: 'it returns false'. Refute it at one input. -/
def fnExactFirstKingsWrong : ChangeSpec := { name := "fnExactFirstKings", fn := fun _ => fun
  | [d1, d2] => { results := [.lit (.bool false)], args := [d1, d2] }
  | _ => none }
def FnExactFirstKingsWrongFalsely : Prop := fnExactFirstKingsRow.holds Try.pinned (OpenSpec.ofChange fnExactFirstKingsWrong)

/-- 'laws.FnExactIsDesk': WHATEVER THE INPUT: true; the input reads as it did. -/
def fnExactIsDeskSpec : ChangeSpec := { name := "fnExactIsDesk", fn := fun _ => fun
  | [d] => { results := [.lit (.bool true)], args := [d] }
  | _ => none }
def fnExactIsDeskRow : OpenClaim := { program := "ytnpacpdpgngdpaa", sum := "7a968ec50aa36834bcae75d63fb0dfe3e56cc0f9a01cec1257b08ac74720d52f", func := "loop.example/g01125/laws.FnExactIsDesk", spec := "fnExactIsDesk", unfollowed := true, recurses := true, apart := false }
def FnExactIsDeskSaid : Prop := fnExactIsDeskRow.holds Try.pinned (OpenSpec.ofChange fnExactIsDeskSpec)

/-- ITS FALSE NEIGHBOUR: 'it returns false'. Refute it at one input. -/
def fnExactIsDeskWrong : ChangeSpec := { name := "fnExactIsDesk", fn := fun _ => fun
  | [d] => { results := [.lit (.bool false)], args := [d] }
  | _ => none }
def FnExactIsDeskWrongFalsely : Prop := fnExactIsDeskRow.holds Try.pinned (OpenSpec.ofChange fnExactIsDeskWrong)

/-- 'laws.FnQueensWatch': WHATEVER THE INPUT: true; the input reads as it did. -/
def fnQueensWatchSpec : ChangeSpec := { name := "fnQueensWatch", fn := fun _ => fun
  | [d1, d2] => { results := [.lit (.bool true)], args := [d1, d2] }
  | _ => none }
def fnQueensWatchRow : OpenClaim := { program := "ytnpacpdpgngdpaa", sum := "7a968ec50aa36834bcae75d63fb0dfe3e56cc0f9a01cec1257b08ac74720d52f", func := "loop.example/g01125/laws.FnQueensWatch", spec := "fnQueensWatch", unfollowed := true, recurses := true, apart := false }
def FnQueensWatchSaid : Prop := fnQueensWatchRow.holds Try.pinned (OpenSpec.ofChange fnQueensWatchSpec)

/-- ITS FALSE NEIGHBOUR: 'it returns false'. Refute it at one input. -/
def fnQueensWatchWrong : ChangeSpec := { name := "fnQueensWatch", fn := fun _ => fun
  | [d1, d2] => { results := [.lit (.bool false)], args := [d1, d2] }
  | _ => none }
def FnQueensWatchWrongFalsely : Prop := fnQueensWatchRow.holds Try.pinned (OpenSpec.ofChange fnQueensWatchWrong)

/-- 'laws.FnQueensOnTori': WHATEVER THE INPUT: true; the input reads as it did. -/
def fnQueensOnToriSpec : ChangeSpec := { name := "fnQueensOnTori", fn := fun _ => fun
  | [d1, d2] => { results := [.lit (.bool true)], args := [d1, d2] }
  | _ => none }
def fnQueensOnToriRow : OpenClaim := { program := "ytnpacpdpgngdpaa", sum := "7a968ec50aa36834bcae75d63fb0dfe3e56cc0f9a01cec1257b08ac74720d52f", func := "loop.example/g01125/laws.FnQueensOnTori", spec := "fnQueensOnTori", unfollowed := true, recurses := true, apart := false }
def FnQueensOnToriSaid : Prop := fnQueensOnToriRow.holds Try.pinned (OpenSpec.ofChange fnQueensOnToriSpec)

/-- ITS FALSE NEIGHBOUR: 'it returns false'. Refute it at one input. -/
def fnQueensOnToriWrong : ChangeSpec := { name := "fnQueensOnTori", fn := fun _ => fun
  | [d1, d2] => { results := [.lit (.bool false)], args := [d1, d2] }
  | _ => none }
def FnQueensOnToriWrongFalsely : Prop := fnQueensOnToriRow.holds Try.pinned (OpenSpec.ofChange fnQueensOnToriWrong)

/-- 'laws.FnQueensListed': WHATEVER THE INPUT: true; the input reads as it did. -/
def fnQueensListedSpec : ChangeSpec := { name := "fnQueensListed", fn := fun _ => fun
  | [d1, d2] => { results := [.lit (.bool true)], args := [d1, d2] }
  | _ => none }
def fnQueensListedRow : OpenClaim := { program := "ytnpacpdpgngdpaa", sum := "7a968ec50aa36834bcae75d63fb0dfe3e56cc0f9a01cec1257b08ac74720d52f", func := "loop.example/g01125/laws.FnQueensListed", spec := "fnQueensListed", unfollowed := true, recurses := true, apart := false }
def FnQueensListedSaid : Prop := fnQueensListedRow.holds Try.pinned (OpenSpec.ofChange fnQueensListedSpec)

/-- ITS FALSE NEIGHBOUR: 'it returns false'. Refute it at one input. -/
def fnQueensListedWrong : ChangeSpec := { name := "fnQueensListed", fn := fun _ => fun
  | [d1, d2] => { results := [.lit (.bool false)], args := [d1, d2] }
  | _ => none }
def FnQueensListedWrongFalsely : Prop := fnQueensListedRow.holds Try.pinned (OpenSpec.ofChange fnQueensListedWrong)

/-- 'laws.FnKindsOfNumbers': WHATEVER THE INPUT: true; the input reads as it did. -/
def fnKindsOfNumbersSpec : ChangeSpec := { name := "fnKindsOfNumbers", fn := fun _ => fun
  | [d1, d2] => { results := [.lit (.bool true)], args := [d1, d2] }
  | _ => none }
def fnKindsOfNumbersRow : OpenClaim := { program := "ytnpacpdpgngdpaa", sum := "7a968ec50aa36834bcae75d63fb0dfe3e56cc0f9a01cec1257b08ac74720d52f", func := "loop.example/g01125/laws.FnKindsOfNumbers", spec := "fnKindsOfNumbers", unfollowed := true, recurses := true, apart := false }
def FnKindsOfNumbersSaid : Prop := fnKindsOfNumbersRow.holds Try.pinned (OpenSpec.ofChange fnKindsOfNumbersSpec)

/-- ITS FALSE NEIGHBOUR: 'it returns false'. Refute it at one input. -/
def fnKindsOfNumbersWrong : ChangeSpec := { name := "fnKindsOfNumbers", fn := fun _ => fun
  | [d1, d2] => { results := [.lit (.bool false)], args := [d1, d2] }
  | _ => none }
def FnKindsOfNumbersWrongFalsely : Prop := fnKindsOfNumbersRow.holds Try.pinned (OpenSpec.ofChange fnKindsOfNumbersWrong)

/-- 'laws.FnQueensTurned': WHATEVER THE INPUT: true; the input reads as it did. -/
def fnQueensTurnedSpec : ChangeSpec := { name := "fnQueensTurned", fn := fun _ => fun
  | [d1, d2] => { results := [.lit (.bool true)], args := [d1, d2] }
  | _ => none }
def fnQueensTurnedRow : OpenClaim := { program := "ytnpacpdpgngdpaa", sum := "7a968ec50aa36834bcae75d63fb0dfe3e56cc0f9a01cec1257b08ac74720d52f", func := "loop.example/g01125/laws.FnQueensTurned", spec := "fnQueensTurned", unfollowed := true, recurses := true, apart := false }
def FnQueensTurnedSaid : Prop := fnQueensTurnedRow.holds Try.pinned (OpenSpec.ofChange fnQueensTurnedSpec)

/-- ITS FALSE NEIGHBOUR: 'it returns false'. Refute it at one input. -/
def fnQueensTurnedWrong : ChangeSpec := { name := "fnQueensTurned", fn := fun _ => fun
  | [d1, d2] => { results := [.lit (.bool false)], args := [d1, d2] }
  | _ => none }
def FnQueensTurnedWrongFalsely : Prop := fnQueensTurnedRow.holds Try.pinned (OpenSpec.ofChange fnQueensTurnedWrong)

/-- 'laws.FnFilesCounted': WHATEVER THE INPUT: true; the input reads as it did. -/
def fnFilesCountedSpec : ChangeSpec := { name := "fnFilesCounted", fn := fun _ => fun
  | [d1, d2] => { results := [.lit (.bool true)], args := [d1, d2] }
  | _ => none }
def fnFilesCountedRow : OpenClaim := { program := "ytnpacpdpgngdpaa", sum := "7a968ec50aa36834bcae75d63fb0dfe3e56cc0f9a01cec1257b08ac74720d52f", func := "loop.example/g01125/laws.FnFilesCounted", spec := "fnFilesCounted", unfollowed := true, recurses := true, apart := false }
def FnFilesCountedSaid : Prop := fnFilesCountedRow.holds Try.pinned (OpenSpec.ofChange fnFilesCountedSpec)

/-- ITS FALSE NEIGHBOUR: 'it returns false'. Refute it at one input. -/
def fnFilesCountedWrong : ChangeSpec := { name := "fnFilesCounted", fn := fun _ => fun
  | [d1, d2] => { results := [.lit (.bool false)], args := [d1, d2] }
  | _ => none }
def FnFilesCountedWrongFalsely : Prop := fnFilesCountedRow.holds Try.pinned (OpenSpec.ofChange fnFilesCountedWrong)

/- THE SECOND FORM. 'bulk': how many values and letters a reading holds, each counted each time it is reached (what is shared counts as often as it is met; a slice's spare places count too). A statement '..UptoSaid' is the law's where the arguments, and the package variables that the reading takes, are together of bulk at most 1048576: NARROWER than '..Said'. Prove '..Said' where nothing that the law and all that it calls make is longer than what came in: it says more and counts as full. Else prove '..UptoSaid'. A law counts once. -/
mutual
def uptoBulk {H : Type} : DataW H → Nat
  | .lit (.string bytes) => bytes.length + 1
  | .lit _ => 1
  | .nil => 1
  | .ptr d => uptoBulk d + 1
  | .slice elems spare => uptoBulkAll elems + uptoBulkAll spare + 1
  | .agg parts => uptoBulkAll parts + 1
  | .iface _ d => uptoBulk d + 1
  | .map entries => uptoBulkEntries entries + 1
  | .held _ => 1
def uptoBulkAll {H : Type} : List (DataW H) → Nat
  | [] => 0
  | d :: r => uptoBulk d + uptoBulkAll r
def uptoBulkEntries {H : Type} : List (Lit × DataW H) → Nat
  | [] => 0
  | x :: r => uptoBulkEntry x + uptoBulkEntries r
def uptoBulkEntry {H : Type} : Lit × DataW H → Nat
  | (.string bytes, d) => bytes.length + uptoBulk d + 1
  | (_, d) => uptoBulk d + 1
 end
def uptoSmall : (H : Type) → List (DataW H) → Bool := fun _ ds => decide (uptoBulkAll ds ≤ 1048576)
def OpenSpec.upto (s : _root_.Go.ChangeSpec) : _root_.Go.OpenSpec := { _root_.Go.OpenSpec.ofChange s with cond := some uptoSmall }

/-- 'laws.FnExactNumbersByCell', WHERE WHAT IT READS IS OF BULK AT MOST 1048576: true; the input reads as it did. -/
def fnExactNumbersByCellUptoRow : OpenClaim := { program := "ytnpacpdpgngdpaa", sum := "7a968ec50aa36834bcae75d63fb0dfe3e56cc0f9a01cec1257b08ac74720d52f", func := "loop.example/g01125/laws.FnExactNumbersByCell", spec := "fnExactNumbersByCell", unfollowed := true, recurses := true, apart := false, narrowed := true }
def FnExactNumbersByCellUptoSaid : Prop := fnExactNumbersByCellUptoRow.holds Try.pinned (OpenSpec.upto fnExactNumbersByCellSpec)

/-- 'laws.FnExactCountBoth', WHERE WHAT IT READS IS OF BULK AT MOST 1048576: true; the input reads as it did. -/
def fnExactCountBothUptoRow : OpenClaim := { program := "ytnpacpdpgngdpaa", sum := "7a968ec50aa36834bcae75d63fb0dfe3e56cc0f9a01cec1257b08ac74720d52f", func := "loop.example/g01125/laws.FnExactCountBoth", spec := "fnExactCountBoth", unfollowed := true, recurses := true, apart := false, narrowed := true }
def FnExactCountBothUptoSaid : Prop := fnExactCountBothUptoRow.holds Try.pinned (OpenSpec.upto fnExactCountBothSpec)

/-- 'laws.FnExactLeastWatch', WHERE WHAT IT READS IS OF BULK AT MOST 1048576: true; the input reads as it did. -/
def fnExactLeastWatchUptoRow : OpenClaim := { program := "ytnpacpdpgngdpaa", sum := "7a968ec50aa36834bcae75d63fb0dfe3e56cc0f9a01cec1257b08ac74720d52f", func := "loop.example/g01125/laws.FnExactLeastWatch", spec := "fnExactLeastWatch", unfollowed := true, recurses := true, apart := false, narrowed := true }
def FnExactLeastWatchUptoSaid : Prop := fnExactLeastWatchUptoRow.holds Try.pinned (OpenSpec.upto fnExactLeastWatchSpec)

/-- 'laws.FnExactMostKings', WHERE WHAT IT READS IS OF BULK AT MOST 1048576: true; the input reads as it did. -/
def fnExactMostKingsUptoRow : OpenClaim := { program := "ytnpacpdpgngdpaa", sum := "7a968ec50aa36834bcae75d63fb0dfe3e56cc0f9a01cec1257b08ac74720d52f", func := "loop.example/g01125/laws.FnExactMostKings", spec := "fnExactMostKings", unfollowed := true, recurses := true, apart := false, narrowed := true }
def FnExactMostKingsUptoSaid : Prop := fnExactMostKingsUptoRow.holds Try.pinned (OpenSpec.upto fnExactMostKingsSpec)

/-- 'laws.FnExactKingNumbers', WHERE WHAT IT READS IS OF BULK AT MOST 1048576: true; the input reads as it did. -/
def fnExactKingNumbersUptoRow : OpenClaim := { program := "ytnpacpdpgngdpaa", sum := "7a968ec50aa36834bcae75d63fb0dfe3e56cc0f9a01cec1257b08ac74720d52f", func := "loop.example/g01125/laws.FnExactKingNumbers", spec := "fnExactKingNumbers", unfollowed := true, recurses := true, apart := false, narrowed := true }
def FnExactKingNumbersUptoSaid : Prop := fnExactKingNumbersUptoRow.holds Try.pinned (OpenSpec.upto fnExactKingNumbersSpec)

/-- 'laws.FnExactCyclesOfFiles', WHERE WHAT IT READS IS OF BULK AT MOST 1048576: true; the input reads as it did. -/
def fnExactCyclesOfFilesUptoRow : OpenClaim := { program := "ytnpacpdpgngdpaa", sum := "7a968ec50aa36834bcae75d63fb0dfe3e56cc0f9a01cec1257b08ac74720d52f", func := "loop.example/g01125/laws.FnExactCyclesOfFiles", spec := "fnExactCyclesOfFiles", inPlace := ["slices.overlaps[int]"], unfollowed := true, recurses := true, apart := false, narrowed := true }
def FnExactCyclesOfFilesUptoSaid : Prop := fnExactCyclesOfFilesUptoRow.holds Try.pinned (OpenSpec.upto fnExactCyclesOfFilesSpec)

/-- 'laws.FnExactFirstKings', WHERE WHAT IT READS IS OF BULK AT MOST 1048576: true; the input reads as it did. -/
def fnExactFirstKingsUptoRow : OpenClaim := { program := "ytnpacpdpgngdpaa", sum := "7a968ec50aa36834bcae75d63fb0dfe3e56cc0f9a01cec1257b08ac74720d52f", func := "loop.example/g01125/laws.FnExactFirstKings", spec := "fnExactFirstKings", unfollowed := true, recurses := true, apart := false, narrowed := true }
def FnExactFirstKingsUptoSaid : Prop := fnExactFirstKingsUptoRow.holds Try.pinned (OpenSpec.upto fnExactFirstKingsSpec)

/-- 'laws.FnExactIsDesk', WHERE WHAT IT READS IS OF BULK AT MOST 1048576: true; the input reads as it did. -/
def fnExactIsDeskUptoRow : OpenClaim := { program := "ytnpacpdpgngdpaa", sum := "7a968ec50aa36834bcae75d63fb0dfe3e56cc0f9a01cec1257b08ac74720d52f", func := "loop.example/g01125/laws.FnExactIsDesk", spec := "fnExactIsDesk", unfollowed := true, recurses := true, apart := false, narrowed := true }
def FnExactIsDeskUptoSaid : Prop := fnExactIsDeskUptoRow.holds Try.pinned (OpenSpec.upto fnExactIsDeskSpec)

/-- 'laws.FnQueensWatch', WHERE WHAT IT READS IS OF BULK AT MOST 1048576: true; the input reads as it did. -/
def fnQueensWatchUptoRow : OpenClaim := { program := "ytnpacpdpgngdpaa", sum := "7a968ec50aa36834bcae75d63fb0dfe3e56cc0f9a01cec1257b08ac74720d52f", func := "loop.example/g01125/laws.FnQueensWatch", spec := "fnQueensWatch", unfollowed := true, recurses := true, apart := false, narrowed := true }
def FnQueensWatchUptoSaid : Prop := fnQueensWatchUptoRow.holds Try.pinned (OpenSpec.upto fnQueensWatchSpec)

/-- 'laws.FnQueensOnTori', WHERE WHAT IT READS IS OF BULK AT MOST 1048576: true; the input reads as it did. -/
def fnQueensOnToriUptoRow : OpenClaim := { program := "ytnpacpdpgngdpaa", sum := "7a968ec50aa36834bcae75d63fb0dfe3e56cc0f9a01cec1257b08ac74720d52f", func := "loop.example/g01125/laws.FnQueensOnTori", spec := "fnQueensOnTori", unfollowed := true, recurses := true, apart := false, narrowed := true }
def FnQueensOnToriUptoSaid : Prop := fnQueensOnToriUptoRow.holds Try.pinned (OpenSpec.upto fnQueensOnToriSpec)

/-- 'laws.FnQueensListed', WHERE WHAT IT READS IS OF BULK AT MOST 1048576: true; the input reads as it did. -/
def fnQueensListedUptoRow : OpenClaim := { program := "ytnpacpdpgngdpaa", sum := "7a968ec50aa36834bcae75d63fb0dfe3e56cc0f9a01cec1257b08ac74720d52f", func := "loop.example/g01125/laws.FnQueensListed", spec := "fnQueensListed", unfollowed := true, recurses := true, apart := false, narrowed := true }
def FnQueensListedUptoSaid : Prop := fnQueensListedUptoRow.holds Try.pinned (OpenSpec.upto fnQueensListedSpec)

/-- 'laws.FnKindsOfNumbers', WHERE WHAT IT READS IS OF BULK AT MOST 1048576: true; the input reads as it did. -/
def fnKindsOfNumbersUptoRow : OpenClaim := { program := "ytnpacpdpgngdpaa", sum := "7a968ec50aa36834bcae75d63fb0dfe3e56cc0f9a01cec1257b08ac74720d52f", func := "loop.example/g01125/laws.FnKindsOfNumbers", spec := "fnKindsOfNumbers", unfollowed := true, recurses := true, apart := false, narrowed := true }
def FnKindsOfNumbersUptoSaid : Prop := fnKindsOfNumbersUptoRow.holds Try.pinned (OpenSpec.upto fnKindsOfNumbersSpec)

/-- 'laws.FnQueensTurned', WHERE WHAT IT READS IS OF BULK AT MOST 1048576: true; the input reads as it did. -/
def fnQueensTurnedUptoRow : OpenClaim := { program := "ytnpacpdpgngdpaa", sum := "7a968ec50aa36834bcae75d63fb0dfe3e56cc0f9a01cec1257b08ac74720d52f", func := "loop.example/g01125/laws.FnQueensTurned", spec := "fnQueensTurned", unfollowed := true, recurses := true, apart := false, narrowed := true }
def FnQueensTurnedUptoSaid : Prop := fnQueensTurnedUptoRow.holds Try.pinned (OpenSpec.upto fnQueensTurnedSpec)

/-- 'laws.FnFilesCounted', WHERE WHAT IT READS IS OF BULK AT MOST 1048576: true; the input reads as it did. -/
def fnFilesCountedUptoRow : OpenClaim := { program := "ytnpacpdpgngdpaa", sum := "7a968ec50aa36834bcae75d63fb0dfe3e56cc0f9a01cec1257b08ac74720d52f", func := "loop.example/g01125/laws.FnFilesCounted", spec := "fnFilesCounted", unfollowed := true, recurses := true, apart := false, narrowed := true }
def FnFilesCountedUptoSaid : Prop := fnFilesCountedUptoRow.holds Try.pinned (OpenSpec.upto fnFilesCountedSpec)

end Rows
end Go.Proofs.Ytnpacpdpgngdpaa
