/-
  No cell of these rows narrows 'for every input' (looked for: loops, veiled, ifaces, maps, wideKeys, modest, calm, conditions, laid).
  DERIVED. THE GIVEN ROWS OF THIS SEAT. 14 by the template 'for every input the law returns true; each argument reads behind the call as it read before'; 0 by the template 'total and deterministic' (their statements: YthibohakolgfbaaTotals.lean).
  GIVEN WITH THE SEED: the statements are not yours to turn. If you find one false, say at which input.
  Laid BY PROGRAM, IN A SANDBOX (cutbox-rows.mjs): the forced cells as the released guide's own fill.sh prints them over the translation ec1f84d05233f5fc… (all of the seat's roots in one cut). By AI agents, Wed Nov 11 2026. No macro, syntax, notation, axiom, sorry.
-/
import Derived.Test.YthibohakolgfbaaChecked
import GoSem.Claim
import GoSem.ClaimJoined
import GoSem.ClaimMapViews
import Derived.JoinedTies
import Derived.KernelRfl
namespace Go.Proofs.Ythibohakolgfbaa
/- THE CELL 'sum', in the pinned program and in every row, IS THE sha256 OF THE DUMP (.gsa) THAT YthibohakolgfbaaProg.lean LOADS. Nothing in Lean hashes anything: it is a label: what it is worth is what the hold of that sum in a sandbox is worth. -/
noncomputable def Try.pinned : Pinned := { name := "ythibohakolgfbaa", sum := "ec1f84d05233f5fc0a54a43ac10351c93b56541e24a63c4306ed106845eadaf5", checked := Try.checked }
namespace Rows
def none {H : Type} : Left H := { results := [], args := [] }

/-- 'laws.FnExactDiagonalOf': WHATEVER THE INPUT: true; the input reads as it did. -/
def fnExactDiagonalOfSpec : ChangeSpec := { name := "fnExactDiagonalOf", fn := fun _ => fun
  | [d1, d2, d3] => { results := [.lit (.bool true)], args := [d1, d2, d3] }
  | _ => none }
def fnExactDiagonalOfRow : OpenClaim := { program := "ythibohakolgfbaa", sum := "ec1f84d05233f5fc0a54a43ac10351c93b56541e24a63c4306ed106845eadaf5", func := "loop.example/g01125/laws.FnExactDiagonalOf", spec := "fnExactDiagonalOf", unfollowed := true, recurses := true, apart := false }
def FnExactDiagonalOfSaid : Prop := fnExactDiagonalOfRow.holds Try.pinned (OpenSpec.ofChange fnExactDiagonalOfSpec)

/-- ITS FALSE NEIGHBOUR: 'it returns false'. Refute it at one input. -/
def fnExactDiagonalOfWrong : ChangeSpec := { name := "fnExactDiagonalOf", fn := fun _ => fun
  | [d1, d2, d3] => { results := [.lit (.bool false)], args := [d1, d2, d3] }
  | _ => none }
def FnExactDiagonalOfWrongFalsely : Prop := fnExactDiagonalOfRow.holds Try.pinned (OpenSpec.ofChange fnExactDiagonalOfWrong)

/-- 'laws.FnExactPutCell': WHATEVER THE INPUT: true; the input reads as it did. -/
def fnExactPutCellSpec : ChangeSpec := { name := "fnExactPutCell", fn := fun _ => fun
  | [d1, d2, d3, d4] => { results := [.lit (.bool true)], args := [d1, d2, d3, d4] }
  | _ => none }
def fnExactPutCellRow : OpenClaim := { program := "ythibohakolgfbaa", sum := "ec1f84d05233f5fc0a54a43ac10351c93b56541e24a63c4306ed106845eadaf5", func := "loop.example/g01125/laws.FnExactPutCell", spec := "fnExactPutCell", unfollowed := true, recurses := true, apart := false }
def FnExactPutCellSaid : Prop := fnExactPutCellRow.holds Try.pinned (OpenSpec.ofChange fnExactPutCellSpec)

/-- ITS FALSE NEIGHBOUR: 'it returns false'. Refute it at one input. -/
def fnExactPutCellWrong : ChangeSpec := { name := "fnExactPutCell", fn := fun _ => fun
  | [d1, d2, d3, d4] => { results := [.lit (.bool false)], args := [d1, d2, d3, d4] }
  | _ => none }
def FnExactPutCellWrongFalsely : Prop := fnExactPutCellRow.holds Try.pinned (OpenSpec.ofChange fnExactPutCellWrong)

/-- 'laws.FnExactQueenPairs': WHATEVER THE INPUT: true; the input reads as it did. -/
def fnExactQueenPairsSpec : ChangeSpec := { name := "fnExactQueenPairs", fn := fun _ => fun
  | [d] => { results := [.lit (.bool true)], args := [d] }
  | _ => none }
def fnExactQueenPairsRow : OpenClaim := { program := "ythibohakolgfbaa", sum := "ec1f84d05233f5fc0a54a43ac10351c93b56541e24a63c4306ed106845eadaf5", func := "loop.example/g01125/laws.FnExactQueenPairs", spec := "fnExactQueenPairs", unfollowed := true, recurses := true, apart := false }
def FnExactQueenPairsSaid : Prop := fnExactQueenPairsRow.holds Try.pinned (OpenSpec.ofChange fnExactQueenPairsSpec)

/-- ITS FALSE NEIGHBOUR: 'it returns false'. Refute it at one input. -/
def fnExactQueenPairsWrong : ChangeSpec := { name := "fnExactQueenPairs", fn := fun _ => fun
  | [d] => { results := [.lit (.bool false)], args := [d] }
  | _ => none }
def FnExactQueenPairsWrongFalsely : Prop := fnExactQueenPairsRow.holds Try.pinned (OpenSpec.ofChange fnExactQueenPairsWrong)

/-- 'laws.FnExactCountBoth': WHATEVER THE INPUT: true; the input reads as it did. -/
def fnExactCountBothSpec : ChangeSpec := { name := "fnExactCountBoth", fn := fun _ => fun
  | [d1, d2] => { results := [.lit (.bool true)], args := [d1, d2] }
  | _ => none }
def fnExactCountBothRow : OpenClaim := { program := "ythibohakolgfbaa", sum := "ec1f84d05233f5fc0a54a43ac10351c93b56541e24a63c4306ed106845eadaf5", func := "loop.example/g01125/laws.FnExactCountBoth", spec := "fnExactCountBoth", unfollowed := true, recurses := true, apart := false }
def FnExactCountBothSaid : Prop := fnExactCountBothRow.holds Try.pinned (OpenSpec.ofChange fnExactCountBothSpec)

/-- ITS FALSE NEIGHBOUR: 'it returns false'. Refute it at one input. -/
def fnExactCountBothWrong : ChangeSpec := { name := "fnExactCountBoth", fn := fun _ => fun
  | [d1, d2] => { results := [.lit (.bool false)], args := [d1, d2] }
  | _ => none }
def FnExactCountBothWrongFalsely : Prop := fnExactCountBothRow.holds Try.pinned (OpenSpec.ofChange fnExactCountBothWrong)

/-- 'laws.FnExactAreQuietBishops': WHATEVER THE INPUT: true; the input reads as it did. -/
def fnExactAreQuietBishopsSpec : ChangeSpec := { name := "fnExactAreQuietBishops", fn := fun _ => fun
  | [d1, d2] => { results := [.lit (.bool true)], args := [d1, d2] }
  | _ => none }
def fnExactAreQuietBishopsRow : OpenClaim := { program := "ythibohakolgfbaa", sum := "ec1f84d05233f5fc0a54a43ac10351c93b56541e24a63c4306ed106845eadaf5", func := "loop.example/g01125/laws.FnExactAreQuietBishops", spec := "fnExactAreQuietBishops", unfollowed := true, recurses := true, apart := false }
def FnExactAreQuietBishopsSaid : Prop := fnExactAreQuietBishopsRow.holds Try.pinned (OpenSpec.ofChange fnExactAreQuietBishopsSpec)

/-- ITS FALSE NEIGHBOUR: 'it returns false'. Refute it at one input. -/
def fnExactAreQuietBishopsWrong : ChangeSpec := { name := "fnExactAreQuietBishops", fn := fun _ => fun
  | [d1, d2] => { results := [.lit (.bool false)], args := [d1, d2] }
  | _ => none }
def FnExactAreQuietBishopsWrongFalsely : Prop := fnExactAreQuietBishopsRow.holds Try.pinned (OpenSpec.ofChange fnExactAreQuietBishopsWrong)

/-- 'laws.FnExactAreQuietKings': WHATEVER THE INPUT: true; the input reads as it did. -/
def fnExactAreQuietKingsSpec : ChangeSpec := { name := "fnExactAreQuietKings", fn := fun _ => fun
  | [d1, d2] => { results := [.lit (.bool true)], args := [d1, d2] }
  | _ => none }
def fnExactAreQuietKingsRow : OpenClaim := { program := "ythibohakolgfbaa", sum := "ec1f84d05233f5fc0a54a43ac10351c93b56541e24a63c4306ed106845eadaf5", func := "loop.example/g01125/laws.FnExactAreQuietKings", spec := "fnExactAreQuietKings", unfollowed := true, recurses := true, apart := false }
def FnExactAreQuietKingsSaid : Prop := fnExactAreQuietKingsRow.holds Try.pinned (OpenSpec.ofChange fnExactAreQuietKingsSpec)

/-- ITS FALSE NEIGHBOUR: 'it returns false'. Refute it at one input. -/
def fnExactAreQuietKingsWrong : ChangeSpec := { name := "fnExactAreQuietKings", fn := fun _ => fun
  | [d1, d2] => { results := [.lit (.bool false)], args := [d1, d2] }
  | _ => none }
def FnExactAreQuietKingsWrongFalsely : Prop := fnExactAreQuietKingsRow.holds Try.pinned (OpenSpec.ofChange fnExactAreQuietKingsWrong)

/-- 'laws.FnExactMostKings': WHATEVER THE INPUT: true; the input reads as it did. -/
def fnExactMostKingsSpec : ChangeSpec := { name := "fnExactMostKings", fn := fun _ => fun
  | [d] => { results := [.lit (.bool true)], args := [d] }
  | _ => none }
def fnExactMostKingsRow : OpenClaim := { program := "ythibohakolgfbaa", sum := "ec1f84d05233f5fc0a54a43ac10351c93b56541e24a63c4306ed106845eadaf5", func := "loop.example/g01125/laws.FnExactMostKings", spec := "fnExactMostKings", unfollowed := true, recurses := true, apart := false }
def FnExactMostKingsSaid : Prop := fnExactMostKingsRow.holds Try.pinned (OpenSpec.ofChange fnExactMostKingsSpec)

/-- ITS FALSE NEIGHBOUR: 'it returns false'. Refute it at one input. -/
def fnExactMostKingsWrong : ChangeSpec := { name := "fnExactMostKings", fn := fun _ => fun
  | [d] => { results := [.lit (.bool false)], args := [d] }
  | _ => none }
def FnExactMostKingsWrongFalsely : Prop := fnExactMostKingsRow.holds Try.pinned (OpenSpec.ofChange fnExactMostKingsWrong)

/-- 'laws.FnExactKingNumbers': WHATEVER THE INPUT: true; the input reads as it did. -/
def fnExactKingNumbersSpec : ChangeSpec := { name := "fnExactKingNumbers", fn := fun _ => fun
  | [d] => { results := [.lit (.bool true)], args := [d] }
  | _ => none }
def fnExactKingNumbersRow : OpenClaim := { program := "ythibohakolgfbaa", sum := "ec1f84d05233f5fc0a54a43ac10351c93b56541e24a63c4306ed106845eadaf5", func := "loop.example/g01125/laws.FnExactKingNumbers", spec := "fnExactKingNumbers", unfollowed := true, recurses := true, apart := false }
def FnExactKingNumbersSaid : Prop := fnExactKingNumbersRow.holds Try.pinned (OpenSpec.ofChange fnExactKingNumbersSpec)

/-- ITS FALSE NEIGHBOUR: 'it returns false'. Refute it at one input. -/
def fnExactKingNumbersWrong : ChangeSpec := { name := "fnExactKingNumbers", fn := fun _ => fun
  | [d] => { results := [.lit (.bool false)], args := [d] }
  | _ => none }
def FnExactKingNumbersWrongFalsely : Prop := fnExactKingNumbersRow.holds Try.pinned (OpenSpec.ofChange fnExactKingNumbersWrong)

/-- 'laws.FnExactNumbersByCell': WHATEVER THE INPUT: true; the input reads as it did. -/
def fnExactNumbersByCellSpec : ChangeSpec := { name := "fnExactNumbersByCell", fn := fun _ => fun
  | [d1, d2, d3] => { results := [.lit (.bool true)], args := [d1, d2, d3] }
  | _ => none }
def fnExactNumbersByCellRow : OpenClaim := { program := "ythibohakolgfbaa", sum := "ec1f84d05233f5fc0a54a43ac10351c93b56541e24a63c4306ed106845eadaf5", func := "loop.example/g01125/laws.FnExactNumbersByCell", spec := "fnExactNumbersByCell", unfollowed := true, recurses := true, apart := false }
def FnExactNumbersByCellSaid : Prop := fnExactNumbersByCellRow.holds Try.pinned (OpenSpec.ofChange fnExactNumbersByCellSpec)

/-- ITS FALSE NEIGHBOUR: 'it returns false'. Refute it at one input. -/
def fnExactNumbersByCellWrong : ChangeSpec := { name := "fnExactNumbersByCell", fn := fun _ => fun
  | [d1, d2, d3] => { results := [.lit (.bool false)], args := [d1, d2, d3] }
  | _ => none }
def FnExactNumbersByCellWrongFalsely : Prop := fnExactNumbersByCellRow.holds Try.pinned (OpenSpec.ofChange fnExactNumbersByCellWrong)

/-- 'laws.FnExactRooksOfPartition': WHATEVER THE INPUT: true; the input reads as it did. -/
def fnExactRooksOfPartitionSpec : ChangeSpec := { name := "fnExactRooksOfPartition", fn := fun _ => fun
  | [d] => { results := [.lit (.bool true)], args := [d] }
  | _ => none }
def fnExactRooksOfPartitionRow : OpenClaim := { program := "ythibohakolgfbaa", sum := "ec1f84d05233f5fc0a54a43ac10351c93b56541e24a63c4306ed106845eadaf5", func := "loop.example/g01125/laws.FnExactRooksOfPartition", spec := "fnExactRooksOfPartition", apart := false }
def FnExactRooksOfPartitionSaid : Prop := fnExactRooksOfPartitionRow.holds Try.pinned (OpenSpec.ofChange fnExactRooksOfPartitionSpec)

/-- ITS FALSE NEIGHBOUR: 'it returns false'. Refute it at one input. -/
def fnExactRooksOfPartitionWrong : ChangeSpec := { name := "fnExactRooksOfPartition", fn := fun _ => fun
  | [d] => { results := [.lit (.bool false)], args := [d] }
  | _ => none }
def FnExactRooksOfPartitionWrongFalsely : Prop := fnExactRooksOfPartitionRow.holds Try.pinned (OpenSpec.ofChange fnExactRooksOfPartitionWrong)

/-- 'laws.FnExactPartitionText': WHATEVER THE INPUT: true; the input reads as it did. -/
def fnExactPartitionTextSpec : ChangeSpec := { name := "fnExactPartitionText", fn := fun _ => fun
  | [d] => { results := [.lit (.bool true)], args := [d] }
  | _ => none }
def fnExactPartitionTextRow : OpenClaim := { program := "ythibohakolgfbaa", sum := "ec1f84d05233f5fc0a54a43ac10351c93b56541e24a63c4306ed106845eadaf5", func := "loop.example/g01125/laws.FnExactPartitionText", spec := "fnExactPartitionText", inPlace := ["internal/abi.NoEscape", "internal/bytealg.MakeNoZero"], recurses := true, apart := false }
def FnExactPartitionTextSaid : Prop := fnExactPartitionTextRow.holds Try.pinned (OpenSpec.ofChange fnExactPartitionTextSpec)

/-- ITS FALSE NEIGHBOUR: 'it returns false'. Refute it at one input. -/
def fnExactPartitionTextWrong : ChangeSpec := { name := "fnExactPartitionText", fn := fun _ => fun
  | [d] => { results := [.lit (.bool false)], args := [d] }
  | _ => none }
def FnExactPartitionTextWrongFalsely : Prop := fnExactPartitionTextRow.holds Try.pinned (OpenSpec.ofChange fnExactPartitionTextWrong)

/-- 'laws.FnExactFilesOfCycles': WHATEVER THE INPUT: true; the input reads as it did. -/
def fnExactFilesOfCyclesSpec : ChangeSpec := { name := "fnExactFilesOfCycles", fn := fun _ => fun
  | [d] => { results := [.lit (.bool true)], args := [d] }
  | _ => none }
def fnExactFilesOfCyclesRow : OpenClaim := { program := "ythibohakolgfbaa", sum := "ec1f84d05233f5fc0a54a43ac10351c93b56541e24a63c4306ed106845eadaf5", func := "loop.example/g01125/laws.FnExactFilesOfCycles", spec := "fnExactFilesOfCycles", apart := false }
def FnExactFilesOfCyclesSaid : Prop := fnExactFilesOfCyclesRow.holds Try.pinned (OpenSpec.ofChange fnExactFilesOfCyclesSpec)

/-- ITS FALSE NEIGHBOUR: 'it returns false'. Refute it at one input. -/
def fnExactFilesOfCyclesWrong : ChangeSpec := { name := "fnExactFilesOfCycles", fn := fun _ => fun
  | [d] => { results := [.lit (.bool false)], args := [d] }
  | _ => none }
def FnExactFilesOfCyclesWrongFalsely : Prop := fnExactFilesOfCyclesRow.holds Try.pinned (OpenSpec.ofChange fnExactFilesOfCyclesWrong)

/-- 'laws.FnExactCyclesOfFiles': WHATEVER THE INPUT: true; the input reads as it did. -/
def fnExactCyclesOfFilesSpec : ChangeSpec := { name := "fnExactCyclesOfFiles", fn := fun _ => fun
  | [d] => { results := [.lit (.bool true)], args := [d] }
  | _ => none }
def fnExactCyclesOfFilesRow : OpenClaim := { program := "ythibohakolgfbaa", sum := "ec1f84d05233f5fc0a54a43ac10351c93b56541e24a63c4306ed106845eadaf5", func := "loop.example/g01125/laws.FnExactCyclesOfFiles", spec := "fnExactCyclesOfFiles", inPlace := ["slices.overlaps[int]"], unfollowed := true, recurses := true, apart := false }
def FnExactCyclesOfFilesSaid : Prop := fnExactCyclesOfFilesRow.holds Try.pinned (OpenSpec.ofChange fnExactCyclesOfFilesSpec)

/-- ITS FALSE NEIGHBOUR: 'it returns false'. Refute it at one input. -/
def fnExactCyclesOfFilesWrong : ChangeSpec := { name := "fnExactCyclesOfFiles", fn := fun _ => fun
  | [d] => { results := [.lit (.bool false)], args := [d] }
  | _ => none }
def FnExactCyclesOfFilesWrongFalsely : Prop := fnExactCyclesOfFilesRow.holds Try.pinned (OpenSpec.ofChange fnExactCyclesOfFilesWrong)

/-- 'laws.FnExactFirstKings': WHATEVER THE INPUT: true; the input reads as it did. -/
def fnExactFirstKingsSpec : ChangeSpec := { name := "fnExactFirstKings", fn := fun _ => fun
  | [d1, d2] => { results := [.lit (.bool true)], args := [d1, d2] }
  | _ => none }
def fnExactFirstKingsRow : OpenClaim := { program := "ythibohakolgfbaa", sum := "ec1f84d05233f5fc0a54a43ac10351c93b56541e24a63c4306ed106845eadaf5", func := "loop.example/g01125/laws.FnExactFirstKings", spec := "fnExactFirstKings", unfollowed := true, recurses := true, apart := false }
def FnExactFirstKingsSaid : Prop := fnExactFirstKingsRow.holds Try.pinned (OpenSpec.ofChange fnExactFirstKingsSpec)

/-- ITS FALSE NEIGHBOUR: 'it returns false'. Refute it at one input. -/
def fnExactFirstKingsWrong : ChangeSpec := { name := "fnExactFirstKings", fn := fun _ => fun
  | [d1, d2] => { results := [.lit (.bool false)], args := [d1, d2] }
  | _ => none }
def FnExactFirstKingsWrongFalsely : Prop := fnExactFirstKingsRow.holds Try.pinned (OpenSpec.ofChange fnExactFirstKingsWrong)

/- THE SECOND FORM. 'bulk': how many values and letters a reading holds, each counted each time it is reached (what is shared counts as often as it is met; a slice's spare places count too). A statement '..UptoSaid' is the law's where the arguments, and the package variables that the reading takes, are together of bulk at most 1048576: NARROWER than '..Said'. Prove '..Said' where nothing that the law and all that it calls make is longer than what came in: it says more and counts as full. Else prove '..UptoSaid'. A law counts once. -/
mutual
def uptoBulk {H : Type} : DataW H → Nat
  | .lit (.string bytes) => bytes.length + 1
  | .lit _ => 1
  | .nil => 1
  | .ptr d => uptoBulk d + 1
  | .slice elems spare => uptoBulkAll elems + uptoBulkAll spare + 1
  | .agg parts => uptoBulkAll parts + 1
  | .iface _ d => uptoBulk d + 1
  | .map entries => uptoBulkEntries entries + 1
  | .held _ => 1
def uptoBulkAll {H : Type} : List (DataW H) → Nat
  | [] => 0
  | d :: r => uptoBulk d + uptoBulkAll r
def uptoBulkEntries {H : Type} : List (Lit × DataW H) → Nat
  | [] => 0
  | x :: r => uptoBulkEntry x + uptoBulkEntries r
def uptoBulkEntry {H : Type} : Lit × DataW H → Nat
  | (.string bytes, d) => bytes.length + uptoBulk d + 1
  | (_, d) => uptoBulk d + 1
 end
def uptoSmall : (H : Type) → List (DataW H) → Bool := fun _ ds => decide (uptoBulkAll ds ≤ 1048576)
def OpenSpec.upto (s : _root_.Go.ChangeSpec) : _root_.Go.OpenSpec := { _root_.Go.OpenSpec.ofChange s with cond := some uptoSmall }

/-- 'laws.FnExactDiagonalOf', WHERE WHAT IT READS IS OF BULK AT MOST 1048576: true; the input reads as it did. -/
def fnExactDiagonalOfUptoRow : OpenClaim := { program := "ythibohakolgfbaa", sum := "ec1f84d05233f5fc0a54a43ac10351c93b56541e24a63c4306ed106845eadaf5", func := "loop.example/g01125/laws.FnExactDiagonalOf", spec := "fnExactDiagonalOf", unfollowed := true, recurses := true, apart := false, narrowed := true }
def FnExactDiagonalOfUptoSaid : Prop := fnExactDiagonalOfUptoRow.holds Try.pinned (OpenSpec.upto fnExactDiagonalOfSpec)

/-- 'laws.FnExactPutCell', WHERE WHAT IT READS IS OF BULK AT MOST 1048576: true; the input reads as it did. -/
def fnExactPutCellUptoRow : OpenClaim := { program := "ythibohakolgfbaa", sum := "ec1f84d05233f5fc0a54a43ac10351c93b56541e24a63c4306ed106845eadaf5", func := "loop.example/g01125/laws.FnExactPutCell", spec := "fnExactPutCell", unfollowed := true, recurses := true, apart := false, narrowed := true }
def FnExactPutCellUptoSaid : Prop := fnExactPutCellUptoRow.holds Try.pinned (OpenSpec.upto fnExactPutCellSpec)

/-- 'laws.FnExactQueenPairs', WHERE WHAT IT READS IS OF BULK AT MOST 1048576: true; the input reads as it did. -/
def fnExactQueenPairsUptoRow : OpenClaim := { program := "ythibohakolgfbaa", sum := "ec1f84d05233f5fc0a54a43ac10351c93b56541e24a63c4306ed106845eadaf5", func := "loop.example/g01125/laws.FnExactQueenPairs", spec := "fnExactQueenPairs", unfollowed := true, recurses := true, apart := false, narrowed := true }
def FnExactQueenPairsUptoSaid : Prop := fnExactQueenPairsUptoRow.holds Try.pinned (OpenSpec.upto fnExactQueenPairsSpec)

/-- 'laws.FnExactCountBoth', WHERE WHAT IT READS IS OF BULK AT MOST 1048576: true; the input reads as it did. -/
def fnExactCountBothUptoRow : OpenClaim := { program := "ythibohakolgfbaa", sum := "ec1f84d05233f5fc0a54a43ac10351c93b56541e24a63c4306ed106845eadaf5", func := "loop.example/g01125/laws.FnExactCountBoth", spec := "fnExactCountBoth", unfollowed := true, recurses := true, apart := false, narrowed := true }
def FnExactCountBothUptoSaid : Prop := fnExactCountBothUptoRow.holds Try.pinned (OpenSpec.upto fnExactCountBothSpec)

/-- 'laws.FnExactAreQuietBishops', WHERE WHAT IT READS IS OF BULK AT MOST 1048576: true; the input reads as it did. -/
def fnExactAreQuietBishopsUptoRow : OpenClaim := { program := "ythibohakolgfbaa", sum := "ec1f84d05233f5fc0a54a43ac10351c93b56541e24a63c4306ed106845eadaf5", func := "loop.example/g01125/laws.FnExactAreQuietBishops", spec := "fnExactAreQuietBishops", unfollowed := true, recurses := true, apart := false, narrowed := true }
def FnExactAreQuietBishopsUptoSaid : Prop := fnExactAreQuietBishopsUptoRow.holds Try.pinned (OpenSpec.upto fnExactAreQuietBishopsSpec)

/-- 'laws.FnExactAreQuietKings', WHERE WHAT IT READS IS OF BULK AT MOST 1048576: true; the input reads as it did. -/
def fnExactAreQuietKingsUptoRow : OpenClaim := { program := "ythibohakolgfbaa", sum := "ec1f84d05233f5fc0a54a43ac10351c93b56541e24a63c4306ed106845eadaf5", func := "loop.example/g01125/laws.FnExactAreQuietKings", spec := "fnExactAreQuietKings", unfollowed := true, recurses := true, apart := false, narrowed := true }
def FnExactAreQuietKingsUptoSaid : Prop := fnExactAreQuietKingsUptoRow.holds Try.pinned (OpenSpec.upto fnExactAreQuietKingsSpec)

/-- 'laws.FnExactMostKings', WHERE WHAT IT READS IS OF BULK AT MOST 1048576: true; the input reads as it did. -/
def fnExactMostKingsUptoRow : OpenClaim := { program := "ythibohakolgfbaa", sum := "ec1f84d05233f5fc0a54a43ac10351c93b56541e24a63c4306ed106845eadaf5", func := "loop.example/g01125/laws.FnExactMostKings", spec := "fnExactMostKings", unfollowed := true, recurses := true, apart := false, narrowed := true }
def FnExactMostKingsUptoSaid : Prop := fnExactMostKingsUptoRow.holds Try.pinned (OpenSpec.upto fnExactMostKingsSpec)

/-- 'laws.FnExactKingNumbers', WHERE WHAT IT READS IS OF BULK AT MOST 1048576: true; the input reads as it did. -/
def fnExactKingNumbersUptoRow : OpenClaim := { program := "ythibohakolgfbaa", sum := "ec1f84d05233f5fc0a54a43ac10351c93b56541e24a63c4306ed106845eadaf5", func := "loop.example/g01125/laws.FnExactKingNumbers", spec := "fnExactKingNumbers", unfollowed := true, recurses := true, apart := false, narrowed := true }
def FnExactKingNumbersUptoSaid : Prop := fnExactKingNumbersUptoRow.holds Try.pinned (OpenSpec.upto fnExactKingNumbersSpec)

/-- 'laws.FnExactNumbersByCell', WHERE WHAT IT READS IS OF BULK AT MOST 1048576: true; the input reads as it did. -/
def fnExactNumbersByCellUptoRow : OpenClaim := { program := "ythibohakolgfbaa", sum := "ec1f84d05233f5fc0a54a43ac10351c93b56541e24a63c4306ed106845eadaf5", func := "loop.example/g01125/laws.FnExactNumbersByCell", spec := "fnExactNumbersByCell", unfollowed := true, recurses := true, apart := false, narrowed := true }
def FnExactNumbersByCellUptoSaid : Prop := fnExactNumbersByCellUptoRow.holds Try.pinned (OpenSpec.upto fnExactNumbersByCellSpec)

/-- 'laws.FnExactRooksOfPartition', WHERE WHAT IT READS IS OF BULK AT MOST 1048576: true; the input reads as it did. -/
def fnExactRooksOfPartitionUptoRow : OpenClaim := { program := "ythibohakolgfbaa", sum := "ec1f84d05233f5fc0a54a43ac10351c93b56541e24a63c4306ed106845eadaf5", func := "loop.example/g01125/laws.FnExactRooksOfPartition", spec := "fnExactRooksOfPartition", apart := false, narrowed := true }
def FnExactRooksOfPartitionUptoSaid : Prop := fnExactRooksOfPartitionUptoRow.holds Try.pinned (OpenSpec.upto fnExactRooksOfPartitionSpec)

/-- 'laws.FnExactPartitionText', WHERE WHAT IT READS IS OF BULK AT MOST 1048576: true; the input reads as it did. -/
def fnExactPartitionTextUptoRow : OpenClaim := { program := "ythibohakolgfbaa", sum := "ec1f84d05233f5fc0a54a43ac10351c93b56541e24a63c4306ed106845eadaf5", func := "loop.example/g01125/laws.FnExactPartitionText", spec := "fnExactPartitionText", inPlace := ["internal/abi.NoEscape", "internal/bytealg.MakeNoZero"], recurses := true, apart := false, narrowed := true }
def FnExactPartitionTextUptoSaid : Prop := fnExactPartitionTextUptoRow.holds Try.pinned (OpenSpec.upto fnExactPartitionTextSpec)

/-- 'laws.FnExactFilesOfCycles', WHERE WHAT IT READS IS OF BULK AT MOST 1048576: true; the input reads as it did. -/
def fnExactFilesOfCyclesUptoRow : OpenClaim := { program := "ythibohakolgfbaa", sum := "ec1f84d05233f5fc0a54a43ac10351c93b56541e24a63c4306ed106845eadaf5", func := "loop.example/g01125/laws.FnExactFilesOfCycles", spec := "fnExactFilesOfCycles", apart := false, narrowed := true }
def FnExactFilesOfCyclesUptoSaid : Prop := fnExactFilesOfCyclesUptoRow.holds Try.pinned (OpenSpec.upto fnExactFilesOfCyclesSpec)

/-- 'laws.FnExactCyclesOfFiles', WHERE WHAT IT READS IS OF BULK AT MOST 1048576: true; the input reads as it did. -/
def fnExactCyclesOfFilesUptoRow : OpenClaim := { program := "ythibohakolgfbaa", sum := "ec1f84d05233f5fc0a54a43ac10351c93b56541e24a63c4306ed106845eadaf5", func := "loop.example/g01125/laws.FnExactCyclesOfFiles", spec := "fnExactCyclesOfFiles", inPlace := ["slices.overlaps[int]"], unfollowed := true, recurses := true, apart := false, narrowed := true }
def FnExactCyclesOfFilesUptoSaid : Prop := fnExactCyclesOfFilesUptoRow.holds Try.pinned (OpenSpec.upto fnExactCyclesOfFilesSpec)

/-- 'laws.FnExactFirstKings', WHERE WHAT IT READS IS OF BULK AT MOST 1048576: true; the input reads as it did. -/
def fnExactFirstKingsUptoRow : OpenClaim := { program := "ythibohakolgfbaa", sum := "ec1f84d05233f5fc0a54a43ac10351c93b56541e24a63c4306ed106845eadaf5", func := "loop.example/g01125/laws.FnExactFirstKings", spec := "fnExactFirstKings", unfollowed := true, recurses := true, apart := false, narrowed := true }
def FnExactFirstKingsUptoSaid : Prop := fnExactFirstKingsUptoRow.holds Try.pinned (OpenSpec.upto fnExactFirstKingsSpec)

end Rows
end Go.Proofs.Ythibohakolgfbaa
