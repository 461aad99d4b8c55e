/-
  No cell of these rows narrows 'for every input' (looked for: loops, veiled, ifaces, maps, wideKeys, modest, calm, conditions, laid).
  DERIVED. THE GIVEN ROWS OF THIS SEAT. 14 by the template 'for every input the law returns true; each argument reads behind the call as it read before'; 0 by the template 'total and deterministic' (their statements: YthlcaikplebpmaaTotals.lean).
  GIVEN WITH THE SEED: the statements are not yours to turn. If you find one false, say at which input.
  Laid BY PROGRAM, IN A SANDBOX (cutbox-rows.mjs): the forced cells as the released guide's own fill.sh prints them over the translation e84b5f9ad24989b8… (all of the seat's roots in one cut). By AI agents, Wed Nov 11 2026. No macro, syntax, notation, axiom, sorry.
-/
import Derived.Test.YthlcaikplebpmaaChecked
import GoSem.Claim
import GoSem.ClaimJoined
import GoSem.ClaimMapViews
import Derived.JoinedTies
import Derived.KernelRfl
namespace Go.Proofs.Ythlcaikplebpmaa
/- THE CELL 'sum', in the pinned program and in every row, IS THE sha256 OF THE DUMP (.gsa) THAT YthlcaikplebpmaaProg.lean LOADS. Nothing in Lean hashes anything: it is a label: what it is worth is what the hold of that sum in a sandbox is worth. -/
noncomputable def Try.pinned : Pinned := { name := "ythlcaikplebpmaa", sum := "e84b5f9ad24989b8f4af0cbc07aad4dd261af8a9f38d5f9a4943d560389e5236", checked := Try.checked }
namespace Rows
def none {H : Type} : Left H := { results := [], args := [] }

/-- 'laws.FnExactColourBoard': WHATEVER THE INPUT: true; the input reads as it did. -/
def fnExactColourBoardSpec : ChangeSpec := { name := "fnExactColourBoard", fn := fun _ => fun
  | [d1, d2] => { results := [.lit (.bool true)], args := [d1, d2] }
  | _ => none }
def fnExactColourBoardRow : OpenClaim := { program := "ythlcaikplebpmaa", sum := "e84b5f9ad24989b8f4af0cbc07aad4dd261af8a9f38d5f9a4943d560389e5236", func := "loop.example/g01125/laws.FnExactColourBoard", spec := "fnExactColourBoard", unfollowed := true, recurses := true, apart := false }
def FnExactColourBoardSaid : Prop := fnExactColourBoardRow.holds Try.pinned (OpenSpec.ofChange fnExactColourBoardSpec)

/-- ITS FALSE NEIGHBOUR: 'it returns false'. Refute it at one input. -/
def fnExactColourBoardWrong : ChangeSpec := { name := "fnExactColourBoard", fn := fun _ => fun
  | [d1, d2] => { results := [.lit (.bool false)], args := [d1, d2] }
  | _ => none }
def FnExactColourBoardWrongFalsely : Prop := fnExactColourBoardRow.holds Try.pinned (OpenSpec.ofChange fnExactColourBoardWrong)

/-- 'laws.FnExactMostBishops': WHATEVER THE INPUT: true; the input reads as it did. -/
def fnExactMostBishopsSpec : ChangeSpec := { name := "fnExactMostBishops", fn := fun _ => fun
  | [d] => { results := [.lit (.bool true)], args := [d] }
  | _ => none }
def fnExactMostBishopsRow : OpenClaim := { program := "ythlcaikplebpmaa", sum := "e84b5f9ad24989b8f4af0cbc07aad4dd261af8a9f38d5f9a4943d560389e5236", func := "loop.example/g01125/laws.FnExactMostBishops", spec := "fnExactMostBishops", unfollowed := true, recurses := true, apart := false }
def FnExactMostBishopsSaid : Prop := fnExactMostBishopsRow.holds Try.pinned (OpenSpec.ofChange fnExactMostBishopsSpec)

/-- ITS FALSE NEIGHBOUR: 'it returns false'. Refute it at one input. -/
def fnExactMostBishopsWrong : ChangeSpec := { name := "fnExactMostBishops", fn := fun _ => fun
  | [d] => { results := [.lit (.bool false)], args := [d] }
  | _ => none }
def FnExactMostBishopsWrongFalsely : Prop := fnExactMostBishopsRow.holds Try.pinned (OpenSpec.ofChange fnExactMostBishopsWrong)

/-- 'laws.FnExactBishopNumbers': WHATEVER THE INPUT: true; the input reads as it did. -/
def fnExactBishopNumbersSpec : ChangeSpec := { name := "fnExactBishopNumbers", fn := fun _ => fun
  | [d] => { results := [.lit (.bool true)], args := [d] }
  | _ => none }
def fnExactBishopNumbersRow : OpenClaim := { program := "ythlcaikplebpmaa", sum := "e84b5f9ad24989b8f4af0cbc07aad4dd261af8a9f38d5f9a4943d560389e5236", func := "loop.example/g01125/laws.FnExactBishopNumbers", spec := "fnExactBishopNumbers", unfollowed := true, recurses := true, apart := false }
def FnExactBishopNumbersSaid : Prop := fnExactBishopNumbersRow.holds Try.pinned (OpenSpec.ofChange fnExactBishopNumbersSpec)

/-- ITS FALSE NEIGHBOUR: 'it returns false'. Refute it at one input. -/
def fnExactBishopNumbersWrong : ChangeSpec := { name := "fnExactBishopNumbers", fn := fun _ => fun
  | [d] => { results := [.lit (.bool false)], args := [d] }
  | _ => none }
def FnExactBishopNumbersWrongFalsely : Prop := fnExactBishopNumbersRow.holds Try.pinned (OpenSpec.ofChange fnExactBishopNumbersWrong)

/-- 'laws.FnExactCountBoth': WHATEVER THE INPUT: true; the input reads as it did. -/
def fnExactCountBothSpec : ChangeSpec := { name := "fnExactCountBoth", fn := fun _ => fun
  | [d1, d2] => { results := [.lit (.bool true)], args := [d1, d2] }
  | _ => none }
def fnExactCountBothRow : OpenClaim := { program := "ythlcaikplebpmaa", sum := "e84b5f9ad24989b8f4af0cbc07aad4dd261af8a9f38d5f9a4943d560389e5236", func := "loop.example/g01125/laws.FnExactCountBoth", spec := "fnExactCountBoth", unfollowed := true, recurses := true, apart := false }
def FnExactCountBothSaid : Prop := fnExactCountBothRow.holds Try.pinned (OpenSpec.ofChange fnExactCountBothSpec)

/-- ITS FALSE NEIGHBOUR: 'it returns false'. Refute it at one input. -/
def fnExactCountBothWrong : ChangeSpec := { name := "fnExactCountBoth", fn := fun _ => fun
  | [d1, d2] => { results := [.lit (.bool false)], args := [d1, d2] }
  | _ => none }
def FnExactCountBothWrongFalsely : Prop := fnExactCountBothRow.holds Try.pinned (OpenSpec.ofChange fnExactCountBothWrong)

/-- 'laws.FnExactFirstKings': WHATEVER THE INPUT: true; the input reads as it did. -/
def fnExactFirstKingsSpec : ChangeSpec := { name := "fnExactFirstKings", fn := fun _ => fun
  | [d1, d2] => { results := [.lit (.bool true)], args := [d1, d2] }
  | _ => none }
def fnExactFirstKingsRow : OpenClaim := { program := "ythlcaikplebpmaa", sum := "e84b5f9ad24989b8f4af0cbc07aad4dd261af8a9f38d5f9a4943d560389e5236", func := "loop.example/g01125/laws.FnExactFirstKings", spec := "fnExactFirstKings", unfollowed := true, recurses := true, apart := false }
def FnExactFirstKingsSaid : Prop := fnExactFirstKingsRow.holds Try.pinned (OpenSpec.ofChange fnExactFirstKingsSpec)

/-- ITS FALSE NEIGHBOUR: 'it returns false'. Refute it at one input. -/
def fnExactFirstKingsWrong : ChangeSpec := { name := "fnExactFirstKings", fn := fun _ => fun
  | [d1, d2] => { results := [.lit (.bool false)], args := [d1, d2] }
  | _ => none }
def FnExactFirstKingsWrongFalsely : Prop := fnExactFirstKingsRow.holds Try.pinned (OpenSpec.ofChange fnExactFirstKingsWrong)

/-- 'laws.FnExactFirstBishops': WHATEVER THE INPUT: true; the input reads as it did. -/
def fnExactFirstBishopsSpec : ChangeSpec := { name := "fnExactFirstBishops", fn := fun _ => fun
  | [d1, d2] => { results := [.lit (.bool true)], args := [d1, d2] }
  | _ => none }
def fnExactFirstBishopsRow : OpenClaim := { program := "ythlcaikplebpmaa", sum := "e84b5f9ad24989b8f4af0cbc07aad4dd261af8a9f38d5f9a4943d560389e5236", func := "loop.example/g01125/laws.FnExactFirstBishops", spec := "fnExactFirstBishops", unfollowed := true, recurses := true, apart := false }
def FnExactFirstBishopsSaid : Prop := fnExactFirstBishopsRow.holds Try.pinned (OpenSpec.ofChange fnExactFirstBishopsSpec)

/-- ITS FALSE NEIGHBOUR: 'it returns false'. Refute it at one input. -/
def fnExactFirstBishopsWrong : ChangeSpec := { name := "fnExactFirstBishops", fn := fun _ => fun
  | [d1, d2] => { results := [.lit (.bool false)], args := [d1, d2] }
  | _ => none }
def FnExactFirstBishopsWrongFalsely : Prop := fnExactFirstBishopsRow.holds Try.pinned (OpenSpec.ofChange fnExactFirstBishopsWrong)

/-- 'laws.FnExactLeastWatch': WHATEVER THE INPUT: true; the input reads as it did. -/
def fnExactLeastWatchSpec : ChangeSpec := { name := "fnExactLeastWatch", fn := fun _ => fun
  | [d] => { results := [.lit (.bool true)], args := [d] }
  | _ => none }
def fnExactLeastWatchRow : OpenClaim := { program := "ythlcaikplebpmaa", sum := "e84b5f9ad24989b8f4af0cbc07aad4dd261af8a9f38d5f9a4943d560389e5236", func := "loop.example/g01125/laws.FnExactLeastWatch", spec := "fnExactLeastWatch", unfollowed := true, recurses := true, apart := false }
def FnExactLeastWatchSaid : Prop := fnExactLeastWatchRow.holds Try.pinned (OpenSpec.ofChange fnExactLeastWatchSpec)

/-- ITS FALSE NEIGHBOUR: 'it returns false'. Refute it at one input. -/
def fnExactLeastWatchWrong : ChangeSpec := { name := "fnExactLeastWatch", fn := fun _ => fun
  | [d] => { results := [.lit (.bool false)], args := [d] }
  | _ => none }
def FnExactLeastWatchWrongFalsely : Prop := fnExactLeastWatchRow.holds Try.pinned (OpenSpec.ofChange fnExactLeastWatchWrong)

/-- 'laws.FnExactMostKings': WHATEVER THE INPUT: true; the input reads as it did. -/
def fnExactMostKingsSpec : ChangeSpec := { name := "fnExactMostKings", fn := fun _ => fun
  | [d] => { results := [.lit (.bool true)], args := [d] }
  | _ => none }
def fnExactMostKingsRow : OpenClaim := { program := "ythlcaikplebpmaa", sum := "e84b5f9ad24989b8f4af0cbc07aad4dd261af8a9f38d5f9a4943d560389e5236", func := "loop.example/g01125/laws.FnExactMostKings", spec := "fnExactMostKings", unfollowed := true, recurses := true, apart := false }
def FnExactMostKingsSaid : Prop := fnExactMostKingsRow.holds Try.pinned (OpenSpec.ofChange fnExactMostKingsSpec)

/-- ITS FALSE NEIGHBOUR: 'it returns false'. Refute it at one input. -/
def fnExactMostKingsWrong : ChangeSpec := { name := "fnExactMostKings", fn := fun _ => fun
  | [d] => { results := [.lit (.bool false)], args := [d] }
  | _ => none }
def FnExactMostKingsWrongFalsely : Prop := fnExactMostKingsRow.holds Try.pinned (OpenSpec.ofChange fnExactMostKingsWrong)

/-- 'laws.FnExactKingNumbers': WHATEVER THE INPUT: true; the input reads as it did. -/
def fnExactKingNumbersSpec : ChangeSpec := { name := "fnExactKingNumbers", fn := fun _ => fun
  | [d] => { results := [.lit (.bool true)], args := [d] }
  | _ => none }
def fnExactKingNumbersRow : OpenClaim := { program := "ythlcaikplebpmaa", sum := "e84b5f9ad24989b8f4af0cbc07aad4dd261af8a9f38d5f9a4943d560389e5236", func := "loop.example/g01125/laws.FnExactKingNumbers", spec := "fnExactKingNumbers", unfollowed := true, recurses := true, apart := false }
def FnExactKingNumbersSaid : Prop := fnExactKingNumbersRow.holds Try.pinned (OpenSpec.ofChange fnExactKingNumbersSpec)

/-- ITS FALSE NEIGHBOUR: 'it returns false'. Refute it at one input. -/
def fnExactKingNumbersWrong : ChangeSpec := { name := "fnExactKingNumbers", fn := fun _ => fun
  | [d] => { results := [.lit (.bool false)], args := [d] }
  | _ => none }
def FnExactKingNumbersWrongFalsely : Prop := fnExactKingNumbersRow.holds Try.pinned (OpenSpec.ofChange fnExactKingNumbersWrong)

/-- 'laws.FnQueensWatch': WHATEVER THE INPUT: true; the input reads as it did. -/
def fnQueensWatchSpec : ChangeSpec := { name := "fnQueensWatch", fn := fun _ => fun
  | [d1, d2] => { results := [.lit (.bool true)], args := [d1, d2] }
  | _ => none }
def fnQueensWatchRow : OpenClaim := { program := "ythlcaikplebpmaa", sum := "e84b5f9ad24989b8f4af0cbc07aad4dd261af8a9f38d5f9a4943d560389e5236", func := "loop.example/g01125/laws.FnQueensWatch", spec := "fnQueensWatch", unfollowed := true, recurses := true, apart := false }
def FnQueensWatchSaid : Prop := fnQueensWatchRow.holds Try.pinned (OpenSpec.ofChange fnQueensWatchSpec)

/-- ITS FALSE NEIGHBOUR: 'it returns false'. Refute it at one input. -/
def fnQueensWatchWrong : ChangeSpec := { name := "fnQueensWatch", fn := fun _ => fun
  | [d1, d2] => { results := [.lit (.bool false)], args := [d1, d2] }
  | _ => none }
def FnQueensWatchWrongFalsely : Prop := fnQueensWatchRow.holds Try.pinned (OpenSpec.ofChange fnQueensWatchWrong)

/-- 'laws.FnExactCyclesOfFiles': WHATEVER THE INPUT: true; the input reads as it did. -/
def fnExactCyclesOfFilesSpec : ChangeSpec := { name := "fnExactCyclesOfFiles", fn := fun _ => fun
  | [d] => { results := [.lit (.bool true)], args := [d] }
  | _ => none }
def fnExactCyclesOfFilesRow : OpenClaim := { program := "ythlcaikplebpmaa", sum := "e84b5f9ad24989b8f4af0cbc07aad4dd261af8a9f38d5f9a4943d560389e5236", func := "loop.example/g01125/laws.FnExactCyclesOfFiles", spec := "fnExactCyclesOfFiles", inPlace := ["slices.overlaps[int]"], unfollowed := true, recurses := true, apart := false }
def FnExactCyclesOfFilesSaid : Prop := fnExactCyclesOfFilesRow.holds Try.pinned (OpenSpec.ofChange fnExactCyclesOfFilesSpec)

/-- ITS FALSE NEIGHBOUR: 'it returns false'. Refute it at one input. -/
def fnExactCyclesOfFilesWrong : ChangeSpec := { name := "fnExactCyclesOfFiles", fn := fun _ => fun
  | [d] => { results := [.lit (.bool false)], args := [d] }
  | _ => none }
def FnExactCyclesOfFilesWrongFalsely : Prop := fnExactCyclesOfFilesRow.holds Try.pinned (OpenSpec.ofChange fnExactCyclesOfFilesWrong)

/-- 'laws.FnKindsOfNumbers': WHATEVER THE INPUT: true; the input reads as it did. -/
def fnKindsOfNumbersSpec : ChangeSpec := { name := "fnKindsOfNumbers", fn := fun _ => fun
  | [d1, d2] => { results := [.lit (.bool true)], args := [d1, d2] }
  | _ => none }
def fnKindsOfNumbersRow : OpenClaim := { program := "ythlcaikplebpmaa", sum := "e84b5f9ad24989b8f4af0cbc07aad4dd261af8a9f38d5f9a4943d560389e5236", func := "loop.example/g01125/laws.FnKindsOfNumbers", spec := "fnKindsOfNumbers", unfollowed := true, recurses := true, apart := false }
def FnKindsOfNumbersSaid : Prop := fnKindsOfNumbersRow.holds Try.pinned (OpenSpec.ofChange fnKindsOfNumbersSpec)

/-- ITS FALSE NEIGHBOUR: 'it returns false'. Refute it at one input. -/
def fnKindsOfNumbersWrong : ChangeSpec := { name := "fnKindsOfNumbers", fn := fun _ => fun
  | [d1, d2] => { results := [.lit (.bool false)], args := [d1, d2] }
  | _ => none }
def FnKindsOfNumbersWrongFalsely : Prop := fnKindsOfNumbersRow.holds Try.pinned (OpenSpec.ofChange fnKindsOfNumbersWrong)

/-- 'laws.FnFilesAreCycles': WHATEVER THE INPUT: true; the input reads as it did. -/
def fnFilesAreCyclesSpec : ChangeSpec := { name := "fnFilesAreCycles", fn := fun _ => fun
  | [d1, d2] => { results := [.lit (.bool true)], args := [d1, d2] }
  | _ => none }
def fnFilesAreCyclesRow : OpenClaim := { program := "ythlcaikplebpmaa", sum := "e84b5f9ad24989b8f4af0cbc07aad4dd261af8a9f38d5f9a4943d560389e5236", func := "loop.example/g01125/laws.FnFilesAreCycles", spec := "fnFilesAreCycles", inPlace := ["slices.overlaps[int]"], unfollowed := true, recurses := true, apart := false }
def FnFilesAreCyclesSaid : Prop := fnFilesAreCyclesRow.holds Try.pinned (OpenSpec.ofChange fnFilesAreCyclesSpec)

/-- ITS FALSE NEIGHBOUR: 'it returns false'. Refute it at one input. -/
def fnFilesAreCyclesWrong : ChangeSpec := { name := "fnFilesAreCycles", fn := fun _ => fun
  | [d1, d2] => { results := [.lit (.bool false)], args := [d1, d2] }
  | _ => none }
def FnFilesAreCyclesWrongFalsely : Prop := fnFilesAreCyclesRow.holds Try.pinned (OpenSpec.ofChange fnFilesAreCyclesWrong)

/-- 'laws.FnPiecesQuiet': WHATEVER THE INPUT: true; the input reads as it did. -/
def fnPiecesQuietSpec : ChangeSpec := { name := "fnPiecesQuiet", fn := fun _ => fun
  | [d1, d2] => { results := [.lit (.bool true)], args := [d1, d2] }
  | _ => none }
def fnPiecesQuietRow : OpenClaim := { program := "ythlcaikplebpmaa", sum := "e84b5f9ad24989b8f4af0cbc07aad4dd261af8a9f38d5f9a4943d560389e5236", func := "loop.example/g01125/laws.FnPiecesQuiet", spec := "fnPiecesQuiet", unfollowed := true, recurses := true, apart := false }
def FnPiecesQuietSaid : Prop := fnPiecesQuietRow.holds Try.pinned (OpenSpec.ofChange fnPiecesQuietSpec)

/-- ITS FALSE NEIGHBOUR: 'it returns false'. Refute it at one input. -/
def fnPiecesQuietWrong : ChangeSpec := { name := "fnPiecesQuiet", fn := fun _ => fun
  | [d1, d2] => { results := [.lit (.bool false)], args := [d1, d2] }
  | _ => none }
def FnPiecesQuietWrongFalsely : Prop := fnPiecesQuietRow.holds Try.pinned (OpenSpec.ofChange fnPiecesQuietWrong)

/- THE SECOND FORM. 'bulk': how many values and letters a reading holds, each counted each time it is reached (what is shared counts as often as it is met; a slice's spare places count too). A statement '..UptoSaid' is the law's where the arguments, and the package variables that the reading takes, are together of bulk at most 1048576: NARROWER than '..Said'. Prove '..Said' where nothing that the law and all that it calls make is longer than what came in: it says more and counts as full. Else prove '..UptoSaid'. A law counts once. -/
mutual
def uptoBulk {H : Type} : DataW H → Nat
  | .lit (.string bytes) => bytes.length + 1
  | .lit _ => 1
  | .nil => 1
  | .ptr d => uptoBulk d + 1
  | .slice elems spare => uptoBulkAll elems + uptoBulkAll spare + 1
  | .agg parts => uptoBulkAll parts + 1
  | .iface _ d => uptoBulk d + 1
  | .map entries => uptoBulkEntries entries + 1
  | .held _ => 1
def uptoBulkAll {H : Type} : List (DataW H) → Nat
  | [] => 0
  | d :: r => uptoBulk d + uptoBulkAll r
def uptoBulkEntries {H : Type} : List (Lit × DataW H) → Nat
  | [] => 0
  | x :: r => uptoBulkEntry x + uptoBulkEntries r
def uptoBulkEntry {H : Type} : Lit × DataW H → Nat
  | (.string bytes, d) => bytes.length + uptoBulk d + 1
  | (_, d) => uptoBulk d + 1
 end
def uptoSmall : (H : Type) → List (DataW H) → Bool := fun _ ds => decide (uptoBulkAll ds ≤ 1048576)
def OpenSpec.upto (s : _root_.Go.ChangeSpec) : _root_.Go.OpenSpec := { _root_.Go.OpenSpec.ofChange s with cond := some uptoSmall }

/-- 'laws.FnExactColourBoard', WHERE WHAT IT READS IS OF BULK AT MOST 1048576: true; the input reads as it did. -/
def fnExactColourBoardUptoRow : OpenClaim := { program := "ythlcaikplebpmaa", sum := "e84b5f9ad24989b8f4af0cbc07aad4dd261af8a9f38d5f9a4943d560389e5236", func := "loop.example/g01125/laws.FnExactColourBoard", spec := "fnExactColourBoard", unfollowed := true, recurses := true, apart := false, narrowed := true }
def FnExactColourBoardUptoSaid : Prop := fnExactColourBoardUptoRow.holds Try.pinned (OpenSpec.upto fnExactColourBoardSpec)

/-- 'laws.FnExactMostBishops', WHERE WHAT IT READS IS OF BULK AT MOST 1048576: true; the input reads as it did. -/
def fnExactMostBishopsUptoRow : OpenClaim := { program := "ythlcaikplebpmaa", sum := "e84b5f9ad24989b8f4af0cbc07aad4dd261af8a9f38d5f9a4943d560389e5236", func := "loop.example/g01125/laws.FnExactMostBishops", spec := "fnExactMostBishops", unfollowed := true, recurses := true, apart := false, narrowed := true }
def FnExactMostBishopsUptoSaid : Prop := fnExactMostBishopsUptoRow.holds Try.pinned (OpenSpec.upto fnExactMostBishopsSpec)

/-- 'laws.FnExactBishopNumbers', WHERE WHAT IT READS IS OF BULK AT MOST 1048576: true; the input reads as it did. -/
def fnExactBishopNumbersUptoRow : OpenClaim := { program := "ythlcaikplebpmaa", sum := "e84b5f9ad24989b8f4af0cbc07aad4dd261af8a9f38d5f9a4943d560389e5236", func := "loop.example/g01125/laws.FnExactBishopNumbers", spec := "fnExactBishopNumbers", unfollowed := true, recurses := true, apart := false, narrowed := true }
def FnExactBishopNumbersUptoSaid : Prop := fnExactBishopNumbersUptoRow.holds Try.pinned (OpenSpec.upto fnExactBishopNumbersSpec)

/-- 'laws.FnExactCountBoth', WHERE WHAT IT READS IS OF BULK AT MOST 1048576: true; the input reads as it did. -/
def fnExactCountBothUptoRow : OpenClaim := { program := "ythlcaikplebpmaa", sum := "e84b5f9ad24989b8f4af0cbc07aad4dd261af8a9f38d5f9a4943d560389e5236", func := "loop.example/g01125/laws.FnExactCountBoth", spec := "fnExactCountBoth", unfollowed := true, recurses := true, apart := false, narrowed := true }
def FnExactCountBothUptoSaid : Prop := fnExactCountBothUptoRow.holds Try.pinned (OpenSpec.upto fnExactCountBothSpec)

/-- 'laws.FnExactFirstKings', WHERE WHAT IT READS IS OF BULK AT MOST 1048576: true; the input reads as it did. -/
def fnExactFirstKingsUptoRow : OpenClaim := { program := "ythlcaikplebpmaa", sum := "e84b5f9ad24989b8f4af0cbc07aad4dd261af8a9f38d5f9a4943d560389e5236", func := "loop.example/g01125/laws.FnExactFirstKings", spec := "fnExactFirstKings", unfollowed := true, recurses := true, apart := false, narrowed := true }
def FnExactFirstKingsUptoSaid : Prop := fnExactFirstKingsUptoRow.holds Try.pinned (OpenSpec.upto fnExactFirstKingsSpec)

/-- 'laws.FnExactFirstBishops', WHERE WHAT IT READS IS OF BULK AT MOST 1048576: true; the input reads as it did. -/
def fnExactFirstBishopsUptoRow : OpenClaim := { program := "ythlcaikplebpmaa", sum := "e84b5f9ad24989b8f4af0cbc07aad4dd261af8a9f38d5f9a4943d560389e5236", func := "loop.example/g01125/laws.FnExactFirstBishops", spec := "fnExactFirstBishops", unfollowed := true, recurses := true, apart := false, narrowed := true }
def FnExactFirstBishopsUptoSaid : Prop := fnExactFirstBishopsUptoRow.holds Try.pinned (OpenSpec.upto fnExactFirstBishopsSpec)

/-- 'laws.FnExactLeastWatch', WHERE WHAT IT READS IS OF BULK AT MOST 1048576: true; the input reads as it did. -/
def fnExactLeastWatchUptoRow : OpenClaim := { program := "ythlcaikplebpmaa", sum := "e84b5f9ad24989b8f4af0cbc07aad4dd261af8a9f38d5f9a4943d560389e5236", func := "loop.example/g01125/laws.FnExactLeastWatch", spec := "fnExactLeastWatch", unfollowed := true, recurses := true, apart := false, narrowed := true }
def FnExactLeastWatchUptoSaid : Prop := fnExactLeastWatchUptoRow.holds Try.pinned (OpenSpec.upto fnExactLeastWatchSpec)

/-- 'laws.FnExactMostKings', WHERE WHAT IT READS IS OF BULK AT MOST 1048576: true; the input reads as it did. -/
def fnExactMostKingsUptoRow : OpenClaim := { program := "ythlcaikplebpmaa", sum := "e84b5f9ad24989b8f4af0cbc07aad4dd261af8a9f38d5f9a4943d560389e5236", func := "loop.example/g01125/laws.FnExactMostKings", spec := "fnExactMostKings", unfollowed := true, recurses := true, apart := false, narrowed := true }
def FnExactMostKingsUptoSaid : Prop := fnExactMostKingsUptoRow.holds Try.pinned (OpenSpec.upto fnExactMostKingsSpec)

/-- 'laws.FnExactKingNumbers', WHERE WHAT IT READS IS OF BULK AT MOST 1048576: true; the input reads as it did. -/
def fnExactKingNumbersUptoRow : OpenClaim := { program := "ythlcaikplebpmaa", sum := "e84b5f9ad24989b8f4af0cbc07aad4dd261af8a9f38d5f9a4943d560389e5236", func := "loop.example/g01125/laws.FnExactKingNumbers", spec := "fnExactKingNumbers", unfollowed := true, recurses := true, apart := false, narrowed := true }
def FnExactKingNumbersUptoSaid : Prop := fnExactKingNumbersUptoRow.holds Try.pinned (OpenSpec.upto fnExactKingNumbersSpec)

/-- 'laws.FnQueensWatch', WHERE WHAT IT READS IS OF BULK AT MOST 1048576: true; the input reads as it did. -/
def fnQueensWatchUptoRow : OpenClaim := { program := "ythlcaikplebpmaa", sum := "e84b5f9ad24989b8f4af0cbc07aad4dd261af8a9f38d5f9a4943d560389e5236", func := "loop.example/g01125/laws.FnQueensWatch", spec := "fnQueensWatch", unfollowed := true, recurses := true, apart := false, narrowed := true }
def FnQueensWatchUptoSaid : Prop := fnQueensWatchUptoRow.holds Try.pinned (OpenSpec.upto fnQueensWatchSpec)

/-- 'laws.FnExactCyclesOfFiles', WHERE WHAT IT READS IS OF BULK AT MOST 1048576: true; the input reads as it did. -/
def fnExactCyclesOfFilesUptoRow : OpenClaim := { program := "ythlcaikplebpmaa", sum := "e84b5f9ad24989b8f4af0cbc07aad4dd261af8a9f38d5f9a4943d560389e5236", func := "loop.example/g01125/laws.FnExactCyclesOfFiles", spec := "fnExactCyclesOfFiles", inPlace := ["slices.overlaps[int]"], unfollowed := true, recurses := true, apart := false, narrowed := true }
def FnExactCyclesOfFilesUptoSaid : Prop := fnExactCyclesOfFilesUptoRow.holds Try.pinned (OpenSpec.upto fnExactCyclesOfFilesSpec)

/-- 'laws.FnKindsOfNumbers', WHERE WHAT IT READS IS OF BULK AT MOST 1048576: true; the input reads as it did. -/
def fnKindsOfNumbersUptoRow : OpenClaim := { program := "ythlcaikplebpmaa", sum := "e84b5f9ad24989b8f4af0cbc07aad4dd261af8a9f38d5f9a4943d560389e5236", func := "loop.example/g01125/laws.FnKindsOfNumbers", spec := "fnKindsOfNumbers", unfollowed := true, recurses := true, apart := false, narrowed := true }
def FnKindsOfNumbersUptoSaid : Prop := fnKindsOfNumbersUptoRow.holds Try.pinned (OpenSpec.upto fnKindsOfNumbersSpec)

/-- 'laws.FnFilesAreCycles', WHERE WHAT IT READS IS OF BULK AT MOST 1048576: true; the input reads as it did. -/
def fnFilesAreCyclesUptoRow : OpenClaim := { program := "ythlcaikplebpmaa", sum := "e84b5f9ad24989b8f4af0cbc07aad4dd261af8a9f38d5f9a4943d560389e5236", func := "loop.example/g01125/laws.FnFilesAreCycles", spec := "fnFilesAreCycles", inPlace := ["slices.overlaps[int]"], unfollowed := true, recurses := true, apart := false, narrowed := true }
def FnFilesAreCyclesUptoSaid : Prop := fnFilesAreCyclesUptoRow.holds Try.pinned (OpenSpec.upto fnFilesAreCyclesSpec)

/-- 'laws.FnPiecesQuiet', WHERE WHAT IT READS IS OF BULK AT MOST 1048576: true; the input reads as it did. -/
def fnPiecesQuietUptoRow : OpenClaim := { program := "ythlcaikplebpmaa", sum := "e84b5f9ad24989b8f4af0cbc07aad4dd261af8a9f38d5f9a4943d560389e5236", func := "loop.example/g01125/laws.FnPiecesQuiet", spec := "fnPiecesQuiet", unfollowed := true, recurses := true, apart := false, narrowed := true }
def FnPiecesQuietUptoSaid : Prop := fnPiecesQuietUptoRow.holds Try.pinned (OpenSpec.upto fnPiecesQuietSpec)

end Rows
end Go.Proofs.Ythlcaikplebpmaa
