/-
  No cell of these rows narrows 'for every input' (looked for: loops, veiled, ifaces, maps, wideKeys, modest, calm, conditions, laid).
  DERIVED. THE GIVEN ROWS OF THIS SEAT. 10 by the template 'for every input the law returns true; each argument reads behind the call as it read before'; 0 by the template 'total and deterministic' (their statements: YtnhamhpalbeflaaTotals.lean).
  GIVEN WITH THE SEED: the statements are not yours to turn. If you find one false, say at which input.
  Laid BY PROGRAM, IN A SANDBOX (cutbox-rows.mjs): the forced cells as the released guide's own fill.sh prints them over the translation 187eaefb143ef3ef… (all of the seat's roots in one cut). By AI agents, Wed Nov 11 2026. No macro, syntax, notation, axiom, sorry.
-/
import Derived.Test.YtnhamhpalbeflaaChecked
import GoSem.Claim
import GoSem.ClaimJoined
import GoSem.ClaimMapViews
import Derived.JoinedTies
import Derived.KernelRfl
namespace Go.Proofs.Ytnhamhpalbeflaa
/- THE CELL 'sum', in the pinned program and in every row, IS THE sha256 OF THE DUMP (.gsa) THAT YtnhamhpalbeflaaProg.lean LOADS. Nothing in Lean hashes anything: it is a label: what it is worth is what the hold of that sum in a sandbox is worth. -/
noncomputable def Try.pinned : Pinned := { name := "ytnhamhpalbeflaa", sum := "187eaefb143ef3efe969bff74e7de9043044bc77bc215615ed520a0e56f8c42a", checked := Try.checked }
namespace Rows
def none {H : Type} : Left H := { results := [], args := [] }

/-- 'laws.FnRookNumbersAddUp': WHATEVER THE INPUT: true; the input reads as it did. -/
def fnRookNumbersAddUpSpec : ChangeSpec := { name := "fnRookNumbersAddUp", fn := fun _ => fun
  | [d1, d2] => { results := [.lit (.bool true)], args := [d1, d2] }
  | _ => none }
def fnRookNumbersAddUpRow : OpenClaim := { program := "ytnhamhpalbeflaa", sum := "187eaefb143ef3efe969bff74e7de9043044bc77bc215615ed520a0e56f8c42a", func := "loop.example/g01125/laws.FnRookNumbersAddUp", spec := "fnRookNumbersAddUp", unfollowed := true, recurses := true, apart := false }
def FnRookNumbersAddUpSaid : Prop := fnRookNumbersAddUpRow.holds Try.pinned (OpenSpec.ofChange fnRookNumbersAddUpSpec)

/-- ITS FALSE NEIGHBOUR: 'it returns false'. Refute it at one input. -/
def fnRookNumbersAddUpWrong : ChangeSpec := { name := "fnRookNumbersAddUp", fn := fun _ => fun
  | [d1, d2] => { results := [.lit (.bool false)], args := [d1, d2] }
  | _ => none }
def FnRookNumbersAddUpWrongFalsely : Prop := fnRookNumbersAddUpRow.holds Try.pinned (OpenSpec.ofChange fnRookNumbersAddUpWrong)

/-- 'laws.FnExactCellOfColour': WHATEVER THE INPUT: true; the input reads as it did. -/
def fnExactCellOfColourSpec : ChangeSpec := { name := "fnExactCellOfColour", fn := fun _ => fun
  | [d1, d2, d3, d4] => { results := [.lit (.bool true)], args := [d1, d2, d3, d4] }
  | _ => none }
def fnExactCellOfColourRow : OpenClaim := { program := "ytnhamhpalbeflaa", sum := "187eaefb143ef3efe969bff74e7de9043044bc77bc215615ed520a0e56f8c42a", func := "loop.example/g01125/laws.FnExactCellOfColour", spec := "fnExactCellOfColour", unfollowed := true, recurses := true, apart := false }
def FnExactCellOfColourSaid : Prop := fnExactCellOfColourRow.holds Try.pinned (OpenSpec.ofChange fnExactCellOfColourSpec)

/-- ITS FALSE NEIGHBOUR: 'it returns false'. Refute it at one input. -/
def fnExactCellOfColourWrong : ChangeSpec := { name := "fnExactCellOfColour", fn := fun _ => fun
  | [d1, d2, d3, d4] => { results := [.lit (.bool false)], args := [d1, d2, d3, d4] }
  | _ => none }
def FnExactCellOfColourWrongFalsely : Prop := fnExactCellOfColourRow.holds Try.pinned (OpenSpec.ofChange fnExactCellOfColourWrong)

/-- 'laws.FnExactColourBoard': WHATEVER THE INPUT: true; the input reads as it did. -/
def fnExactColourBoardSpec : ChangeSpec := { name := "fnExactColourBoard", fn := fun _ => fun
  | [d1, d2] => { results := [.lit (.bool true)], args := [d1, d2] }
  | _ => none }
def fnExactColourBoardRow : OpenClaim := { program := "ytnhamhpalbeflaa", sum := "187eaefb143ef3efe969bff74e7de9043044bc77bc215615ed520a0e56f8c42a", func := "loop.example/g01125/laws.FnExactColourBoard", spec := "fnExactColourBoard", unfollowed := true, recurses := true, apart := false }
def FnExactColourBoardSaid : Prop := fnExactColourBoardRow.holds Try.pinned (OpenSpec.ofChange fnExactColourBoardSpec)

/-- ITS FALSE NEIGHBOUR: 'it returns false'. Refute it at one input. -/
def fnExactColourBoardWrong : ChangeSpec := { name := "fnExactColourBoard", fn := fun _ => fun
  | [d1, d2] => { results := [.lit (.bool false)], args := [d1, d2] }
  | _ => none }
def FnExactColourBoardWrongFalsely : Prop := fnExactColourBoardRow.holds Try.pinned (OpenSpec.ofChange fnExactColourBoardWrong)

/-- 'laws.FnNeededAndUseless': WHATEVER THE INPUT: true; the input reads as it did. -/
def fnNeededAndUselessSpec : ChangeSpec := { name := "fnNeededAndUseless", fn := fun _ => fun
  | [d1, d2] => { results := [.lit (.bool true)], args := [d1, d2] }
  | _ => none }
def fnNeededAndUselessRow : OpenClaim := { program := "ytnhamhpalbeflaa", sum := "187eaefb143ef3efe969bff74e7de9043044bc77bc215615ed520a0e56f8c42a", func := "loop.example/g01125/laws.FnNeededAndUseless", spec := "fnNeededAndUseless", unfollowed := true, recurses := true, apart := false }
def FnNeededAndUselessSaid : Prop := fnNeededAndUselessRow.holds Try.pinned (OpenSpec.ofChange fnNeededAndUselessSpec)

/-- ITS FALSE NEIGHBOUR: 'it returns false'. Refute it at one input. -/
def fnNeededAndUselessWrong : ChangeSpec := { name := "fnNeededAndUseless", fn := fun _ => fun
  | [d1, d2] => { results := [.lit (.bool false)], args := [d1, d2] }
  | _ => none }
def FnNeededAndUselessWrongFalsely : Prop := fnNeededAndUselessRow.holds Try.pinned (OpenSpec.ofChange fnNeededAndUselessWrong)

/-- 'laws.FnPiecesQuiet': WHATEVER THE INPUT: true; the input reads as it did. -/
def fnPiecesQuietSpec : ChangeSpec := { name := "fnPiecesQuiet", fn := fun _ => fun
  | [d1, d2] => { results := [.lit (.bool true)], args := [d1, d2] }
  | _ => none }
def fnPiecesQuietRow : OpenClaim := { program := "ytnhamhpalbeflaa", sum := "187eaefb143ef3efe969bff74e7de9043044bc77bc215615ed520a0e56f8c42a", func := "loop.example/g01125/laws.FnPiecesQuiet", spec := "fnPiecesQuiet", unfollowed := true, recurses := true, apart := false }
def FnPiecesQuietSaid : Prop := fnPiecesQuietRow.holds Try.pinned (OpenSpec.ofChange fnPiecesQuietSpec)

/-- ITS FALSE NEIGHBOUR: 'it returns false'. Refute it at one input. -/
def fnPiecesQuietWrong : ChangeSpec := { name := "fnPiecesQuiet", fn := fun _ => fun
  | [d1, d2] => { results := [.lit (.bool false)], args := [d1, d2] }
  | _ => none }
def FnPiecesQuietWrongFalsely : Prop := fnPiecesQuietRow.holds Try.pinned (OpenSpec.ofChange fnPiecesQuietWrong)

/-- 'laws.FnExactMostBishops': WHATEVER THE INPUT: true; the input reads as it did. -/
def fnExactMostBishopsSpec : ChangeSpec := { name := "fnExactMostBishops", fn := fun _ => fun
  | [d] => { results := [.lit (.bool true)], args := [d] }
  | _ => none }
def fnExactMostBishopsRow : OpenClaim := { program := "ytnhamhpalbeflaa", sum := "187eaefb143ef3efe969bff74e7de9043044bc77bc215615ed520a0e56f8c42a", func := "loop.example/g01125/laws.FnExactMostBishops", spec := "fnExactMostBishops", unfollowed := true, recurses := true, apart := false }
def FnExactMostBishopsSaid : Prop := fnExactMostBishopsRow.holds Try.pinned (OpenSpec.ofChange fnExactMostBishopsSpec)

/-- ITS FALSE NEIGHBOUR: 'it returns false'. Refute it at one input. -/
def fnExactMostBishopsWrong : ChangeSpec := { name := "fnExactMostBishops", fn := fun _ => fun
  | [d] => { results := [.lit (.bool false)], args := [d] }
  | _ => none }
def FnExactMostBishopsWrongFalsely : Prop := fnExactMostBishopsRow.holds Try.pinned (OpenSpec.ofChange fnExactMostBishopsWrong)

/-- 'laws.FnExactBishopNumbers': WHATEVER THE INPUT: true; the input reads as it did. -/
def fnExactBishopNumbersSpec : ChangeSpec := { name := "fnExactBishopNumbers", fn := fun _ => fun
  | [d] => { results := [.lit (.bool true)], args := [d] }
  | _ => none }
def fnExactBishopNumbersRow : OpenClaim := { program := "ytnhamhpalbeflaa", sum := "187eaefb143ef3efe969bff74e7de9043044bc77bc215615ed520a0e56f8c42a", func := "loop.example/g01125/laws.FnExactBishopNumbers", spec := "fnExactBishopNumbers", unfollowed := true, recurses := true, apart := false }
def FnExactBishopNumbersSaid : Prop := fnExactBishopNumbersRow.holds Try.pinned (OpenSpec.ofChange fnExactBishopNumbersSpec)

/-- ITS FALSE NEIGHBOUR: 'it returns false'. Refute it at one input. -/
def fnExactBishopNumbersWrong : ChangeSpec := { name := "fnExactBishopNumbers", fn := fun _ => fun
  | [d] => { results := [.lit (.bool false)], args := [d] }
  | _ => none }
def FnExactBishopNumbersWrongFalsely : Prop := fnExactBishopNumbersRow.holds Try.pinned (OpenSpec.ofChange fnExactBishopNumbersWrong)

/-- 'laws.FnExactBishopsOf': WHATEVER THE INPUT: true; the input reads as it did. -/
def fnExactBishopsOfSpec : ChangeSpec := { name := "fnExactBishopsOf", fn := fun _ => fun
  | [d1, d2, d3] => { results := [.lit (.bool true)], args := [d1, d2, d3] }
  | _ => none }
def fnExactBishopsOfRow : OpenClaim := { program := "ytnhamhpalbeflaa", sum := "187eaefb143ef3efe969bff74e7de9043044bc77bc215615ed520a0e56f8c42a", func := "loop.example/g01125/laws.FnExactBishopsOf", spec := "fnExactBishopsOf", unfollowed := true, recurses := true, apart := false }
def FnExactBishopsOfSaid : Prop := fnExactBishopsOfRow.holds Try.pinned (OpenSpec.ofChange fnExactBishopsOfSpec)

/-- ITS FALSE NEIGHBOUR: 'it returns false'. Refute it at one input. -/
def fnExactBishopsOfWrong : ChangeSpec := { name := "fnExactBishopsOf", fn := fun _ => fun
  | [d1, d2, d3] => { results := [.lit (.bool false)], args := [d1, d2, d3] }
  | _ => none }
def FnExactBishopsOfWrongFalsely : Prop := fnExactBishopsOfRow.holds Try.pinned (OpenSpec.ofChange fnExactBishopsOfWrong)

/-- 'laws.FnExactFirstBishops': WHATEVER THE INPUT: true; the input reads as it did. -/
def fnExactFirstBishopsSpec : ChangeSpec := { name := "fnExactFirstBishops", fn := fun _ => fun
  | [d1, d2] => { results := [.lit (.bool true)], args := [d1, d2] }
  | _ => none }
def fnExactFirstBishopsRow : OpenClaim := { program := "ytnhamhpalbeflaa", sum := "187eaefb143ef3efe969bff74e7de9043044bc77bc215615ed520a0e56f8c42a", func := "loop.example/g01125/laws.FnExactFirstBishops", spec := "fnExactFirstBishops", unfollowed := true, recurses := true, apart := false }
def FnExactFirstBishopsSaid : Prop := fnExactFirstBishopsRow.holds Try.pinned (OpenSpec.ofChange fnExactFirstBishopsSpec)

/-- ITS FALSE NEIGHBOUR: 'it returns false'. Refute it at one input. -/
def fnExactFirstBishopsWrong : ChangeSpec := { name := "fnExactFirstBishops", fn := fun _ => fun
  | [d1, d2] => { results := [.lit (.bool false)], args := [d1, d2] }
  | _ => none }
def FnExactFirstBishopsWrongFalsely : Prop := fnExactFirstBishopsRow.holds Try.pinned (OpenSpec.ofChange fnExactFirstBishopsWrong)

/-- 'laws.FnFilesAreCycles': WHATEVER THE INPUT: true; the input reads as it did. -/
def fnFilesAreCyclesSpec : ChangeSpec := { name := "fnFilesAreCycles", fn := fun _ => fun
  | [d1, d2] => { results := [.lit (.bool true)], args := [d1, d2] }
  | _ => none }
def fnFilesAreCyclesRow : OpenClaim := { program := "ytnhamhpalbeflaa", sum := "187eaefb143ef3efe969bff74e7de9043044bc77bc215615ed520a0e56f8c42a", func := "loop.example/g01125/laws.FnFilesAreCycles", spec := "fnFilesAreCycles", inPlace := ["slices.overlaps[int]"], unfollowed := true, recurses := true, apart := false }
def FnFilesAreCyclesSaid : Prop := fnFilesAreCyclesRow.holds Try.pinned (OpenSpec.ofChange fnFilesAreCyclesSpec)

/-- ITS FALSE NEIGHBOUR: 'it returns false'. Refute it at one input. -/
def fnFilesAreCyclesWrong : ChangeSpec := { name := "fnFilesAreCycles", fn := fun _ => fun
  | [d1, d2] => { results := [.lit (.bool false)], args := [d1, d2] }
  | _ => none }
def FnFilesAreCyclesWrongFalsely : Prop := fnFilesAreCyclesRow.holds Try.pinned (OpenSpec.ofChange fnFilesAreCyclesWrong)

/- THE SECOND FORM. 'bulk': how many values and letters a reading holds, each counted each time it is reached (what is shared counts as often as it is met; a slice's spare places count too). A statement '..UptoSaid' is the law's where the arguments, and the package variables that the reading takes, are together of bulk at most 1048576: NARROWER than '..Said'. Prove '..Said' where nothing that the law and all that it calls make is longer than what came in: it says more and counts as full. Else prove '..UptoSaid'. A law counts once. -/
mutual
def uptoBulk {H : Type} : DataW H → Nat
  | .lit (.string bytes) => bytes.length + 1
  | .lit _ => 1
  | .nil => 1
  | .ptr d => uptoBulk d + 1
  | .slice elems spare => uptoBulkAll elems + uptoBulkAll spare + 1
  | .agg parts => uptoBulkAll parts + 1
  | .iface _ d => uptoBulk d + 1
  | .map entries => uptoBulkEntries entries + 1
  | .held _ => 1
def uptoBulkAll {H : Type} : List (DataW H) → Nat
  | [] => 0
  | d :: r => uptoBulk d + uptoBulkAll r
def uptoBulkEntries {H : Type} : List (Lit × DataW H) → Nat
  | [] => 0
  | x :: r => uptoBulkEntry x + uptoBulkEntries r
def uptoBulkEntry {H : Type} : Lit × DataW H → Nat
  | (.string bytes, d) => bytes.length + uptoBulk d + 1
  | (_, d) => uptoBulk d + 1
 end
def uptoSmall : (H : Type) → List (DataW H) → Bool := fun _ ds => decide (uptoBulkAll ds ≤ 1048576)
def OpenSpec.upto (s : _root_.Go.ChangeSpec) : _root_.Go.OpenSpec := { _root_.Go.OpenSpec.ofChange s with cond := some uptoSmall }

/-- 'laws.FnRookNumbersAddUp', WHERE WHAT IT READS IS OF BULK AT MOST 1048576: true; the input reads as it did. -/
def fnRookNumbersAddUpUptoRow : OpenClaim := { program := "ytnhamhpalbeflaa", sum := "187eaefb143ef3efe969bff74e7de9043044bc77bc215615ed520a0e56f8c42a", func := "loop.example/g01125/laws.FnRookNumbersAddUp", spec := "fnRookNumbersAddUp", unfollowed := true, recurses := true, apart := false, narrowed := true }
def FnRookNumbersAddUpUptoSaid : Prop := fnRookNumbersAddUpUptoRow.holds Try.pinned (OpenSpec.upto fnRookNumbersAddUpSpec)

/-- 'laws.FnExactCellOfColour', WHERE WHAT IT READS IS OF BULK AT MOST 1048576: true; the input reads as it did. -/
def fnExactCellOfColourUptoRow : OpenClaim := { program := "ytnhamhpalbeflaa", sum := "187eaefb143ef3efe969bff74e7de9043044bc77bc215615ed520a0e56f8c42a", func := "loop.example/g01125/laws.FnExactCellOfColour", spec := "fnExactCellOfColour", unfollowed := true, recurses := true, apart := false, narrowed := true }
def FnExactCellOfColourUptoSaid : Prop := fnExactCellOfColourUptoRow.holds Try.pinned (OpenSpec.upto fnExactCellOfColourSpec)

/-- 'laws.FnExactColourBoard', WHERE WHAT IT READS IS OF BULK AT MOST 1048576: true; the input reads as it did. -/
def fnExactColourBoardUptoRow : OpenClaim := { program := "ytnhamhpalbeflaa", sum := "187eaefb143ef3efe969bff74e7de9043044bc77bc215615ed520a0e56f8c42a", func := "loop.example/g01125/laws.FnExactColourBoard", spec := "fnExactColourBoard", unfollowed := true, recurses := true, apart := false, narrowed := true }
def FnExactColourBoardUptoSaid : Prop := fnExactColourBoardUptoRow.holds Try.pinned (OpenSpec.upto fnExactColourBoardSpec)

/-- 'laws.FnNeededAndUseless', WHERE WHAT IT READS IS OF BULK AT MOST 1048576: true; the input reads as it did. -/
def fnNeededAndUselessUptoRow : OpenClaim := { program := "ytnhamhpalbeflaa", sum := "187eaefb143ef3efe969bff74e7de9043044bc77bc215615ed520a0e56f8c42a", func := "loop.example/g01125/laws.FnNeededAndUseless", spec := "fnNeededAndUseless", unfollowed := true, recurses := true, apart := false, narrowed := true }
def FnNeededAndUselessUptoSaid : Prop := fnNeededAndUselessUptoRow.holds Try.pinned (OpenSpec.upto fnNeededAndUselessSpec)

/-- 'laws.FnPiecesQuiet', WHERE WHAT IT READS IS OF BULK AT MOST 1048576: true; the input reads as it did. -/
def fnPiecesQuietUptoRow : OpenClaim := { program := "ytnhamhpalbeflaa", sum := "187eaefb143ef3efe969bff74e7de9043044bc77bc215615ed520a0e56f8c42a", func := "loop.example/g01125/laws.FnPiecesQuiet", spec := "fnPiecesQuiet", unfollowed := true, recurses := true, apart := false, narrowed := true }
def FnPiecesQuietUptoSaid : Prop := fnPiecesQuietUptoRow.holds Try.pinned (OpenSpec.upto fnPiecesQuietSpec)

/-- 'laws.FnExactMostBishops', WHERE WHAT IT READS IS OF BULK AT MOST 1048576: true; the input reads as it did. -/
def fnExactMostBishopsUptoRow : OpenClaim := { program := "ytnhamhpalbeflaa", sum := "187eaefb143ef3efe969bff74e7de9043044bc77bc215615ed520a0e56f8c42a", func := "loop.example/g01125/laws.FnExactMostBishops", spec := "fnExactMostBishops", unfollowed := true, recurses := true, apart := false, narrowed := true }
def FnExactMostBishopsUptoSaid : Prop := fnExactMostBishopsUptoRow.holds Try.pinned (OpenSpec.upto fnExactMostBishopsSpec)

/-- 'laws.FnExactBishopNumbers', WHERE WHAT IT READS IS OF BULK AT MOST 1048576: true; the input reads as it did. -/
def fnExactBishopNumbersUptoRow : OpenClaim := { program := "ytnhamhpalbeflaa", sum := "187eaefb143ef3efe969bff74e7de9043044bc77bc215615ed520a0e56f8c42a", func := "loop.example/g01125/laws.FnExactBishopNumbers", spec := "fnExactBishopNumbers", unfollowed := true, recurses := true, apart := false, narrowed := true }
def FnExactBishopNumbersUptoSaid : Prop := fnExactBishopNumbersUptoRow.holds Try.pinned (OpenSpec.upto fnExactBishopNumbersSpec)

/-- 'laws.FnExactBishopsOf', WHERE WHAT IT READS IS OF BULK AT MOST 1048576: true; the input reads as it did. -/
def fnExactBishopsOfUptoRow : OpenClaim := { program := "ytnhamhpalbeflaa", sum := "187eaefb143ef3efe969bff74e7de9043044bc77bc215615ed520a0e56f8c42a", func := "loop.example/g01125/laws.FnExactBishopsOf", spec := "fnExactBishopsOf", unfollowed := true, recurses := true, apart := false, narrowed := true }
def FnExactBishopsOfUptoSaid : Prop := fnExactBishopsOfUptoRow.holds Try.pinned (OpenSpec.upto fnExactBishopsOfSpec)

/-- 'laws.FnExactFirstBishops', WHERE WHAT IT READS IS OF BULK AT MOST 1048576: true; the input reads as it did. -/
def fnExactFirstBishopsUptoRow : OpenClaim := { program := "ytnhamhpalbeflaa", sum := "187eaefb143ef3efe969bff74e7de9043044bc77bc215615ed520a0e56f8c42a", func := "loop.example/g01125/laws.FnExactFirstBishops", spec := "fnExactFirstBishops", unfollowed := true, recurses := true, apart := false, narrowed := true }
def FnExactFirstBishopsUptoSaid : Prop := fnExactFirstBishopsUptoRow.holds Try.pinned (OpenSpec.upto fnExactFirstBishopsSpec)

/-- 'laws.FnFilesAreCycles', WHERE WHAT IT READS IS OF BULK AT MOST 1048576: true; the input reads as it did. -/
def fnFilesAreCyclesUptoRow : OpenClaim := { program := "ytnhamhpalbeflaa", sum := "187eaefb143ef3efe969bff74e7de9043044bc77bc215615ed520a0e56f8c42a", func := "loop.example/g01125/laws.FnFilesAreCycles", spec := "fnFilesAreCycles", inPlace := ["slices.overlaps[int]"], unfollowed := true, recurses := true, apart := false, narrowed := true }
def FnFilesAreCyclesUptoSaid : Prop := fnFilesAreCyclesUptoRow.holds Try.pinned (OpenSpec.upto fnFilesAreCyclesSpec)

end Rows
end Go.Proofs.Ytnhamhpalbeflaa
