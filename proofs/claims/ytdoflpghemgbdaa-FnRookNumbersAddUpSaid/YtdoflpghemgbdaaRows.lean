/-
  No cell of these rows narrows 'for every input' (looked for: loops, veiled, ifaces, maps, wideKeys, modest, calm, conditions, laid).
  DERIVED. THE GIVEN ROWS OF THIS SEAT. 5 by the template 'for every input the law returns true; each argument reads behind the call as it read before'; 0 by the template 'total and deterministic' (their statements: YtdoflpghemgbdaaTotals.lean).
  GIVEN WITH THE SEED: the statements are not yours to turn. If you find one false, say at which input.
  Laid BY PROGRAM, IN A SANDBOX (cutbox-rows.mjs): the forced cells as the released guide's own fill.sh prints them over the translation 7802976edceed01d… (all of the seat's roots in one cut). By AI agents, Wed Nov 11 2026. No macro, syntax, notation, axiom, sorry.
-/
import Derived.Test.YtdoflpghemgbdaaChecked
import GoSem.Claim
import GoSem.ClaimJoined
import GoSem.ClaimMapViews
import Derived.JoinedTies
import Derived.KernelRfl
namespace Go.Proofs.Ytdoflpghemgbdaa
/- THE CELL 'sum', in the pinned program and in every row, IS THE sha256 OF THE DUMP (.gsa) THAT YtdoflpghemgbdaaProg.lean LOADS. Nothing in Lean hashes anything: it is a label: what it is worth is what the hold of that sum in a sandbox is worth. -/
noncomputable def Try.pinned : Pinned := { name := "ytdoflpghemgbdaa", sum := "7802976edceed01d82eaf30303e7c899b1e393467b673305a63c44da4aaa5d2c", checked := Try.checked }
namespace Rows
def none {H : Type} : Left H := { results := [], args := [] }

/-- 'laws.FnPiecesQuiet': WHATEVER THE INPUT: true; the input reads as it did. -/
def fnPiecesQuietSpec : ChangeSpec := { name := "fnPiecesQuiet", fn := fun _ => fun
  | [d1, d2] => { results := [.lit (.bool true)], args := [d1, d2] }
  | _ => none }
def fnPiecesQuietRow : OpenClaim := { program := "ytdoflpghemgbdaa", sum := "7802976edceed01d82eaf30303e7c899b1e393467b673305a63c44da4aaa5d2c", func := "loop.example/g01125/laws.FnPiecesQuiet", spec := "fnPiecesQuiet", unfollowed := true, recurses := true, apart := false }
def FnPiecesQuietSaid : Prop := fnPiecesQuietRow.holds Try.pinned (OpenSpec.ofChange fnPiecesQuietSpec)

/-- ITS FALSE NEIGHBOUR: 'it returns false'. Refute it at one input. -/
def fnPiecesQuietWrong : ChangeSpec := { name := "fnPiecesQuiet", fn := fun _ => fun
  | [d1, d2] => { results := [.lit (.bool false)], args := [d1, d2] }
  | _ => none }
def FnPiecesQuietWrongFalsely : Prop := fnPiecesQuietRow.holds Try.pinned (OpenSpec.ofChange fnPiecesQuietWrong)

/-- 'laws.FnKindsOfNumbers': WHATEVER THE INPUT: true; the input reads as it did. -/
def fnKindsOfNumbersSpec : ChangeSpec := { name := "fnKindsOfNumbers", fn := fun _ => fun
  | [d1, d2] => { results := [.lit (.bool true)], args := [d1, d2] }
  | _ => none }
def fnKindsOfNumbersRow : OpenClaim := { program := "ytdoflpghemgbdaa", sum := "7802976edceed01d82eaf30303e7c899b1e393467b673305a63c44da4aaa5d2c", func := "loop.example/g01125/laws.FnKindsOfNumbers", spec := "fnKindsOfNumbers", unfollowed := true, recurses := true, apart := false }
def FnKindsOfNumbersSaid : Prop := fnKindsOfNumbersRow.holds Try.pinned (OpenSpec.ofChange fnKindsOfNumbersSpec)

/-- ITS FALSE NEIGHBOUR: 'it returns false'. Refute it at one input. -/
def fnKindsOfNumbersWrong : ChangeSpec := { name := "fnKindsOfNumbers", fn := fun _ => fun
  | [d1, d2] => { results := [.lit (.bool false)], args := [d1, d2] }
  | _ => none }
def FnKindsOfNumbersWrongFalsely : Prop := fnKindsOfNumbersRow.holds Try.pinned (OpenSpec.ofChange fnKindsOfNumbersWrong)

/-- 'laws.FnRookNumbersAddUp': WHATEVER THE INPUT: true; the input reads as it did. -/
def fnRookNumbersAddUpSpec : ChangeSpec := { name := "fnRookNumbersAddUp", fn := fun _ => fun
  | [d1, d2] => { results := [.lit (.bool true)], args := [d1, d2] }
  | _ => none }
def fnRookNumbersAddUpRow : OpenClaim := { program := "ytdoflpghemgbdaa", sum := "7802976edceed01d82eaf30303e7c899b1e393467b673305a63c44da4aaa5d2c", func := "loop.example/g01125/laws.FnRookNumbersAddUp", spec := "fnRookNumbersAddUp", unfollowed := true, recurses := true, apart := false }
def FnRookNumbersAddUpSaid : Prop := fnRookNumbersAddUpRow.holds Try.pinned (OpenSpec.ofChange fnRookNumbersAddUpSpec)

/-- ITS FALSE NEIGHBOUR: 'it returns false'. Refute it at one input. -/
def fnRookNumbersAddUpWrong : ChangeSpec := { name := "fnRookNumbersAddUp", fn := fun _ => fun
  | [d1, d2] => { results := [.lit (.bool false)], args := [d1, d2] }
  | _ => none }
def FnRookNumbersAddUpWrongFalsely : Prop := fnRookNumbersAddUpRow.holds Try.pinned (OpenSpec.ofChange fnRookNumbersAddUpWrong)

/-- 'laws.FnNeededAndUseless': WHATEVER THE INPUT: true; the input reads as it did. -/
def fnNeededAndUselessSpec : ChangeSpec := { name := "fnNeededAndUseless", fn := fun _ => fun
  | [d1, d2] => { results := [.lit (.bool true)], args := [d1, d2] }
  | _ => none }
def fnNeededAndUselessRow : OpenClaim := { program := "ytdoflpghemgbdaa", sum := "7802976edceed01d82eaf30303e7c899b1e393467b673305a63c44da4aaa5d2c", func := "loop.example/g01125/laws.FnNeededAndUseless", spec := "fnNeededAndUseless", unfollowed := true, recurses := true, apart := false }
def FnNeededAndUselessSaid : Prop := fnNeededAndUselessRow.holds Try.pinned (OpenSpec.ofChange fnNeededAndUselessSpec)

/-- ITS FALSE NEIGHBOUR: 'it returns false'. Refute it at one input. -/
def fnNeededAndUselessWrong : ChangeSpec := { name := "fnNeededAndUseless", fn := fun _ => fun
  | [d1, d2] => { results := [.lit (.bool false)], args := [d1, d2] }
  | _ => none }
def FnNeededAndUselessWrongFalsely : Prop := fnNeededAndUselessRow.holds Try.pinned (OpenSpec.ofChange fnNeededAndUselessWrong)

/-- 'laws.FnExactBishopsOf': WHATEVER THE INPUT: true; the input reads as it did. -/
def fnExactBishopsOfSpec : ChangeSpec := { name := "fnExactBishopsOf", fn := fun _ => fun
  | [d1, d2, d3] => { results := [.lit (.bool true)], args := [d1, d2, d3] }
  | _ => none }
def fnExactBishopsOfRow : OpenClaim := { program := "ytdoflpghemgbdaa", sum := "7802976edceed01d82eaf30303e7c899b1e393467b673305a63c44da4aaa5d2c", func := "loop.example/g01125/laws.FnExactBishopsOf", spec := "fnExactBishopsOf", unfollowed := true, recurses := true, apart := false }
def FnExactBishopsOfSaid : Prop := fnExactBishopsOfRow.holds Try.pinned (OpenSpec.ofChange fnExactBishopsOfSpec)

/-- ITS FALSE NEIGHBOUR: 'it returns false'. Refute it at one input. -/
def fnExactBishopsOfWrong : ChangeSpec := { name := "fnExactBishopsOf", fn := fun _ => fun
  | [d1, d2, d3] => { results := [.lit (.bool false)], args := [d1, d2, d3] }
  | _ => none }
def FnExactBishopsOfWrongFalsely : Prop := fnExactBishopsOfRow.holds Try.pinned (OpenSpec.ofChange fnExactBishopsOfWrong)

/- THE SECOND FORM. 'bulk': how many values and letters a reading holds, each counted each time it is reached (what is shared counts as often as it is met; a slice's spare places count too). A statement '..UptoSaid' is the law's where the arguments, and the package variables that the reading takes, are together of bulk at most 1048576: NARROWER than '..Said'. Prove '..Said' where nothing that the law and all that it calls make is longer than what came in: it says more and counts as full. Else prove '..UptoSaid'. A law counts once. -/
mutual
def uptoBulk {H : Type} : DataW H → Nat
  | .lit (.string bytes) => bytes.length + 1
  | .lit _ => 1
  | .nil => 1
  | .ptr d => uptoBulk d + 1
  | .slice elems spare => uptoBulkAll elems + uptoBulkAll spare + 1
  | .agg parts => uptoBulkAll parts + 1
  | .iface _ d => uptoBulk d + 1
  | .map entries => uptoBulkEntries entries + 1
  | .held _ => 1
def uptoBulkAll {H : Type} : List (DataW H) → Nat
  | [] => 0
  | d :: r => uptoBulk d + uptoBulkAll r
def uptoBulkEntries {H : Type} : List (Lit × DataW H) → Nat
  | [] => 0
  | x :: r => uptoBulkEntry x + uptoBulkEntries r
def uptoBulkEntry {H : Type} : Lit × DataW H → Nat
  | (.string bytes, d) => bytes.length + uptoBulk d + 1
  | (_, d) => uptoBulk d + 1
 end
def uptoSmall : (H : Type) → List (DataW H) → Bool := fun _ ds => decide (uptoBulkAll ds ≤ 1048576)
def OpenSpec.upto (s : _root_.Go.ChangeSpec) : _root_.Go.OpenSpec := { _root_.Go.OpenSpec.ofChange s with cond := some uptoSmall }

/-- 'laws.FnPiecesQuiet', WHERE WHAT IT READS IS OF BULK AT MOST 1048576: true; the input reads as it did. -/
def fnPiecesQuietUptoRow : OpenClaim := { program := "ytdoflpghemgbdaa", sum := "7802976edceed01d82eaf30303e7c899b1e393467b673305a63c44da4aaa5d2c", func := "loop.example/g01125/laws.FnPiecesQuiet", spec := "fnPiecesQuiet", unfollowed := true, recurses := true, apart := false, narrowed := true }
def FnPiecesQuietUptoSaid : Prop := fnPiecesQuietUptoRow.holds Try.pinned (OpenSpec.upto fnPiecesQuietSpec)

/-- 'laws.FnKindsOfNumbers', WHERE WHAT IT READS IS OF BULK AT MOST 1048576: true; the input reads as it did. -/
def fnKindsOfNumbersUptoRow : OpenClaim := { program := "ytdoflpghemgbdaa", sum := "7802976edceed01d82eaf30303e7c899b1e393467b673305a63c44da4aaa5d2c", func := "loop.example/g01125/laws.FnKindsOfNumbers", spec := "fnKindsOfNumbers", unfollowed := true, recurses := true, apart := false, narrowed := true }
def FnKindsOfNumbersUptoSaid : Prop := fnKindsOfNumbersUptoRow.holds Try.pinned (OpenSpec.upto fnKindsOfNumbersSpec)

/-- 'laws.FnRookNumbersAddUp', WHERE WHAT IT READS IS OF BULK AT MOST 1048576: true; the input reads as it did. -/
def fnRookNumbersAddUpUptoRow : OpenClaim := { program := "ytdoflpghemgbdaa", sum := "7802976edceed01d82eaf30303e7c899b1e393467b673305a63c44da4aaa5d2c", func := "loop.example/g01125/laws.FnRookNumbersAddUp", spec := "fnRookNumbersAddUp", unfollowed := true, recurses := true, apart := false, narrowed := true }
def FnRookNumbersAddUpUptoSaid : Prop := fnRookNumbersAddUpUptoRow.holds Try.pinned (OpenSpec.upto fnRookNumbersAddUpSpec)

/-- 'laws.FnNeededAndUseless', WHERE WHAT IT READS IS OF BULK AT MOST 1048576: true; the input reads as it did. -/
def fnNeededAndUselessUptoRow : OpenClaim := { program := "ytdoflpghemgbdaa", sum := "7802976edceed01d82eaf30303e7c899b1e393467b673305a63c44da4aaa5d2c", func := "loop.example/g01125/laws.FnNeededAndUseless", spec := "fnNeededAndUseless", unfollowed := true, recurses := true, apart := false, narrowed := true }
def FnNeededAndUselessUptoSaid : Prop := fnNeededAndUselessUptoRow.holds Try.pinned (OpenSpec.upto fnNeededAndUselessSpec)

/-- 'laws.FnExactBishopsOf', WHERE WHAT IT READS IS OF BULK AT MOST 1048576: true; the input reads as it did. -/
def fnExactBishopsOfUptoRow : OpenClaim := { program := "ytdoflpghemgbdaa", sum := "7802976edceed01d82eaf30303e7c899b1e393467b673305a63c44da4aaa5d2c", func := "loop.example/g01125/laws.FnExactBishopsOf", spec := "fnExactBishopsOf", unfollowed := true, recurses := true, apart := false, narrowed := true }
def FnExactBishopsOfUptoSaid : Prop := fnExactBishopsOfUptoRow.holds Try.pinned (OpenSpec.upto fnExactBishopsOfSpec)

end Rows
end Go.Proofs.Ytdoflpghemgbdaa
