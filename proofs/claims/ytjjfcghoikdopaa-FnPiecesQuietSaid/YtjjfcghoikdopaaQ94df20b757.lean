-- printed functions (wip/slim.py)
import Derived.Test.YtjjfcghoikdopaaPx0
import Derived.Test.YtjjfcghoikdopaaQ3bf2aa28fa
import Derived.Test.YtjjfcghoikdopaaQ3e53a9bb36
import Derived.Test.YtjjfcghoikdopaaQ957c496862
import Derived.Test.YtjjfcghoikdopaaQ2641e89203
namespace Go.Proofs.Ytjjfcghoikdopaa.P
noncomputable section
set_option maxHeartbeats 8000000
set_option maxRecDepth 100000
open Go.RowKit Go.Proofs.YtjjfcghoikdopaaW.PrintWords Go.Proofs.YtjjfcghoikdopaaW.PrintLast Go.Proofs.YtjjfcghoikdopaaW.PrintMore
attribute [local go_sem] max2_int min2_int max_two min_two max_three min_three max_four min_four   -- for this text's walks alone
set_option linter.unusedVariables false
set_option linter.unusedSimpArgs false

/-! ### laws_FnPiecesQuiet: function 3 -/
mutual
def laws_FnPiecesQuiet.j0 : Nat → List Int → List (List Int) → Bool → Bool → Int → Int → List Int → Option (Bool)
 | 0, _, _, _, _, _, _, _ => none
 | k + 1, x1, x6, x7, x75, x660000, x660001, x660002 => if x75 = true then (none) else (if x7 = true then (laws_FnPiecesQuiet.l0 k x1 x6 x6 (x6.length : Int) 0 x660000 x660001 x660002) else (laws_FnPiecesQuiet.j3 k x1))
def laws_FnPiecesQuiet.j3 : Nat → List Int → Option (Bool)
 | 0, _ => none
 | k + 1, x1 => (spec_DrawAreQuietKings.f k x1).bind fun bt684 => ((impl_AreQuietKings.f k bt684.1 bt684.2.1 bt684.2.2.1 bt684.2.2.2).bind fun bt693 => ((spec_AreQuietKings.f k bt684.1 bt684.2.1 bt684.2.2.1 bt684.2.2.2).bind fun bt695 => (if (bt693.2 != bt695.2) = true then (none) else (laws_FnPiecesQuiet.j4 k x1 (bt693.1 != bt695.1)))))
def laws_FnPiecesQuiet.j4 : Nat → List Int → Bool → Option (Bool)
 | 0, _, _ => none
 | k + 1, x1, x167 => if x167 = true then (none) else ((spec_DrawDiagonalOf.f k x1).bind fun bt697 => ((impl_DiagonalOf.f bt697.1 bt697.2.1 bt697.2.2.1 bt697.2.2.2.1 bt697.2.2.2.2).bind fun bt705 => ((spec_DiagonalOf.f k bt697.1 bt697.2.1 bt697.2.2.1 bt697.2.2.2.1 bt697.2.2.2.2).bind fun bt708 => (if (bt705.2.2 != bt708.2.2) = true then (none) else (if bt705.1 = bt708.1 then (laws_FnPiecesQuiet.j5 k x1 bt697.2.2.2.1 bt697.2.2.2.2 bt705.1 bt705.2.1 bt705.2.2 (bt705.2.1 != bt708.2.1) bt697.1 bt697.2.1 bt697.2.2.1) else (none))))))
def laws_FnPiecesQuiet.j5 : Nat → List Int → Int → Int → Int → Int → Bool → Bool → Int → Int → List Int → Option (Bool)
 | 0, _, _, _, _, _, _, _, _, _, _ => none
 | k + 1, x1, x28, x29, x30, x31, x32, x202, x705000, x705001, x705002 => if x202 = true then (none) else (if x32 = true then (if (wrap64 ((wrap64 ((wrap64 (x30 + x31)) - x705001)) + 1)) = (wrap64 (2 * x28)) then (laws_FnPiecesQuiet.j6 k x1 ((wrap64 ((wrap64 ((wrap64 (x30 - x31)) + x705001)) - 1)) != (wrap64 (2 * x29)))) else (none)) else (laws_FnPiecesQuiet.j6 k x1 false))
def laws_FnPiecesQuiet.j6 : Nat → List Int → Bool → Option (Bool)
 | 0, _, _ => none
 | k + 1, x1, x227 => if x227 = true then (none) else ((spec_DrawCellOfColour.f k x1).bind fun bt711 => ((impl_CellOfColour.f k bt711.1 bt711.2.1 bt711.2.2.1 bt711.2.2.2.1 bt711.2.2.2.2.1 bt711.2.2.2.2.2).bind fun bt720 => ((spec_CellOfColour.f k bt711.1 bt711.2.1 bt711.2.2.1 bt711.2.2.2.1 bt711.2.2.2.2.1 bt711.2.2.2.2.2).bind fun bt723 => (if (bt720.2.2 != bt723.2.2) = true then (none) else (if bt720.1 = bt723.1 then (laws_FnPiecesQuiet.j7 k bt711.2.2.2.1 bt711.2.2.2.2.1 bt711.2.2.2.2.2 bt720.1 bt720.2.1 bt720.2.2 (bt720.2.1 != bt723.2.1) bt711.1 bt711.2.1 bt711.2.2.1) else (none))))))
def laws_FnPiecesQuiet.j7 : Nat → Int → Int → Int → Int → Int → Bool → Bool → Int → Int → List Int → Option (Bool)
 | 0, _, _, _, _, _, _, _, _, _, _ => none
 | k + 1, x37, x38, x39, x40, x41, x42, x265, x720000, x720001, x720002 => if x265 = true then (none) else (if x42 = true then ((impl_ColourBoard.f k x720000 x720001 x720002 x37).bind fun bt726 => (if bt726.2.2.2 = true then (if (Int.tmod (wrap64 (x40 + x41)) 2) = x37 then ((laws_rOn.f bt726.1 bt726.2.1 bt726.2.2.1 x38 x39).bind fun t733 => ((laws_rOn.f x720000 x720001 x720002 x40 x41).bind fun t734 => (some (t733 == t734)))) else (none)) else (none))) else (some true))
def laws_FnPiecesQuiet.l0 : Nat → List Int → List (List Int) → List (List Int) → Int → Int → Int → Int → List Int → Option (Bool)
 | 0, _, _, _, _, _, _, _, _ => none
 | k + 1, x1, x6, x77, x78, x79, x660000, x660001, x660002 => if x79 < x78 then (if 0 ≤ x79 then (if x79 < (x77.length : Int) then (if 0 < ((rd_L2 x77 x79).length : Int) then (if 1 < ((rd_L2 x77 x79).length : Int) then ((impl_DiagonalOf.f x660000 x660001 x660002 (rd (rd_L2 x77 x79) 0) (rd (rd_L2 x77 x79) 1)).bind fun bt667 => (if x79 ≤ (x6.length : Int) then ((some (x6.take (x79 : Int).toNat : List (List Int))).bind fun y670 => (laws_FnPiecesQuiet.l1 k x1 x6 (rd_L2 x77 x79) bt667.1 bt667.2.1 bt667.2.2 x77 x78 x79 y670 (y670.length : Int) 0 x660000 x660001 x660002)) else (none))) else (none)) else (none)) else (none)) else (none)) else (laws_FnPiecesQuiet.j3 k x1)
def laws_FnPiecesQuiet.l1 : Nat → List Int → List (List Int) → List Int → Int → Int → Bool → List (List Int) → Int → Int → List (List Int) → Int → Int → Int → Int → List Int → Option (Bool)
 | 0, _, _, _, _, _, _, _, _, _, _, _, _, _, _, _ => none
 | k + 1, x1, x6, x12, x13, x14, x15, x77, x78, x79, x98, x99, x100, x660000, x660001, x660002 => if x100 < x99 then (if 0 ≤ x100 then (if x100 < (x98.length : Int) then (if 0 < ((rd_L2 x98 x100).length : Int) then (if 1 < ((rd_L2 x98 x100).length : Int) then ((impl_DiagonalOf.f x660000 x660001 x660002 (rd (rd_L2 x98 x100) 0) (rd (rd_L2 x98 x100) 1)).bind fun bt678 => (if x15 = true then (if bt678.2.2 = true then (if x13 = bt678.1 then (none) else (if x14 = bt678.2.1 then (none) else (laws_FnPiecesQuiet.l1 k x1 x6 x12 x13 x14 x15 x77 x78 x79 x98 x99 (wrap64 (x100 + 1)) x660000 x660001 x660002))) else (none)) else (none))) else (none)) else (none)) else (none)) else (none)) else (if 0 < (x12.length : Int) then (if 1 < (x12.length : Int) then ((laws_rOn.f x660000 x660001 x660002 (rd x12 0) (rd x12 1)).bind fun t683 => (if t683 = true then (laws_FnPiecesQuiet.l0 k x1 x6 x77 x78 (wrap64 (x79 + 1)) x660000 x660001 x660002) else (none))) else (none)) else (none))
end
def laws_FnPiecesQuiet.f (k : Nat) (l0 : List Int) (l1 : List Int) : Option (Bool) := (laws_big.f l0 l1).bind fun t650 => (if t650 = true then (some true) else ((spec_DrawAreQuietBishops.f k l0).bind fun bt651 => ((impl_AreQuietBishops.f k bt651.1 bt651.2.1 bt651.2.2.1 bt651.2.2.2).bind fun bt660 => ((spec_AreQuietBishops.f k bt651.1 bt651.2.1 bt651.2.2.1 bt651.2.2.2).bind fun bt662 => (if (bt660.2 != bt662.2) = true then (none) else (laws_FnPiecesQuiet.j0 k l1 bt651.2.2.2 bt660.1 (bt660.1 != bt662.1) bt651.1 bt651.2.1 bt651.2.2.1))))))
theorem laws_FnPiecesQuiet.mono_l : ∀ k, (∀ y0 y1 y2 y3 y4 y5 y6, LeO (laws_FnPiecesQuiet.j0 k y0 y1 y2 y3 y4 y5 y6) (laws_FnPiecesQuiet.j0 (k + 1) y0 y1 y2 y3 y4 y5 y6)) ∧ (∀ y0, LeO (laws_FnPiecesQuiet.j3 k y0) (laws_FnPiecesQuiet.j3 (k + 1) y0)) ∧ (∀ y0 y1, LeO (laws_FnPiecesQuiet.j4 k y0 y1) (laws_FnPiecesQuiet.j4 (k + 1) y0 y1)) ∧ (∀ y0 y1 y2 y3 y4 y5 y6 y7 y8 y9, LeO (laws_FnPiecesQuiet.j5 k y0 y1 y2 y3 y4 y5 y6 y7 y8 y9) (laws_FnPiecesQuiet.j5 (k + 1) y0 y1 y2 y3 y4 y5 y6 y7 y8 y9)) ∧ (∀ y0 y1, LeO (laws_FnPiecesQuiet.j6 k y0 y1) (laws_FnPiecesQuiet.j6 (k + 1) y0 y1)) ∧ (∀ y0 y1 y2 y3 y4 y5 y6 y7 y8 y9, LeO (laws_FnPiecesQuiet.j7 k y0 y1 y2 y3 y4 y5 y6 y7 y8 y9) (laws_FnPiecesQuiet.j7 (k + 1) y0 y1 y2 y3 y4 y5 y6 y7 y8 y9)) ∧ (∀ y0 y1 y2 y3 y4 y5 y6 y7, LeO (laws_FnPiecesQuiet.l0 k y0 y1 y2 y3 y4 y5 y6 y7) (laws_FnPiecesQuiet.l0 (k + 1) y0 y1 y2 y3 y4 y5 y6 y7)) ∧ (∀ y0 y1 y2 y3 y4 y5 y6 y7 y8 y9 y10 y11 y12 y13 y14, LeO (laws_FnPiecesQuiet.l1 k y0 y1 y2 y3 y4 y5 y6 y7 y8 y9 y10 y11 y12 y13 y14) (laws_FnPiecesQuiet.l1 (k + 1) y0 y1 y2 y3 y4 y5 y6 y7 y8 y9 y10 y11 y12 y13 y14))
 | 0 => ⟨fun _ _ _ _ _ _ _ r h => by simp [laws_FnPiecesQuiet.j0] at h, fun _ r h => by simp [laws_FnPiecesQuiet.j3] at h, fun _ _ r h => by simp [laws_FnPiecesQuiet.j4] at h, fun _ _ _ _ _ _ _ _ _ _ r h => by simp [laws_FnPiecesQuiet.j5] at h, fun _ _ r h => by simp [laws_FnPiecesQuiet.j6] at h, fun _ _ _ _ _ _ _ _ _ _ r h => by simp [laws_FnPiecesQuiet.j7] at h, fun _ _ _ _ _ _ _ _ r h => by simp [laws_FnPiecesQuiet.l0] at h, fun _ _ _ _ _ _ _ _ _ _ _ _ _ _ _ r h => by simp [laws_FnPiecesQuiet.l1] at h⟩
 | k + 1 => by
  obtain ⟨ih0, ih1, ih2, ih3, ih4, ih5, ih6, ih7⟩ := laws_FnPiecesQuiet.mono_l k
  refine ⟨?_, ?_, ?_, ?_, ?_, ?_, ?_, ?_⟩
  ·
   intro y0 y1 y2 y3 y4 y5 y6
   unfold laws_FnPiecesQuiet.j0
   repeat' first | (with_reducible first | exact ih0 _ _ _ _ _ _ _ | exact ih1 _ | exact ih2 _ _ | exact ih3 _ _ _ _ _ _ _ _ _ _ | exact ih4 _ _ | exact ih5 _ _ _ _ _ _ _ _ _ _ | exact ih6 _ _ _ _ _ _ _ _ | exact ih7 _ _ _ _ _ _ _ _ _ _ _ _ _ _ _ | exact impl_AreQuietBishops.mono _ _ _ _ _ | exact impl_AreQuietKings.mono _ _ _ _ _ | exact impl_CellOfColour.mono _ _ _ _ _ _ _ | exact impl_ColourBoard.mono _ _ _ _ _ | exact spec_AreQuietBishops.mono _ _ _ _ _ | exact spec_AreQuietKings.mono _ _ _ _ _ | exact spec_CellOfColour.mono _ _ _ _ _ _ _ | exact spec_DiagonalOf.mono _ _ _ _ _ _ | exact spec_DrawAreQuietBishops.mono _ _ | exact spec_DrawAreQuietKings.mono _ _ | exact spec_DrawCellOfColour.mono _ _ | exact spec_DrawDiagonalOf.mono _ _ | exact LeO.refl _ | exact LeO.none _ | refine LeO.ite ?_ ?_ | refine LeO.bind ?_ (fun _ => ?_)) | exact ih0 _ _ _ _ _ _ _ | exact ih1 _ | exact ih2 _ _ | exact ih3 _ _ _ _ _ _ _ _ _ _ | exact ih4 _ _ | exact ih5 _ _ _ _ _ _ _ _ _ _ | exact ih6 _ _ _ _ _ _ _ _ | exact ih7 _ _ _ _ _ _ _ _ _ _ _ _ _ _ _ | exact impl_AreQuietBishops.mono _ _ _ _ _ | exact impl_AreQuietKings.mono _ _ _ _ _ | exact impl_CellOfColour.mono _ _ _ _ _ _ _ | exact impl_ColourBoard.mono _ _ _ _ _ | exact spec_AreQuietBishops.mono _ _ _ _ _ | exact spec_AreQuietKings.mono _ _ _ _ _ | exact spec_CellOfColour.mono _ _ _ _ _ _ _ | exact spec_DiagonalOf.mono _ _ _ _ _ _ | exact spec_DrawAreQuietBishops.mono _ _ | exact spec_DrawAreQuietKings.mono _ _ | exact spec_DrawCellOfColour.mono _ _ | exact spec_DrawDiagonalOf.mono _ _ | exact LeO.none _ | refine LeO.ite ?_ ?_ | refine LeO.bind ?_ (fun _ => ?_)
  ·
   intro y0
   unfold laws_FnPiecesQuiet.j3
   repeat' first | (with_reducible first | exact ih0 _ _ _ _ _ _ _ | exact ih1 _ | exact ih2 _ _ | exact ih3 _ _ _ _ _ _ _ _ _ _ | exact ih4 _ _ | exact ih5 _ _ _ _ _ _ _ _ _ _ | exact ih6 _ _ _ _ _ _ _ _ | exact ih7 _ _ _ _ _ _ _ _ _ _ _ _ _ _ _ | exact impl_AreQuietBishops.mono _ _ _ _ _ | exact impl_AreQuietKings.mono _ _ _ _ _ | exact impl_CellOfColour.mono _ _ _ _ _ _ _ | exact impl_ColourBoard.mono _ _ _ _ _ | exact spec_AreQuietBishops.mono _ _ _ _ _ | exact spec_AreQuietKings.mono _ _ _ _ _ | exact spec_CellOfColour.mono _ _ _ _ _ _ _ | exact spec_DiagonalOf.mono _ _ _ _ _ _ | exact spec_DrawAreQuietBishops.mono _ _ | exact spec_DrawAreQuietKings.mono _ _ | exact spec_DrawCellOfColour.mono _ _ | exact spec_DrawDiagonalOf.mono _ _ | exact LeO.refl _ | exact LeO.none _ | refine LeO.ite ?_ ?_ | refine LeO.bind ?_ (fun _ => ?_)) | exact ih0 _ _ _ _ _ _ _ | exact ih1 _ | exact ih2 _ _ | exact ih3 _ _ _ _ _ _ _ _ _ _ | exact ih4 _ _ | exact ih5 _ _ _ _ _ _ _ _ _ _ | exact ih6 _ _ _ _ _ _ _ _ | exact ih7 _ _ _ _ _ _ _ _ _ _ _ _ _ _ _ | exact impl_AreQuietBishops.mono _ _ _ _ _ | exact impl_AreQuietKings.mono _ _ _ _ _ | exact impl_CellOfColour.mono _ _ _ _ _ _ _ | exact impl_ColourBoard.mono _ _ _ _ _ | exact spec_AreQuietBishops.mono _ _ _ _ _ | exact spec_AreQuietKings.mono _ _ _ _ _ | exact spec_CellOfColour.mono _ _ _ _ _ _ _ | exact spec_DiagonalOf.mono _ _ _ _ _ _ | exact spec_DrawAreQuietBishops.mono _ _ | exact spec_DrawAreQuietKings.mono _ _ | exact spec_DrawCellOfColour.mono _ _ | exact spec_DrawDiagonalOf.mono _ _ | exact LeO.none _ | refine LeO.ite ?_ ?_ | refine LeO.bind ?_ (fun _ => ?_)
  ·
   intro y0 y1
   unfold laws_FnPiecesQuiet.j4
   repeat' first | (with_reducible first | exact ih0 _ _ _ _ _ _ _ | exact ih1 _ | exact ih2 _ _ | exact ih3 _ _ _ _ _ _ _ _ _ _ | exact ih4 _ _ | exact ih5 _ _ _ _ _ _ _ _ _ _ | exact ih6 _ _ _ _ _ _ _ _ | exact ih7 _ _ _ _ _ _ _ _ _ _ _ _ _ _ _ | exact impl_AreQuietBishops.mono _ _ _ _ _ | exact impl_AreQuietKings.mono _ _ _ _ _ | exact impl_CellOfColour.mono _ _ _ _ _ _ _ | exact impl_ColourBoard.mono _ _ _ _ _ | exact spec_AreQuietBishops.mono _ _ _ _ _ | exact spec_AreQuietKings.mono _ _ _ _ _ | exact spec_CellOfColour.mono _ _ _ _ _ _ _ | exact spec_DiagonalOf.mono _ _ _ _ _ _ | exact spec_DrawAreQuietBishops.mono _ _ | exact spec_DrawAreQuietKings.mono _ _ | exact spec_DrawCellOfColour.mono _ _ | exact spec_DrawDiagonalOf.mono _ _ | exact LeO.refl _ | exact LeO.none _ | refine LeO.ite ?_ ?_ | refine LeO.bind ?_ (fun _ => ?_)) | exact ih0 _ _ _ _ _ _ _ | exact ih1 _ | exact ih2 _ _ | exact ih3 _ _ _ _ _ _ _ _ _ _ | exact ih4 _ _ | exact ih5 _ _ _ _ _ _ _ _ _ _ | exact ih6 _ _ _ _ _ _ _ _ | exact ih7 _ _ _ _ _ _ _ _ _ _ _ _ _ _ _ | exact impl_AreQuietBishops.mono _ _ _ _ _ | exact impl_AreQuietKings.mono _ _ _ _ _ | exact impl_CellOfColour.mono _ _ _ _ _ _ _ | exact impl_ColourBoard.mono _ _ _ _ _ | exact spec_AreQuietBishops.mono _ _ _ _ _ | exact spec_AreQuietKings.mono _ _ _ _ _ | exact spec_CellOfColour.mono _ _ _ _ _ _ _ | exact spec_DiagonalOf.mono _ _ _ _ _ _ | exact spec_DrawAreQuietBishops.mono _ _ | exact spec_DrawAreQuietKings.mono _ _ | exact spec_DrawCellOfColour.mono _ _ | exact spec_DrawDiagonalOf.mono _ _ | exact LeO.none _ | refine LeO.ite ?_ ?_ | refine LeO.bind ?_ (fun _ => ?_)
  ·
   intro y0 y1 y2 y3 y4 y5 y6 y7 y8 y9
   unfold laws_FnPiecesQuiet.j5
   repeat' first | (with_reducible first | exact ih0 _ _ _ _ _ _ _ | exact ih1 _ | exact ih2 _ _ | exact ih3 _ _ _ _ _ _ _ _ _ _ | exact ih4 _ _ | exact ih5 _ _ _ _ _ _ _ _ _ _ | exact ih6 _ _ _ _ _ _ _ _ | exact ih7 _ _ _ _ _ _ _ _ _ _ _ _ _ _ _ | exact impl_AreQuietBishops.mono _ _ _ _ _ | exact impl_AreQuietKings.mono _ _ _ _ _ | exact impl_CellOfColour.mono _ _ _ _ _ _ _ | exact impl_ColourBoard.mono _ _ _ _ _ | exact spec_AreQuietBishops.mono _ _ _ _ _ | exact spec_AreQuietKings.mono _ _ _ _ _ | exact spec_CellOfColour.mono _ _ _ _ _ _ _ | exact spec_DiagonalOf.mono _ _ _ _ _ _ | exact spec_DrawAreQuietBishops.mono _ _ | exact spec_DrawAreQuietKings.mono _ _ | exact spec_DrawCellOfColour.mono _ _ | exact spec_DrawDiagonalOf.mono _ _ | exact LeO.refl _ | exact LeO.none _ | refine LeO.ite ?_ ?_ | refine LeO.bind ?_ (fun _ => ?_)) | exact ih0 _ _ _ _ _ _ _ | exact ih1 _ | exact ih2 _ _ | exact ih3 _ _ _ _ _ _ _ _ _ _ | exact ih4 _ _ | exact ih5 _ _ _ _ _ _ _ _ _ _ | exact ih6 _ _ _ _ _ _ _ _ | exact ih7 _ _ _ _ _ _ _ _ _ _ _ _ _ _ _ | exact impl_AreQuietBishops.mono _ _ _ _ _ | exact impl_AreQuietKings.mono _ _ _ _ _ | exact impl_CellOfColour.mono _ _ _ _ _ _ _ | exact impl_ColourBoard.mono _ _ _ _ _ | exact spec_AreQuietBishops.mono _ _ _ _ _ | exact spec_AreQuietKings.mono _ _ _ _ _ | exact spec_CellOfColour.mono _ _ _ _ _ _ _ | exact spec_DiagonalOf.mono _ _ _ _ _ _ | exact spec_DrawAreQuietBishops.mono _ _ | exact spec_DrawAreQuietKings.mono _ _ | exact spec_DrawCellOfColour.mono _ _ | exact spec_DrawDiagonalOf.mono _ _ | exact LeO.none _ | refine LeO.ite ?_ ?_ | refine LeO.bind ?_ (fun _ => ?_)
  ·
   intro y0 y1
   unfold laws_FnPiecesQuiet.j6
   repeat' first | (with_reducible first | exact ih0 _ _ _ _ _ _ _ | exact ih1 _ | exact ih2 _ _ | exact ih3 _ _ _ _ _ _ _ _ _ _ | exact ih4 _ _ | exact ih5 _ _ _ _ _ _ _ _ _ _ | exact ih6 _ _ _ _ _ _ _ _ | exact ih7 _ _ _ _ _ _ _ _ _ _ _ _ _ _ _ | exact impl_AreQuietBishops.mono _ _ _ _ _ | exact impl_AreQuietKings.mono _ _ _ _ _ | exact impl_CellOfColour.mono _ _ _ _ _ _ _ | exact impl_ColourBoard.mono _ _ _ _ _ | exact spec_AreQuietBishops.mono _ _ _ _ _ | exact spec_AreQuietKings.mono _ _ _ _ _ | exact spec_CellOfColour.mono _ _ _ _ _ _ _ | exact spec_DiagonalOf.mono _ _ _ _ _ _ | exact spec_DrawAreQuietBishops.mono _ _ | exact spec_DrawAreQuietKings.mono _ _ | exact spec_DrawCellOfColour.mono _ _ | exact spec_DrawDiagonalOf.mono _ _ | exact LeO.refl _ | exact LeO.none _ | refine LeO.ite ?_ ?_ | refine LeO.bind ?_ (fun _ => ?_)) | exact ih0 _ _ _ _ _ _ _ | exact ih1 _ | exact ih2 _ _ | exact ih3 _ _ _ _ _ _ _ _ _ _ | exact ih4 _ _ | exact ih5 _ _ _ _ _ _ _ _ _ _ | exact ih6 _ _ _ _ _ _ _ _ | exact ih7 _ _ _ _ _ _ _ _ _ _ _ _ _ _ _ | exact impl_AreQuietBishops.mono _ _ _ _ _ | exact impl_AreQuietKings.mono _ _ _ _ _ | exact impl_CellOfColour.mono _ _ _ _ _ _ _ | exact impl_ColourBoard.mono _ _ _ _ _ | exact spec_AreQuietBishops.mono _ _ _ _ _ | exact spec_AreQuietKings.mono _ _ _ _ _ | exact spec_CellOfColour.mono _ _ _ _ _ _ _ | exact spec_DiagonalOf.mono _ _ _ _ _ _ | exact spec_DrawAreQuietBishops.mono _ _ | exact spec_DrawAreQuietKings.mono _ _ | exact spec_DrawCellOfColour.mono _ _ | exact spec_DrawDiagonalOf.mono _ _ | exact LeO.none _ | refine LeO.ite ?_ ?_ | refine LeO.bind ?_ (fun _ => ?_)
  ·
   intro y0 y1 y2 y3 y4 y5 y6 y7 y8 y9
   unfold laws_FnPiecesQuiet.j7
   repeat' first | (with_reducible first | exact ih0 _ _ _ _ _ _ _ | exact ih1 _ | exact ih2 _ _ | exact ih3 _ _ _ _ _ _ _ _ _ _ | exact ih4 _ _ | exact ih5 _ _ _ _ _ _ _ _ _ _ | exact ih6 _ _ _ _ _ _ _ _ | exact ih7 _ _ _ _ _ _ _ _ _ _ _ _ _ _ _ | exact impl_AreQuietBishops.mono _ _ _ _ _ | exact impl_AreQuietKings.mono _ _ _ _ _ | exact impl_CellOfColour.mono _ _ _ _ _ _ _ | exact impl_ColourBoard.mono _ _ _ _ _ | exact spec_AreQuietBishops.mono _ _ _ _ _ | exact spec_AreQuietKings.mono _ _ _ _ _ | exact spec_CellOfColour.mono _ _ _ _ _ _ _ | exact spec_DiagonalOf.mono _ _ _ _ _ _ | exact spec_DrawAreQuietBishops.mono _ _ | exact spec_DrawAreQuietKings.mono _ _ | exact spec_DrawCellOfColour.mono _ _ | exact spec_DrawDiagonalOf.mono _ _ | exact LeO.refl _ | exact LeO.none _ | refine LeO.ite ?_ ?_ | refine LeO.bind ?_ (fun _ => ?_)) | exact ih0 _ _ _ _ _ _ _ | exact ih1 _ | exact ih2 _ _ | exact ih3 _ _ _ _ _ _ _ _ _ _ | exact ih4 _ _ | exact ih5 _ _ _ _ _ _ _ _ _ _ | exact ih6 _ _ _ _ _ _ _ _ | exact ih7 _ _ _ _ _ _ _ _ _ _ _ _ _ _ _ | exact impl_AreQuietBishops.mono _ _ _ _ _ | exact impl_AreQuietKings.mono _ _ _ _ _ | exact impl_CellOfColour.mono _ _ _ _ _ _ _ | exact impl_ColourBoard.mono _ _ _ _ _ | exact spec_AreQuietBishops.mono _ _ _ _ _ | exact spec_AreQuietKings.mono _ _ _ _ _ | exact spec_CellOfColour.mono _ _ _ _ _ _ _ | exact spec_DiagonalOf.mono _ _ _ _ _ _ | exact spec_DrawAreQuietBishops.mono _ _ | exact spec_DrawAreQuietKings.mono _ _ | exact spec_DrawCellOfColour.mono _ _ | exact spec_DrawDiagonalOf.mono _ _ | exact LeO.none _ | refine LeO.ite ?_ ?_ | refine LeO.bind ?_ (fun _ => ?_)
  ·
   intro y0 y1 y2 y3 y4 y5 y6 y7
   unfold laws_FnPiecesQuiet.l0
   repeat' first | (with_reducible first | exact ih0 _ _ _ _ _ _ _ | exact ih1 _ | exact ih2 _ _ | exact ih3 _ _ _ _ _ _ _ _ _ _ | exact ih4 _ _ | exact ih5 _ _ _ _ _ _ _ _ _ _ | exact ih6 _ _ _ _ _ _ _ _ | exact ih7 _ _ _ _ _ _ _ _ _ _ _ _ _ _ _ | exact impl_AreQuietBishops.mono _ _ _ _ _ | exact impl_AreQuietKings.mono _ _ _ _ _ | exact impl_CellOfColour.mono _ _ _ _ _ _ _ | exact impl_ColourBoard.mono _ _ _ _ _ | exact spec_AreQuietBishops.mono _ _ _ _ _ | exact spec_AreQuietKings.mono _ _ _ _ _ | exact spec_CellOfColour.mono _ _ _ _ _ _ _ | exact spec_DiagonalOf.mono _ _ _ _ _ _ | exact spec_DrawAreQuietBishops.mono _ _ | exact spec_DrawAreQuietKings.mono _ _ | exact spec_DrawCellOfColour.mono _ _ | exact spec_DrawDiagonalOf.mono _ _ | exact LeO.refl _ | exact LeO.none _ | refine LeO.ite ?_ ?_ | refine LeO.bind ?_ (fun _ => ?_)) | exact ih0 _ _ _ _ _ _ _ | exact ih1 _ | exact ih2 _ _ | exact ih3 _ _ _ _ _ _ _ _ _ _ | exact ih4 _ _ | exact ih5 _ _ _ _ _ _ _ _ _ _ | exact ih6 _ _ _ _ _ _ _ _ | exact ih7 _ _ _ _ _ _ _ _ _ _ _ _ _ _ _ | exact impl_AreQuietBishops.mono _ _ _ _ _ | exact impl_AreQuietKings.mono _ _ _ _ _ | exact impl_CellOfColour.mono _ _ _ _ _ _ _ | exact impl_ColourBoard.mono _ _ _ _ _ | exact spec_AreQuietBishops.mono _ _ _ _ _ | exact spec_AreQuietKings.mono _ _ _ _ _ | exact spec_CellOfColour.mono _ _ _ _ _ _ _ | exact spec_DiagonalOf.mono _ _ _ _ _ _ | exact spec_DrawAreQuietBishops.mono _ _ | exact spec_DrawAreQuietKings.mono _ _ | exact spec_DrawCellOfColour.mono _ _ | exact spec_DrawDiagonalOf.mono _ _ | exact LeO.none _ | refine LeO.ite ?_ ?_ | refine LeO.bind ?_ (fun _ => ?_)
  ·
   intro y0 y1 y2 y3 y4 y5 y6 y7 y8 y9 y10 y11 y12 y13 y14
   unfold laws_FnPiecesQuiet.l1
   repeat' first | (with_reducible first | exact ih0 _ _ _ _ _ _ _ | exact ih1 _ | exact ih2 _ _ | exact ih3 _ _ _ _ _ _ _ _ _ _ | exact ih4 _ _ | exact ih5 _ _ _ _ _ _ _ _ _ _ | exact ih6 _ _ _ _ _ _ _ _ | exact ih7 _ _ _ _ _ _ _ _ _ _ _ _ _ _ _ | exact impl_AreQuietBishops.mono _ _ _ _ _ | exact impl_AreQuietKings.mono _ _ _ _ _ | exact impl_CellOfColour.mono _ _ _ _ _ _ _ | exact impl_ColourBoard.mono _ _ _ _ _ | exact spec_AreQuietBishops.mono _ _ _ _ _ | exact spec_AreQuietKings.mono _ _ _ _ _ | exact spec_CellOfColour.mono _ _ _ _ _ _ _ | exact spec_DiagonalOf.mono _ _ _ _ _ _ | exact spec_DrawAreQuietBishops.mono _ _ | exact spec_DrawAreQuietKings.mono _ _ | exact spec_DrawCellOfColour.mono _ _ | exact spec_DrawDiagonalOf.mono _ _ | exact LeO.refl _ | exact LeO.none _ | refine LeO.ite ?_ ?_ | refine LeO.bind ?_ (fun _ => ?_)) | exact ih0 _ _ _ _ _ _ _ | exact ih1 _ | exact ih2 _ _ | exact ih3 _ _ _ _ _ _ _ _ _ _ | exact ih4 _ _ | exact ih5 _ _ _ _ _ _ _ _ _ _ | exact ih6 _ _ _ _ _ _ _ _ | exact ih7 _ _ _ _ _ _ _ _ _ _ _ _ _ _ _ | exact impl_AreQuietBishops.mono _ _ _ _ _ | exact impl_AreQuietKings.mono _ _ _ _ _ | exact impl_CellOfColour.mono _ _ _ _ _ _ _ | exact impl_ColourBoard.mono _ _ _ _ _ | exact spec_AreQuietBishops.mono _ _ _ _ _ | exact spec_AreQuietKings.mono _ _ _ _ _ | exact spec_CellOfColour.mono _ _ _ _ _ _ _ | exact spec_DiagonalOf.mono _ _ _ _ _ _ | exact spec_DrawAreQuietBishops.mono _ _ | exact spec_DrawAreQuietKings.mono _ _ | exact spec_DrawCellOfColour.mono _ _ | exact spec_DrawDiagonalOf.mono _ _ | exact LeO.none _ | refine LeO.ite ?_ ?_ | refine LeO.bind ?_ (fun _ => ?_)
theorem laws_FnPiecesQuiet.mono : ∀ a0 a1 k, LeO (laws_FnPiecesQuiet.f k a0 a1) (laws_FnPiecesQuiet.f (k + 1) a0 a1) := by
 intro a0 a1 k
 obtain ⟨ih0, ih1, ih2, ih3, ih4, ih5, ih6, ih7⟩ := laws_FnPiecesQuiet.mono_l k
 unfold laws_FnPiecesQuiet.f
 repeat' first | (with_reducible first | exact ih0 _ _ _ _ _ _ _ | exact ih1 _ | exact ih2 _ _ | exact ih3 _ _ _ _ _ _ _ _ _ _ | exact ih4 _ _ | exact ih5 _ _ _ _ _ _ _ _ _ _ | exact ih6 _ _ _ _ _ _ _ _ | exact ih7 _ _ _ _ _ _ _ _ _ _ _ _ _ _ _ | exact impl_AreQuietBishops.mono _ _ _ _ _ | exact impl_AreQuietKings.mono _ _ _ _ _ | exact impl_CellOfColour.mono _ _ _ _ _ _ _ | exact impl_ColourBoard.mono _ _ _ _ _ | exact spec_AreQuietBishops.mono _ _ _ _ _ | exact spec_AreQuietKings.mono _ _ _ _ _ | exact spec_CellOfColour.mono _ _ _ _ _ _ _ | exact spec_DiagonalOf.mono _ _ _ _ _ _ | exact spec_DrawAreQuietBishops.mono _ _ | exact spec_DrawAreQuietKings.mono _ _ | exact spec_DrawCellOfColour.mono _ _ | exact spec_DrawDiagonalOf.mono _ _ | exact LeO.refl _ | exact LeO.none _ | refine LeO.ite ?_ ?_ | refine LeO.bind ?_ (fun _ => ?_)) | exact ih0 _ _ _ _ _ _ _ | exact ih1 _ | exact ih2 _ _ | exact ih3 _ _ _ _ _ _ _ _ _ _ | exact ih4 _ _ | exact ih5 _ _ _ _ _ _ _ _ _ _ | exact ih6 _ _ _ _ _ _ _ _ | exact ih7 _ _ _ _ _ _ _ _ _ _ _ _ _ _ _ | exact impl_AreQuietBishops.mono _ _ _ _ _ | exact impl_AreQuietKings.mono _ _ _ _ _ | exact impl_CellOfColour.mono _ _ _ _ _ _ _ | exact impl_ColourBoard.mono _ _ _ _ _ | exact spec_AreQuietBishops.mono _ _ _ _ _ | exact spec_AreQuietKings.mono _ _ _ _ _ | exact spec_CellOfColour.mono _ _ _ _ _ _ _ | exact spec_DiagonalOf.mono _ _ _ _ _ _ | exact spec_DrawAreQuietBishops.mono _ _ | exact spec_DrawAreQuietKings.mono _ _ | exact spec_DrawCellOfColour.mono _ _ | exact spec_DrawDiagonalOf.mono _ _ | exact LeO.none _ | refine LeO.ite ?_ ?_ | refine LeO.bind ?_ (fun _ => ?_)
def laws_FnPiecesQuiet.T12 : Bool × List (List Nat × List Nat) := (true, [([], []), ([], []), ([1], [1]), ([2], [2]), ([], []), ([4], [4]), ([5], [5]), ([0, 3, 6], [0, 3, 6]), ([7], [7]), ([8], [8]), ([8], [8]), ([8], [8]), ([9, 7, 0, 1, 2, 3, 4, 5, 6, 7, 8, 9], [9]), ([10, 12, 0, 1, 2, 3, 4, 5, 6, 7, 8, 9, 10, 12], [10]), ([11, 13, 0, 1, 2, 3, 4, 5, 6, 7, 8, 9, 10, 11, 12, 13], [11])])
def laws_FnPiecesQuiet.B12 : List Nat := [0, 0, 2, 6, 0, 16, 48, 127, 255, 511, 511, 511, 1023, 6143, 16383]
theorem laws_FnPiecesQuiet.tab12 : rtab .any (opsOf Try.f3 12) = laws_FnPiecesQuiet.T12 := by kernel_rfl
theorem laws_FnPiecesQuiet.bits12 : waitsOk laws_FnPiecesQuiet.T12.2 laws_FnPiecesQuiet.B12 = true := by kernel_rfl
def laws_FnPiecesQuiet.T16 : Bool × List (List Nat × List Nat) := (true, [([], []), ([], []), ([1], [1]), ([2], [2]), ([], []), ([4], [4]), ([5], [5]), ([0, 3, 6], [0, 3, 6]), ([7], [7]), ([8], [8]), ([8], [8]), ([8], [8]), ([9, 7, 0, 1, 2, 3, 4, 5, 6, 7, 8, 9], [9]), ([10, 12, 0, 1, 2, 3, 4, 5, 6, 7, 8, 9, 10, 12], [10]), ([11, 13, 0, 1, 2, 3, 4, 5, 6, 7, 8, 9, 10, 11, 12, 13], [11])])
def laws_FnPiecesQuiet.B16 : List Nat := [0, 0, 2, 6, 0, 16, 48, 127, 255, 511, 511, 511, 1023, 6143, 16383]
theorem laws_FnPiecesQuiet.tab16 : rtab .any (opsOf Try.f3 16) = laws_FnPiecesQuiet.T16 := by kernel_rfl
theorem laws_FnPiecesQuiet.bits16 : waitsOk laws_FnPiecesQuiet.T16.2 laws_FnPiecesQuiet.B16 = true := by kernel_rfl
def laws_FnPiecesQuiet.T20 : Bool × List (List Nat × List Nat) := (true, [([], []), ([], []), ([1], [1]), ([2], [2]), ([], []), ([4], [4]), ([5], [5]), ([0, 3, 6], [0, 3, 6]), ([7], [7])])
def laws_FnPiecesQuiet.B20 : List Nat := [0, 0, 2, 6, 0, 16, 48, 127, 255]
theorem laws_FnPiecesQuiet.tab20 : rtab .any (opsOf Try.f3 20) = laws_FnPiecesQuiet.T20 := by kernel_rfl
theorem laws_FnPiecesQuiet.bits20 : waitsOk laws_FnPiecesQuiet.T20.2 laws_FnPiecesQuiet.B20 = true := by kernel_rfl
def laws_FnPiecesQuiet.T43 : Bool × List (List Nat × List Nat) := (true, [([], []), ([0], [0]), ([1], [1]), ([1], [1]), ([2, 3, 1], [1, 2, 3]), ([4, 1], [1, 4]), ([1], [1]), ([5, 6, 1], [1, 5, 6]), ([1, 7], [1, 7]), ([8, 1], [8]), ([9], [9]), ([9], [9]), ([9], [9]), ([10, 11, 12, 9, 9], [9, 10, 11, 12]), ([9], [9]), ([9], [9]), ([9], [9]), ([14, 15, 16, 13, 9], [9, 14, 15, 16]), ([13, 17, 9], [9, 13, 17]), ([9, 18], [9, 18]), ([19, 17, 0, 1, 2, 3, 4, 5, 6, 7, 8, 9, 10, 11, 12, 13, 14, 15, 16, 17, 18, 19], [19])])
def laws_FnPiecesQuiet.B43 : List Nat := [0, 1, 3, 3, 15, 31, 3, 127, 255, 511, 1023, 1023, 1023, 8191, 1023, 1023, 1023, 131071, 262143, 524287, 1048575]
theorem laws_FnPiecesQuiet.tab43 : rtab .any (opsOf Try.f3 43) = laws_FnPiecesQuiet.T43 := by kernel_rfl
theorem laws_FnPiecesQuiet.bits43 : waitsOk laws_FnPiecesQuiet.T43.2 laws_FnPiecesQuiet.B43 = true := by kernel_rfl
theorem laws_FnPiecesQuiet.calls (k : Nat) (A0 : Option Addr) (c0 : Nat) (l0 : List Int) (A1 : Option Addr) (c1 : Nat) (l1 : List Int) (r : Bool) (w : World) (hr0 : Kd.C (Kd.int .u8) w A0 l0.length l0) (hc0 : l0.length ≤ c0) (hr1 : Kd.C (Kd.int .u8) w A1 l1.length l1) (hc1 : l1.length ≤ c1) (h : laws_FnPiecesQuiet.f k l0 l1 = some r) :
  Calls Try.prog 3 #[.slice A0 l0.length c0, .slice A1 l1.length c1] w fun e w' => e = .returned (.bool r) ∧ Below w.heap.size w w' := by
 have hu26 := Try.underlying26
 have HR0 := A_ hr0
 have HC0 := A_ hc0
 clear hr0 hc0
 have HR1 := A_ hr1
 have HC1 := A_ hc1
 clear hr1 hc1
 have HB := A_ (Below.refl w.heap.size w)
 have H : ((laws_big.f l0 l1).bind fun t650 => (if t650 = true then (some true) else ((spec_DrawAreQuietBishops.f k l0).bind fun bt651 => ((impl_AreQuietBishops.f k bt651.1 bt651.2.1 bt651.2.2.1 bt651.2.2.2).bind fun bt660 => ((spec_AreQuietBishops.f k bt651.1 bt651.2.1 bt651.2.2.1 bt651.2.2.2).bind fun bt662 => (if (bt660.2 != bt662.2) = true then (none) else (laws_FnPiecesQuiet.j0 k l1 bt651.2.2.2 bt660.1 (bt660.1 != bt662.1) bt651.1 bt651.2.1 bt651.2.2.1))))))) = some r := h
 clear h
 replace H := Option.bind_eq_some_iff.mp H
 obtain ⟨t650, A30, H⟩ := H
 replace H : (if t650 = true then (some true) else ((spec_DrawAreQuietBishops.f k l0).bind fun bt651 => ((impl_AreQuietBishops.f k bt651.1 bt651.2.1 bt651.2.2.1 bt651.2.2.2).bind fun bt660 => ((spec_AreQuietBishops.f k bt651.1 bt651.2.1 bt651.2.2.1 bt651.2.2.2).bind fun bt662 => (if (bt660.2 != bt662.2) = true then (none) else (laws_FnPiecesQuiet.j0 k l1 bt651.2.2.2 bt660.1 (bt660.1 != bt662.1) bt651.1 bt651.2.1 bt651.2.2.1)))))) = some r := H
 have A3 := A_ A30
 clear A30
 by_cases c4 : t650 = true
 ·
  subst c4
  have H1 : (some true) = some r := by rw [if_pos rfl] at H; exact H
  clear H
  have H := H1
  clear H1
  obtain rfl := Option.some.inj H
  go_enter Try.func3, Try.ntmps3
  go_wp2_with (first | (refine gc_ 8 ?_; refine goesT_ (some 50) Try.func8 #[.slice A0 l0.length c0, .slice A1 l1.length c1] ?_; (with_reducible refine (laws_big.calls _ _ l0 _ _ l1 true _ ?side1 ?side2 ?side3 ?side4 A3.out).mono ?_); (case side1 => exact tc0_ HR0.out); (case side2 => exact HC0.out); (case side3 => exact tc0_ HR1.out); (case side4 => exact HC1.out); rintro e w' ⟨rfl, ⟨nd, rfl⟩⟩; refine ⟨_, rfl, ?_⟩))
  go_ret
  exact ⟨te_, tb_⟩
 ·
  replace c4 := Bool.eq_false_iff.mpr c4
  subst c4
  have H1 : ((spec_DrawAreQuietBishops.f k l0).bind fun bt651 => ((impl_AreQuietBishops.f k bt651.1 bt651.2.1 bt651.2.2.1 bt651.2.2.2).bind fun bt660 => ((spec_AreQuietBishops.f k bt651.1 bt651.2.1 bt651.2.2.1 bt651.2.2.2).bind fun bt662 => (if (bt660.2 != bt662.2) = true then (none) else (laws_FnPiecesQuiet.j0 k l1 bt651.2.2.2 bt660.1 (bt660.1 != bt662.1) bt651.1 bt651.2.1 bt651.2.2.1))))) = some r := by rw [if_neg (show ¬ (false = true) by decide)] at H; exact H
  clear H
  have H := H1
  clear H1
  replace H := Option.bind_eq_some_iff.mp H
  obtain ⟨⟨t651, t652, t653, t656⟩, A50, H⟩ := H
  replace H : ((impl_AreQuietBishops.f k t651 t652 t653 t656).bind fun bt660 => ((spec_AreQuietBishops.f k t651 t652 t653 t656).bind fun bt662 => (if (bt660.2 != bt662.2) = true then (none) else (laws_FnPiecesQuiet.j0 k l1 t656 bt660.1 (bt660.1 != bt662.1) t651 t652 t653)))) = some r := H
  have A5 := A_ A50
  clear A50
  replace H := Option.bind_eq_some_iff.mp H
  obtain ⟨⟨t660, t661⟩, A60, H⟩ := H
  replace H : ((spec_AreQuietBishops.f k t651 t652 t653 t656).bind fun bt662 => (if (t661 != bt662.2) = true then (none) else (laws_FnPiecesQuiet.j0 k l1 t656 t660 (t660 != bt662.1) t651 t652 t653))) = some r := H
  have A6 := A_ A60
  clear A60
  replace H := Option.bind_eq_some_iff.mp H
  obtain ⟨⟨t662, t663⟩, A70, H⟩ := H
  replace H : (if (t661 != t663) = true then (none) else (laws_FnPiecesQuiet.j0 k l1 t656 t660 (t660 != t662) t651 t652 t653)) = some r := H
  have A7 := A_ A70
  clear A70
  have HC8 := A_ H
  clear H
  go_enter Try.func3, Try.ntmps3
  go_upto_region 6 with (first | (refine gc_ 8 ?_; refine goesT_ (some 50) Try.func8 #[.slice A0 l0.length c0, .slice A1 l1.length c1] ?_; (with_reducible refine (laws_big.calls _ _ l0 _ _ l1 false _ ?side1 ?side2 ?side3 ?side4 A3.out).mono ?_); (case side1 => exact tc0_ HR0.out); (case side2 => exact HC0.out); (case side3 => exact tc0_ HR1.out); (case side4 => exact HC1.out); rintro e w' ⟨rfl, ⟨nd, rfl⟩⟩; refine ⟨_, rfl, ?_⟩) | (refine gc_ 9 ?_; refine goesT_ (some 53) Try.func9 #[.slice A0 l0.length c0] ?_; (with_reducible refine (spec_DrawAreQuietBishops.calls k _ _ l0 t651 t652 t653 t656 _ ?side1 ?side2 A5.out).mono ?_); (case side1 => exact tc0_ HR0.out); (case side2 => exact HC0.out); rintro e w9 ⟨v654, v657, rfl, ho0, ho1, hb⟩; refine ⟨_, rfl, ?_⟩; have HO655 := A_ (Kd.R_lower (Kd.R_mono (ok' := fun k_ => True) ho0 (fun _ hk_ => trivial)) (below_size tb_)); have HO658 := A_ (Kd.V_lower (Kd.V_mono (ok' := fun k_ => some k_ ≠ (v654 : Value).ownBlock) ho1 (fun k_ hk_ => hk_.2)) (below_size tb_)); replace HB := A_ (below_step tb_ hb); (try clear hb); (try clear ho0); (try clear ho1)) | (refine gd_ 5 ?_; refine bx_ 5 #[.int .i64 0, .int .i64 0, .slice none 0 0] 26 ?_; intro gb659 hg w10 hbox hb; replace HO655 := A_ (Kd.R_below (tr_x HO655.out) hb); replace HO658 := A_ (Kd.V_below (Kd.V_elderB (by (with_reducible repeat (first | apply Kd.V_alloc | apply Kd.V_drewN | apply Kd.V_drew)); exact HO658.out) gb659 (Nat.le_of_eq hg.symm)) hb); have BK659 := A_ (hbox); have GW659 := A_ ((ts_ hg : w.heap.size ≤ gb659)); have GE659 := A_ ((ts_ hg : w.heap.size ≤ gb659)); replace HB := A_ (below_step tb_ hb); clear hb hbox hg; obtain ⟨hcz11_0, hcz11_1, hcz11_2, hfz11_0, hfz11_1, hfz11_2⟩ := cf3_ BK659.out; obtain ⟨Ao12, co12, eo12⟩ := Kd.R_slice HO655.out; subst eo12; obtain ⟨Ao13, co13, eo13⟩ := Kd.V_slice HO658.out; subst eo13) | (refine gc_ 10 ?_; refine goesT_ (some 59) Try.func10 #[.agg #[.int .i64 t651, .int .i64 t652, .slice Ao12 t653.length co12], .slice Ao13 t656.length co13] ?_; (with_reducible refine (impl_AreQuietBishops.calls k t651 t652 _ _ t653 _ _ t656 t660 t661 _ ?side1 ?side2 ?side3 ?side4 A6.out).mono ?_); (case side1 => refine (Kd.R_reads' (e := 3) (base := w.heap.size) (ok := fun k_ => True) (n := t653.length) (c := co12) ?_).2.2; exact (tr_ (h := by exact (Kd.R_mono (Kd.R_far (p := ⟨gb659, 2, none⟩) (Kd.R_far (p := ⟨gb659, 1, none⟩) (Kd.R_far (p := ⟨gb659, 0, none⟩) (Kd.R_types HO655.out BK659.out (by decide)) (fun _ hk => hk.2) (.int .i64 t651)) (fun _ hk => hk.2) (.int .i64 t652)) (fun _ hk => hk.2) (.slice Ao12 t653.length co12)) (fun _ h_ => h_.1))))); (case side2 => exact (Kd.R_reads' HO655.out).2.1); (case side3 => refine (Kd.V_reads' (e := 24) (base := w.heap.size) (ok := fun k_ => (some k_ ≠ (.slice Ao12 t653.length co12 : Value).ownBlock ∧ k_ ≠ gb659)) (n := t656.length) (c := co13) ?_).2.2; exact (by (with_reducible repeat (first | apply Kd.V_alloc | apply Kd.V_drewN | apply Kd.V_drew)); exact (Kd.V_mono (Kd.V_far (p := ⟨gb659, 2, none⟩) (Kd.V_far (p := ⟨gb659, 1, none⟩) (Kd.V_far (p := ⟨gb659, 0, none⟩) (Kd.V_mono HO658.out (fun k_ hk => (⟨hk, hk.2⟩ : _ ∧ k_ ≠ gb659))) (fun _ hk => hk.2) (.int .i64 t651)) (fun _ hk => hk.2) (.int .i64 t652)) (fun _ hk => hk.2) (.slice Ao12 t653.length co12)) (fun _ h_ => h_.1)))); (case side4 => exact (Kd.V_reads' HO658.out).2.1); rintro e w14 ⟨rfl, hb⟩; refine ⟨_, rfl, ?_⟩; replace HO655 := A_ (Kd.R_below (tr_ (h := by exact (Kd.R_mono (Kd.R_far (p := ⟨gb659, 2, none⟩) (Kd.R_far (p := ⟨gb659, 1, none⟩) (Kd.R_far (p := ⟨gb659, 0, none⟩) (Kd.R_types HO655.out BK659.out (by decide)) (fun _ hk => hk.2) (.int .i64 t651)) (fun _ hk => hk.2) (.int .i64 t652)) (fun _ hk => hk.2) (.slice Ao12 t653.length co12)) (fun _ h_ => h_.1)))) hb); replace HO658 := A_ (Kd.V_below (by (with_reducible repeat (first | apply Kd.V_alloc | apply Kd.V_drewN | apply Kd.V_drew)); exact (Kd.V_mono (Kd.V_far (p := ⟨gb659, 2, none⟩) (Kd.V_far (p := ⟨gb659, 1, none⟩) (Kd.V_far (p := ⟨gb659, 0, none⟩) (Kd.V_mono HO658.out (fun k_ hk => (⟨hk, hk.2⟩ : _ ∧ k_ ≠ gb659))) (fun _ hk => hk.2) (.int .i64 t651)) (fun _ hk => hk.2) (.int .i64 t652)) (fun _ hk => hk.2) (.slice Ao12 t653.length co12)) (fun _ h_ => h_.1))) hb); replace BK659 := A_ (blk_below (g := gb659) (o := .cells #[.int .i64 t651, .int .i64 t652, .slice Ao12 t653.length co12] 26 (0, 0)) (by (with_reducible repeat (first | refine blk_drewN ?_ _ | refine blk_drew ?_ | refine blk_alloc ?_ _)); refine blk_put (cs := #[.int .i64 t651, .int .i64 t652, .slice none 0 0]) ?_ 2 _ rfl; (with_reducible repeat (first | refine blk_drewN ?_ _ | refine blk_drew ?_ | refine blk_alloc ?_ _)); refine blk_put (cs := #[.int .i64 t651, .int .i64 0, .slice none 0 0]) ?_ 1 _ rfl; (with_reducible repeat (first | refine blk_drewN ?_ _ | refine blk_drew ?_ | refine blk_alloc ?_ _)); refine blk_put (cs := #[.int .i64 0, .int .i64 0, .slice none 0 0]) ?_ 0 _ rfl; (with_reducible repeat (first | refine blk_drewN ?_ _ | refine blk_drew ?_ | refine blk_alloc ?_ _)); exact BK659.out) hb); replace HB := A_ (below_step tb_ hb); (try clear hb); obtain ⟨hcz15_0, hcz15_1, hcz15_2, hfz15_0, hfz15_1, hfz15_2⟩ := cf3_ BK659.out) | (refine gc_ 11 ?_; refine goesT_ (some 65) Try.func11 #[.agg #[.int .i64 t651, .int .i64 t652, .slice Ao12 t653.length co12], .slice Ao13 t656.length co13] ?_; (with_reducible refine (spec_AreQuietBishops.calls k t651 t652 _ _ t653 _ _ t656 t662 t663 _ ?side1 ?side2 ?side3 ?side4 A7.out).mono ?_); (case side1 => exact tc0_ (Kd.R_reads' HO655.out).2.2); (case side2 => exact (Kd.R_reads' HO655.out).2.1); (case side3 => repeat (first | exact (Kd.V_reads' HO658.out).2.2 | (with_reducible refine Kd.C_alloc ?_ _) | (with_reducible refine Kd.C_drewN ?_ _) | (with_reducible refine Kd.C_drew ?_))); (case side4 => exact (Kd.V_reads' HO658.out).2.1); rintro e w16 ⟨rfl, hb⟩; refine ⟨_, rfl, ?_⟩; replace HO655 := A_ (Kd.R_below (tr_x HO655.out) hb); replace HO658 := A_ (Kd.V_below (by (with_reducible repeat (first | apply Kd.V_alloc | apply Kd.V_drewN | apply Kd.V_drew)); exact HO658.out) hb); replace BK659 := A_ (blk_below (g := gb659) (o := .cells #[.int .i64 t651, .int .i64 t652, .slice Ao12 t653.length co12] 26 (0, 0)) (tk_ BK659) hb); replace HB := A_ (below_step tb_ hb); (try clear hb)))
  (try simp only [Act.put, List.setIfInBounds_toArray, List.set_cons_zero, List.set_cons_succ])
  go_cut [75] (fun v75 wc => ∃ (kq : Nat) (x75_7 : Bool), v75 = .bool x75_7 ∧ Aside0 (laws_FnPiecesQuiet.j0 kq l1 t656 t660 x75_7 t651 t652 t653 = some r) ∧ Aside0 (kq ≤ k) ∧ Aside0 (Kd.V (Kd.slice 3 (Kd.int .i64)) 24 wc w.heap.size (fun k_ => some k_ ≠ ((.slice Ao12 t653.length co12) : Value).ownBlock ∧ k_ ≠ gb659) (.slice Ao13 t656.length co13) t656) ∧ Aside0 (Kd.R (Kd.int .i64) 3 wc w.heap.size (fun _ => True) (.slice Ao12 t653.length co12) t653) ∧ Aside0 (wc.heap[gb659]? = some (.cells #[.int .i64 t651, .int .i64 t652, (.slice Ao12 t653.length co12)] 26 (0, 0))) ∧ Aside0 (Below w.heap.size w wc))
  case first =>
   as_aux_lemma =>
    have H := HC8.out
    clear HC8
    by_cases c17 : (t661 != t663) = true
    ·
     rw [if_pos c17] at H
     exact absurd H (by simp)
    ·
     rw [if_neg c17] at H
     have c17b0 : (t661 != t663) = false := by simpa using c17
     (try (have c17b1 : decide (t661 = t663) = true := by simpa using c17))
     (try (have c17b2 : (t661 == t663) = true := by simpa using c17))
     clear c17
     (first | rw [c17b0] | rw [c17b1] | (simp only [i64_w, i32_w]; rw [c17b0]) | skip)
     have H' := A_ H
     clear H
     go_wp2
     go_meet
     case rel => exact ⟨_, ((t660 != t662)), tf_, H', ⟨by first | omega | exact Nat.le_refl _⟩, ⟨by (with_reducible repeat (first | apply Kd.V_alloc | apply Kd.V_drewN | apply Kd.V_drew)); exact HO658.out⟩, ⟨tr_x HO655.out⟩, ⟨tk_ BK659⟩, ⟨tb_⟩⟩
  case rest =>
   as_aux_lemma =>
    clear HC8
    try clear c1
    try clear p2
    try clear c3
    try clear c4
    try clear c8
    try clear c9
    try clear c10
    try clear c11
    try clear c17
    try clear c17b0
    try clear c17b1
    try clear c17b2
    try clear hcz11_0
    try clear hcz11_1
    try clear hcz11_2
    try clear hcz15_0
    try clear hcz15_1
    try clear hcz15_2
    try clear hfz11_0
    try clear hfz11_1
    try clear hfz11_2
    try clear hfz15_0
    try clear hfz15_1
    try clear hfz15_2
    obtain ⟨kq, x75_7, rfl, HA, HJ7, HO_6, HO_660002, BK659, HB⟩ := hcut
    cases kq with
    | zero => exact absurd HA.out (by simp [laws_FnPiecesQuiet.j0])
    | succ kj7 =>
     have H := HA.out
     clear HA
     simp only [laws_FnPiecesQuiet.j0] at H
     by_cases c18 : x75_7 = true
     ·
      subst c18
      have H1 : (none) = some r := by rw [if_pos rfl] at H; exact H
      clear H
      have H := H1
      clear H1
      exact absurd H (by simp)
     ·
      replace c18 := Bool.eq_false_iff.mpr c18
      subst c18
      have H1 : (if t660 = true then (laws_FnPiecesQuiet.l0 kj7 l1 t656 t656 (t656.length : Int) 0 t651 t652 t653) else (laws_FnPiecesQuiet.j3 kj7 l1)) = some r := by rw [if_neg (show ¬ (false = true) by decide)] at H; exact H
      clear H
      have H := H1
      clear H1
      have HC19 := A_ H
      clear H
      go_upto_if 76 with (fail)
      go_cut [] (fun wc => ∃ (kq : Nat), Aside0 (laws_FnPiecesQuiet.j3 kq l1 = some r) ∧ Aside0 (kq ≤ kj7) ∧ Aside0 (Kd.R (Kd.int .i64) 3 wc w.heap.size (fun _ => True) (.slice Ao12 t653.length co12) t653) ∧ Aside0 (wc.heap[gb659]? = some (.cells #[.int .i64 t651, .int .i64 t652, (.slice Ao12 t653.length co12)] 26 (0, 0))) ∧ Aside0 (Below w.heap.size w wc))
      case first =>
       as_aux_lemma =>
        have H := HC19.out
        clear HC19
        by_cases c20 : t660 = true
        ·
         subst c20
         have H1 : (laws_FnPiecesQuiet.l0 kj7 l1 t656 t656 (t656.length : Int) 0 t651 t652 t653) = some r := by rw [if_pos rfl] at H; exact H
         clear H
         have H := H1
         clear H1
         have H' := A_ H
         clear H
         go_wp2
         go_loopg [79] kj7 (fun kq v79 w' => ∃ (x79_2 : Int), v79 = .int .i64 x79_2 ∧ Aside0 (laws_FnPiecesQuiet.l0 kq l1 t656 t656 (t656.length : Int) x79_2 t651 t652 t653 = some r) ∧ Aside0 (kq ≤ kj7) ∧ Aside0 (Kd.V (Kd.slice 3 (Kd.int .i64)) 24 w' w.heap.size (fun k_ => some k_ ≠ ((.slice Ao12 t653.length co12) : Value).ownBlock ∧ k_ ≠ gb659) (.slice Ao13 t656.length co13) t656) ∧ Aside0 (Kd.V (Kd.slice 3 (Kd.int .i64)) 24 w' w.heap.size (fun k_ => some k_ ≠ ((.slice Ao12 t653.length co12) : Value).ownBlock ∧ k_ ≠ gb659) (.slice Ao13 t656.length co13) t656) ∧ Aside0 (Kd.R (Kd.int .i64) 3 w' w.heap.size (fun _ => True) (.slice Ao12 t653.length co12) t653) ∧ Aside0 (w'.heap[gb659]? = some (.cells #[.int .i64 t651, .int .i64 t652, (.slice Ao12 t653.length co12)] 26 (0, 0))) ∧ Aside0 (Below w.heap.size w w'))
         case atStart => exact ⟨(0), tf_, H', ⟨Nat.le_refl _⟩, ⟨by (with_reducible repeat (first | apply Kd.V_alloc | apply Kd.V_drewN | apply Kd.V_drew)); exact HO_6.out⟩, ⟨by (with_reducible repeat (first | apply Kd.V_alloc | apply Kd.V_drewN | apply Kd.V_drew)); exact HO_6.out⟩, ⟨tr_x HO_660002.out⟩, ⟨tk_ BK659⟩, ⟨tb_⟩⟩
         case round =>
          clear H'
          try clear c1
          try clear c2
          try clear p2
          try clear c3
          try clear c4
          try clear c8
          try clear c9
          try clear c10
          try clear c11
          try clear c17
          try clear c17b0
          try clear c17b1
          try clear c17b2
          try clear c18
          try clear c20
          try clear hcz11_0
          try clear hcz11_1
          try clear hcz11_2
          try clear hcz15_0
          try clear hcz15_1
          try clear hcz15_2
          try clear hfz11_0
          try clear hfz11_1
          try clear hfz11_2
          try clear hfz15_0
          try clear hfz15_1
          try clear hfz15_2
          try clear p2
          obtain ⟨x79_2, rfl, HA, HK2, HO_6, HO_77, HO_660002, BK659, HB⟩ := hrel
          cases gk with
          | zero => exact absurd HA.out (by simp [laws_FnPiecesQuiet.l0])
          | succ k2 =>
           have H := HA.out
           clear HA
           simp only [laws_FnPiecesQuiet.l0] at H
           by_cases c21 : x79_2 < (t656.length : Int)
           ·
            rw [if_pos c21] at H
            have c21b0 := decide_eq_true c21
            clear c21
            (first | rw [c21b0] | rw [c21b1] | (simp only [i64_w, i32_w]; rw [c21b0]) | skip)
            by_cases c22 : 0 ≤ x79_2
            ·
             rw [if_pos c22] at H
             have c22b0 := decide_eq_true c22
             clear c22
             by_cases c23 : x79_2 < (t656.length : Int)
             ·
              rw [if_pos c23] at H
              have c23b0 := decide_eq_true c23
              clear c23
              by_cases c24 : 0 < ((rd_L2 t656 x79_2).length : Int)
              ·
               rw [if_pos c24] at H
               have c24b0 := decide_eq_true c24
               have c24b1 : decide (0 < (rd_L2 t656 x79_2).length) = true := decide_eq_true (by omega)
               clear c24
               by_cases c25 : 1 < ((rd_L2 t656 x79_2).length : Int)
               ·
                rw [if_pos c25] at H
                have c25b0 := decide_eq_true c25
                have c25b1 : decide (1 < (rd_L2 t656 x79_2).length) = true := decide_eq_true (by omega)
                clear c25
                replace H := Option.bind_eq_some_iff.mp H
                obtain ⟨⟨t667, t668, t669⟩, A260, H⟩ := H
                replace H : (if x79_2 ≤ (t656.length : Int) then ((some (t656.take (x79_2 : Int).toNat : List (List Int))).bind fun y670 => (laws_FnPiecesQuiet.l1 k2 l1 t656 (rd_L2 t656 x79_2) t667 t668 t669 t656 (t656.length : Int) x79_2 y670 (y670.length : Int) 0 t651 t652 t653)) else (none)) = some r := H
                have A26 := A_ A260
                clear A260
                have c27b0 := eq_true (od_ : 0 ≤ x79_2)
                by_cases c28 : x79_2 ≤ (t656.length : Int)
                ·
                 rw [if_pos c28] at H
                 have c28b0 := eq_true c28
                 have c28b1 := decide_eq_true c28
                 clear c28
                 obtain ⟨y670, hy670⟩ : ∃ y_ : List (List Int), y_ = (t656.take (x79_2 : Int).toNat) := ⟨_, rfl⟩
                 replace H : (laws_FnPiecesQuiet.l1 k2 l1 t656 (rd_L2 t656 x79_2) t667 t668 t669 t656 (t656.length : Int) x79_2 y670 (y670.length : Int) 0 t651 t652 t653) = some r := ty_ hy670 H
                 have Ny670 := A_ hy670
                 clear hy670
                 have H' := A_ H
                 clear H
                 have p664 : 0 ≤ (x79_2 : Int) := od_
                 have q664 : x79_2 < (t656.length : Int) := od_
                 obtain ⟨ad664, A664_0, c664_0, e664, hx664_0, hl664_0, hi664_0⟩ := at_L2 (Kd.V_reads' HO_77.out).2.2 x79_2 p664 q664
                 cases e664
                 obtain ⟨ce664, hce664, hMe664, hcc664⟩ := Kd.V_get HO_77.out [] x79_2 p664 (by first | exact q664 | exact od_ | (have e_ := (Kd.V_reads' HO_77.out).1; omega))
                 obtain ⟨ua664_0, uc664_0, rfl, ul664_0, ge664_0⟩ := Kd.FK_slice_open hMe664
                 have hv664_0 := hcc664 0 _ rfl
                 rw [Nat.add_zero, show ((Kd.slice 3 (Kd.int .i64))).sz = 1 from rfl, Nat.mul_one] at hv664_0
                 replace hv664_0 := Option.some.inj (hv664_0.symm.trans hx664_0)
                 injection hv664_0 with hva_ hvn_ hvc_
                 rw [hva_] at ge664_0
                 rw [hvc_] at ul664_0
                 have HL664_0 := A_ (show Kd.V (Kd.int .i64) 3 _ w.heap.size _ _ (rd_L2 t656 x79_2) from Kd.V_mk ul664_0 ge664_0)
                 clear hva_ hvn_ hvc_ ge664_0 ul664_0
                 clear hcc664 hce664
                 have HR664_0 := A_ hi664_0
                 have HC664_0 := A_ hl664_0
                 clear hi664_0 hl664_0
                 replace p664 := eq_true p664
                 replace q664 := eq_true q664
                 try go_wp2
                 have n0_ := A_ (Kd.V_drew HO_6.out)
                 have n1_ := A_ (Kd.V_drew HO_77.out)
                 have n2_ := A_ (Kd.R_drew HO_660002.out)
                 have n3_ := A_ (Kd.V_drew HL664_0.out)
                 have n4_ := A_ (blk_drew BK659.out)
                 have n5_ := A_ (Kd.C_drew HR664_0.out)
                 have n6_ := A_ (below_drew1 HB.out)
                 clear HO_6
                 clear HO_77
                 clear HO_660002
                 clear HL664_0
                 clear BK659
                 clear HR664_0
                 clear HB
                 have HO_6 := n0_
                 have HO_77 := n1_
                 have HO_660002 := n2_
                 have HL664_0 := n3_
                 have BK659 := n4_
                 have HR664_0 := n5_
                 have HB := n6_
                 clear n0_ n1_ n2_ n3_ n4_ n5_ n6_
                 have p665 : 0 ≤ (0 : Int) := (by omega)
                 have q665 : 0 < ((rd_L2 t656 x79_2).length : Int) := od_
                 obtain ⟨ad665, e665, hx665_0⟩ := Kd.at_int (by repeat (first | (with_reducible exact HR664_0.out) | (with_reducible refine Kd.C_alloc ?_ _) | (with_reducible refine Kd.C_drewN ?_ _) | (with_reducible refine Kd.C_drew ?_) | exact HR664_0.out)) 0 p665 q665
                 cases e665
                 have qi665 : (0 < (rd_L2 t656 x79_2).length) = True := eq_true (by omega)
                 (try rw [show ((0 : Int)).toNat = 0 from rfl] at hx665_0)
                 (try rw [Addr.add_zero'] at hx665_0)
                 replace p665 := eq_true p665
                 replace q665 := eq_true q665
                 have p666 : 0 ≤ (1 : Int) := (by omega)
                 have q666 : 1 < ((rd_L2 t656 x79_2).length : Int) := od_
                 obtain ⟨ad666, e666, hx666_0⟩ := Kd.at_int (by repeat (first | (with_reducible exact HR664_0.out) | (with_reducible refine Kd.C_alloc ?_ _) | (with_reducible refine Kd.C_drewN ?_ _) | (with_reducible refine Kd.C_drew ?_) | exact HR664_0.out)) 1 p666 q666
                 obtain rfl : ad665 = ad666 := (by injection e666)
                 (try simp only [show (1 : Int).toNat = 1 from rfl, Nat.reduceMul, Nat.reduceEqDiff, Go.Addr.add, ↓reduceIte] at hx666_0)
                 have qi666 : (1 < (rd_L2 t656 x79_2).length) = True := eq_true (by omega)
                 (try rw [show ((1 : Int)).toNat = 1 from rfl] at hx666_0)
                 replace p666 := eq_true p666
                 replace q666 := eq_true q666
                 refine start_ (n := 15) (S := fun w' => w'.cell? ⟨gb659, 0, none⟩ = some (.int .i64 t651) ∧ w'.cell? ⟨gb659, 1, none⟩ = some (.int .i64 t652) ∧ w'.cell? ⟨gb659, 2, none⟩ = some (.slice Ao12 t653.length co12) ∧ w'.cell? ad665 = some (.int .i64 (rd (rd_L2 t656 x79_2) 0)) ∧ w'.cell? ⟨ad665.block, ad665.off + 1, none⟩ = some (.int .i64 (rd (rd_L2 t656 x79_2) 1))) (ds := []) (Fn.bl 15 0) (by kernel_rfl) rfl rfl ⟨(blk_cell BK659.out 0).trans rfl, (blk_cell BK659.out 1).trans rfl, (blk_cell BK659.out 2).trans rfl, hx665_0, hx666_0⟩ (fun hHeld => ?_); refine with_tabW laws_FnPiecesQuiet.tab12 laws_FnPiecesQuiet.bits12 (fun HT_ HW_ => ?_)
                 generalize wr.drew = w29 at HO_6 HO_77 HO_660002 HL664_0 BK659 HR664_0 HB hx665_0 hx666_0 hHeld ⊢
                 refine pq_ 1 (some 86) (Fn.bl 15 2) HT_.out ?_
                 refine pq_ 2 (some 87) (Fn.bl 15 6) HT_.out ?_
                 refine pq_ 4 (some 89) (Fn.bl 15 22) HT_.out ?_
                 refine pq_ 5 (some 90) (Fn.bl 15 54) HT_.out ?_
                 refine tq_ 0 (some 85) (Fn.bl 15 55) HT_.out HW_.out hHeld ?_ (hy0 := by rintro w' ⟨s0, s1, s2, s3, s4⟩; go_simp; with_reducible rfl)
                 refine tq_ 3 (some 88) (Fn.bl 15 63) HT_.out HW_.out hHeld ?_ (hy0 := by rintro w' ⟨s0, s1, s2, s3, s4⟩; go_simp; with_reducible rfl)
                 refine tq_ 6 (some 91) (Fn.bl 15 127) HT_.out HW_.out hHeld ?_ (hy0 := by rintro w' ⟨s0, s1, s2, s3, s4⟩; go_simp; with_reducible rfl)
                 refine one_ (i := 7) (N := some 92) (Fn.bl 15 255) rfl rfl (one_of HT_.out (by kernel_rfl)) (by decide) (fun K hK => ?_)
                 refine goes_ Try.func12 (by kernel_rfl) rfl #[.agg #[.int .i64 t651, .int .i64 t652, .slice Ao12 t653.length co12], .int .i64 (rd (rd_L2 t656 x79_2) 0), .int .i64 (rd (rd_L2 t656 x79_2) 1)] (by rfl) rfl rfl ta_ ?_
                 with_reducible refine (impl_DiagonalOf.calls t651 t652 _ _ t653 (rd (rd_L2 t656 x79_2) 0) (rd (rd_L2 t656 x79_2) 1) t667 t668 t669 _ ?side1 ?side2 A26.out).mono ?_
                 (case side1 => exact tc0_ (Kd.R_reads' HO_660002.out).2.2)
                 (case side2 => exact (Kd.R_reads' HO_660002.out).2.1)
                 rintro e w30 ⟨rfl, hb⟩
                 have HS3_ := (hb.cell (World.block_lt_of_cell? _ _ (hHeld.2.2.2.1))).trans (hHeld.2.2.2.1)
                 have HS4_ := (hb.cell (World.block_lt_of_cell? _ _ (hHeld.2.2.2.2))).trans (hHeld.2.2.2.2)
                 refine ⟨_, rfl, ?_⟩
                 have n0_ := A_ (Kd.V_below (by (with_reducible repeat (first | apply Kd.V_alloc | apply Kd.V_drewN | apply Kd.V_drew)); exact HO_6.out) hb)
                 have n1_ := A_ (Kd.V_below (by (with_reducible repeat (first | apply Kd.V_alloc | apply Kd.V_drewN | apply Kd.V_drew)); exact HO_77.out) hb)
                 have n2_ := A_ (Kd.R_below (tr_x HO_660002.out) hb)
                 have n3_ := A_ (Kd.V_below (by (with_reducible repeat (first | apply Kd.V_alloc | apply Kd.V_drewN | apply Kd.V_drew)); exact HL664_0.out) hb)
                 have n4_ := A_ (blk_below (g := gb659) (o := .cells #[.int .i64 t651, .int .i64 t652, .slice Ao12 t653.length co12] 26 (0, 0)) (tk_ BK659) hb)
                 have n5_ := A_ (Kd.C_below (by repeat (first | (with_reducible exact HR664_0.out) | (with_reducible refine Kd.C_alloc ?_ _) | (with_reducible refine Kd.C_drewN ?_ _) | (with_reducible refine Kd.C_drew ?_) | exact HR664_0.out)) hb)
                 have n6_ := A_ (below_step tb_ hb)
                 clear HO_6
                 clear HO_77
                 clear HO_660002
                 clear HL664_0
                 clear BK659
                 clear HR664_0
                 clear HB
                 have HO_6 := n0_
                 have HO_77 := n1_
                 have HO_660002 := n2_
                 have HL664_0 := n3_
                 have BK659 := n4_
                 have HR664_0 := n5_
                 have HB := n6_
                 clear n0_ n1_ n2_ n3_ n4_ n5_ n6_
                 (try clear hb)
                 (try clear hb2)
                 (try clear hk)
                 (try clear hi)
                 refine hK.out _ _ ⟨(blk_cell BK659.out 0).trans rfl, (blk_cell BK659.out 1).trans rfl, (blk_cell BK659.out 2).trans rfl, HS3_, HS4_⟩ (fun hHeld => ?_)
                 clear hK K
                 refine norm_ (a' := ?_) ?_ ?_
                 rotate_left
                 ·
                  show Act.put _ (some 92) _ = _
                  simp only [Act.put, List.setIfInBounds_toArray, List.set_cons_zero, List.set_cons_succ, i64_w, i32_w]
                  rfl
                 refine pq_ 8 (some 84) (Fn.bl 15 511) HT_.out ?_
                 refine pq_ 9 (some 93) (Fn.bl 15 1023) HT_.out ?_
                 refine pq_ 10 (some 94) (Fn.bl 15 2047) HT_.out ?_
                 refine pq_ 11 (some 95) (Fn.bl 15 4095) HT_.out ?_
                 refine pq_ 12 (some 13) (Fn.bl 15 8191) HT_.out ?_
                 refine pq_ 13 (some 14) (Fn.bl 15 16383) HT_.out ?_
                 refine pq_ 14 (some 15) (Fn.bl 15 32767) HT_.out ?_
                 refine done_ (done_of HT_.out (by kernel_rfl)) ?_
                 have q31 : (x79_2 : Int) ≤ ((t656.length : Int) : Int) := od_
                 obtain ⟨i031, hi031, _, hsz31, _⟩ := info_parts info24
                 have hroom31 : t656.length ≤ co13 := (Kd.V_reads' HO_6.out).2.1
                 have hC31 : Kd.F (Kd.slice 3 (Kd.int .i64)) _ _ (some ad664) t656.length t656 := (Kd.V_at (base := w.heap.size) HO_6.out).2.2
                 have hcut31 := cut_to (P := Try.prog) 27 24 .i64 Try.underlying27 hi031 (some ad664) t656.length co13 x79_2 (od_) q31 hroom31
                 have hr31 := Kd.F_take (m := (x79_2 : Int).toNat) hC31 (by omega)
                 have hy31 : y670.length = (x79_2 : Int).toNat := (by rw [Ny670.out, List.length_take]; omega)
                 rw [← Ny670.out] at hr31
                 rw [← hy31] at hcut31
                 have HO674 := A_ (show Kd.V (Kd.slice 3 (Kd.int .i64)) 24 _ w.heap.size _ (.slice (some ad664) y670.length co13) y670 from Kd.V_mk (by omega) hr31)
                 have HC674 := A_ (show y670.length ≤ co13 from by omega)
                 clear hr31 hC31 hroom31 hi031 hsz31
                 have KY31 := A_ hy31
                 clear hy31
                 replace q31 := eq_true q31
                 try go_wp2
                 go_loopg [100] k2 (fun kq v100 w' => ∃ (x100_3 : Int), v100 = .int .i64 x100_3 ∧ Aside0 (laws_FnPiecesQuiet.l1 kq l1 t656 (rd_L2 t656 x79_2) t667 t668 t669 t656 (t656.length : Int) x79_2 y670 (y670.length : Int) x100_3 t651 t652 t653 = some r) ∧ Aside0 (kq ≤ k2) ∧ Aside0 (Kd.V (Kd.slice 3 (Kd.int .i64)) 24 w' w.heap.size (fun k_ => some k_ ≠ ((.slice Ao12 t653.length co12) : Value).ownBlock ∧ k_ ≠ gb659) (.slice (some ad664) t656.length co13) t656) ∧ Aside0 (Kd.V (Kd.slice 3 (Kd.int .i64)) 24 w' w.heap.size (fun k_ => some k_ ≠ ((.slice Ao12 t653.length co12) : Value).ownBlock ∧ k_ ≠ gb659) (.slice (some ad664) t656.length co13) t656) ∧ Aside0 (Kd.V (Kd.slice 3 (Kd.int .i64)) 24 w' w.heap.size (fun k_ => some k_ ≠ ((.slice Ao12 t653.length co12) : Value).ownBlock ∧ k_ ≠ gb659) (.slice (some ad664) y670.length co13) y670) ∧ Aside0 (Kd.R (Kd.int .i64) 3 w' w.heap.size (fun _ => True) (.slice Ao12 t653.length co12) t653) ∧ Aside0 (w'.heap[gb659]? = some (.cells #[.int .i64 t651, .int .i64 t652, (.slice Ao12 t653.length co12)] 26 (0, 0))) ∧ Aside0 (Kd.C (Kd.int .i64) w' (some ad665) (rd_L2 t656 x79_2).length (rd_L2 t656 x79_2)) ∧ Aside0 (Below w.heap.size w w'))
                 case atStart => exact ⟨(0), tf_, H', ⟨Nat.le_refl _⟩, ⟨by (with_reducible repeat (first | apply Kd.V_alloc | apply Kd.V_drewN | apply Kd.V_drew)); exact HO_6.out⟩, ⟨by (with_reducible repeat (first | apply Kd.V_alloc | apply Kd.V_drewN | apply Kd.V_drew)); exact HO_77.out⟩, ⟨by (with_reducible repeat (first | apply Kd.V_alloc | apply Kd.V_drewN | apply Kd.V_drew)); exact HO674.out⟩, ⟨tr_x HO_660002.out⟩, ⟨tk_ BK659⟩, ⟨by repeat (first | (with_reducible exact HR664_0.out) | (with_reducible refine Kd.C_alloc ?_ _) | (with_reducible refine Kd.C_drewN ?_ _) | (with_reducible refine Kd.C_drew ?_) | exact HR664_0.out)⟩, ⟨tb_⟩⟩
                 case round =>
                  clear H'
                  try clear c1
                  try clear c2
                  try clear p2
                  try clear c3
                  try clear q3
                  try clear c4
                  try clear c6
                  try clear p6
                  try clear q6
                  try clear hx6
                  try clear qi6
                  try clear c8
                  try clear c9
                  try clear c10
                  try clear c11
                  try clear c12
                  try clear c17
                  try clear c17b0
                  try clear c17b1
                  try clear c17b2
                  try clear c18
                  try clear c20
                  try clear c21
                  try clear c21b0
                  try clear c22
                  try clear c22b0
                  try clear c23
                  try clear c23b0
                  try clear c24
                  try clear c24b0
                  try clear c24b1
                  try clear c25
                  try clear c25b0
                  try clear c25b1
                  try clear c27
                  try clear c27b0
                  try clear c28
                  try clear c28b0
                  try clear c28b1
                  try clear q31
                  try clear hcz11_0
                  try clear hcz11_1
                  try clear hcz11_2
                  try clear hcz15_0
                  try clear hcz15_1
                  try clear hcz15_2
                  try clear hfz11_0
                  try clear hfz11_1
                  try clear hfz11_2
                  try clear hfz15_0
                  try clear hfz15_1
                  try clear hfz15_2
                  try clear hx664_0
                  try clear hx665_0
                  try clear hx666_0
                  try clear p2
                  try clear p664
                  try clear p665
                  try clear p666
                  try clear q31
                  try clear q664
                  try clear q665
                  try clear q666
                  obtain ⟨x100_3, rfl, HA, HK3, HO_6, HO_77, HO_98, HO_660002, BK659, HR664_0, HB⟩ := hrel
                  cases gk with
                  | zero => exact absurd HA.out (by simp [laws_FnPiecesQuiet.l1])
                  | succ k3 =>
                   have H := HA.out
                   clear HA
                   simp only [laws_FnPiecesQuiet.l1] at H
                   by_cases c32 : x100_3 < (y670.length : Int)
                   ·
                    rw [if_pos c32] at H
                    have c32b0 := decide_eq_true c32
                    clear c32
                    by_cases c33 : 0 ≤ x100_3
                    ·
                     rw [if_pos c33] at H
                     have c33b0 := decide_eq_true c33
                     clear c33
                     by_cases c34 : x100_3 < (y670.length : Int)
                     ·
                      rw [if_pos c34] at H
                      have c34b0 := decide_eq_true c34
                      clear c34
                      by_cases c35 : 0 < ((rd_L2 y670 x100_3).length : Int)
                      ·
                       rw [if_pos c35] at H
                       have c35b0 := decide_eq_true c35
                       have c35b1 : decide (0 < (rd_L2 y670 x100_3).length) = true := decide_eq_true (by omega)
                       clear c35
                       by_cases c36 : 1 < ((rd_L2 y670 x100_3).length : Int)
                       ·
                        rw [if_pos c36] at H
                        have c36b0 := decide_eq_true c36
                        have c36b1 : decide (1 < (rd_L2 y670 x100_3).length) = true := decide_eq_true (by omega)
                        clear c36
                        replace H := Option.bind_eq_some_iff.mp H
                        obtain ⟨⟨t678, t679, t680⟩, A370, H⟩ := H
                        replace H : (if t669 = true then (if t680 = true then (if t667 = t678 then (none) else (if t668 = t679 then (none) else (laws_FnPiecesQuiet.l1 k3 l1 t656 (rd_L2 t656 x79_2) t667 t668 t669 t656 (t656.length : Int) x79_2 y670 (y670.length : Int) (wrap64 (x100_3 + 1)) t651 t652 t653))) else (none)) else (none)) = some r := H
                        have A37 := A_ A370
                        clear A370
                        by_cases c38 : t669 = true
                        ·
                         subst c38
                         have H1 : (if t680 = true then (if t667 = t678 then (none) else (if t668 = t679 then (none) else (laws_FnPiecesQuiet.l1 k3 l1 t656 (rd_L2 t656 x79_2) t667 t668 true t656 (t656.length : Int) x79_2 y670 (y670.length : Int) (wrap64 (x100_3 + 1)) t651 t652 t653))) else (none)) = some r := by rw [if_pos rfl] at H; exact H
                         clear H
                         have H := H1
                         clear H1
                         by_cases c39 : t680 = true
                         ·
                          subst c39
                          have H1 : (if t667 = t678 then (none) else (if t668 = t679 then (none) else (laws_FnPiecesQuiet.l1 k3 l1 t656 (rd_L2 t656 x79_2) t667 t668 true t656 (t656.length : Int) x79_2 y670 (y670.length : Int) (wrap64 (x100_3 + 1)) t651 t652 t653))) = some r := by rw [if_pos rfl] at H; exact H
                          clear H
                          have H := H1
                          clear H1
                          by_cases c40 : t667 = t678
                          ·
                           rw [if_pos c40] at H
                           exact absurd H (by simp)
                          ·
                           rw [if_neg c40] at H
                           have c40b0 : (t667 == t678) = false := beq_eq_false_iff_ne.mpr c40
                           have c40b1 : (t667 != t678) = true := bne_iff_ne.mpr c40
                           by_cases c41 : t668 = t679
                           ·
                            rw [if_pos c41] at H
                            exact absurd H (by simp)
                           ·
                            rw [if_neg c41] at H
                            have c41b0 : (t668 == t679) = false := beq_eq_false_iff_ne.mpr c41
                            have c41b1 : (t668 != t679) = true := bne_iff_ne.mpr c41
                            have H' := A_ H
                            clear H
                            have p675 : 0 ≤ (x100_3 : Int) := od_
                            have q675 : x100_3 < (y670.length : Int) := od_
                            obtain ⟨ad675, A675_0, c675_0, e675, hx675_0, hl675_0, hi675_0⟩ := at_L2 (Kd.V_reads' HO_98.out).2.2 x100_3 p675 q675
                            obtain rfl : ad664 = ad675 := (by injection e675)
                            obtain ⟨ce675, hce675, hMe675, hcc675⟩ := Kd.V_get HO_98.out [] x100_3 p675 (by first | exact q675 | exact od_ | (have e_ := (Kd.V_reads' HO_98.out).1; omega))
                            obtain ⟨ua675_0, uc675_0, rfl, ul675_0, ge675_0⟩ := Kd.FK_slice_open hMe675
                            have hv675_0 := hcc675 0 _ rfl
                            rw [Nat.add_zero, show ((Kd.slice 3 (Kd.int .i64))).sz = 1 from rfl, Nat.mul_one] at hv675_0
                            replace hv675_0 := Option.some.inj (hv675_0.symm.trans hx675_0)
                            injection hv675_0 with hva_ hvn_ hvc_
                            rw [hva_] at ge675_0
                            rw [hvc_] at ul675_0
                            have HL675_0 := A_ (show Kd.V (Kd.int .i64) 3 _ w.heap.size _ _ (rd_L2 y670 x100_3) from Kd.V_mk ul675_0 ge675_0)
                            clear hva_ hvn_ hvc_ ge675_0 ul675_0
                            clear hcc675 hce675
                            have HR675_0 := A_ hi675_0
                            have HC675_0 := A_ hl675_0
                            clear hi675_0 hl675_0
                            replace p675 := eq_true p675
                            replace q675 := eq_true q675
                            try go_wp2
                            have n0_ := A_ (Kd.V_drew HO_6.out)
                            have n1_ := A_ (Kd.V_drew HO_77.out)
                            have n2_ := A_ (Kd.V_drew HO_98.out)
                            have n3_ := A_ (Kd.R_drew HO_660002.out)
                            have n4_ := A_ (Kd.V_drew HL675_0.out)
                            have n5_ := A_ (blk_drew BK659.out)
                            have n6_ := A_ (Kd.C_drew HR664_0.out)
                            have n7_ := A_ (Kd.C_drew HR675_0.out)
                            have n8_ := A_ (below_drew1 HB.out)
                            clear HO_6
                            clear HO_77
                            clear HO_98
                            clear HO_660002
                            clear HL675_0
                            clear BK659
                            clear HR664_0
                            clear HR675_0
                            clear HB
                            have HO_6 := n0_
                            have HO_77 := n1_
                            have HO_98 := n2_
                            have HO_660002 := n3_
                            have HL675_0 := n4_
                            have BK659 := n5_
                            have HR664_0 := n6_
                            have HR675_0 := n7_
                            have HB := n8_
                            clear n0_ n1_ n2_ n3_ n4_ n5_ n6_ n7_ n8_
                            have p676 : 0 ≤ (0 : Int) := (by omega)
                            have q676 : 0 < ((rd_L2 y670 x100_3).length : Int) := od_
                            obtain ⟨ad676, e676, hx676_0⟩ := Kd.at_int (by repeat (first | (with_reducible exact HR675_0.out) | (with_reducible refine Kd.C_alloc ?_ _) | (with_reducible refine Kd.C_drewN ?_ _) | (with_reducible refine Kd.C_drew ?_) | exact HR675_0.out)) 0 p676 q676
                            cases e676
                            have qi676 : (0 < (rd_L2 y670 x100_3).length) = True := eq_true (by omega)
                            (try rw [show ((0 : Int)).toNat = 0 from rfl] at hx676_0)
                            (try rw [Addr.add_zero'] at hx676_0)
                            replace p676 := eq_true p676
                            replace q676 := eq_true q676
                            have p677 : 0 ≤ (1 : Int) := (by omega)
                            have q677 : 1 < ((rd_L2 y670 x100_3).length : Int) := od_
                            obtain ⟨ad677, e677, hx677_0⟩ := Kd.at_int (by repeat (first | (with_reducible exact HR675_0.out) | (with_reducible refine Kd.C_alloc ?_ _) | (with_reducible refine Kd.C_drewN ?_ _) | (with_reducible refine Kd.C_drew ?_) | exact HR675_0.out)) 1 p677 q677
                            obtain rfl : ad676 = ad677 := (by injection e677)
                            (try simp only [show (1 : Int).toNat = 1 from rfl, Nat.reduceMul, Nat.reduceEqDiff, Go.Addr.add, ↓reduceIte] at hx677_0)
                            have qi677 : (1 < (rd_L2 y670 x100_3).length) = True := eq_true (by omega)
                            (try rw [show ((1 : Int)).toNat = 1 from rfl] at hx677_0)
                            replace p677 := eq_true p677
                            replace q677 := eq_true q677
                            refine start_ (n := 15) (S := fun w' => w'.cell? ⟨gb659, 0, none⟩ = some (.int .i64 t651) ∧ w'.cell? ⟨gb659, 1, none⟩ = some (.int .i64 t652) ∧ w'.cell? ⟨gb659, 2, none⟩ = some (.slice Ao12 t653.length co12) ∧ w'.cell? ad676 = some (.int .i64 (rd (rd_L2 y670 x100_3) 0)) ∧ w'.cell? ⟨ad676.block, ad676.off + 1, none⟩ = some (.int .i64 (rd (rd_L2 y670 x100_3) 1))) (ds := []) (Fn.bl 15 0) (by kernel_rfl) rfl rfl ⟨(blk_cell BK659.out 0).trans rfl, (blk_cell BK659.out 1).trans rfl, (blk_cell BK659.out 2).trans rfl, hx676_0, hx677_0⟩ (fun hHeld => ?_); refine with_tabW laws_FnPiecesQuiet.tab16 laws_FnPiecesQuiet.bits16 (fun HT_ HW_ => ?_)
                            generalize wr.drew = w42 at HO_6 HO_77 HO_98 HO_660002 HL675_0 BK659 HR664_0 HR675_0 HB hx676_0 hx677_0 hHeld ⊢
                            refine pq_ 1 (some 106) (Fn.bl 15 2) HT_.out ?_
                            refine pq_ 2 (some 107) (Fn.bl 15 6) HT_.out ?_
                            refine pq_ 4 (some 109) (Fn.bl 15 22) HT_.out ?_
                            refine pq_ 5 (some 110) (Fn.bl 15 54) HT_.out ?_
                            refine tq_ 0 (some 105) (Fn.bl 15 55) HT_.out HW_.out hHeld ?_ (hy0 := by rintro w' ⟨s0, s1, s2, s3, s4⟩; go_simp; with_reducible rfl)
                            refine tq_ 3 (some 108) (Fn.bl 15 63) HT_.out HW_.out hHeld ?_ (hy0 := by rintro w' ⟨s0, s1, s2, s3, s4⟩; go_simp; with_reducible rfl)
                            refine tq_ 6 (some 111) (Fn.bl 15 127) HT_.out HW_.out hHeld ?_ (hy0 := by rintro w' ⟨s0, s1, s2, s3, s4⟩; go_simp; with_reducible rfl)
                            refine one_ (i := 7) (N := some 112) (Fn.bl 15 255) rfl rfl (one_of HT_.out (by kernel_rfl)) (by decide) (fun K hK => ?_)
                            refine goes_ Try.func12 (by kernel_rfl) rfl #[.agg #[.int .i64 t651, .int .i64 t652, .slice Ao12 t653.length co12], .int .i64 (rd (rd_L2 y670 x100_3) 0), .int .i64 (rd (rd_L2 y670 x100_3) 1)] (by rfl) rfl rfl ta_ ?_
                            with_reducible refine (impl_DiagonalOf.calls t651 t652 _ _ t653 (rd (rd_L2 y670 x100_3) 0) (rd (rd_L2 y670 x100_3) 1) t678 t679 true _ ?side1 ?side2 A37.out).mono ?_
                            (case side1 => exact tc0_ (Kd.R_reads' HO_660002.out).2.2)
                            (case side2 => exact (Kd.R_reads' HO_660002.out).2.1)
                            rintro e w43 ⟨rfl, hb⟩
                            have HS3_ := (hb.cell (World.block_lt_of_cell? _ _ (hHeld.2.2.2.1))).trans (hHeld.2.2.2.1)
                            have HS4_ := (hb.cell (World.block_lt_of_cell? _ _ (hHeld.2.2.2.2))).trans (hHeld.2.2.2.2)
                            refine ⟨_, rfl, ?_⟩
                            have n0_ := A_ (Kd.V_below (by (with_reducible repeat (first | apply Kd.V_alloc | apply Kd.V_drewN | apply Kd.V_drew)); exact HO_6.out) hb)
                            have n1_ := A_ (Kd.V_below (by (with_reducible repeat (first | apply Kd.V_alloc | apply Kd.V_drewN | apply Kd.V_drew)); exact HO_77.out) hb)
                            have n2_ := A_ (Kd.V_below (by (with_reducible repeat (first | apply Kd.V_alloc | apply Kd.V_drewN | apply Kd.V_drew)); exact HO_98.out) hb)
                            have n3_ := A_ (Kd.R_below (tr_x HO_660002.out) hb)
                            have n4_ := A_ (Kd.V_below (by (with_reducible repeat (first | apply Kd.V_alloc | apply Kd.V_drewN | apply Kd.V_drew)); exact HL675_0.out) hb)
                            have n5_ := A_ (blk_below (g := gb659) (o := .cells #[.int .i64 t651, .int .i64 t652, .slice Ao12 t653.length co12] 26 (0, 0)) (tk_ BK659) hb)
                            have n6_ := A_ (Kd.C_below (by repeat (first | (with_reducible exact HR664_0.out) | (with_reducible refine Kd.C_alloc ?_ _) | (with_reducible refine Kd.C_drewN ?_ _) | (with_reducible refine Kd.C_drew ?_) | exact HR664_0.out)) hb)
                            have n7_ := A_ (Kd.C_below (by repeat (first | (with_reducible exact HR675_0.out) | (with_reducible refine Kd.C_alloc ?_ _) | (with_reducible refine Kd.C_drewN ?_ _) | (with_reducible refine Kd.C_drew ?_) | exact HR675_0.out)) hb)
                            have n8_ := A_ (below_step tb_ hb)
                            clear HO_6
                            clear HO_77
                            clear HO_98
                            clear HO_660002
                            clear HL675_0
                            clear BK659
                            clear HR664_0
                            clear HR675_0
                            clear HB
                            have HO_6 := n0_
                            have HO_77 := n1_
                            have HO_98 := n2_
                            have HO_660002 := n3_
                            have HL675_0 := n4_
                            have BK659 := n5_
                            have HR664_0 := n6_
                            have HR675_0 := n7_
                            have HB := n8_
                            clear n0_ n1_ n2_ n3_ n4_ n5_ n6_ n7_ n8_
                            (try clear hb)
                            (try clear hb2)
                            (try clear hk)
                            (try clear hi)
                            refine hK.out _ _ ⟨(blk_cell BK659.out 0).trans rfl, (blk_cell BK659.out 1).trans rfl, (blk_cell BK659.out 2).trans rfl, HS3_, HS4_⟩ (fun hHeld => ?_)
                            clear hK K
                            refine norm_ (a' := ?_) ?_ ?_
                            rotate_left
                            ·
                             show Act.put _ (some 112) _ = _
                             simp only [Act.put, List.setIfInBounds_toArray, List.set_cons_zero, List.set_cons_succ, i64_w, i32_w]
                             rfl
                            refine pq_ 8 (some 104) (Fn.bl 15 511) HT_.out ?_
                            refine pq_ 9 (some 113) (Fn.bl 15 1023) HT_.out ?_
                            refine pq_ 10 (some 114) (Fn.bl 15 2047) HT_.out ?_
                            refine pq_ 11 (some 115) (Fn.bl 15 4095) HT_.out ?_
                            refine pq_ 12 (some 18) (Fn.bl 15 8191) HT_.out ?_
                            refine pq_ 13 (some 19) (Fn.bl 15 16383) HT_.out ?_
                            refine pq_ 14 (some 20) (Fn.bl 15 32767) HT_.out ?_
                            refine done_ (done_of HT_.out (by kernel_rfl)) ?_
                            try go_wp2
                            go_roundg k3
                            case measure => have := HJ7.out; have := HK2.out; have := HK3.out; omega
                            case rel => exact ⟨(wrap64 (x100_3 + 1)), tf_, H', ⟨by have := HJ7.out; have := HK2.out; have := HK3.out; omega⟩, ⟨by (with_reducible repeat (first | apply Kd.V_alloc | apply Kd.V_drewN | apply Kd.V_drew)); exact HO_6.out⟩, ⟨by (with_reducible repeat (first | apply Kd.V_alloc | apply Kd.V_drewN | apply Kd.V_drew)); exact HO_77.out⟩, ⟨by (with_reducible repeat (first | apply Kd.V_alloc | apply Kd.V_drewN | apply Kd.V_drew)); exact HO_98.out⟩, ⟨tr_x HO_660002.out⟩, ⟨tk_ BK659⟩, ⟨by repeat (first | (with_reducible exact HR664_0.out) | (with_reducible refine Kd.C_alloc ?_ _) | (with_reducible refine Kd.C_drewN ?_ _) | (with_reducible refine Kd.C_drew ?_) | exact HR664_0.out)⟩, ⟨tb_⟩⟩
                         ·
                          replace c39 := Bool.eq_false_iff.mpr c39
                          subst c39
                          have H1 : (none) = some r := by rw [if_neg (show ¬ (false = true) by decide)] at H; exact H
                          clear H
                          have H := H1
                          clear H1
                          exact absurd H (by simp)
                        ·
                         replace c38 := Bool.eq_false_iff.mpr c38
                         subst c38
                         have H1 : (none) = some r := by rw [if_neg (show ¬ (false = true) by decide)] at H; exact H
                         clear H
                         have H := H1
                         clear H1
                         exact absurd H (by simp)
                       ·
                        rw [if_neg c36] at H
                        exact absurd H (by simp)
                      ·
                       rw [if_neg c35] at H
                       exact absurd H (by simp)
                     ·
                      rw [if_neg c34] at H
                      exact absurd H (by simp)
                    ·
                     rw [if_neg c33] at H
                     exact absurd H (by simp)
                   ·
                    rw [if_neg c32] at H
                    have c32b0 := decide_eq_false c32
                    clear c32
                    by_cases c44 : 0 < ((rd_L2 t656 x79_2).length : Int)
                    ·
                     rw [if_pos c44] at H
                     have c44b0 := decide_eq_true c44
                     have c44b1 : decide (0 < (rd_L2 t656 x79_2).length) = true := decide_eq_true (by omega)
                     clear c44
                     by_cases c45 : 1 < ((rd_L2 t656 x79_2).length : Int)
                     ·
                      rw [if_pos c45] at H
                      have c45b0 := decide_eq_true c45
                      have c45b1 : decide (1 < (rd_L2 t656 x79_2).length) = true := decide_eq_true (by omega)
                      clear c45
                      replace H := Option.bind_eq_some_iff.mp H
                      obtain ⟨t683, A460, H⟩ := H
                      replace H : (if t683 = true then (laws_FnPiecesQuiet.l0 k3 l1 t656 t656 (t656.length : Int) (wrap64 (x79_2 + 1)) t651 t652 t653) else (none)) = some r := H
                      have A46 := A_ A460
                      clear A460
                      by_cases c47 : t683 = true
                      ·
                       subst c47
                       have H1 : (laws_FnPiecesQuiet.l0 k3 l1 t656 t656 (t656.length : Int) (wrap64 (x79_2 + 1)) t651 t652 t653) = some r := by rw [if_pos rfl] at H; exact H
                       clear H
                       have H := H1
                       clear H1
                       have H' := A_ H
                       clear H
                       try go_wp2
                       have n0_ := A_ (Kd.V_drew HO_6.out)
                       have n1_ := A_ (Kd.V_drew HO_77.out)
                       have n2_ := A_ (Kd.V_drew HO_98.out)
                       have n3_ := A_ (Kd.R_drew HO_660002.out)
                       have n4_ := A_ (blk_drew BK659.out)
                       have n5_ := A_ (Kd.C_drew HR664_0.out)
                       have n6_ := A_ (below_drew1 HB.out)
                       clear HO_6
                       clear HO_77
                       clear HO_98
                       clear HO_660002
                       clear BK659
                       clear HR664_0
                       clear HB
                       have HO_6 := n0_
                       have HO_77 := n1_
                       have HO_98 := n2_
                       have HO_660002 := n3_
                       have BK659 := n4_
                       have HR664_0 := n5_
                       have HB := n6_
                       clear n0_ n1_ n2_ n3_ n4_ n5_ n6_
                       have p681 : 0 ≤ (0 : Int) := (by omega)
                       have q681 : 0 < ((rd_L2 t656 x79_2).length : Int) := od_
                       obtain ⟨ad681, e681, hx681_0⟩ := Kd.at_int HR664_0.out 0 p681 q681
                       have hw681_0 := hx681_0
                       (try rw [show ((0 : Int)).toNat = 0 from rfl] at hw681_0)
                       (try rw [show 0 * 1 = 0 from rfl] at hw681_0)
                       (try rw [Addr.add_zero'] at hw681_0)
                       obtain rfl : ad665 = ad681 := (by injection e681)
                       have qi681 : (0 < (rd_L2 t656 x79_2).length) = True := eq_true (by omega)
                       (try rw [show ((0 : Int)).toNat = 0 from rfl] at hx681_0)
                       (try rw [Addr.add_zero'] at hx681_0)
                       (try replace hx681_0 := (HB.out.cell (World.block_lt_of_cell? w _ hx681_0)).trans hx681_0)
                       replace p681 := eq_true p681
                       replace q681 := eq_true q681
                       have p682 : 0 ≤ (1 : Int) := (by omega)
                       have q682 : 1 < ((rd_L2 t656 x79_2).length : Int) := od_
                       obtain ⟨ad682, e682, hx682_0⟩ := Kd.at_int HR664_0.out 1 p682 q682
                       have hw682_0 := hx682_0
                       (try rw [show ((1 : Int)).toNat = 1 from rfl] at hw682_0)
                       (try rw [show 1 * 1 = 1 from rfl] at hw682_0)
                       (try simp only [Nat.reduceMul, Nat.reduceEqDiff, Go.Addr.add, ↓reduceIte] at hw682_0)
                       obtain rfl : ad665 = ad682 := (by injection e682)
                       (try simp only [show (1 : Int).toNat = 1 from rfl, Nat.reduceMul, Nat.reduceEqDiff, Go.Addr.add, ↓reduceIte] at hx682_0)
                       have qi682 : (1 < (rd_L2 t656 x79_2).length) = True := eq_true (by omega)
                       (try rw [show ((1 : Int)).toNat = 1 from rfl] at hx682_0)
                       (try replace hx682_0 := (HB.out.cell (World.block_lt_of_cell? w _ hx682_0)).trans hx682_0)
                       replace p682 := eq_true p682
                       replace q682 := eq_true q682
                       refine start_ (n := 9) (S := fun w' => w'.cell? ⟨gb659, 0, none⟩ = some (.int .i64 t651) ∧ w'.cell? ⟨gb659, 1, none⟩ = some (.int .i64 t652) ∧ w'.cell? ⟨gb659, 2, none⟩ = some (.slice Ao12 t653.length co12) ∧ w'.cell? ad665 = some (.int .i64 (rd (rd_L2 t656 x79_2) 0)) ∧ w'.cell? ⟨ad665.block, ad665.off + 1, none⟩ = some (.int .i64 (rd (rd_L2 t656 x79_2) 1))) (ds := []) (Fn.bl 9 0) (by kernel_rfl) rfl rfl ⟨(blk_cell BK659.out 0).trans rfl, (blk_cell BK659.out 1).trans rfl, (blk_cell BK659.out 2).trans rfl, (by first | exact ((HB.out.cell (World.block_lt_of_cell? w _ hw681_0)).trans hw681_0) | exact hw681_0 | (obtain ⟨z1_, z2_, z3_⟩ := Kd.at_int HR664_0.out 0 (by first | exact p681 | exact of_eq_true p681) (by first | exact q681 | exact of_eq_true q681); injection z2_ with z2_; subst z2_; first | exact z3_ | (simpa [Addr.add] using z3_))), (by first | exact ((HB.out.cell (World.block_lt_of_cell? w _ hw682_0)).trans hw682_0) | exact hw682_0 | (obtain ⟨z1_, z2_, z3_⟩ := Kd.at_int HR664_0.out 1 (by first | exact p682 | exact of_eq_true p682) (by first | exact q682 | exact of_eq_true q682); injection z2_ with z2_; subst z2_; first | exact z3_ | (simpa [Addr.add] using z3_)))⟩ (fun hHeld => ?_); refine with_tabW laws_FnPiecesQuiet.tab20 laws_FnPiecesQuiet.bits20 (fun HT_ HW_ => ?_)
                       generalize wr.drew = w48 at HO_6 HO_77 HO_98 HO_660002 BK659 HR664_0 HB hx681_0 hx682_0 hHeld ⊢
                       refine pq_ 1 (some 134) (Fn.bl 9 2) HT_.out ?_
                       refine pq_ 2 (some 135) (Fn.bl 9 6) HT_.out ?_
                       refine pq_ 4 (some 137) (Fn.bl 9 22) HT_.out ?_
                       refine pq_ 5 (some 138) (Fn.bl 9 54) HT_.out ?_
                       refine tq_ 0 (some 133) (Fn.bl 9 55) HT_.out HW_.out hHeld ?_ (hy0 := by rintro w' ⟨s0, s1, s2, s3, s4⟩; go_simp; with_reducible rfl)
                       refine tq_ 3 (some 136) (Fn.bl 9 63) HT_.out HW_.out hHeld ?_ (hy0 := by rintro w' ⟨s0, s1, s2, s3, s4⟩; go_simp; with_reducible rfl)
                       refine tq_ 6 (some 139) (Fn.bl 9 127) HT_.out HW_.out hHeld ?_ (hy0 := by rintro w' ⟨s0, s1, s2, s3, s4⟩; go_simp; with_reducible rfl)
                       refine one_ (i := 7) (N := some 140) (Fn.bl 9 255) rfl rfl (one_of HT_.out (by kernel_rfl)) (by decide) (fun K hK => ?_)
                       refine goes_ Try.func13 (by kernel_rfl) rfl #[.agg #[.int .i64 t651, .int .i64 t652, .slice Ao12 t653.length co12], .int .i64 (rd (rd_L2 t656 x79_2) 0), .int .i64 (rd (rd_L2 t656 x79_2) 1)] (by rfl) rfl rfl ta_ ?_
                       with_reducible refine (laws_rOn.calls t651 t652 _ _ t653 (rd (rd_L2 t656 x79_2) 0) (rd (rd_L2 t656 x79_2) 1) true _ ?side1 ?side2 A46.out).mono ?_
                       (case side1 => exact tc0_ (Kd.R_reads' HO_660002.out).2.2)
                       (case side2 => exact (Kd.R_reads' HO_660002.out).2.1)
                       rintro e w49 ⟨rfl, hb⟩
                       refine ⟨_, rfl, ?_⟩
                       have n0_ := A_ (Kd.V_below (by (with_reducible repeat (first | apply Kd.V_alloc | apply Kd.V_drewN | apply Kd.V_drew)); exact HO_6.out) hb)
                       have n1_ := A_ (Kd.V_below (by (with_reducible repeat (first | apply Kd.V_alloc | apply Kd.V_drewN | apply Kd.V_drew)); exact HO_77.out) hb)
                       have n2_ := A_ (Kd.V_below (by (with_reducible repeat (first | apply Kd.V_alloc | apply Kd.V_drewN | apply Kd.V_drew)); exact HO_98.out) hb)
                       have n3_ := A_ (Kd.R_below (tr_x HO_660002.out) hb)
                       have n4_ := A_ (blk_below (g := gb659) (o := .cells #[.int .i64 t651, .int .i64 t652, .slice Ao12 t653.length co12] 26 (0, 0)) (tk_ BK659) hb)
                       have n5_ := A_ (Kd.C_below (by repeat (first | (with_reducible exact HR664_0.out) | (with_reducible refine Kd.C_alloc ?_ _) | (with_reducible refine Kd.C_drewN ?_ _) | (with_reducible refine Kd.C_drew ?_) | exact HR664_0.out)) hb)
                       have n6_ := A_ (below_step tb_ hb)
                       clear HO_6
                       clear HO_77
                       clear HO_98
                       clear HO_660002
                       clear BK659
                       clear HR664_0
                       clear HB
                       have HO_6 := n0_
                       have HO_77 := n1_
                       have HO_98 := n2_
                       have HO_660002 := n3_
                       have BK659 := n4_
                       have HR664_0 := n5_
                       have HB := n6_
                       clear n0_ n1_ n2_ n3_ n4_ n5_ n6_
                       (try clear hb)
                       (try clear hb2)
                       (try clear hk)
                       (try clear hi)
                       refine hK.out _ _ ⟨(blk_cell BK659.out 0).trans rfl, (blk_cell BK659.out 1).trans rfl, (blk_cell BK659.out 2).trans rfl, (by first | exact ((HB.out.cell (World.block_lt_of_cell? w _ hw681_0)).trans hw681_0) | exact hw681_0 | (obtain ⟨z1_, z2_, z3_⟩ := Kd.at_int HR664_0.out 0 (by first | exact p681 | exact of_eq_true p681) (by first | exact q681 | exact of_eq_true q681); injection z2_ with z2_; subst z2_; first | exact z3_ | (simpa [Addr.add] using z3_))), (by first | exact ((HB.out.cell (World.block_lt_of_cell? w _ hw682_0)).trans hw682_0) | exact hw682_0 | (obtain ⟨z1_, z2_, z3_⟩ := Kd.at_int HR664_0.out 1 (by first | exact p682 | exact of_eq_true p682) (by first | exact q682 | exact of_eq_true q682); injection z2_ with z2_; subst z2_; first | exact z3_ | (simpa [Addr.add] using z3_)))⟩ (fun hHeld => ?_)
                       clear hK K
                       refine norm_ (a' := ?_) ?_ ?_
                       rotate_left
                       ·
                        show Act.put _ (some 140) _ = _
                        simp only [Act.put, List.setIfInBounds_toArray, List.set_cons_zero, List.set_cons_succ, i64_w, i32_w]
                        rfl
                       refine pq_ 8 (some 141) (Fn.bl 9 511) HT_.out ?_
                       refine done_ (done_of HT_.out (by kernel_rfl)) ?_
                       try go_wp2
                       go_roundg k3
                       case measure => have := HJ7.out; have := HK2.out; have := HK3.out; omega
                       case rel => exact ⟨(wrap64 (x79_2 + 1)), tf_, H', ⟨by have := HJ7.out; have := HK2.out; have := HK3.out; omega⟩, ⟨by (with_reducible repeat (first | apply Kd.V_alloc | apply Kd.V_drewN | apply Kd.V_drew)); exact HO_6.out⟩, ⟨by (with_reducible repeat (first | apply Kd.V_alloc | apply Kd.V_drewN | apply Kd.V_drew)); exact HO_77.out⟩, ⟨tr_x HO_660002.out⟩, ⟨tk_ BK659⟩, ⟨tb_⟩⟩
                      ·
                       replace c47 := Bool.eq_false_iff.mpr c47
                       subst c47
                       have H1 : (none) = some r := by rw [if_neg (show ¬ (false = true) by decide)] at H; exact H
                       clear H
                       have H := H1
                       clear H1
                       exact absurd H (by simp)
                     ·
                      rw [if_neg c45] at H
                      exact absurd H (by simp)
                    ·
                     rw [if_neg c44] at H
                     exact absurd H (by simp)
                ·
                 rw [if_neg c28] at H
                 exact absurd H (by simp)
               ·
                rw [if_neg c25] at H
                exact absurd H (by simp)
              ·
               rw [if_neg c24] at H
               exact absurd H (by simp)
             ·
              rw [if_neg c23] at H
              exact absurd H (by simp)
            ·
             rw [if_neg c22] at H
             exact absurd H (by simp)
           ·
            rw [if_neg c21] at H
            have c21b0 := decide_eq_false c21
            clear c21
            (first | rw [c21b0] | rw [c21b1] | (simp only [i64_w, i32_w]; rw [c21b0]) | skip)
            have H' := A_ H
            clear H
            go_wp2
            go_meet
            case rel => exact ⟨_, H', ⟨by have := HJ7.out; have := HK2.out; first | omega | exact Nat.le_refl _⟩, ⟨tr_x HO_660002.out⟩, ⟨tk_ BK659⟩, ⟨tb_⟩⟩
        ·
         replace c20 := Bool.eq_false_iff.mpr c20
         subst c20
         have H1 : (laws_FnPiecesQuiet.j3 kj7 l1) = some r := by rw [if_neg (show ¬ (false = true) by decide)] at H; exact H
         clear H
         have H := H1
         clear H1
         have H' := A_ H
         clear H
         go_wp2
         go_meet
         case rel => exact ⟨_, H', ⟨by have := HJ7.out; first | omega | exact Nat.le_refl _⟩, ⟨tr_x HO_660002.out⟩, ⟨tk_ BK659⟩, ⟨tb_⟩⟩
      case rest =>
       as_aux_lemma =>
        clear HC19
        try clear c1
        try clear c2
        try clear p2
        try clear c3
        try clear q3
        try clear c4
        try clear c6
        try clear p6
        try clear q6
        try clear hx6
        try clear qi6
        try clear c8
        try clear c9
        try clear c10
        try clear c11
        try clear c12
        try clear c13
        try clear c17
        try clear c17b0
        try clear c17b1
        try clear c17b2
        try clear c18
        try clear c20
        try clear c21
        try clear c21b0
        try clear c22
        try clear c22b0
        try clear c23
        try clear c23b0
        try clear c24
        try clear c24b0
        try clear c24b1
        try clear c25
        try clear c25b0
        try clear c25b1
        try clear c27
        try clear c27b0
        try clear c28
        try clear c28b0
        try clear c28b1
        try clear q31
        try clear c32
        try clear c32b0
        try clear c33
        try clear c33b0
        try clear c34
        try clear c34b0
        try clear c35
        try clear c35b0
        try clear c35b1
        try clear c36
        try clear c36b0
        try clear c36b1
        try clear c38
        try clear c39
        try clear c40
        try clear c40b0
        try clear c40b1
        try clear c41
        try clear c41b0
        try clear c41b1
        try clear c44
        try clear c44b0
        try clear c44b1
        try clear c45
        try clear c45b0
        try clear c45b1
        try clear c47
        try clear hcz11_0
        try clear hcz11_1
        try clear hcz11_2
        try clear hcz15_0
        try clear hcz15_1
        try clear hcz15_2
        try clear hfz11_0
        try clear hfz11_1
        try clear hfz11_2
        try clear hfz15_0
        try clear hfz15_1
        try clear hfz15_2
        try clear hx664_0
        try clear hx665_0
        try clear hx666_0
        try clear hx675_0
        try clear hx676_0
        try clear hx677_0
        try clear hx681_0
        try clear hx682_0
        try clear p2
        try clear p664
        try clear p665
        try clear p666
        try clear p675
        try clear p676
        try clear p677
        try clear p681
        try clear p682
        try clear q31
        try clear q664
        try clear q665
        try clear q666
        try clear q675
        try clear q676
        try clear q677
        try clear q681
        try clear q682
        obtain ⟨kq, HA, HJ18, HO_660002, BK659, HB⟩ := hcut
        cases kq with
        | zero => exact absurd HA.out (by simp [laws_FnPiecesQuiet.j3])
        | succ kj18 =>
         have H := HA.out
         clear HA
         simp only [laws_FnPiecesQuiet.j3] at H
         replace H := Option.bind_eq_some_iff.mp H
         obtain ⟨⟨t684, t685, t686, t689⟩, A500, H⟩ := H
         replace H : ((impl_AreQuietKings.f kj18 t684 t685 t686 t689).bind fun bt693 => ((spec_AreQuietKings.f kj18 t684 t685 t686 t689).bind fun bt695 => (if (bt693.2 != bt695.2) = true then (none) else (laws_FnPiecesQuiet.j4 kj18 l1 (bt693.1 != bt695.1))))) = some r := H
         have A50 := A_ A500
         clear A500
         replace H := Option.bind_eq_some_iff.mp H
         obtain ⟨⟨t693, t694⟩, A510, H⟩ := H
         replace H : ((spec_AreQuietKings.f kj18 t684 t685 t686 t689).bind fun bt695 => (if (t694 != bt695.2) = true then (none) else (laws_FnPiecesQuiet.j4 kj18 l1 (t693 != bt695.1)))) = some r := H
         have A51 := A_ A510
         clear A510
         replace H := Option.bind_eq_some_iff.mp H
         obtain ⟨⟨t695, t696⟩, A520, H⟩ := H
         replace H : (if (t694 != t696) = true then (none) else (laws_FnPiecesQuiet.j4 kj18 l1 (t693 != t695))) = some r := H
         have A52 := A_ A520
         clear A520
         have HC53 := A_ H
         clear H
         go_upto_region 26 with (first | (refine gc_ 14 ?_; refine goesT_ (some 145) Try.func14 #[.slice A1 l1.length c1] ?_; (with_reducible refine (spec_DrawAreQuietKings.calls kj18 _ _ l1 t684 t685 t686 t689 _ ?side1 ?side2 A50.out).mono ?_); (case side1 => exact tc_ HR1.out); (case side2 => exact HC1.out); rintro e w54 ⟨v687, v690, rfl, ho0, ho1, hb⟩; refine ⟨_, rfl, ?_⟩; have HO688 := A_ (Kd.R_lower (Kd.R_new' (Kd.R_mono (ok' := fun k_ => True) ho0 (fun _ hk_ => trivial)) (Kd.R_lt (tr_x HO_660002.out))) (below_size tb_)); have HO691 := A_ (Kd.V_lower (Kd.V_mono (ok' := fun k_ => some k_ ≠ (v687 : Value).ownBlock ∧ some k_ ≠ (.slice Ao12 t653.length co12 : Value).ownBlock ∧ k_ ≠ gb659) ho1 (fun k_ hk_ => ⟨hk_.2, (Kd.fresh' (Kd.R_lt (tr_x HO_660002.out)) k_ hk_.1), (Kd.freshB (g := gb659) (o := .cells #[.int .i64 t651, .int .i64 t652, .slice Ao12 t653.length co12] 26 (0, 0)) (tk_ BK659) k_ hk_.1)⟩)) (below_size tb_)); replace HO_660002 := A_ (Kd.R_elder' (tr_x HO_660002.out) (Kd.R_base ho0) hb); replace BK659 := A_ (blk_below (g := gb659) (o := .cells #[.int .i64 t651, .int .i64 t652, .slice Ao12 t653.length co12] 26 (0, 0)) (tk_ BK659) hb); replace HB := A_ (below_step tb_ hb); (try clear hb); (try clear ho0); (try clear ho1)) | (refine gd_ 21 ?_; refine bx_ 21 #[.int .i64 0, .int .i64 0, .slice none 0 0] 26 ?_; intro gb692 hg w55 hbox hb; replace HO_660002 := A_ (Kd.R_below (tr_x HO_660002.out) hb); replace HO688 := A_ (Kd.R_below (tr_x HO688.out) hb); replace HO691 := A_ (Kd.V_below (Kd.V_elderB (by (with_reducible repeat (first | apply Kd.V_alloc | apply Kd.V_drewN | apply Kd.V_drew)); exact HO691.out) gb692 (Nat.le_of_eq hg.symm)) hb); have BK692 := A_ (hbox); have GW692 := A_ ((ts_ hg : w.heap.size ≤ gb692)); have GE692 := A_ ((ts_ hg : w.heap.size ≤ gb692)); replace HB := A_ (below_step tb_ hb); have NB659_692 := A_ ((by rw [hg]; exact Nat.ne_of_lt (blk_lt (g := gb659) (o := .cells #[.int .i64 t651, .int .i64 t652, .slice Ao12 t653.length co12] 26 (0, 0)) (tk_ BK659)) : gb659 ≠ gb692)); have NB692_659 := A_ ((by rw [hg]; exact Nat.ne_of_gt (blk_lt (g := gb659) (o := .cells #[.int .i64 t651, .int .i64 t652, .slice Ao12 t653.length co12] 26 (0, 0)) (tk_ BK659)) : gb692 ≠ gb659)); replace BK659 := A_ (blk_below (g := gb659) (o := .cells #[.int .i64 t651, .int .i64 t652, .slice Ao12 t653.length co12] 26 (0, 0)) (tk_ BK659) hb); clear hb hbox hg; have hnb56 := NB692_659.out; have hnc56 := NB659_692.out; obtain ⟨hcz57_0, hcz57_1, hcz57_2, hfz57_0, hfz57_1, hfz57_2⟩ := cf3_ BK692.out; obtain ⟨Ao58, co58, eo58⟩ := Kd.R_slice HO688.out; subst eo58; obtain ⟨Ao59, co59, eo59⟩ := Kd.V_slice HO691.out; subst eo59) | (refine gc_ 15 ?_; refine goesT_ (some 151) Try.func15 #[.agg #[.int .i64 t684, .int .i64 t685, .slice Ao58 t686.length co58], .slice Ao59 t689.length co59] ?_; (with_reducible refine (impl_AreQuietKings.calls kj18 t684 t685 _ _ t686 _ _ t689 t693 t694 _ ?side1 ?side2 ?side3 ?side4 A51.out).mono ?_); (case side1 => refine (Kd.R_reads' (e := 3) (base := w.heap.size) (ok := fun k_ => (True ∧ some k_ ≠ (.slice Ao12 t653.length co12 : Value).ownBlock)) (n := t686.length) (c := co58) ?_).2.2; exact (tr_ (h := by exact (Kd.R_mono (Kd.R_far (p := ⟨gb692, 2, none⟩) (Kd.R_far (p := ⟨gb692, 1, none⟩) (Kd.R_far (p := ⟨gb692, 0, none⟩) (Kd.R_types HO688.out BK692.out (by decide)) (fun _ hk => hk.2) (.int .i64 t684)) (fun _ hk => hk.2) (.int .i64 t685)) (fun _ hk => hk.2) (.slice Ao58 t686.length co58)) (fun _ h_ => h_.1))))); (case side2 => exact (Kd.R_reads' HO688.out).2.1); (case side3 => refine (Kd.V_reads' (e := 24) (base := w.heap.size) (ok := fun k_ => ((some k_ ≠ (.slice Ao58 t686.length co58 : Value).ownBlock ∧ (some k_ ≠ (.slice Ao12 t653.length co12 : Value).ownBlock ∧ k_ ≠ gb659)) ∧ k_ ≠ gb692)) (n := t689.length) (c := co59) ?_).2.2; exact (by (with_reducible repeat (first | apply Kd.V_alloc | apply Kd.V_drewN | apply Kd.V_drew)); exact (Kd.V_mono (Kd.V_far (p := ⟨gb692, 2, none⟩) (Kd.V_far (p := ⟨gb692, 1, none⟩) (Kd.V_far (p := ⟨gb692, 0, none⟩) (Kd.V_mono HO691.out (fun k_ hk => (⟨hk, hk.2⟩ : _ ∧ k_ ≠ gb692))) (fun _ hk => hk.2) (.int .i64 t684)) (fun _ hk => hk.2) (.int .i64 t685)) (fun _ hk => hk.2) (.slice Ao58 t686.length co58)) (fun _ h_ => h_.1)))); (case side4 => exact (Kd.V_reads' HO691.out).2.1); rintro e w60 ⟨rfl, hb⟩; refine ⟨_, rfl, ?_⟩; replace HO_660002 := A_ (Kd.R_below (tr_ (h := by exact (Kd.R_mono (Kd.R_far (p := ⟨gb692, 2, none⟩) (Kd.R_far (p := ⟨gb692, 1, none⟩) (Kd.R_far (p := ⟨gb692, 0, none⟩) (Kd.R_types HO_660002.out BK692.out (by decide)) (fun _ hk => hk.2) (.int .i64 t684)) (fun _ hk => hk.2) (.int .i64 t685)) (fun _ hk => hk.2) (.slice Ao58 t686.length co58)) (fun _ h_ => h_.1)))) hb); replace HO688 := A_ (Kd.R_below (tr_ (h := by exact (Kd.R_mono (Kd.R_far (p := ⟨gb692, 2, none⟩) (Kd.R_far (p := ⟨gb692, 1, none⟩) (Kd.R_far (p := ⟨gb692, 0, none⟩) (Kd.R_types HO688.out BK692.out (by decide)) (fun _ hk => hk.2) (.int .i64 t684)) (fun _ hk => hk.2) (.int .i64 t685)) (fun _ hk => hk.2) (.slice Ao58 t686.length co58)) (fun _ h_ => h_.1)))) hb); replace HO691 := A_ (Kd.V_below (by (with_reducible repeat (first | apply Kd.V_alloc | apply Kd.V_drewN | apply Kd.V_drew)); exact (Kd.V_mono (Kd.V_far (p := ⟨gb692, 2, none⟩) (Kd.V_far (p := ⟨gb692, 1, none⟩) (Kd.V_far (p := ⟨gb692, 0, none⟩) (Kd.V_mono HO691.out (fun k_ hk => (⟨hk, hk.2⟩ : _ ∧ k_ ≠ gb692))) (fun _ hk => hk.2) (.int .i64 t684)) (fun _ hk => hk.2) (.int .i64 t685)) (fun _ hk => hk.2) (.slice Ao58 t686.length co58)) (fun _ h_ => h_.1))) hb); replace BK659 := A_ (blk_below (g := gb659) (o := .cells #[.int .i64 t651, .int .i64 t652, .slice Ao12 t653.length co12] 26 (0, 0)) (tk_ BK659) hb); replace BK692 := A_ (blk_below (g := gb692) (o := .cells #[.int .i64 t684, .int .i64 t685, .slice Ao58 t686.length co58] 26 (0, 0)) (by (with_reducible repeat (first | refine blk_drewN ?_ _ | refine blk_drew ?_ | refine blk_alloc ?_ _)); refine blk_put (cs := #[.int .i64 t684, .int .i64 t685, .slice none 0 0]) ?_ 2 _ rfl; (with_reducible repeat (first | refine blk_drewN ?_ _ | refine blk_drew ?_ | refine blk_alloc ?_ _)); refine blk_put (cs := #[.int .i64 t684, .int .i64 0, .slice none 0 0]) ?_ 1 _ rfl; (with_reducible repeat (first | refine blk_drewN ?_ _ | refine blk_drew ?_ | refine blk_alloc ?_ _)); refine blk_put (cs := #[.int .i64 0, .int .i64 0, .slice none 0 0]) ?_ 0 _ rfl; (with_reducible repeat (first | refine blk_drewN ?_ _ | refine blk_drew ?_ | refine blk_alloc ?_ _)); exact BK692.out) hb); replace HB := A_ (below_step tb_ hb); (try clear hb); obtain ⟨hcz61_0, hcz61_1, hcz61_2, hfz61_0, hfz61_1, hfz61_2⟩ := cf3_ BK692.out) | (refine gc_ 16 ?_; refine goesT_ (some 157) Try.func16 #[.agg #[.int .i64 t684, .int .i64 t685, .slice Ao58 t686.length co58], .slice Ao59 t689.length co59] ?_; (with_reducible refine (spec_AreQuietKings.calls kj18 t684 t685 _ _ t686 _ _ t689 t695 t696 _ ?side1 ?side2 ?side3 ?side4 A52.out).mono ?_); (case side1 => exact tc0_ (Kd.R_reads' HO688.out).2.2); (case side2 => exact (Kd.R_reads' HO688.out).2.1); (case side3 => repeat (first | exact (Kd.V_reads' HO691.out).2.2 | (with_reducible refine Kd.C_alloc ?_ _) | (with_reducible refine Kd.C_drewN ?_ _) | (with_reducible refine Kd.C_drew ?_))); (case side4 => exact (Kd.V_reads' HO691.out).2.1); rintro e w62 ⟨rfl, hb⟩; refine ⟨_, rfl, ?_⟩; replace HO_660002 := A_ (Kd.R_below (tr_x HO_660002.out) hb); replace HO688 := A_ (Kd.R_below (tr_x HO688.out) hb); replace HO691 := A_ (Kd.V_below (by (with_reducible repeat (first | apply Kd.V_alloc | apply Kd.V_drewN | apply Kd.V_drew)); exact HO691.out) hb); replace BK659 := A_ (blk_below (g := gb659) (o := .cells #[.int .i64 t651, .int .i64 t652, .slice Ao12 t653.length co12] 26 (0, 0)) (tk_ BK659) hb); replace BK692 := A_ (blk_below (g := gb692) (o := .cells #[.int .i64 t684, .int .i64 t685, .slice Ao58 t686.length co58] 26 (0, 0)) (tk_ BK692) hb); replace HB := A_ (below_step tb_ hb); (try clear hb)))
         (try simp only [Act.put, List.setIfInBounds_toArray, List.set_cons_zero, List.set_cons_succ])
         go_cut [167] (fun v167 wc => ∃ (kq : Nat) (x167_52 : Bool), v167 = .bool x167_52 ∧ Aside0 (laws_FnPiecesQuiet.j4 kq l1 x167_52 = some r) ∧ Aside0 (kq ≤ kj18) ∧ Aside0 (Kd.R (Kd.int .i64) 3 wc w.heap.size (fun k_ => some k_ ≠ ((.slice Ao58 t686.length co58) : Value).ownBlock) (.slice Ao12 t653.length co12) t653) ∧ Aside0 (Kd.R (Kd.int .i64) 3 wc w.heap.size (fun k_ => some k_ ≠ ((.slice Ao12 t653.length co12) : Value).ownBlock) (.slice Ao58 t686.length co58) t686) ∧ Aside0 (wc.heap[gb659]? = some (.cells #[.int .i64 t651, .int .i64 t652, (.slice Ao12 t653.length co12)] 26 (0, 0))) ∧ Aside0 (wc.heap[gb692]? = some (.cells #[.int .i64 t684, .int .i64 t685, (.slice Ao58 t686.length co58)] 26 (0, 0))) ∧ Aside0 (Below w.heap.size w wc))
         case first =>
          as_aux_lemma =>
           have H := HC53.out
           clear HC53
           by_cases c63 : (t694 != t696) = true
           ·
            rw [if_pos c63] at H
            exact absurd H (by simp)
           ·
            rw [if_neg c63] at H
            have c63b0 : (t694 != t696) = false := by simpa using c63
            (try (have c63b1 : decide (t694 = t696) = true := by simpa using c63))
            (try (have c63b2 : (t694 == t696) = true := by simpa using c63))
            clear c63
            (first | rw [c63b0] | rw [c63b1] | (simp only [i64_w, i32_w]; rw [c63b0]) | skip)
            have H' := A_ H
            clear H
            go_wp2
            go_meet
            case rel => exact ⟨_, ((t693 != t695)), tf_, H', ⟨by have := HJ7.out; have := HJ18.out; first | omega | exact Nat.le_refl _⟩, ⟨by (with_reducible repeat (first | apply Kd.R_alloc | apply Kd.R_drewN | apply Kd.R_drew)); exact Kd.R_mono HO_660002.out (fun _ hk => hk.2)⟩, ⟨by (with_reducible repeat (first | apply Kd.R_alloc | apply Kd.R_drewN | apply Kd.R_drew)); exact Kd.R_mono HO688.out (fun _ hk => hk.2)⟩, ⟨tk_ BK659⟩, ⟨tk_ BK692⟩, ⟨tb_⟩⟩
         case rest =>
          as_aux_lemma =>
           clear HC53
           try clear c1
           try clear c2
           try clear p2
           try clear c3
           try clear q3
           try clear c4
           try clear c5
           try clear c6
           try clear p6
           try clear q6
           try clear hx6
           try clear qi6
           try clear c8
           try clear c9
           try clear c10
           try clear c11
           try clear c12
           try clear c13
           try clear c14
           try clear c15
           try clear c16
           try clear c17
           try clear c17b0
           try clear c17b1
           try clear c17b2
           try clear c18
           try clear c20
           try clear c21
           try clear c21b0
           try clear c22
           try clear c22b0
           try clear c23
           try clear c23b0
           try clear c24
           try clear c24b0
           try clear c24b1
           try clear c25
           try clear c25b0
           try clear c25b1
           try clear c27
           try clear c27b0
           try clear c28
           try clear c28b0
           try clear c28b1
           try clear q31
           try clear c32
           try clear c32b0
           try clear c33
           try clear c33b0
           try clear c34
           try clear c34b0
           try clear c35
           try clear c35b0
           try clear c35b1
           try clear c36
           try clear c36b0
           try clear c36b1
           try clear c38
           try clear c39
           try clear c40
           try clear c40b0
           try clear c40b1
           try clear c41
           try clear c41b0
           try clear c41b1
           try clear c44
           try clear c44b0
           try clear c44b1
           try clear c45
           try clear c45b0
           try clear c45b1
           try clear c47
           try clear c56
           try clear c63
           try clear c63b0
           try clear c63b1
           try clear c63b2
           try clear hcz11_0
           try clear hcz11_1
           try clear hcz11_2
           try clear hcz15_0
           try clear hcz15_1
           try clear hcz15_2
           try clear hcz57_0
           try clear hcz57_1
           try clear hcz57_2
           try clear hcz61_0
           try clear hcz61_1
           try clear hcz61_2
           try clear hfz11_0
           try clear hfz11_1
           try clear hfz11_2
           try clear hfz15_0
           try clear hfz15_1
           try clear hfz15_2
           try clear hfz57_0
           try clear hfz57_1
           try clear hfz57_2
           try clear hfz61_0
           try clear hfz61_1
           try clear hfz61_2
           try clear hx664_0
           try clear hx665_0
           try clear hx666_0
           try clear hx675_0
           try clear hx676_0
           try clear hx677_0
           try clear hx681_0
           try clear hx682_0
           try clear p2
           try clear p6
           try clear p664
           try clear p665
           try clear p666
           try clear p675
           try clear p676
           try clear p677
           try clear p681
           try clear p682
           try clear q3
           try clear q31
           try clear q6
           try clear q664
           try clear q665
           try clear q666
           try clear q675
           try clear q676
           try clear q677
           try clear q681
           try clear q682
           obtain ⟨kq, x167_52, rfl, HA, HJ52, HO_660002, HO_693002, BK659, BK692, HB⟩ := hcut
           cases kq with
           | zero => exact absurd HA.out (by simp [laws_FnPiecesQuiet.j4])
           | succ kj52 =>
            have H := HA.out
            clear HA
            simp only [laws_FnPiecesQuiet.j4] at H
            by_cases c64 : x167_52 = true
            ·
             subst c64
             have H1 : (none) = some r := by rw [if_pos rfl] at H; exact H
             clear H
             have H := H1
             clear H1
             exact absurd H (by simp)
            ·
             replace c64 := Bool.eq_false_iff.mpr c64
             subst c64
             have H1 : ((spec_DrawDiagonalOf.f kj52 l1).bind fun bt697 => ((impl_DiagonalOf.f bt697.1 bt697.2.1 bt697.2.2.1 bt697.2.2.2.1 bt697.2.2.2.2).bind fun bt705 => ((spec_DiagonalOf.f kj52 bt697.1 bt697.2.1 bt697.2.2.1 bt697.2.2.2.1 bt697.2.2.2.2).bind fun bt708 => (if (bt705.2.2 != bt708.2.2) = true then (none) else (if bt705.1 = bt708.1 then (laws_FnPiecesQuiet.j5 kj52 l1 bt697.2.2.2.1 bt697.2.2.2.2 bt705.1 bt705.2.1 bt705.2.2 (bt705.2.1 != bt708.2.1) bt697.1 bt697.2.1 bt697.2.2.1) else (none)))))) = some r := by rw [if_neg (show ¬ (false = true) by decide)] at H; exact H
             clear H
             have H := H1
             clear H1
             replace H := Option.bind_eq_some_iff.mp H
             obtain ⟨⟨t697, t698, t699, t702, t703⟩, A650, H⟩ := H
             replace H : ((impl_DiagonalOf.f t697 t698 t699 t702 t703).bind fun bt705 => ((spec_DiagonalOf.f kj52 t697 t698 t699 t702 t703).bind fun bt708 => (if (bt705.2.2 != bt708.2.2) = true then (none) else (if bt705.1 = bt708.1 then (laws_FnPiecesQuiet.j5 kj52 l1 t702 t703 bt705.1 bt705.2.1 bt705.2.2 (bt705.2.1 != bt708.2.1) t697 t698 t699) else (none))))) = some r := H
             have A65 := A_ A650
             clear A650
             replace H := Option.bind_eq_some_iff.mp H
             obtain ⟨⟨t705, t706, t707⟩, A660, H⟩ := H
             replace H : ((spec_DiagonalOf.f kj52 t697 t698 t699 t702 t703).bind fun bt708 => (if (t707 != bt708.2.2) = true then (none) else (if t705 = bt708.1 then (laws_FnPiecesQuiet.j5 kj52 l1 t702 t703 t705 t706 t707 (t706 != bt708.2.1) t697 t698 t699) else (none)))) = some r := H
             have A66 := A_ A660
             clear A660
             replace H := Option.bind_eq_some_iff.mp H
             obtain ⟨⟨t708, t709, t710⟩, A670, H⟩ := H
             replace H : (if (t707 != t710) = true then (none) else (if t705 = t708 then (laws_FnPiecesQuiet.j5 kj52 l1 t702 t703 t705 t706 t707 (t706 != t709) t697 t698 t699) else (none))) = some r := H
             have A67 := A_ A670
             clear A670
             have HC68 := A_ H
             clear H
             go_upto_region 31 with (first | (refine gc_ 17 ?_; refine goesT_ (some 170) Try.func17 #[.slice A1 l1.length c1] ?_; (with_reducible refine (spec_DrawDiagonalOf.calls kj52 _ _ l1 t697 t698 t699 t702 t703 _ ?side1 ?side2 A65.out).mono ?_); (case side1 => exact tc_ HR1.out); (case side2 => exact HC1.out); rintro e w69 ⟨v700, rfl, ho0, hb⟩; refine ⟨_, rfl, ?_⟩; have HO701 := A_ (Kd.R_lower (Kd.R_new' (Kd.R_new' ho0 (Kd.R_lt (tr_x HO_660002.out))) (Kd.R_lt (tr_x HO_693002.out))) (below_size tb_)); replace HO_660002 := A_ (Kd.R_elder' (tr_x HO_660002.out) (Kd.R_base ho0) hb); replace HO_693002 := A_ (Kd.R_elder' (tr_x HO_693002.out) (Kd.R_base ho0) hb); replace BK659 := A_ (blk_below (g := gb659) (o := .cells #[.int .i64 t651, .int .i64 t652, .slice Ao12 t653.length co12] 26 (0, 0)) (tk_ BK659) hb); replace BK692 := A_ (blk_below (g := gb692) (o := .cells #[.int .i64 t684, .int .i64 t685, .slice Ao58 t686.length co58] 26 (0, 0)) (tk_ BK692) hb); replace HB := A_ (below_step tb_ hb); (try clear hb); (try clear ho0)) | (refine gd_ 27 ?_; refine bx_ 27 #[.int .i64 0, .int .i64 0, .slice none 0 0] 26 ?_; intro gb704 hg w70 hbox hb; replace HO_660002 := A_ (Kd.R_below (tr_x HO_660002.out) hb); replace HO_693002 := A_ (Kd.R_below (tr_x HO_693002.out) hb); replace HO701 := A_ (Kd.R_below (tr_x HO701.out) hb); have BK704 := A_ (hbox); have GW704 := A_ ((ts_ hg : w.heap.size ≤ gb704)); have GE704 := A_ ((ts_ hg : w.heap.size ≤ gb704)); replace HB := A_ (below_step tb_ hb); have NB659_704 := A_ ((by rw [hg]; exact Nat.ne_of_lt (blk_lt (g := gb659) (o := .cells #[.int .i64 t651, .int .i64 t652, .slice Ao12 t653.length co12] 26 (0, 0)) (tk_ BK659)) : gb659 ≠ gb704)); have NB704_659 := A_ ((by rw [hg]; exact Nat.ne_of_gt (blk_lt (g := gb659) (o := .cells #[.int .i64 t651, .int .i64 t652, .slice Ao12 t653.length co12] 26 (0, 0)) (tk_ BK659)) : gb704 ≠ gb659)); replace BK659 := A_ (blk_below (g := gb659) (o := .cells #[.int .i64 t651, .int .i64 t652, .slice Ao12 t653.length co12] 26 (0, 0)) (tk_ BK659) hb); have NB692_704 := A_ ((by rw [hg]; exact Nat.ne_of_lt (blk_lt (g := gb692) (o := .cells #[.int .i64 t684, .int .i64 t685, .slice Ao58 t686.length co58] 26 (0, 0)) (tk_ BK692)) : gb692 ≠ gb704)); have NB704_692 := A_ ((by rw [hg]; exact Nat.ne_of_gt (blk_lt (g := gb692) (o := .cells #[.int .i64 t684, .int .i64 t685, .slice Ao58 t686.length co58] 26 (0, 0)) (tk_ BK692)) : gb704 ≠ gb692)); replace BK692 := A_ (blk_below (g := gb692) (o := .cells #[.int .i64 t684, .int .i64 t685, .slice Ao58 t686.length co58] 26 (0, 0)) (tk_ BK692) hb); clear hb hbox hg; have hnb71 := NB704_659.out; have hnc71 := NB659_704.out; have hnb72 := NB704_692.out; have hnc72 := NB692_704.out; obtain ⟨hcz73_0, hcz73_1, hcz73_2, hfz73_0, hfz73_1, hfz73_2⟩ := cf3_ BK704.out; obtain ⟨Ao74, co74, eo74⟩ := Kd.R_slice HO701.out; subst eo74) | (refine gc_ 12 ?_; refine goesT_ (some 178) Try.func12 #[.agg #[.int .i64 t697, .int .i64 t698, .slice Ao74 t699.length co74], .int .i64 t702, .int .i64 t703] ?_; (with_reducible refine (impl_DiagonalOf.calls t697 t698 _ _ t699 t702 t703 t705 t706 t707 _ ?side1 ?side2 A66.out).mono ?_); (case side1 => refine (Kd.R_reads' (e := 3) (base := w.heap.size) (ok := fun k_ => ((True ∧ some k_ ≠ (.slice Ao12 t653.length co12 : Value).ownBlock) ∧ some k_ ≠ (.slice Ao58 t686.length co58 : Value).ownBlock)) (n := t699.length) (c := co74) ?_).2.2; exact (tr_ (h := by exact (Kd.R_mono (Kd.R_far (p := ⟨gb704, 2, none⟩) (Kd.R_far (p := ⟨gb704, 1, none⟩) (Kd.R_far (p := ⟨gb704, 0, none⟩) (Kd.R_types HO701.out BK704.out (by decide)) (fun _ hk => hk.2) (.int .i64 t697)) (fun _ hk => hk.2) (.int .i64 t698)) (fun _ hk => hk.2) (.slice Ao74 t699.length co74)) (fun _ h_ => h_.1))))); (case side2 => exact (Kd.R_reads' HO701.out).2.1); rintro e w75 ⟨rfl, hb⟩; refine ⟨_, rfl, ?_⟩; replace HO_660002 := A_ (Kd.R_below (tr_ (h := by exact (Kd.R_mono (Kd.R_far (p := ⟨gb704, 2, none⟩) (Kd.R_far (p := ⟨gb704, 1, none⟩) (Kd.R_far (p := ⟨gb704, 0, none⟩) (Kd.R_types HO_660002.out BK704.out (by decide)) (fun _ hk => hk.2) (.int .i64 t697)) (fun _ hk => hk.2) (.int .i64 t698)) (fun _ hk => hk.2) (.slice Ao74 t699.length co74)) (fun _ h_ => h_.1)))) hb); replace HO_693002 := A_ (Kd.R_below (tr_ (h := by exact (Kd.R_mono (Kd.R_far (p := ⟨gb704, 2, none⟩) (Kd.R_far (p := ⟨gb704, 1, none⟩) (Kd.R_far (p := ⟨gb704, 0, none⟩) (Kd.R_types HO_693002.out BK704.out (by decide)) (fun _ hk => hk.2) (.int .i64 t697)) (fun _ hk => hk.2) (.int .i64 t698)) (fun _ hk => hk.2) (.slice Ao74 t699.length co74)) (fun _ h_ => h_.1)))) hb); replace HO701 := A_ (Kd.R_below (tr_ (h := by exact (Kd.R_mono (Kd.R_far (p := ⟨gb704, 2, none⟩) (Kd.R_far (p := ⟨gb704, 1, none⟩) (Kd.R_far (p := ⟨gb704, 0, none⟩) (Kd.R_types HO701.out BK704.out (by decide)) (fun _ hk => hk.2) (.int .i64 t697)) (fun _ hk => hk.2) (.int .i64 t698)) (fun _ hk => hk.2) (.slice Ao74 t699.length co74)) (fun _ h_ => h_.1)))) hb); replace BK659 := A_ (blk_below (g := gb659) (o := .cells #[.int .i64 t651, .int .i64 t652, .slice Ao12 t653.length co12] 26 (0, 0)) (tk_ BK659) hb); replace BK692 := A_ (blk_below (g := gb692) (o := .cells #[.int .i64 t684, .int .i64 t685, .slice Ao58 t686.length co58] 26 (0, 0)) (tk_ BK692) hb); replace BK704 := A_ (blk_below (g := gb704) (o := .cells #[.int .i64 t697, .int .i64 t698, .slice Ao74 t699.length co74] 26 (0, 0)) (by (with_reducible repeat (first | refine blk_drewN ?_ _ | refine blk_drew ?_ | refine blk_alloc ?_ _)); refine blk_put (cs := #[.int .i64 t697, .int .i64 t698, .slice none 0 0]) ?_ 2 _ rfl; (with_reducible repeat (first | refine blk_drewN ?_ _ | refine blk_drew ?_ | refine blk_alloc ?_ _)); refine blk_put (cs := #[.int .i64 t697, .int .i64 0, .slice none 0 0]) ?_ 1 _ rfl; (with_reducible repeat (first | refine blk_drewN ?_ _ | refine blk_drew ?_ | refine blk_alloc ?_ _)); refine blk_put (cs := #[.int .i64 0, .int .i64 0, .slice none 0 0]) ?_ 0 _ rfl; (with_reducible repeat (first | refine blk_drewN ?_ _ | refine blk_drew ?_ | refine blk_alloc ?_ _)); exact BK704.out) hb); replace HB := A_ (below_step tb_ hb); (try clear hb); obtain ⟨hcz76_0, hcz76_1, hcz76_2, hfz76_0, hfz76_1, hfz76_2⟩ := cf3_ BK704.out) | (refine gc_ 18 ?_; refine goesT_ (some 186) Try.func18 #[.agg #[.int .i64 t697, .int .i64 t698, .slice Ao74 t699.length co74], .int .i64 t702, .int .i64 t703] ?_; (with_reducible refine (spec_DiagonalOf.calls kj52 t697 t698 _ _ t699 t702 t703 t708 t709 t710 _ ?side1 ?side2 A67.out).mono ?_); (case side1 => exact tc0_ (Kd.R_reads' HO701.out).2.2); (case side2 => exact (Kd.R_reads' HO701.out).2.1); rintro e w77 ⟨rfl, hb⟩; refine ⟨_, rfl, ?_⟩; replace HO_660002 := A_ (Kd.R_below (tr_x HO_660002.out) hb); replace HO_693002 := A_ (Kd.R_below (tr_x HO_693002.out) hb); replace HO701 := A_ (Kd.R_below (tr_x HO701.out) hb); replace BK659 := A_ (blk_below (g := gb659) (o := .cells #[.int .i64 t651, .int .i64 t652, .slice Ao12 t653.length co12] 26 (0, 0)) (tk_ BK659) hb); replace BK692 := A_ (blk_below (g := gb692) (o := .cells #[.int .i64 t684, .int .i64 t685, .slice Ao58 t686.length co58] 26 (0, 0)) (tk_ BK692) hb); replace BK704 := A_ (blk_below (g := gb704) (o := .cells #[.int .i64 t697, .int .i64 t698, .slice Ao74 t699.length co74] 26 (0, 0)) (tk_ BK704) hb); replace HB := A_ (below_step tb_ hb); (try clear hb)))
             (try simp only [Act.put, List.setIfInBounds_toArray, List.set_cons_zero, List.set_cons_succ])
             go_cut [202] (fun v202 wc => ∃ (kq : Nat) (x202_67 : Bool), v202 = .bool x202_67 ∧ Aside0 (laws_FnPiecesQuiet.j5 kq l1 t702 t703 t705 t706 t707 x202_67 t697 t698 t699 = some r) ∧ Aside0 (kq ≤ kj52) ∧ Aside0 (Kd.R (Kd.int .i64) 3 wc w.heap.size (fun k_ => some k_ ≠ ((.slice Ao58 t686.length co58) : Value).ownBlock ∧ some k_ ≠ ((.slice Ao74 t699.length co74) : Value).ownBlock) (.slice Ao12 t653.length co12) t653) ∧ Aside0 (Kd.R (Kd.int .i64) 3 wc w.heap.size (fun k_ => some k_ ≠ ((.slice Ao12 t653.length co12) : Value).ownBlock ∧ some k_ ≠ ((.slice Ao74 t699.length co74) : Value).ownBlock) (.slice Ao58 t686.length co58) t686) ∧ Aside0 (Kd.R (Kd.int .i64) 3 wc w.heap.size (fun k_ => some k_ ≠ ((.slice Ao12 t653.length co12) : Value).ownBlock ∧ some k_ ≠ ((.slice Ao58 t686.length co58) : Value).ownBlock) (.slice Ao74 t699.length co74) t699) ∧ Aside0 (wc.heap[gb659]? = some (.cells #[.int .i64 t651, .int .i64 t652, (.slice Ao12 t653.length co12)] 26 (0, 0))) ∧ Aside0 (wc.heap[gb692]? = some (.cells #[.int .i64 t684, .int .i64 t685, (.slice Ao58 t686.length co58)] 26 (0, 0))) ∧ Aside0 (wc.heap[gb704]? = some (.cells #[.int .i64 t697, .int .i64 t698, (.slice Ao74 t699.length co74)] 26 (0, 0))) ∧ Aside0 (Below w.heap.size w wc))
             case first =>
              as_aux_lemma =>
               have H := HC68.out
               clear HC68
               by_cases c78 : (t707 != t710) = true
               ·
                rw [if_pos c78] at H
                exact absurd H (by simp)
               ·
                rw [if_neg c78] at H
                have c78b0 : (t707 != t710) = false := by simpa using c78
                (try (have c78b1 : decide (t707 = t710) = true := by simpa using c78))
                (try (have c78b2 : (t707 == t710) = true := by simpa using c78))
                clear c78
                (first | rw [c78b0] | rw [c78b1] | (simp only [i64_w, i32_w]; rw [c78b0]) | skip)
                by_cases c79 : t705 = t708
                ·
                 rw [if_pos c79] at H
                 have c79b0 : (t705 == t708) = true := beq_iff_eq.mpr c79
                 have c79b1 : (t705 != t708) = false := bne_eq_false_iff_eq.mpr c79
                 clear c79
                 have H' := A_ H
                 clear H
                 go_wp2
                 go_meet
                 case rel => exact ⟨_, ((t706 != t709)), tf_, H', ⟨by have := HJ7.out; have := HJ18.out; have := HJ52.out; first | omega | exact Nat.le_refl _⟩, ⟨tr_x HO_660002.out⟩, ⟨tr_x HO_693002.out⟩, ⟨by (with_reducible repeat (first | apply Kd.R_alloc | apply Kd.R_drewN | apply Kd.R_drew)); exact Kd.R_mono HO701.out om_⟩, ⟨tk_ BK659⟩, ⟨tk_ BK692⟩, ⟨tk_ BK704⟩, ⟨tb_⟩⟩
                ·
                 rw [if_neg c79] at H
                 exact absurd H (by simp)
             case rest =>
              as_aux_lemma =>
               clear HC68
               try clear c1
               try clear c2
               try clear p2
               try clear c3
               try clear q3
               try clear c4
               try clear c5
               try clear c6
               try clear p6
               try clear q6
               try clear hx6
               try clear qi6
               try clear c7
               try clear c8
               try clear c9
               try clear c10
               try clear c11
               try clear c12
               try clear c13
               try clear c14
               try clear c15
               try clear c16
               try clear c17
               try clear c17b0
               try clear c17b1
               try clear c17b2
               try clear c18
               try clear c20
               try clear c21
               try clear c21b0
               try clear c22
               try clear c22b0
               try clear c23
               try clear c23b0
               try clear c24
               try clear c24b0
               try clear c24b1
               try clear c25
               try clear c25b0
               try clear c25b1
               try clear c27
               try clear c27b0
               try clear c28
               try clear c28b0
               try clear c28b1
               try clear q31
               try clear c32
               try clear c32b0
               try clear c33
               try clear c33b0
               try clear c34
               try clear c34b0
               try clear c35
               try clear c35b0
               try clear c35b1
               try clear c36
               try clear c36b0
               try clear c36b1
               try clear c38
               try clear c39
               try clear c40
               try clear c40b0
               try clear c40b1
               try clear c41
               try clear c41b0
               try clear c41b1
               try clear c44
               try clear c44b0
               try clear c44b1
               try clear c45
               try clear c45b0
               try clear c45b1
               try clear c47
               try clear c56
               try clear c63
               try clear c63b0
               try clear c63b1
               try clear c63b2
               try clear c64
               try clear p64
               try clear p66
               try clear q66
               try clear hx66
               try clear p67
               try clear q67
               try clear hx67
               try clear p68
               try clear q68
               try clear hx68
               try clear qi68
               try clear c71
               try clear c72
               try clear c78
               try clear c78b0
               try clear c78b1
               try clear c78b2
               try clear c79
               try clear c79b0
               try clear c79b1
               try clear hcz11_0
               try clear hcz11_1
               try clear hcz11_2
               try clear hcz15_0
               try clear hcz15_1
               try clear hcz15_2
               try clear hcz57_0
               try clear hcz57_1
               try clear hcz57_2
               try clear hcz61_0
               try clear hcz61_1
               try clear hcz61_2
               try clear hcz73_0
               try clear hcz73_1
               try clear hcz73_2
               try clear hcz76_0
               try clear hcz76_1
               try clear hcz76_2
               try clear hfz11_0
               try clear hfz11_1
               try clear hfz11_2
               try clear hfz15_0
               try clear hfz15_1
               try clear hfz15_2
               try clear hfz57_0
               try clear hfz57_1
               try clear hfz57_2
               try clear hfz61_0
               try clear hfz61_1
               try clear hfz61_2
               try clear hfz73_0
               try clear hfz73_1
               try clear hfz73_2
               try clear hfz76_0
               try clear hfz76_1
               try clear hfz76_2
               try clear hx664_0
               try clear hx665_0
               try clear hx666_0
               try clear hx675_0
               try clear hx676_0
               try clear hx677_0
               try clear hx681_0
               try clear hx682_0
               try clear p2
               try clear p6
               try clear p664
               try clear p665
               try clear p666
               try clear p675
               try clear p676
               try clear p677
               try clear p681
               try clear p682
               try clear q3
               try clear q31
               try clear q6
               try clear q664
               try clear q665
               try clear q666
               try clear q675
               try clear q676
               try clear q677
               try clear q681
               try clear q682
               obtain ⟨kq, x202_67, rfl, HA, HJ67, HO_660002, HO_693002, HO_705002, BK659, BK692, BK704, HB⟩ := hcut
               cases kq with
               | zero => exact absurd HA.out (by simp [laws_FnPiecesQuiet.j5])
               | succ kj67 =>
                have H := HA.out
                clear HA
                simp only [laws_FnPiecesQuiet.j5] at H
                by_cases c80 : x202_67 = true
                ·
                 subst c80
                 have H1 : (none) = some r := by rw [if_pos rfl] at H; exact H
                 clear H
                 have H := H1
                 clear H1
                 exact absurd H (by simp)
                ·
                 replace c80 := Bool.eq_false_iff.mpr c80
                 subst c80
                 have H1 : (if t707 = true then (if (wrap64 ((wrap64 ((wrap64 (t705 + t706)) - t698)) + 1)) = (wrap64 (2 * t702)) then (laws_FnPiecesQuiet.j6 kj67 l1 ((wrap64 ((wrap64 ((wrap64 (t705 - t706)) + t698)) - 1)) != (wrap64 (2 * t703)))) else (none)) else (laws_FnPiecesQuiet.j6 kj67 l1 false)) = some r := by rw [if_neg (show ¬ (false = true) by decide)] at H; exact H
                 clear H
                 have H := H1
                 clear H1
                 have HC81 := A_ H
                 clear H
                 go_upto_region 33 with (fail)
                 go_cut [227] (fun v227 wc => ∃ (kq : Nat) (x227_80 : Bool), v227 = .bool x227_80 ∧ Aside0 (laws_FnPiecesQuiet.j6 kq l1 x227_80 = some r) ∧ Aside0 (kq ≤ kj67) ∧ Aside0 (Kd.R (Kd.int .i64) 3 wc w.heap.size (fun k_ => some k_ ≠ ((.slice Ao58 t686.length co58) : Value).ownBlock ∧ some k_ ≠ ((.slice Ao74 t699.length co74) : Value).ownBlock) (.slice Ao12 t653.length co12) t653) ∧ Aside0 (Kd.R (Kd.int .i64) 3 wc w.heap.size (fun k_ => some k_ ≠ ((.slice Ao12 t653.length co12) : Value).ownBlock ∧ some k_ ≠ ((.slice Ao74 t699.length co74) : Value).ownBlock) (.slice Ao58 t686.length co58) t686) ∧ Aside0 (Kd.R (Kd.int .i64) 3 wc w.heap.size (fun k_ => some k_ ≠ ((.slice Ao12 t653.length co12) : Value).ownBlock ∧ some k_ ≠ ((.slice Ao58 t686.length co58) : Value).ownBlock) (.slice Ao74 t699.length co74) t699) ∧ Aside0 (wc.heap[gb659]? = some (.cells #[.int .i64 t651, .int .i64 t652, (.slice Ao12 t653.length co12)] 26 (0, 0))) ∧ Aside0 (wc.heap[gb692]? = some (.cells #[.int .i64 t684, .int .i64 t685, (.slice Ao58 t686.length co58)] 26 (0, 0))) ∧ Aside0 (wc.heap[gb704]? = some (.cells #[.int .i64 t697, .int .i64 t698, (.slice Ao74 t699.length co74)] 26 (0, 0))) ∧ Aside0 (Below w.heap.size w wc))
                 case first =>
                  as_aux_lemma =>
                   have H := HC81.out
                   clear HC81
                   by_cases c82 : t707 = true
                   ·
                    subst c82
                    have H1 : (if (wrap64 ((wrap64 ((wrap64 (t705 + t706)) - t698)) + 1)) = (wrap64 (2 * t702)) then (laws_FnPiecesQuiet.j6 kj67 l1 ((wrap64 ((wrap64 ((wrap64 (t705 - t706)) + t698)) - 1)) != (wrap64 (2 * t703)))) else (none)) = some r := by rw [if_pos rfl] at H; exact H
                    clear H
                    have H := H1
                    clear H1
                    by_cases c83 : (wrap64 ((wrap64 ((wrap64 (t705 + t706)) - t698)) + 1)) = (wrap64 (2 * t702))
                    ·
                     rw [if_pos c83] at H
                     have c83b0 : ((wrap64 ((wrap64 ((wrap64 (t705 + t706)) - t698)) + 1)) == (wrap64 (2 * t702))) = true := beq_iff_eq.mpr c83
                     have c83b1 : ((wrap64 ((wrap64 ((wrap64 (t705 + t706)) - t698)) + 1)) != (wrap64 (2 * t702))) = false := bne_eq_false_iff_eq.mpr c83
                     clear c83
                     (first | rw [c83b0] | rw [c83b1] | (simp only [i64_w, i32_w]; rw [c83b0]) | skip)
                     have H' := A_ H
                     clear H
                     have hnb84 := NB704_659.out
                     have hnc84 := NB659_704.out
                     have hnb85 := NB704_692.out
                     have hnc85 := NB692_704.out
                     obtain ⟨hcz86_0, hcz86_1, hcz86_2, hfz86_0, hfz86_1, hfz86_2⟩ := cf3_ BK704.out
                     go_wp2
                     go_meet
                     case rel => exact ⟨_, (((wrap64 ((wrap64 ((wrap64 (t705 - t706)) + t698)) - 1)) != (wrap64 (2 * t703)))), tf_, H', ⟨by have := HJ7.out; have := HJ18.out; have := HJ52.out; have := HJ67.out; first | omega | exact Nat.le_refl _⟩, ⟨tr_x HO_660002.out⟩, ⟨tr_x HO_693002.out⟩, ⟨tr_x HO_705002.out⟩, ⟨tk_ BK659⟩, ⟨tk_ BK692⟩, ⟨tk_ BK704⟩, ⟨tb_⟩⟩
                    ·
                     rw [if_neg c83] at H
                     exact absurd H (by simp)
                   ·
                    replace c82 := Bool.eq_false_iff.mpr c82
                    subst c82
                    have H1 : (laws_FnPiecesQuiet.j6 kj67 l1 false) = some r := by rw [if_neg (show ¬ (false = true) by decide)] at H; exact H
                    clear H
                    have H := H1
                    clear H1
                    have H' := A_ H
                    clear H
                    go_wp2
                    go_meet
                    case rel => exact ⟨_, (false), tf_, H', ⟨by have := HJ7.out; have := HJ18.out; have := HJ52.out; have := HJ67.out; first | omega | exact Nat.le_refl _⟩, ⟨tr_x HO_660002.out⟩, ⟨tr_x HO_693002.out⟩, ⟨tr_x HO_705002.out⟩, ⟨tk_ BK659⟩, ⟨tk_ BK692⟩, ⟨tk_ BK704⟩, ⟨tb_⟩⟩
                 case rest =>
                  as_aux_lemma =>
                   clear HC81
                   try clear c1
                   try clear c2
                   try clear p2
                   try clear c3
                   try clear q3
                   try clear c4
                   try clear c5
                   try clear c6
                   try clear p6
                   try clear q6
                   try clear hx6
                   try clear qi6
                   try clear c7
                   try clear c8
                   try clear c9
                   try clear c10
                   try clear c11
                   try clear c12
                   try clear c13
                   try clear c14
                   try clear c15
                   try clear c16
                   try clear c17
                   try clear c17b0
                   try clear c17b1
                   try clear c17b2
                   try clear c18
                   try clear c20
                   try clear c21
                   try clear c21b0
                   try clear c22
                   try clear c22b0
                   try clear c23
                   try clear c23b0
                   try clear c24
                   try clear c24b0
                   try clear c24b1
                   try clear c25
                   try clear c25b0
                   try clear c25b1
                   try clear c27
                   try clear c27b0
                   try clear c28
                   try clear c28b0
                   try clear c28b1
                   try clear q31
                   try clear c32
                   try clear c32b0
                   try clear c33
                   try clear c33b0
                   try clear c34
                   try clear c34b0
                   try clear c35
                   try clear c35b0
                   try clear c35b1
                   try clear c36
                   try clear c36b0
                   try clear c36b1
                   try clear c38
                   try clear c39
                   try clear c40
                   try clear c40b0
                   try clear c40b1
                   try clear c41
                   try clear c41b0
                   try clear c41b1
                   try clear c44
                   try clear c44b0
                   try clear c44b1
                   try clear c45
                   try clear c45b0
                   try clear c45b1
                   try clear c47
                   try clear c56
                   try clear c63
                   try clear c63b0
                   try clear c63b1
                   try clear c63b2
                   try clear c64
                   try clear p64
                   try clear p66
                   try clear q66
                   try clear hx66
                   try clear p67
                   try clear q67
                   try clear hx67
                   try clear p68
                   try clear q68
                   try clear hx68
                   try clear qi68
                   try clear c71
                   try clear c72
                   try clear c78
                   try clear c78b0
                   try clear c78b1
                   try clear c78b2
                   try clear c79
                   try clear c79b0
                   try clear c79b1
                   try clear c80
                   try clear c82
                   try clear c83
                   try clear c83b0
                   try clear c83b1
                   try clear c84
                   try clear c85
                   try clear hcz11_0
                   try clear hcz11_1
                   try clear hcz11_2
                   try clear hcz15_0
                   try clear hcz15_1
                   try clear hcz15_2
                   try clear hcz57_0
                   try clear hcz57_1
                   try clear hcz57_2
                   try clear hcz61_0
                   try clear hcz61_1
                   try clear hcz61_2
                   try clear hcz73_0
                   try clear hcz73_1
                   try clear hcz73_2
                   try clear hcz76_0
                   try clear hcz76_1
                   try clear hcz76_2
                   try clear hcz86_0
                   try clear hcz86_1
                   try clear hcz86_2
                   try clear hfz11_0
                   try clear hfz11_1
                   try clear hfz11_2
                   try clear hfz15_0
                   try clear hfz15_1
                   try clear hfz15_2
                   try clear hfz57_0
                   try clear hfz57_1
                   try clear hfz57_2
                   try clear hfz61_0
                   try clear hfz61_1
                   try clear hfz61_2
                   try clear hfz73_0
                   try clear hfz73_1
                   try clear hfz73_2
                   try clear hfz76_0
                   try clear hfz76_1
                   try clear hfz76_2
                   try clear hfz86_0
                   try clear hfz86_1
                   try clear hfz86_2
                   try clear hx664_0
                   try clear hx665_0
                   try clear hx666_0
                   try clear hx675_0
                   try clear hx676_0
                   try clear hx677_0
                   try clear hx681_0
                   try clear hx682_0
                   try clear p2
                   try clear p6
                   try clear p64
                   try clear p66
                   try clear p664
                   try clear p665
                   try clear p666
                   try clear p67
                   try clear p675
                   try clear p676
                   try clear p677
                   try clear p68
                   try clear p681
                   try clear p682
                   try clear q3
                   try clear q31
                   try clear q6
                   try clear q66
                   try clear q664
                   try clear q665
                   try clear q666
                   try clear q67
                   try clear q675
                   try clear q676
                   try clear q677
                   try clear q68
                   try clear q681
                   try clear q682
                   obtain ⟨kq, x227_80, rfl, HA, HJ80, HO_660002, HO_693002, HO_705002, BK659, BK692, BK704, HB⟩ := hcut
                   cases kq with
                   | zero => exact absurd HA.out (by simp [laws_FnPiecesQuiet.j6])
                   | succ kj80 =>
                    have H := HA.out
                    clear HA
                    simp only [laws_FnPiecesQuiet.j6] at H
                    by_cases c87 : x227_80 = true
                    ·
                     subst c87
                     have H1 : (none) = some r := by rw [if_pos rfl] at H; exact H
                     clear H
                     have H := H1
                     clear H1
                     exact absurd H (by simp)
                    ·
                     replace c87 := Bool.eq_false_iff.mpr c87
                     subst c87
                     have H1 : ((spec_DrawCellOfColour.f kj80 l1).bind fun bt711 => ((impl_CellOfColour.f kj80 bt711.1 bt711.2.1 bt711.2.2.1 bt711.2.2.2.1 bt711.2.2.2.2.1 bt711.2.2.2.2.2).bind fun bt720 => ((spec_CellOfColour.f kj80 bt711.1 bt711.2.1 bt711.2.2.1 bt711.2.2.2.1 bt711.2.2.2.2.1 bt711.2.2.2.2.2).bind fun bt723 => (if (bt720.2.2 != bt723.2.2) = true then (none) else (if bt720.1 = bt723.1 then (laws_FnPiecesQuiet.j7 kj80 bt711.2.2.2.1 bt711.2.2.2.2.1 bt711.2.2.2.2.2 bt720.1 bt720.2.1 bt720.2.2 (bt720.2.1 != bt723.2.1) bt711.1 bt711.2.1 bt711.2.2.1) else (none)))))) = some r := by rw [if_neg (show ¬ (false = true) by decide)] at H; exact H
                     clear H
                     have H := H1
                     clear H1
                     replace H := Option.bind_eq_some_iff.mp H
                     obtain ⟨⟨t711, t712, t713, t716, t717, t718⟩, A880, H⟩ := H
                     replace H : ((impl_CellOfColour.f kj80 t711 t712 t713 t716 t717 t718).bind fun bt720 => ((spec_CellOfColour.f kj80 t711 t712 t713 t716 t717 t718).bind fun bt723 => (if (bt720.2.2 != bt723.2.2) = true then (none) else (if bt720.1 = bt723.1 then (laws_FnPiecesQuiet.j7 kj80 t716 t717 t718 bt720.1 bt720.2.1 bt720.2.2 (bt720.2.1 != bt723.2.1) t711 t712 t713) else (none))))) = some r := H
                     have A88 := A_ A880
                     clear A880
                     replace H := Option.bind_eq_some_iff.mp H
                     obtain ⟨⟨t720, t721, t722⟩, A890, H⟩ := H
                     replace H : ((spec_CellOfColour.f kj80 t711 t712 t713 t716 t717 t718).bind fun bt723 => (if (t722 != bt723.2.2) = true then (none) else (if t720 = bt723.1 then (laws_FnPiecesQuiet.j7 kj80 t716 t717 t718 t720 t721 t722 (t721 != bt723.2.1) t711 t712 t713) else (none)))) = some r := H
                     have A89 := A_ A890
                     clear A890
                     replace H := Option.bind_eq_some_iff.mp H
                     obtain ⟨⟨t723, t724, t725⟩, A900, H⟩ := H
                     replace H : (if (t722 != t725) = true then (none) else (if t720 = t723 then (laws_FnPiecesQuiet.j7 kj80 t716 t717 t718 t720 t721 t722 (t721 != t724) t711 t712 t713) else (none))) = some r := H
                     have A90 := A_ A900
                     clear A900
                     have HC91 := A_ H
                     clear H
                     go_upto_region 38 with (first | (refine gc_ 19 ?_; refine goesT_ (some 230) Try.func19 #[.slice A1 l1.length c1] ?_; (with_reducible refine (spec_DrawCellOfColour.calls kj80 _ _ l1 t711 t712 t713 t716 t717 t718 _ ?side1 ?side2 A88.out).mono ?_); (case side1 => exact tc_ HR1.out); (case side2 => exact HC1.out); rintro e w92 ⟨v714, rfl, ho0, hb⟩; refine ⟨_, rfl, ?_⟩; have HO715 := A_ (Kd.R_lower (Kd.R_new' (Kd.R_new' (Kd.R_new' ho0 (Kd.R_lt (tr_x HO_660002.out))) (Kd.R_lt (tr_x HO_693002.out))) (Kd.R_lt (tr_x HO_705002.out))) (below_size tb_)); replace HO_660002 := A_ (Kd.R_elder' (tr_x HO_660002.out) (Kd.R_base ho0) hb); replace HO_693002 := A_ (Kd.R_elder' (tr_x HO_693002.out) (Kd.R_base ho0) hb); replace HO_705002 := A_ (Kd.R_elder' (tr_x HO_705002.out) (Kd.R_base ho0) hb); replace BK659 := A_ (blk_below (g := gb659) (o := .cells #[.int .i64 t651, .int .i64 t652, .slice Ao12 t653.length co12] 26 (0, 0)) (tk_ BK659) hb); replace BK692 := A_ (blk_below (g := gb692) (o := .cells #[.int .i64 t684, .int .i64 t685, .slice Ao58 t686.length co58] 26 (0, 0)) (tk_ BK692) hb); replace BK704 := A_ (blk_below (g := gb704) (o := .cells #[.int .i64 t697, .int .i64 t698, .slice Ao74 t699.length co74] 26 (0, 0)) (tk_ BK704) hb); replace HB := A_ (below_step tb_ hb); (try clear hb); (try clear ho0)) | (refine gd_ 36 ?_; refine bx_ 36 #[.int .i64 0, .int .i64 0, .slice none 0 0] 26 ?_; intro gb719 hg w93 hbox hb; replace HO_660002 := A_ (Kd.R_below (tr_x HO_660002.out) hb); replace HO_693002 := A_ (Kd.R_below (tr_x HO_693002.out) hb); replace HO_705002 := A_ (Kd.R_below (tr_x HO_705002.out) hb); replace HO715 := A_ (Kd.R_below (tr_x HO715.out) hb); have BK719 := A_ (hbox); have GW719 := A_ ((ts_ hg : w.heap.size ≤ gb719)); have GE719 := A_ ((ts_ hg : w.heap.size ≤ gb719)); replace HB := A_ (below_step tb_ hb); have NB659_719 := A_ ((by rw [hg]; exact Nat.ne_of_lt (blk_lt (g := gb659) (o := .cells #[.int .i64 t651, .int .i64 t652, .slice Ao12 t653.length co12] 26 (0, 0)) (tk_ BK659)) : gb659 ≠ gb719)); have NB719_659 := A_ ((by rw [hg]; exact Nat.ne_of_gt (blk_lt (g := gb659) (o := .cells #[.int .i64 t651, .int .i64 t652, .slice Ao12 t653.length co12] 26 (0, 0)) (tk_ BK659)) : gb719 ≠ gb659)); replace BK659 := A_ (blk_below (g := gb659) (o := .cells #[.int .i64 t651, .int .i64 t652, .slice Ao12 t653.length co12] 26 (0, 0)) (tk_ BK659) hb); have NB692_719 := A_ ((by rw [hg]; exact Nat.ne_of_lt (blk_lt (g := gb692) (o := .cells #[.int .i64 t684, .int .i64 t685, .slice Ao58 t686.length co58] 26 (0, 0)) (tk_ BK692)) : gb692 ≠ gb719)); have NB719_692 := A_ ((by rw [hg]; exact Nat.ne_of_gt (blk_lt (g := gb692) (o := .cells #[.int .i64 t684, .int .i64 t685, .slice Ao58 t686.length co58] 26 (0, 0)) (tk_ BK692)) : gb719 ≠ gb692)); replace BK692 := A_ (blk_below (g := gb692) (o := .cells #[.int .i64 t684, .int .i64 t685, .slice Ao58 t686.length co58] 26 (0, 0)) (tk_ BK692) hb); have NB704_719 := A_ ((by rw [hg]; exact Nat.ne_of_lt (blk_lt (g := gb704) (o := .cells #[.int .i64 t697, .int .i64 t698, .slice Ao74 t699.length co74] 26 (0, 0)) (tk_ BK704)) : gb704 ≠ gb719)); have NB719_704 := A_ ((by rw [hg]; exact Nat.ne_of_gt (blk_lt (g := gb704) (o := .cells #[.int .i64 t697, .int .i64 t698, .slice Ao74 t699.length co74] 26 (0, 0)) (tk_ BK704)) : gb719 ≠ gb704)); replace BK704 := A_ (blk_below (g := gb704) (o := .cells #[.int .i64 t697, .int .i64 t698, .slice Ao74 t699.length co74] 26 (0, 0)) (tk_ BK704) hb); clear hb hbox hg; have hnb94 := NB719_659.out; have hnc94 := NB659_719.out; have hnb95 := NB719_692.out; have hnc95 := NB692_719.out; have hnb96 := NB719_704.out; have hnc96 := NB704_719.out; obtain ⟨hcz97_0, hcz97_1, hcz97_2, hfz97_0, hfz97_1, hfz97_2⟩ := cf3_ BK719.out; obtain ⟨Ao98, co98, eo98⟩ := Kd.R_slice HO715.out; subst eo98) | (refine gc_ 20 ?_; refine goesT_ (some 240) Try.func20 #[.agg #[.int .i64 t711, .int .i64 t712, .slice Ao98 t713.length co98], .int .i64 t716, .int .i64 t717, .int .i64 t718] ?_; (with_reducible refine (impl_CellOfColour.calls kj80 t711 t712 _ _ t713 t716 t717 t718 t720 t721 t722 _ ?side1 ?side2 A89.out).mono ?_); (case side1 => refine (Kd.R_reads' (e := 3) (base := w.heap.size) (ok := fun k_ => (((True ∧ some k_ ≠ (.slice Ao12 t653.length co12 : Value).ownBlock) ∧ some k_ ≠ (.slice Ao58 t686.length co58 : Value).ownBlock) ∧ some k_ ≠ (.slice Ao74 t699.length co74 : Value).ownBlock)) (n := t713.length) (c := co98) ?_).2.2; exact (tr_ (h := by exact (Kd.R_mono (Kd.R_far (p := ⟨gb719, 2, none⟩) (Kd.R_far (p := ⟨gb719, 1, none⟩) (Kd.R_far (p := ⟨gb719, 0, none⟩) (Kd.R_types HO715.out BK719.out (by decide)) (fun _ hk => hk.2) (.int .i64 t711)) (fun _ hk => hk.2) (.int .i64 t712)) (fun _ hk => hk.2) (.slice Ao98 t713.length co98)) (fun _ h_ => h_.1))))); (case side2 => exact (Kd.R_reads' HO715.out).2.1); rintro e w99 ⟨rfl, hb⟩; refine ⟨_, rfl, ?_⟩; replace HO_660002 := A_ (Kd.R_below (tr_ (h := by exact (Kd.R_mono (Kd.R_far (p := ⟨gb719, 2, none⟩) (Kd.R_far (p := ⟨gb719, 1, none⟩) (Kd.R_far (p := ⟨gb719, 0, none⟩) (Kd.R_types HO_660002.out BK719.out (by decide)) (fun _ hk => hk.2) (.int .i64 t711)) (fun _ hk => hk.2) (.int .i64 t712)) (fun _ hk => hk.2) (.slice Ao98 t713.length co98)) (fun _ h_ => h_.1)))) hb); replace HO_693002 := A_ (Kd.R_below (tr_ (h := by exact (Kd.R_mono (Kd.R_far (p := ⟨gb719, 2, none⟩) (Kd.R_far (p := ⟨gb719, 1, none⟩) (Kd.R_far (p := ⟨gb719, 0, none⟩) (Kd.R_types HO_693002.out BK719.out (by decide)) (fun _ hk => hk.2) (.int .i64 t711)) (fun _ hk => hk.2) (.int .i64 t712)) (fun _ hk => hk.2) (.slice Ao98 t713.length co98)) (fun _ h_ => h_.1)))) hb); replace HO_705002 := A_ (Kd.R_below (tr_ (h := by exact (Kd.R_mono (Kd.R_far (p := ⟨gb719, 2, none⟩) (Kd.R_far (p := ⟨gb719, 1, none⟩) (Kd.R_far (p := ⟨gb719, 0, none⟩) (Kd.R_types HO_705002.out BK719.out (by decide)) (fun _ hk => hk.2) (.int .i64 t711)) (fun _ hk => hk.2) (.int .i64 t712)) (fun _ hk => hk.2) (.slice Ao98 t713.length co98)) (fun _ h_ => h_.1)))) hb); replace HO715 := A_ (Kd.R_below (tr_ (h := by exact (Kd.R_mono (Kd.R_far (p := ⟨gb719, 2, none⟩) (Kd.R_far (p := ⟨gb719, 1, none⟩) (Kd.R_far (p := ⟨gb719, 0, none⟩) (Kd.R_types HO715.out BK719.out (by decide)) (fun _ hk => hk.2) (.int .i64 t711)) (fun _ hk => hk.2) (.int .i64 t712)) (fun _ hk => hk.2) (.slice Ao98 t713.length co98)) (fun _ h_ => h_.1)))) hb); replace BK659 := A_ (blk_below (g := gb659) (o := .cells #[.int .i64 t651, .int .i64 t652, .slice Ao12 t653.length co12] 26 (0, 0)) (tk_ BK659) hb); replace BK692 := A_ (blk_below (g := gb692) (o := .cells #[.int .i64 t684, .int .i64 t685, .slice Ao58 t686.length co58] 26 (0, 0)) (tk_ BK692) hb); replace BK704 := A_ (blk_below (g := gb704) (o := .cells #[.int .i64 t697, .int .i64 t698, .slice Ao74 t699.length co74] 26 (0, 0)) (tk_ BK704) hb); replace BK719 := A_ (blk_below (g := gb719) (o := .cells #[.int .i64 t711, .int .i64 t712, .slice Ao98 t713.length co98] 26 (0, 0)) (by (with_reducible repeat (first | refine blk_drewN ?_ _ | refine blk_drew ?_ | refine blk_alloc ?_ _)); refine blk_put (cs := #[.int .i64 t711, .int .i64 t712, .slice none 0 0]) ?_ 2 _ rfl; (with_reducible repeat (first | refine blk_drewN ?_ _ | refine blk_drew ?_ | refine blk_alloc ?_ _)); refine blk_put (cs := #[.int .i64 t711, .int .i64 0, .slice none 0 0]) ?_ 1 _ rfl; (with_reducible repeat (first | refine blk_drewN ?_ _ | refine blk_drew ?_ | refine blk_alloc ?_ _)); refine blk_put (cs := #[.int .i64 0, .int .i64 0, .slice none 0 0]) ?_ 0 _ rfl; (with_reducible repeat (first | refine blk_drewN ?_ _ | refine blk_drew ?_ | refine blk_alloc ?_ _)); exact BK719.out) hb); replace HB := A_ (below_step tb_ hb); (try clear hb); obtain ⟨hcz100_0, hcz100_1, hcz100_2, hfz100_0, hfz100_1, hfz100_2⟩ := cf3_ BK719.out) | (refine gc_ 21 ?_; refine goesT_ (some 249) Try.func21 #[.agg #[.int .i64 t711, .int .i64 t712, .slice Ao98 t713.length co98], .int .i64 t716, .int .i64 t717, .int .i64 t718] ?_; (with_reducible refine (spec_CellOfColour.calls kj80 t711 t712 _ _ t713 t716 t717 t718 t723 t724 t725 _ ?side1 ?side2 A90.out).mono ?_); (case side1 => exact tc0_ (Kd.R_reads' HO715.out).2.2); (case side2 => exact (Kd.R_reads' HO715.out).2.1); rintro e w101 ⟨rfl, hb⟩; refine ⟨_, rfl, ?_⟩; replace HO_660002 := A_ (Kd.R_below (tr_x HO_660002.out) hb); replace HO_693002 := A_ (Kd.R_below (tr_x HO_693002.out) hb); replace HO_705002 := A_ (Kd.R_below (tr_x HO_705002.out) hb); replace HO715 := A_ (Kd.R_below (tr_x HO715.out) hb); replace BK659 := A_ (blk_below (g := gb659) (o := .cells #[.int .i64 t651, .int .i64 t652, .slice Ao12 t653.length co12] 26 (0, 0)) (tk_ BK659) hb); replace BK692 := A_ (blk_below (g := gb692) (o := .cells #[.int .i64 t684, .int .i64 t685, .slice Ao58 t686.length co58] 26 (0, 0)) (tk_ BK692) hb); replace BK704 := A_ (blk_below (g := gb704) (o := .cells #[.int .i64 t697, .int .i64 t698, .slice Ao74 t699.length co74] 26 (0, 0)) (tk_ BK704) hb); replace BK719 := A_ (blk_below (g := gb719) (o := .cells #[.int .i64 t711, .int .i64 t712, .slice Ao98 t713.length co98] 26 (0, 0)) (tk_ BK719) hb); replace HB := A_ (below_step tb_ hb); (try clear hb)))
                     (try simp only [Act.put, List.setIfInBounds_toArray, List.set_cons_zero, List.set_cons_succ])
                     go_cut [265] (fun v265 wc => ∃ (kq : Nat) (x265_90 : Bool), v265 = .bool x265_90 ∧ Aside0 (laws_FnPiecesQuiet.j7 kq t716 t717 t718 t720 t721 t722 x265_90 t711 t712 t713 = some r) ∧ Aside0 (kq ≤ kj80) ∧ Aside0 (Kd.R (Kd.int .i64) 3 wc w.heap.size (fun k_ => some k_ ≠ ((.slice Ao58 t686.length co58) : Value).ownBlock ∧ some k_ ≠ ((.slice Ao74 t699.length co74) : Value).ownBlock ∧ some k_ ≠ ((.slice Ao98 t713.length co98) : Value).ownBlock) (.slice Ao12 t653.length co12) t653) ∧ Aside0 (Kd.R (Kd.int .i64) 3 wc w.heap.size (fun k_ => some k_ ≠ ((.slice Ao12 t653.length co12) : Value).ownBlock ∧ some k_ ≠ ((.slice Ao74 t699.length co74) : Value).ownBlock ∧ some k_ ≠ ((.slice Ao98 t713.length co98) : Value).ownBlock) (.slice Ao58 t686.length co58) t686) ∧ Aside0 (Kd.R (Kd.int .i64) 3 wc w.heap.size (fun k_ => some k_ ≠ ((.slice Ao12 t653.length co12) : Value).ownBlock ∧ some k_ ≠ ((.slice Ao58 t686.length co58) : Value).ownBlock ∧ some k_ ≠ ((.slice Ao98 t713.length co98) : Value).ownBlock) (.slice Ao74 t699.length co74) t699) ∧ Aside0 (Kd.R (Kd.int .i64) 3 wc w.heap.size (fun k_ => some k_ ≠ ((.slice Ao12 t653.length co12) : Value).ownBlock ∧ some k_ ≠ ((.slice Ao58 t686.length co58) : Value).ownBlock ∧ some k_ ≠ ((.slice Ao74 t699.length co74) : Value).ownBlock) (.slice Ao98 t713.length co98) t713) ∧ Aside0 (wc.heap[gb659]? = some (.cells #[.int .i64 t651, .int .i64 t652, (.slice Ao12 t653.length co12)] 26 (0, 0))) ∧ Aside0 (wc.heap[gb692]? = some (.cells #[.int .i64 t684, .int .i64 t685, (.slice Ao58 t686.length co58)] 26 (0, 0))) ∧ Aside0 (wc.heap[gb704]? = some (.cells #[.int .i64 t697, .int .i64 t698, (.slice Ao74 t699.length co74)] 26 (0, 0))) ∧ Aside0 (wc.heap[gb719]? = some (.cells #[.int .i64 t711, .int .i64 t712, (.slice Ao98 t713.length co98)] 26 (0, 0))) ∧ Aside0 (Below w.heap.size w wc))
                     case first =>
                      as_aux_lemma =>
                       have H := HC91.out
                       clear HC91
                       by_cases c102 : (t722 != t725) = true
                       ·
                        rw [if_pos c102] at H
                        exact absurd H (by simp)
                       ·
                        rw [if_neg c102] at H
                        have c102b0 : (t722 != t725) = false := by simpa using c102
                        (try (have c102b1 : decide (t722 = t725) = true := by simpa using c102))
                        (try (have c102b2 : (t722 == t725) = true := by simpa using c102))
                        clear c102
                        (first | rw [c102b0] | rw [c102b1] | (simp only [i64_w, i32_w]; rw [c102b0]) | skip)
                        by_cases c103 : t720 = t723
                        ·
                         rw [if_pos c103] at H
                         have c103b0 : (t720 == t723) = true := beq_iff_eq.mpr c103
                         have c103b1 : (t720 != t723) = false := bne_eq_false_iff_eq.mpr c103
                         clear c103
                         have H' := A_ H
                         clear H
                         go_wp2
                         go_meet
                         case rel => exact ⟨_, ((t721 != t724)), tf_, H', ⟨by have := HJ7.out; have := HJ18.out; have := HJ52.out; have := HJ67.out; have := HJ80.out; first | omega | exact Nat.le_refl _⟩, ⟨by (with_reducible repeat (first | apply Kd.R_alloc | apply Kd.R_drewN | apply Kd.R_drew)); exact Kd.R_mono HO_660002.out om_⟩, ⟨by (with_reducible repeat (first | apply Kd.R_alloc | apply Kd.R_drewN | apply Kd.R_drew)); exact Kd.R_mono HO_693002.out om_⟩, ⟨by (with_reducible repeat (first | apply Kd.R_alloc | apply Kd.R_drewN | apply Kd.R_drew)); exact Kd.R_mono HO_705002.out om_⟩, ⟨by (with_reducible repeat (first | apply Kd.R_alloc | apply Kd.R_drewN | apply Kd.R_drew)); exact Kd.R_mono HO715.out om_⟩, ⟨tk_ BK659⟩, ⟨tk_ BK692⟩, ⟨tk_ BK704⟩, ⟨tk_ BK719⟩, ⟨tb_⟩⟩
                        ·
                         rw [if_neg c103] at H
                         exact absurd H (by simp)
                     case rest =>
                      as_aux_lemma =>
                       clear HC91
                       try clear c1
                       try clear c2
                       try clear p2
                       try clear c3
                       try clear q3
                       try clear c4
                       try clear c5
                       try clear c6
                       try clear p6
                       try clear q6
                       try clear hx6
                       try clear qi6
                       try clear c7
                       try clear c8
                       try clear c9
                       try clear c10
                       try clear c11
                       try clear c12
                       try clear c13
                       try clear c14
                       try clear c15
                       try clear c16
                       try clear c17
                       try clear c17b0
                       try clear c17b1
                       try clear c17b2
                       try clear c18
                       try clear c19
                       try clear c20
                       try clear c21
                       try clear c21b0
                       try clear c22
                       try clear c22b0
                       try clear c23
                       try clear c23b0
                       try clear c24
                       try clear c24b0
                       try clear c24b1
                       try clear c25
                       try clear c25b0
                       try clear c25b1
                       try clear c27
                       try clear c27b0
                       try clear c28
                       try clear c28b0
                       try clear c28b1
                       try clear q31
                       try clear c32
                       try clear c32b0
                       try clear c33
                       try clear c33b0
                       try clear c34
                       try clear c34b0
                       try clear c35
                       try clear c35b0
                       try clear c35b1
                       try clear c36
                       try clear c36b0
                       try clear c36b1
                       try clear c38
                       try clear c39
                       try clear c40
                       try clear c40b0
                       try clear c40b1
                       try clear c41
                       try clear c41b0
                       try clear c41b1
                       try clear c44
                       try clear c44b0
                       try clear c44b1
                       try clear c45
                       try clear c45b0
                       try clear c45b1
                       try clear c47
                       try clear c56
                       try clear c63
                       try clear c63b0
                       try clear c63b1
                       try clear c63b2
                       try clear c64
                       try clear p64
                       try clear p66
                       try clear q66
                       try clear hx66
                       try clear p67
                       try clear q67
                       try clear hx67
                       try clear p68
                       try clear q68
                       try clear hx68
                       try clear qi68
                       try clear c71
                       try clear c72
                       try clear c78
                       try clear c78b0
                       try clear c78b1
                       try clear c78b2
                       try clear c79
                       try clear c79b0
                       try clear c79b1
                       try clear c80
                       try clear c82
                       try clear c83
                       try clear c83b0
                       try clear c83b1
                       try clear c84
                       try clear c85
                       try clear c87
                       try clear c94
                       try clear c95
                       try clear c96
                       try clear c102
                       try clear c102b0
                       try clear c102b1
                       try clear c102b2
                       try clear c103
                       try clear c103b0
                       try clear c103b1
                       try clear hcz100_0
                       try clear hcz100_1
                       try clear hcz100_2
                       try clear hcz11_0
                       try clear hcz11_1
                       try clear hcz11_2
                       try clear hcz15_0
                       try clear hcz15_1
                       try clear hcz15_2
                       try clear hcz57_0
                       try clear hcz57_1
                       try clear hcz57_2
                       try clear hcz61_0
                       try clear hcz61_1
                       try clear hcz61_2
                       try clear hcz73_0
                       try clear hcz73_1
                       try clear hcz73_2
                       try clear hcz76_0
                       try clear hcz76_1
                       try clear hcz76_2
                       try clear hcz86_0
                       try clear hcz86_1
                       try clear hcz86_2
                       try clear hcz97_0
                       try clear hcz97_1
                       try clear hcz97_2
                       try clear hfz100_0
                       try clear hfz100_1
                       try clear hfz100_2
                       try clear hfz11_0
                       try clear hfz11_1
                       try clear hfz11_2
                       try clear hfz15_0
                       try clear hfz15_1
                       try clear hfz15_2
                       try clear hfz57_0
                       try clear hfz57_1
                       try clear hfz57_2
                       try clear hfz61_0
                       try clear hfz61_1
                       try clear hfz61_2
                       try clear hfz73_0
                       try clear hfz73_1
                       try clear hfz73_2
                       try clear hfz76_0
                       try clear hfz76_1
                       try clear hfz76_2
                       try clear hfz86_0
                       try clear hfz86_1
                       try clear hfz86_2
                       try clear hfz97_0
                       try clear hfz97_1
                       try clear hfz97_2
                       try clear hx664_0
                       try clear hx665_0
                       try clear hx666_0
                       try clear hx675_0
                       try clear hx676_0
                       try clear hx677_0
                       try clear hx681_0
                       try clear hx682_0
                       try clear p2
                       try clear p6
                       try clear p64
                       try clear p66
                       try clear p664
                       try clear p665
                       try clear p666
                       try clear p67
                       try clear p675
                       try clear p676
                       try clear p677
                       try clear p68
                       try clear p681
                       try clear p682
                       try clear q3
                       try clear q31
                       try clear q6
                       try clear q66
                       try clear q664
                       try clear q665
                       try clear q666
                       try clear q67
                       try clear q675
                       try clear q676
                       try clear q677
                       try clear q68
                       try clear q681
                       try clear q682
                       obtain ⟨kq, x265_90, rfl, HA, HJ90, HO_660002, HO_693002, HO_705002, HO_720002, BK659, BK692, BK704, BK719, HB⟩ := hcut
                       cases kq with
                       | zero => exact absurd HA.out (by simp [laws_FnPiecesQuiet.j7])
                       | succ kj90 =>
                        have H := HA.out
                        clear HA
                        simp only [laws_FnPiecesQuiet.j7] at H
                        by_cases c104 : x265_90 = true
                        ·
                         subst c104
                         have H1 : (none) = some r := by rw [if_pos rfl] at H; exact H
                         clear H
                         have H := H1
                         clear H1
                         exact absurd H (by simp)
                        ·
                         replace c104 := Bool.eq_false_iff.mpr c104
                         subst c104
                         have H1 : (if t722 = true then ((impl_ColourBoard.f kj90 t711 t712 t713 t716).bind fun bt726 => (if bt726.2.2.2 = true then (if (Int.tmod (wrap64 (t720 + t721)) 2) = t716 then ((laws_rOn.f bt726.1 bt726.2.1 bt726.2.2.1 t717 t718).bind fun t733 => ((laws_rOn.f t711 t712 t713 t720 t721).bind fun t734 => (some (t733 == t734)))) else (none)) else (none))) else (some true)) = some r := by rw [if_neg (show ¬ (false = true) by decide)] at H; exact H
                         clear H
                         have H := H1
                         clear H1
                         by_cases c105 : t722 = true
                         ·
                          subst c105
                          have H1 : ((impl_ColourBoard.f kj90 t711 t712 t713 t716).bind fun bt726 => (if bt726.2.2.2 = true then (if (Int.tmod (wrap64 (t720 + t721)) 2) = t716 then ((laws_rOn.f bt726.1 bt726.2.1 bt726.2.2.1 t717 t718).bind fun t733 => ((laws_rOn.f t711 t712 t713 t720 t721).bind fun t734 => (some (t733 == t734)))) else (none)) else (none))) = some r := by rw [if_pos rfl] at H; exact H
                          clear H
                          have H := H1
                          clear H1
                          replace H := Option.bind_eq_some_iff.mp H
                          obtain ⟨⟨t726, t727, t728, t731⟩, A1060, H⟩ := H
                          replace H : (if t731 = true then (if (Int.tmod (wrap64 (t720 + t721)) 2) = t716 then ((laws_rOn.f t726 t727 t728 t717 t718).bind fun t733 => ((laws_rOn.f t711 t712 t713 t720 t721).bind fun t734 => (some (t733 == t734)))) else (none)) else (none)) = some r := H
                          have A106 := A_ A1060
                          clear A1060
                          by_cases c107 : t731 = true
                          ·
                           subst c107
                           have H1 : (if (Int.tmod (wrap64 (t720 + t721)) 2) = t716 then ((laws_rOn.f t726 t727 t728 t717 t718).bind fun t733 => ((laws_rOn.f t711 t712 t713 t720 t721).bind fun t734 => (some (t733 == t734)))) else (none)) = some r := by rw [if_pos rfl] at H; exact H
                           clear H
                           have H := H1
                           clear H1
                           by_cases c108 : (Int.tmod (wrap64 (t720 + t721)) 2) = t716
                           ·
                            rw [if_pos c108] at H
                            have c108b0 : ((Int.tmod (wrap64 (t720 + t721)) 2) == t716) = true := beq_iff_eq.mpr c108
                            have c108b1 : ((Int.tmod (wrap64 (t720 + t721)) 2) != t716) = false := bne_eq_false_iff_eq.mpr c108
                            clear c108
                            replace H := Option.bind_eq_some_iff.mp H
                            obtain ⟨t733, A1090, H⟩ := H
                            replace H : ((laws_rOn.f t711 t712 t713 t720 t721).bind fun t734 => (some (t733 == t734))) = some r := H
                            have A109 := A_ A1090
                            clear A1090
                            replace H := Option.bind_eq_some_iff.mp H
                            obtain ⟨t734, A1100, H⟩ := H
                            replace H : (some (t733 == t734)) = some r := H
                            have A110 := A_ A1100
                            clear A1100
                            obtain rfl := Option.some.inj H
                            have hnb111 := NB719_659.out
                            have hnc111 := NB659_719.out
                            have hnb112 := NB719_692.out
                            have hnc112 := NB692_719.out
                            have hnb113 := NB719_704.out
                            have hnc113 := NB704_719.out
                            obtain ⟨hcz114_0, hcz114_1, hcz114_2, hfz114_0, hfz114_1, hfz114_2⟩ := cf3_ BK719.out
                            try go_wp2_with (first | (refine gc_ 22 ?_; refine goesT_ (some 271) Try.func22 #[.agg #[.int .i64 t711, .int .i64 t712, .slice Ao98 t713.length co98], .int .i64 t716] ?_; (with_reducible refine (impl_ColourBoard.calls kj90 t711 t712 _ _ t713 t716 t726 t727 t728 true _ ?side1 ?side2 A106.out).mono ?_); (case side1 => exact tc0_ (Kd.R_reads' HO_720002.out).2.2); (case side2 => exact (Kd.R_reads' HO_720002.out).2.1); rintro e w115 ⟨v729, rfl, ho0, hb⟩; refine ⟨_, rfl, ?_⟩; have HO730 := A_ (Kd.R_lower (Kd.R_new' (Kd.R_new' (Kd.R_new' (Kd.R_new' ho0 (Kd.R_lt (tr_x HO_660002.out))) (Kd.R_lt (tr_x HO_693002.out))) (Kd.R_lt (tr_x HO_705002.out))) (Kd.R_lt (tr_x HO_720002.out))) (below_size tb_)); replace HO_660002 := A_ (Kd.R_elder' (tr_x HO_660002.out) (Kd.R_base ho0) hb); replace HO_693002 := A_ (Kd.R_elder' (tr_x HO_693002.out) (Kd.R_base ho0) hb); replace HO_705002 := A_ (Kd.R_elder' (tr_x HO_705002.out) (Kd.R_base ho0) hb); replace HO_720002 := A_ (Kd.R_elder' (tr_x HO_720002.out) (Kd.R_base ho0) hb); replace BK659 := A_ (blk_below (g := gb659) (o := .cells #[.int .i64 t651, .int .i64 t652, .slice Ao12 t653.length co12] 26 (0, 0)) (tk_ BK659) hb); replace BK692 := A_ (blk_below (g := gb692) (o := .cells #[.int .i64 t684, .int .i64 t685, .slice Ao58 t686.length co58] 26 (0, 0)) (tk_ BK692) hb); replace BK704 := A_ (blk_below (g := gb704) (o := .cells #[.int .i64 t697, .int .i64 t698, .slice Ao74 t699.length co74] 26 (0, 0)) (tk_ BK704) hb); replace BK719 := A_ (blk_below (g := gb719) (o := .cells #[.int .i64 t711, .int .i64 t712, .slice Ao98 t713.length co98] 26 (0, 0)) (tk_ BK719) hb); replace HB := A_ (below_step tb_ hb); (try clear hb); (try clear ho0)) | (refine gd_ 46 ?_; refine bx_ 46 #[.int .i64 0, .int .i64 0, .slice none 0 0] 26 ?_; intro gb732 hg w116 hbox hb; replace HO_660002 := A_ (Kd.R_below (tr_x HO_660002.out) hb); replace HO_693002 := A_ (Kd.R_below (tr_x HO_693002.out) hb); replace HO_705002 := A_ (Kd.R_below (tr_x HO_705002.out) hb); replace HO_720002 := A_ (Kd.R_below (tr_x HO_720002.out) hb); replace HO730 := A_ (Kd.R_below (tr_x HO730.out) hb); have BK732 := A_ (hbox); have GW732 := A_ ((ts_ hg : w.heap.size ≤ gb732)); have GE732 := A_ ((ts_ hg : w.heap.size ≤ gb732)); replace HB := A_ (below_step tb_ hb); have NB659_732 := A_ ((by rw [hg]; exact Nat.ne_of_lt (blk_lt (g := gb659) (o := .cells #[.int .i64 t651, .int .i64 t652, .slice Ao12 t653.length co12] 26 (0, 0)) (tk_ BK659)) : gb659 ≠ gb732)); have NB732_659 := A_ ((by rw [hg]; exact Nat.ne_of_gt (blk_lt (g := gb659) (o := .cells #[.int .i64 t651, .int .i64 t652, .slice Ao12 t653.length co12] 26 (0, 0)) (tk_ BK659)) : gb732 ≠ gb659)); replace BK659 := A_ (blk_below (g := gb659) (o := .cells #[.int .i64 t651, .int .i64 t652, .slice Ao12 t653.length co12] 26 (0, 0)) (tk_ BK659) hb); have NB692_732 := A_ ((by rw [hg]; exact Nat.ne_of_lt (blk_lt (g := gb692) (o := .cells #[.int .i64 t684, .int .i64 t685, .slice Ao58 t686.length co58] 26 (0, 0)) (tk_ BK692)) : gb692 ≠ gb732)); have NB732_692 := A_ ((by rw [hg]; exact Nat.ne_of_gt (blk_lt (g := gb692) (o := .cells #[.int .i64 t684, .int .i64 t685, .slice Ao58 t686.length co58] 26 (0, 0)) (tk_ BK692)) : gb732 ≠ gb692)); replace BK692 := A_ (blk_below (g := gb692) (o := .cells #[.int .i64 t684, .int .i64 t685, .slice Ao58 t686.length co58] 26 (0, 0)) (tk_ BK692) hb); have NB704_732 := A_ ((by rw [hg]; exact Nat.ne_of_lt (blk_lt (g := gb704) (o := .cells #[.int .i64 t697, .int .i64 t698, .slice Ao74 t699.length co74] 26 (0, 0)) (tk_ BK704)) : gb704 ≠ gb732)); have NB732_704 := A_ ((by rw [hg]; exact Nat.ne_of_gt (blk_lt (g := gb704) (o := .cells #[.int .i64 t697, .int .i64 t698, .slice Ao74 t699.length co74] 26 (0, 0)) (tk_ BK704)) : gb732 ≠ gb704)); replace BK704 := A_ (blk_below (g := gb704) (o := .cells #[.int .i64 t697, .int .i64 t698, .slice Ao74 t699.length co74] 26 (0, 0)) (tk_ BK704) hb); have NB719_732 := A_ ((by rw [hg]; exact Nat.ne_of_lt (blk_lt (g := gb719) (o := .cells #[.int .i64 t711, .int .i64 t712, .slice Ao98 t713.length co98] 26 (0, 0)) (tk_ BK719)) : gb719 ≠ gb732)); have NB732_719 := A_ ((by rw [hg]; exact Nat.ne_of_gt (blk_lt (g := gb719) (o := .cells #[.int .i64 t711, .int .i64 t712, .slice Ao98 t713.length co98] 26 (0, 0)) (tk_ BK719)) : gb732 ≠ gb719)); replace BK719 := A_ (blk_below (g := gb719) (o := .cells #[.int .i64 t711, .int .i64 t712, .slice Ao98 t713.length co98] 26 (0, 0)) (tk_ BK719) hb); clear hb hbox hg; have hnb117 := NB732_659.out; have hnc117 := NB659_732.out; have hnb118 := NB732_692.out; have hnc118 := NB692_732.out; have hnb119 := NB732_704.out; have hnc119 := NB704_732.out; have hnb120 := NB732_719.out; have hnc120 := NB719_732.out; obtain ⟨hcz121_0, hcz121_1, hcz121_2, hfz121_0, hfz121_1, hfz121_2⟩ := cf3_ BK732.out; obtain ⟨Ao122, co122, eo122⟩ := Kd.R_slice HO730.out; subst eo122))
                            have n0_ : Aside0 (Kd.R (Kd.int .i64) 3 (((w116.setCell ⟨gb732, 0, none⟩ (.int .i64 t726)).setCell ⟨gb732, 1, none⟩ (.int .i64 t727)).setCell ⟨gb732, 2, none⟩ (.slice Ao122 t728.length co122)) w.heap.size (fun k_ => some k_ ≠ (.slice Ao58 t686.length co58 : Value).ownBlock ∧ some k_ ≠ (.slice Ao74 t699.length co74 : Value).ownBlock ∧ some k_ ≠ (.slice Ao98 t713.length co98 : Value).ownBlock ∧ some k_ ≠ (.slice Ao122 t728.length co122 : Value).ownBlock) (.slice Ao12 t653.length co12) t653) := ⟨by (with_reducible repeat (first | apply Kd.R_alloc | apply Kd.R_drewN | apply Kd.R_drew)); exact Kd.R_mono (Kd.R_far (p := ⟨gb732, 2, none⟩) (Kd.R_far (p := ⟨gb732, 1, none⟩) (Kd.R_far (p := ⟨gb732, 0, none⟩) (Kd.R_types HO_660002.out BK732.out (by decide)) (fun _ hk => hk.2) (.int .i64 t726)) (fun _ hk => hk.2) (.int .i64 t727)) (fun _ hk => hk.2) (.slice Ao122 t728.length co122)) om_⟩
                            have n1_ : Aside0 (Kd.R (Kd.int .i64) 3 (((w116.setCell ⟨gb732, 0, none⟩ (.int .i64 t726)).setCell ⟨gb732, 1, none⟩ (.int .i64 t727)).setCell ⟨gb732, 2, none⟩ (.slice Ao122 t728.length co122)) w.heap.size (fun k_ => some k_ ≠ (.slice Ao12 t653.length co12 : Value).ownBlock ∧ some k_ ≠ (.slice Ao74 t699.length co74 : Value).ownBlock ∧ some k_ ≠ (.slice Ao98 t713.length co98 : Value).ownBlock ∧ some k_ ≠ (.slice Ao122 t728.length co122 : Value).ownBlock) (.slice Ao58 t686.length co58) t686) := ⟨by (with_reducible repeat (first | apply Kd.R_alloc | apply Kd.R_drewN | apply Kd.R_drew)); exact Kd.R_mono (Kd.R_far (p := ⟨gb732, 2, none⟩) (Kd.R_far (p := ⟨gb732, 1, none⟩) (Kd.R_far (p := ⟨gb732, 0, none⟩) (Kd.R_types HO_693002.out BK732.out (by decide)) (fun _ hk => hk.2) (.int .i64 t726)) (fun _ hk => hk.2) (.int .i64 t727)) (fun _ hk => hk.2) (.slice Ao122 t728.length co122)) om_⟩
                            have n2_ : Aside0 (Kd.R (Kd.int .i64) 3 (((w116.setCell ⟨gb732, 0, none⟩ (.int .i64 t726)).setCell ⟨gb732, 1, none⟩ (.int .i64 t727)).setCell ⟨gb732, 2, none⟩ (.slice Ao122 t728.length co122)) w.heap.size (fun k_ => some k_ ≠ (.slice Ao12 t653.length co12 : Value).ownBlock ∧ some k_ ≠ (.slice Ao58 t686.length co58 : Value).ownBlock ∧ some k_ ≠ (.slice Ao98 t713.length co98 : Value).ownBlock ∧ some k_ ≠ (.slice Ao122 t728.length co122 : Value).ownBlock) (.slice Ao74 t699.length co74) t699) := ⟨by (with_reducible repeat (first | apply Kd.R_alloc | apply Kd.R_drewN | apply Kd.R_drew)); exact Kd.R_mono (Kd.R_far (p := ⟨gb732, 2, none⟩) (Kd.R_far (p := ⟨gb732, 1, none⟩) (Kd.R_far (p := ⟨gb732, 0, none⟩) (Kd.R_types HO_705002.out BK732.out (by decide)) (fun _ hk => hk.2) (.int .i64 t726)) (fun _ hk => hk.2) (.int .i64 t727)) (fun _ hk => hk.2) (.slice Ao122 t728.length co122)) om_⟩
                            have n3_ : Aside0 (Kd.R (Kd.int .i64) 3 (((w116.setCell ⟨gb732, 0, none⟩ (.int .i64 t726)).setCell ⟨gb732, 1, none⟩ (.int .i64 t727)).setCell ⟨gb732, 2, none⟩ (.slice Ao122 t728.length co122)) w.heap.size (fun k_ => some k_ ≠ (.slice Ao12 t653.length co12 : Value).ownBlock ∧ some k_ ≠ (.slice Ao58 t686.length co58 : Value).ownBlock ∧ some k_ ≠ (.slice Ao74 t699.length co74 : Value).ownBlock ∧ some k_ ≠ (.slice Ao122 t728.length co122 : Value).ownBlock) (.slice Ao98 t713.length co98) t713) := ⟨by (with_reducible repeat (first | apply Kd.R_alloc | apply Kd.R_drewN | apply Kd.R_drew)); exact Kd.R_mono (Kd.R_far (p := ⟨gb732, 2, none⟩) (Kd.R_far (p := ⟨gb732, 1, none⟩) (Kd.R_far (p := ⟨gb732, 0, none⟩) (Kd.R_types HO_720002.out BK732.out (by decide)) (fun _ hk => hk.2) (.int .i64 t726)) (fun _ hk => hk.2) (.int .i64 t727)) (fun _ hk => hk.2) (.slice Ao122 t728.length co122)) om_⟩
                            have n4_ : Aside0 (Kd.R (Kd.int .i64) 3 (((w116.setCell ⟨gb732, 0, none⟩ (.int .i64 t726)).setCell ⟨gb732, 1, none⟩ (.int .i64 t727)).setCell ⟨gb732, 2, none⟩ (.slice Ao122 t728.length co122)) w.heap.size (fun k_ => some k_ ≠ (.slice Ao12 t653.length co12 : Value).ownBlock ∧ some k_ ≠ (.slice Ao58 t686.length co58 : Value).ownBlock ∧ some k_ ≠ (.slice Ao74 t699.length co74 : Value).ownBlock ∧ some k_ ≠ (.slice Ao98 t713.length co98 : Value).ownBlock) (.slice Ao122 t728.length co122) t728) := ⟨by (with_reducible repeat (first | apply Kd.R_alloc | apply Kd.R_drewN | apply Kd.R_drew)); exact Kd.R_mono (Kd.R_far (p := ⟨gb732, 2, none⟩) (Kd.R_far (p := ⟨gb732, 1, none⟩) (Kd.R_far (p := ⟨gb732, 0, none⟩) (Kd.R_types HO730.out BK732.out (by decide)) (fun _ hk => hk.2) (.int .i64 t726)) (fun _ hk => hk.2) (.int .i64 t727)) (fun _ hk => hk.2) (.slice Ao122 t728.length co122)) om_⟩
                            have n5_ : Aside0 ((((w116.setCell ⟨gb732, 0, none⟩ (.int .i64 t726)).setCell ⟨gb732, 1, none⟩ (.int .i64 t727)).setCell ⟨gb732, 2, none⟩ (.slice Ao122 t728.length co122)).heap[gb659]? = some (.cells #[.int .i64 t651, .int .i64 t652, .slice Ao12 t653.length co12] 26 (0, 0))) := ⟨tk_ BK659⟩
                            have n6_ : Aside0 ((((w116.setCell ⟨gb732, 0, none⟩ (.int .i64 t726)).setCell ⟨gb732, 1, none⟩ (.int .i64 t727)).setCell ⟨gb732, 2, none⟩ (.slice Ao122 t728.length co122)).heap[gb692]? = some (.cells #[.int .i64 t684, .int .i64 t685, .slice Ao58 t686.length co58] 26 (0, 0))) := ⟨tk_ BK692⟩
                            have n7_ : Aside0 ((((w116.setCell ⟨gb732, 0, none⟩ (.int .i64 t726)).setCell ⟨gb732, 1, none⟩ (.int .i64 t727)).setCell ⟨gb732, 2, none⟩ (.slice Ao122 t728.length co122)).heap[gb704]? = some (.cells #[.int .i64 t697, .int .i64 t698, .slice Ao74 t699.length co74] 26 (0, 0))) := ⟨tk_ BK704⟩
                            have n8_ : Aside0 ((((w116.setCell ⟨gb732, 0, none⟩ (.int .i64 t726)).setCell ⟨gb732, 1, none⟩ (.int .i64 t727)).setCell ⟨gb732, 2, none⟩ (.slice Ao122 t728.length co122)).heap[gb719]? = some (.cells #[.int .i64 t711, .int .i64 t712, .slice Ao98 t713.length co98] 26 (0, 0))) := ⟨tk_ BK719⟩
                            have n9_ : Aside0 ((((w116.setCell ⟨gb732, 0, none⟩ (.int .i64 t726)).setCell ⟨gb732, 1, none⟩ (.int .i64 t727)).setCell ⟨gb732, 2, none⟩ (.slice Ao122 t728.length co122)).heap[gb732]? = some (.cells #[.int .i64 t726, .int .i64 t727, .slice Ao122 t728.length co122] 26 (0, 0))) := ⟨by (with_reducible repeat (first | refine blk_drewN ?_ _ | refine blk_drew ?_ | refine blk_alloc ?_ _)); refine blk_put (cs := #[.int .i64 t726, .int .i64 t727, .slice none 0 0]) ?_ 2 _ rfl; (with_reducible repeat (first | refine blk_drewN ?_ _ | refine blk_drew ?_ | refine blk_alloc ?_ _)); refine blk_put (cs := #[.int .i64 t726, .int .i64 0, .slice none 0 0]) ?_ 1 _ rfl; (with_reducible repeat (first | refine blk_drewN ?_ _ | refine blk_drew ?_ | refine blk_alloc ?_ _)); refine blk_put (cs := #[.int .i64 0, .int .i64 0, .slice none 0 0]) ?_ 0 _ rfl; (with_reducible repeat (first | refine blk_drewN ?_ _ | refine blk_drew ?_ | refine blk_alloc ?_ _)); exact BK732.out⟩
                            have n10_ : Aside0 (Below w.heap.size w (((w116.setCell ⟨gb732, 0, none⟩ (.int .i64 t726)).setCell ⟨gb732, 1, none⟩ (.int .i64 t727)).setCell ⟨gb732, 2, none⟩ (.slice Ao122 t728.length co122))) := ⟨tb_⟩
                            (try clear HO_660002)
                            (try clear HO_693002)
                            (try clear HO_705002)
                            (try clear HO_720002)
                            (try clear HO730)
                            (try clear BK659)
                            (try clear BK692)
                            (try clear BK704)
                            (try clear BK719)
                            (try clear BK732)
                            (try clear HB)
                            generalize (((w116.setCell ⟨gb732, 0, none⟩ (.int .i64 t726)).setCell ⟨gb732, 1, none⟩ (.int .i64 t727)).setCell ⟨gb732, 2, none⟩ (.slice Ao122 t728.length co122)) = w123 at n0_ n1_ n2_ n3_ n4_ n5_ n6_ n7_ n8_ n9_ n10_ ⊢
                            have HO_660002 := n0_
                            have HO_693002 := n1_
                            have HO_705002 := n2_
                            have HO_720002 := n3_
                            have HO730 := n4_
                            have BK659 := n5_
                            have BK692 := n6_
                            have BK704 := n7_
                            have BK719 := n8_
                            have BK732 := n9_
                            have HB := n10_
                            clear n0_ n1_ n2_ n3_ n4_ n5_ n6_ n7_ n8_ n9_ n10_
                            have n0_ := A_ (Kd.R_drew HO_660002.out)
                            have n1_ := A_ (Kd.R_drew HO_693002.out)
                            have n2_ := A_ (Kd.R_drew HO_705002.out)
                            have n3_ := A_ (Kd.R_drew HO_720002.out)
                            have n4_ := A_ (Kd.R_drew HO730.out)
                            have n5_ := A_ (blk_drew BK659.out)
                            have n6_ := A_ (blk_drew BK692.out)
                            have n7_ := A_ (blk_drew BK704.out)
                            have n8_ := A_ (blk_drew BK719.out)
                            have n9_ := A_ (blk_drew BK732.out)
                            have n10_ := A_ (below_drew1 HB.out)
                            clear HO_660002
                            clear HO_693002
                            clear HO_705002
                            clear HO_720002
                            clear HO730
                            clear BK659
                            clear BK692
                            clear BK704
                            clear BK719
                            clear BK732
                            clear HB
                            have HO_660002 := n0_
                            have HO_693002 := n1_
                            have HO_705002 := n2_
                            have HO_720002 := n3_
                            have HO730 := n4_
                            have BK659 := n5_
                            have BK692 := n6_
                            have BK704 := n7_
                            have BK719 := n8_
                            have BK732 := n9_
                            have HB := n10_
                            clear n0_ n1_ n2_ n3_ n4_ n5_ n6_ n7_ n8_ n9_ n10_
                            refine start_ (n := 21) (S := fun w' => w'.cell? ⟨gb732, 0, none⟩ = some (.int .i64 t726) ∧ w'.cell? ⟨gb732, 1, none⟩ = some (.int .i64 t727) ∧ w'.cell? ⟨gb732, 2, none⟩ = some (.slice Ao122 t728.length co122) ∧ w'.cell? ⟨gb719, 0, none⟩ = some (.int .i64 t711) ∧ w'.cell? ⟨gb719, 1, none⟩ = some (.int .i64 t712) ∧ w'.cell? ⟨gb719, 2, none⟩ = some (.slice Ao98 t713.length co98)) (ds := []) (Fn.bl 21 0) (by kernel_rfl) rfl rfl ⟨(blk_cell BK732.out 0).trans rfl, (blk_cell BK732.out 1).trans rfl, (blk_cell BK732.out 2).trans rfl, (blk_cell BK719.out 0).trans rfl, (blk_cell BK719.out 1).trans rfl, (blk_cell BK719.out 2).trans rfl⟩ (fun hHeld => ?_); refine with_tabW laws_FnPiecesQuiet.tab43 laws_FnPiecesQuiet.bits43 (fun HT_ HW_ => ?_)
                            generalize w123.drew = w124 at HO_660002 HO_693002 HO_705002 HO_720002 HO730 BK659 BK692 BK704 BK719 BK732 HB hHeld ⊢
                            refine pq_ 0 (some 274) (Fn.bl 21 1) HT_.out ?_
                            refine pq_ 1 (some 275) (Fn.bl 21 3) HT_.out ?_
                            refine pq_ 2 (some 276) (Fn.bl 21 7) HT_.out ?_
                            refine pq_ 3 (some 277) (Fn.bl 21 15) HT_.out ?_
                            refine pq_ 4 (some 278) (Fn.bl 21 31) HT_.out ?_
                            refine pq_ 5 (some 279) (Fn.bl 21 63) HT_.out ?_
                            refine pq_ 6 (some 280) (Fn.bl 21 127) HT_.out ?_
                            refine pq_ 7 (some 281) (Fn.bl 21 255) HT_.out ?_
                            refine pq_ 8 (some 282) (Fn.bl 21 511) HT_.out ?_
                            refine pq_ 9 (some 283) (Fn.bl 21 1023) HT_.out ?_
                            refine pq_ 11 (some 285) (Fn.bl 21 3071) HT_.out ?_
                            refine pq_ 12 (some 286) (Fn.bl 21 7167) HT_.out ?_
                            refine pq_ 15 (some 289) (Fn.bl 21 39935) HT_.out ?_
                            refine pq_ 16 (some 290) (Fn.bl 21 105471) HT_.out ?_
                            refine tq_ 10 (some 284) (Fn.bl 21 106495) HT_.out HW_.out hHeld ?_ (hy0 := by rintro w' ⟨s0, s1, s2, s3, s4, s5⟩; go_simp; with_reducible rfl)
                            refine tq_ 14 (some 288) (Fn.bl 21 122879) HT_.out HW_.out hHeld ?_ (hy0 := by rintro w' ⟨s0, s1, s2, s3, s4, s5⟩; go_simp; with_reducible rfl)
                            refine one_ (i := 13) (N := some 287) (Fn.bl 21 131071) rfl rfl (one_of HT_.out (by kernel_rfl)) (by decide) (fun K hK => ?_)
                            refine goes_ Try.func13 (by kernel_rfl) rfl #[.agg #[.int .i64 t726, .int .i64 t727, .slice Ao122 t728.length co122], .int .i64 t717, .int .i64 t718] (by rfl) rfl rfl ta_ ?_
                            with_reducible refine (laws_rOn.calls t726 t727 _ _ t728 t717 t718 t733 _ ?side1 ?side2 A109.out).mono ?_
                            (case side1 => exact tc0_ (Kd.R_reads' HO730.out).2.2)
                            (case side2 => exact (Kd.R_reads' HO730.out).2.1)
                            rintro e w125 ⟨rfl, hb⟩
                            refine ⟨_, rfl, ?_⟩
                            have n0_ := A_ (Kd.R_below (tr_x HO_660002.out) hb)
                            have n1_ := A_ (Kd.R_below (tr_x HO_693002.out) hb)
                            have n2_ := A_ (Kd.R_below (tr_x HO_705002.out) hb)
                            have n3_ := A_ (Kd.R_below (tr_x HO_720002.out) hb)
                            have n4_ := A_ (Kd.R_below (tr_x HO730.out) hb)
                            have n5_ := A_ (blk_below (g := gb659) (o := .cells #[.int .i64 t651, .int .i64 t652, .slice Ao12 t653.length co12] 26 (0, 0)) (tk_ BK659) hb)
                            have n6_ := A_ (blk_below (g := gb692) (o := .cells #[.int .i64 t684, .int .i64 t685, .slice Ao58 t686.length co58] 26 (0, 0)) (tk_ BK692) hb)
                            have n7_ := A_ (blk_below (g := gb704) (o := .cells #[.int .i64 t697, .int .i64 t698, .slice Ao74 t699.length co74] 26 (0, 0)) (tk_ BK704) hb)
                            have n8_ := A_ (blk_below (g := gb719) (o := .cells #[.int .i64 t711, .int .i64 t712, .slice Ao98 t713.length co98] 26 (0, 0)) (tk_ BK719) hb)
                            have n9_ := A_ (blk_below (g := gb732) (o := .cells #[.int .i64 t726, .int .i64 t727, .slice Ao122 t728.length co122] 26 (0, 0)) (tk_ BK732) hb)
                            have n10_ := A_ (below_step tb_ hb)
                            clear HO_660002
                            clear HO_693002
                            clear HO_705002
                            clear HO_720002
                            clear HO730
                            clear BK659
                            clear BK692
                            clear BK704
                            clear BK719
                            clear BK732
                            clear HB
                            have HO_660002 := n0_
                            have HO_693002 := n1_
                            have HO_705002 := n2_
                            have HO_720002 := n3_
                            have HO730 := n4_
                            have BK659 := n5_
                            have BK692 := n6_
                            have BK704 := n7_
                            have BK719 := n8_
                            have BK732 := n9_
                            have HB := n10_
                            clear n0_ n1_ n2_ n3_ n4_ n5_ n6_ n7_ n8_ n9_ n10_
                            (try clear hb)
                            (try clear hb2)
                            (try clear hk)
                            (try clear hi)
                            refine hK.out _ _ ⟨(blk_cell BK732.out 0).trans rfl, (blk_cell BK732.out 1).trans rfl, (blk_cell BK732.out 2).trans rfl, (blk_cell BK719.out 0).trans rfl, (blk_cell BK719.out 1).trans rfl, (blk_cell BK719.out 2).trans rfl⟩ (fun hHeld => ?_)
                            clear hK K
                            refine norm_ (a' := ?_) ?_ ?_
                            rotate_left
                            ·
                             show Act.put _ (some 287) _ = _
                             simp only [Act.put, List.setIfInBounds_toArray, List.set_cons_zero, List.set_cons_succ, i64_w, i32_w]
                             rfl
                            refine one_ (i := 17) (N := some 291) (Fn.bl 21 262143) rfl rfl (one_of HT_.out (by kernel_rfl)) (by decide) (fun K hK => ?_)
                            refine goes_ Try.func13 (by kernel_rfl) rfl #[.agg #[.int .i64 t711, .int .i64 t712, .slice Ao98 t713.length co98], .int .i64 t720, .int .i64 t721] (by rfl) rfl rfl ta_ ?_
                            with_reducible refine (laws_rOn.calls t711 t712 _ _ t713 t720 t721 t734 _ ?side1 ?side2 A110.out).mono ?_
                            (case side1 => exact tc0_ (Kd.R_reads' HO_720002.out).2.2)
                            (case side2 => exact (Kd.R_reads' HO_720002.out).2.1)
                            rintro e w126 ⟨rfl, hb⟩
                            refine ⟨_, rfl, ?_⟩
                            have n0_ := A_ (Kd.R_below (tr_x HO_660002.out) hb)
                            have n1_ := A_ (Kd.R_below (tr_x HO_693002.out) hb)
                            have n2_ := A_ (Kd.R_below (tr_x HO_705002.out) hb)
                            have n3_ := A_ (Kd.R_below (tr_x HO_720002.out) hb)
                            have n4_ := A_ (Kd.R_below (tr_x HO730.out) hb)
                            have n5_ := A_ (blk_below (g := gb659) (o := .cells #[.int .i64 t651, .int .i64 t652, .slice Ao12 t653.length co12] 26 (0, 0)) (tk_ BK659) hb)
                            have n6_ := A_ (blk_below (g := gb692) (o := .cells #[.int .i64 t684, .int .i64 t685, .slice Ao58 t686.length co58] 26 (0, 0)) (tk_ BK692) hb)
                            have n7_ := A_ (blk_below (g := gb704) (o := .cells #[.int .i64 t697, .int .i64 t698, .slice Ao74 t699.length co74] 26 (0, 0)) (tk_ BK704) hb)
                            have n8_ := A_ (blk_below (g := gb719) (o := .cells #[.int .i64 t711, .int .i64 t712, .slice Ao98 t713.length co98] 26 (0, 0)) (tk_ BK719) hb)
                            have n9_ := A_ (blk_below (g := gb732) (o := .cells #[.int .i64 t726, .int .i64 t727, .slice Ao122 t728.length co122] 26 (0, 0)) (tk_ BK732) hb)
                            have n10_ := A_ (below_step tb_ hb)
                            clear HO_660002
                            clear HO_693002
                            clear HO_705002
                            clear HO_720002
                            clear HO730
                            clear BK659
                            clear BK692
                            clear BK704
                            clear BK719
                            clear BK732
                            clear HB
                            have HO_660002 := n0_
                            have HO_693002 := n1_
                            have HO_705002 := n2_
                            have HO_720002 := n3_
                            have HO730 := n4_
                            have BK659 := n5_
                            have BK692 := n6_
                            have BK704 := n7_
                            have BK719 := n8_
                            have BK732 := n9_
                            have HB := n10_
                            clear n0_ n1_ n2_ n3_ n4_ n5_ n6_ n7_ n8_ n9_ n10_
                            (try clear hb)
                            (try clear hb2)
                            (try clear hk)
                            (try clear hi)
                            refine hK.out _ _ ⟨(blk_cell BK732.out 0).trans rfl, (blk_cell BK732.out 1).trans rfl, (blk_cell BK732.out 2).trans rfl, (blk_cell BK719.out 0).trans rfl, (blk_cell BK719.out 1).trans rfl, (blk_cell BK719.out 2).trans rfl⟩ (fun hHeld => ?_)
                            clear hK K
                            refine norm_ (a' := ?_) ?_ ?_
                            rotate_left
                            ·
                             show Act.put _ (some 291) _ = _
                             simp only [Act.put, List.setIfInBounds_toArray, List.set_cons_zero, List.set_cons_succ, i64_w, i32_w]
                             rfl
                            refine pq_ 18 (some 292) (Fn.bl 21 524287) HT_.out ?_
                            refine pq_ 19 (some 293) (Fn.bl 21 1048575) HT_.out ?_
                            refine pq_ 20 (some 4) (Fn.bl 21 2097151) HT_.out ?_
                            refine done_ (done_of HT_.out (by kernel_rfl)) ?_
                            try go_wp2
                            go_ret
                            exact ⟨te_, tb_⟩
                           ·
                            rw [if_neg c108] at H
                            have c108b0 : ((Int.tmod (wrap64 (t720 + t721)) 2) == t716) = false := beq_eq_false_iff_ne.mpr c108
                            have c108b1 : ((Int.tmod (wrap64 (t720 + t721)) 2) != t716) = true := bne_iff_ne.mpr c108
                            exact absurd H (by simp)
                          ·
                           replace c107 := Bool.eq_false_iff.mpr c107
                           subst c107
                           have H1 : (none) = some r := by rw [if_neg (show ¬ (false = true) by decide)] at H; exact H
                           clear H
                           have H := H1
                           clear H1
                           exact absurd H (by simp)
                         ·
                          replace c105 := Bool.eq_false_iff.mpr c105
                          subst c105
                          have H1 : (some true) = some r := by rw [if_neg (show ¬ (false = true) by decide)] at H; exact H
                          clear H
                          have H := H1
                          clear H1
                          obtain rfl := Option.some.inj H
                          go_wp2
                          go_ret
                          exact ⟨te_, tb_⟩
      
/-- THE ONE PURE STATEMENT of laws_FnPiecesQuiet: yours. -/
def laws_FnPiecesQuiet.Pure : Prop := ∀ (l0 : List Int) (l1 : List Int), l0.length ≤ maxLen → l0.length * 1 ≤ 140737488351232 → (∀ x ∈ l0, (Lit.int .u8 x).wf = true) → l1.length ≤ maxLen → l1.length * 1 ≤ 140737488351232 → (∀ x ∈ l1, (Lit.int .u8 x).wf = true) → ∃ k, laws_FnPiecesQuiet.f k l0 l1 = some true
theorem laws_FnPiecesQuiet.walk (P : laws_FnPiecesQuiet.Pure) (a0 : Option Addr) (len0 cap0 : Nat) (z0 : List Int) (a1 : Option Addr) (len1 cap1 : Nat) (z1 : List Int) (w : World) (w0 : (a0 = none ∧ len0 = 0 ∧ cap0 = 0 ∧ z0 = []) ∨ ∃ x, a0 = some x ∧ len0 ≤ cap0 ∧ cap0 ≤ maxLen ∧ z0.length = cap0 ∧ (∀ i, i < z0.length → w.cell? (x.add i) = some (.int .u8 (z0.getD i 0))) ∧ ∀ n ∈ z0, (Lit.int .u8 n).wf = true) (y0 : len0 * 1 ≤ 140737488351232) (w1 : (a1 = none ∧ len1 = 0 ∧ cap1 = 0 ∧ z1 = []) ∨ ∃ x, a1 = some x ∧ len1 ≤ cap1 ∧ cap1 ≤ maxLen ∧ z1.length = cap1 ∧ (∀ i, i < z1.length → w.cell? (x.add i) = some (.int .u8 (z1.getD i 0))) ∧ ∀ n ∈ z1, (Lit.int .u8 n).wf = true) (y1 : len1 * 1 ≤ 140737488351232) :
  Calls Try.prog 3 #[.slice a0 len0 cap0, .slice a1 len1 cap1] w fun e w' => e = .returned (.bool true) ∧ Below w.heap.size w w' := by
 obtain ⟨l0, rfl, hr0, hm0, hw0, hc0⟩ := ReadsInt.ofRowC w0
 obtain ⟨l1, rfl, hr1, hm1, hw1, hc1⟩ := ReadsInt.ofRowC w1
 obtain ⟨k, h⟩ := P l0 l1 hm0 y0 hw0 hm1 y1 hw1
 refine (laws_FnPiecesQuiet.calls k _ _ l0 _ _ l1 true w (Kd.C_of_reads (d := (0 : Int)) (h1 := fun _ => rfl) hr0) hc0 (Kd.C_of_reads (d := (0 : Int)) (h1 := fun _ => rfl) hr1) hc1 h).mono ?_
 rintro e w' ⟨rfl, hd⟩
 exact ⟨rfl, hd⟩

end
end Go.Proofs.Ytjjfcghoikdopaa.P
