-- printed functions (wip/slim.py)
import Derived.Test.YtnpacpdpgngdpaaPx0
import Derived.Test.YtnpacpdpgngdpaaQd7dd145bbf
import Derived.Test.YtnpacpdpgngdpaaQb6d77b62a6
import Derived.Test.YtnpacpdpgngdpaaQc8e7b46c3d
import Derived.Test.YtnpacpdpgngdpaaQ239bcffbe8
import Derived.Test.YtnpacpdpgngdpaaQ6f7dd83fb2
namespace Go.Proofs.Ytnpacpdpgngdpaa.P
noncomputable section
set_option maxHeartbeats 8000000
set_option maxRecDepth 100000
open Go.RowKit Go.Proofs.YtnpacpdpgngdpaaW.PrintWords Go.Proofs.YtnpacpdpgngdpaaW.PrintLast Go.Proofs.YtnpacpdpgngdpaaW.PrintMore
attribute [local go_sem] max2_int min2_int max_two min_two max_three min_three max_four min_four   -- for this text's walks alone
set_option linter.unusedVariables false
set_option linter.unusedSimpArgs false

/-! ### laws_FnFilesCounted: function 16 -/
mutual
def laws_FnFilesCounted.j0 : Nat → List Int → Bool → Option (Bool)
 | 0, _, _ => none
 | k + 1, x1, x64 => if x64 = true then (none) else ((spec_DrawFileValue.f k x1).bind fun bt1941 => ((impl_FileValue.f k bt1941.1 bt1941.2.1 bt1941.2.2.1 bt1941.2.2.2).bind fun bt1948 => ((spec_FileValue.f k bt1941.1 bt1941.2.1 bt1941.2.2.1 bt1941.2.2.2).bind fun bt1950 => (if (bt1948.2 != bt1950.2) = true then (none) else (laws_FnFilesCounted.j1 k x1 bt1941.2.2.2 bt1948.1 bt1948.2 (bt1948.1 != bt1950.1) bt1941.1 bt1941.2.1 bt1941.2.2.1)))))
def laws_FnFilesCounted.j1 : Nat → List Int → Int → Int → Bool → Bool → Int → Int → List Int → Option (Bool)
 | 0, _, _, _, _, _, _, _, _ => none
 | k + 1, x1, x11, x12, x13, x89, x1948000, x1948001, x1948002 => if x89 = true then (none) else (if x13 = true then ((impl_FileNumbers.f k x1948000 x1948001 x1948002).bind fun bt1952 => (laws_FnFilesCounted.l0 k x1 x11 x12 bt1952.2 0 bt1952.1 (bt1952.1.length : Int) 0)) else (laws_FnFilesCounted.j3 k x1))
def laws_FnFilesCounted.j3 : Nat → List Int → Option (Bool)
 | 0, _ => none
 | k + 1, x1 => (spec_DrawArrowBoard.f x1).bind fun t1957 => ((impl_ArrowBoard.f k t1957).bind fun bt1958 => ((spec_ArrowBoard.f k t1957).bind fun bt1965 => (if (bt1958.2.2.2 != bt1965.2.2.2) = true then (none) else ((laws_kBoard.f k bt1958.1 bt1958.2.1 bt1958.2.2.1 bt1965.1 bt1965.2.1 bt1965.2.2.1).bind fun t1972 => (laws_FnFilesCounted.j4 k x1 t1957 bt1958.2.2.2 (!t1972) bt1958.1 bt1958.2.1 bt1958.2.2.1)))))
def laws_FnFilesCounted.j4 : Nat → List Int → Int → Bool → Bool → Int → Int → List Int → Option (Bool)
 | 0, _, _, _, _, _, _, _ => none
 | k + 1, x1, x21, x23, x135, x1965000, x1965001, x1965002 => if x135 = true then (none) else (if x23 = true then ((impl_RookNumbers.f k x1965000 x1965001 x1965002).bind fun bt1973 => ((impl_FileNumbers.f k x1965000 x1965001 x1965002).bind fun bt1977 => (if bt1973.2 = true then (laws_FnFilesCounted.j5 k x1 x21 bt1973.1 bt1977.1 (!bt1977.2)) else (none)))) else ((spec_DrawIsFilePlacement.f k x1).bind fun bt2000 => ((impl_IsFilePlacement.f k bt2000.1 bt2000.2.1 bt2000.2.2.1 bt2000.2.2.2).bind fun bt2009 => ((spec_IsFilePlacement.f k bt2000.1 bt2000.2.1 bt2000.2.2.1 bt2000.2.2.2).bind fun bt2011 => (if (bt2009.2 == bt2011.2) = true then (some (bt2009.1 == bt2011.1)) else (none))))))
def laws_FnFilesCounted.j5 : Nat → List Int → Int → List Int → List Int → Bool → Option (Bool)
 | 0, _, _, _, _, _ => none
 | k + 1, x1, x21, x26, x28, x152 => if x152 = true then (none) else (laws_FnFilesCounted.l1 k x1 x21 x26 x28 0)
def laws_FnFilesCounted.l1 : Nat → List Int → Int → List Int → List Int → Int → Option (Bool)
 | 0, _, _, _, _, _ => none
 | k + 1, x1, x21, x26, x28, x30 => if x30 ≤ x21 then ((impl_StirlingSecond.f k x21 (wrap64 (x21 - x30))).bind fun bt1994 => ((impl_StirlingFirst.f k x21 (wrap64 (x21 - x30))).bind fun bt1996 => (if bt1994.2 = true then (if bt1996.2 = true then (if 0 ≤ x30 then (if x30 < (x26.length : Int) then (if (rd x26 x30) = bt1994.1 then (if x30 < (x28.length : Int) then (if (rd x28 x30) = bt1996.1 then (laws_FnFilesCounted.l1 k x1 x21 x26 x28 (wrap64 (x30 + 1))) else (none)) else (none)) else (none)) else (none)) else (none)) else (none)) else (none)))) else ((spec_DrawIsFilePlacement.f k x1).bind fun bt1981 => ((impl_IsFilePlacement.f k bt1981.1 bt1981.2.1 bt1981.2.2.1 bt1981.2.2.2).bind fun bt1990 => ((spec_IsFilePlacement.f k bt1981.1 bt1981.2.1 bt1981.2.2.1 bt1981.2.2.2).bind fun bt1992 => (if (bt1990.2 == bt1992.2) = true then (some (bt1990.1 == bt1992.1)) else (none)))))
def laws_FnFilesCounted.l0 : Nat → List Int → Int → Int → Bool → Int → List Int → Int → Int → Option (Bool)
 | 0, _, _, _, _, _, _, _, _ => none
 | k + 1, x1, x11, x12, x17, x18, x96, x97, x98 => if x98 < x97 then (if 0 ≤ x98 then (if x98 < (x96.length : Int) then (laws_FnFilesCounted.l0 k x1 x11 x12 x17 (wrap64 ((wrap64 (x18 * x11)) + (rd x96 x98))) x96 x97 (wrap64 (x98 + 1))) else (none)) else (none)) else (if x17 = true then (if x18 = x12 then (laws_FnFilesCounted.j3 k x1) else (none)) else (none))
end
def laws_FnFilesCounted.f (k : Nat) (l0 : List Int) (l1 : List Int) : Option (Bool) := (laws_big.f l0 l1).bind fun t1925 => (if t1925 = true then (some true) else ((spec_DrawFileNumbers.f k l0).bind fun bt1926 => ((impl_FileNumbers.f k bt1926.1 bt1926.2.1 bt1926.2.2).bind fun bt1932 => ((spec_FileNumbers.f k bt1926.1 bt1926.2.1 bt1926.2.2).bind fun bt1936 => (if (bt1932.2 != bt1936.2) = true then (none) else ((laws_kSame.f k bt1932.1 bt1936.1).bind fun t1940 => (laws_FnFilesCounted.j0 k l1 (!t1940))))))))
theorem laws_FnFilesCounted.mono_l : ∀ k, (∀ y0 y1, LeO (laws_FnFilesCounted.j0 k y0 y1) (laws_FnFilesCounted.j0 (k + 1) y0 y1)) ∧ (∀ y0 y1 y2 y3 y4 y5 y6 y7, LeO (laws_FnFilesCounted.j1 k y0 y1 y2 y3 y4 y5 y6 y7) (laws_FnFilesCounted.j1 (k + 1) y0 y1 y2 y3 y4 y5 y6 y7)) ∧ (∀ y0, LeO (laws_FnFilesCounted.j3 k y0) (laws_FnFilesCounted.j3 (k + 1) y0)) ∧ (∀ y0 y1 y2 y3 y4 y5 y6, LeO (laws_FnFilesCounted.j4 k y0 y1 y2 y3 y4 y5 y6) (laws_FnFilesCounted.j4 (k + 1) y0 y1 y2 y3 y4 y5 y6)) ∧ (∀ y0 y1 y2 y3 y4, LeO (laws_FnFilesCounted.j5 k y0 y1 y2 y3 y4) (laws_FnFilesCounted.j5 (k + 1) y0 y1 y2 y3 y4)) ∧ (∀ y0 y1 y2 y3 y4, LeO (laws_FnFilesCounted.l1 k y0 y1 y2 y3 y4) (laws_FnFilesCounted.l1 (k + 1) y0 y1 y2 y3 y4)) ∧ (∀ y0 y1 y2 y3 y4 y5 y6 y7, LeO (laws_FnFilesCounted.l0 k y0 y1 y2 y3 y4 y5 y6 y7) (laws_FnFilesCounted.l0 (k + 1) y0 y1 y2 y3 y4 y5 y6 y7))
 | 0 => ⟨fun _ _ r h => by simp [laws_FnFilesCounted.j0] at h, fun _ _ _ _ _ _ _ _ r h => by simp [laws_FnFilesCounted.j1] at h, fun _ r h => by simp [laws_FnFilesCounted.j3] at h, fun _ _ _ _ _ _ _ r h => by simp [laws_FnFilesCounted.j4] at h, fun _ _ _ _ _ r h => by simp [laws_FnFilesCounted.j5] at h, fun _ _ _ _ _ r h => by simp [laws_FnFilesCounted.l1] at h, fun _ _ _ _ _ _ _ _ r h => by simp [laws_FnFilesCounted.l0] at h⟩
 | k + 1 => by
  obtain ⟨ih0, ih1, ih2, ih3, ih4, ih5, ih6⟩ := laws_FnFilesCounted.mono_l k
  refine ⟨?_, ?_, ?_, ?_, ?_, ?_, ?_⟩
  ·
   intro y0 y1
   unfold laws_FnFilesCounted.j0
   repeat' first | (with_reducible first | exact ih0 _ _ | exact ih1 _ _ _ _ _ _ _ _ | exact ih2 _ | exact ih3 _ _ _ _ _ _ _ | exact ih4 _ _ _ _ _ | exact ih5 _ _ _ _ _ | exact ih6 _ _ _ _ _ _ _ _ | exact impl_ArrowBoard.mono _ _ | exact impl_FileNumbers.mono _ _ _ _ | exact impl_FileValue.mono _ _ _ _ _ | exact impl_IsFilePlacement.mono _ _ _ _ _ | exact impl_RookNumbers.mono _ _ _ _ | exact impl_StirlingFirst.mono _ _ _ | exact impl_StirlingSecond.mono _ _ _ | exact laws_kBoard.mono _ _ _ _ _ _ _ | exact laws_kSame.mono _ _ _ | exact spec_ArrowBoard.mono _ _ | exact spec_DrawFileNumbers.mono _ _ | exact spec_DrawFileValue.mono _ _ | exact spec_DrawIsFilePlacement.mono _ _ | exact spec_FileNumbers.mono _ _ _ _ | exact spec_FileValue.mono _ _ _ _ _ | exact spec_IsFilePlacement.mono _ _ _ _ _ | exact LeO.refl _ | exact LeO.none _ | refine LeO.ite ?_ ?_ | refine LeO.bind ?_ (fun _ => ?_)) | exact ih0 _ _ | exact ih1 _ _ _ _ _ _ _ _ | exact ih2 _ | exact ih3 _ _ _ _ _ _ _ | exact ih4 _ _ _ _ _ | exact ih5 _ _ _ _ _ | exact ih6 _ _ _ _ _ _ _ _ | exact impl_ArrowBoard.mono _ _ | exact impl_FileNumbers.mono _ _ _ _ | exact impl_FileValue.mono _ _ _ _ _ | exact impl_IsFilePlacement.mono _ _ _ _ _ | exact impl_RookNumbers.mono _ _ _ _ | exact impl_StirlingFirst.mono _ _ _ | exact impl_StirlingSecond.mono _ _ _ | exact laws_kBoard.mono _ _ _ _ _ _ _ | exact laws_kSame.mono _ _ _ | exact spec_ArrowBoard.mono _ _ | exact spec_DrawFileNumbers.mono _ _ | exact spec_DrawFileValue.mono _ _ | exact spec_DrawIsFilePlacement.mono _ _ | exact spec_FileNumbers.mono _ _ _ _ | exact spec_FileValue.mono _ _ _ _ _ | exact spec_IsFilePlacement.mono _ _ _ _ _ | exact LeO.none _ | refine LeO.ite ?_ ?_ | refine LeO.bind ?_ (fun _ => ?_)
  ·
   intro y0 y1 y2 y3 y4 y5 y6 y7
   unfold laws_FnFilesCounted.j1
   repeat' first | (with_reducible first | exact ih0 _ _ | exact ih1 _ _ _ _ _ _ _ _ | exact ih2 _ | exact ih3 _ _ _ _ _ _ _ | exact ih4 _ _ _ _ _ | exact ih5 _ _ _ _ _ | exact ih6 _ _ _ _ _ _ _ _ | exact impl_ArrowBoard.mono _ _ | exact impl_FileNumbers.mono _ _ _ _ | exact impl_FileValue.mono _ _ _ _ _ | exact impl_IsFilePlacement.mono _ _ _ _ _ | exact impl_RookNumbers.mono _ _ _ _ | exact impl_StirlingFirst.mono _ _ _ | exact impl_StirlingSecond.mono _ _ _ | exact laws_kBoard.mono _ _ _ _ _ _ _ | exact laws_kSame.mono _ _ _ | exact spec_ArrowBoard.mono _ _ | exact spec_DrawFileNumbers.mono _ _ | exact spec_DrawFileValue.mono _ _ | exact spec_DrawIsFilePlacement.mono _ _ | exact spec_FileNumbers.mono _ _ _ _ | exact spec_FileValue.mono _ _ _ _ _ | exact spec_IsFilePlacement.mono _ _ _ _ _ | exact LeO.refl _ | exact LeO.none _ | refine LeO.ite ?_ ?_ | refine LeO.bind ?_ (fun _ => ?_)) | exact ih0 _ _ | exact ih1 _ _ _ _ _ _ _ _ | exact ih2 _ | exact ih3 _ _ _ _ _ _ _ | exact ih4 _ _ _ _ _ | exact ih5 _ _ _ _ _ | exact ih6 _ _ _ _ _ _ _ _ | exact impl_ArrowBoard.mono _ _ | exact impl_FileNumbers.mono _ _ _ _ | exact impl_FileValue.mono _ _ _ _ _ | exact impl_IsFilePlacement.mono _ _ _ _ _ | exact impl_RookNumbers.mono _ _ _ _ | exact impl_StirlingFirst.mono _ _ _ | exact impl_StirlingSecond.mono _ _ _ | exact laws_kBoard.mono _ _ _ _ _ _ _ | exact laws_kSame.mono _ _ _ | exact spec_ArrowBoard.mono _ _ | exact spec_DrawFileNumbers.mono _ _ | exact spec_DrawFileValue.mono _ _ | exact spec_DrawIsFilePlacement.mono _ _ | exact spec_FileNumbers.mono _ _ _ _ | exact spec_FileValue.mono _ _ _ _ _ | exact spec_IsFilePlacement.mono _ _ _ _ _ | exact LeO.none _ | refine LeO.ite ?_ ?_ | refine LeO.bind ?_ (fun _ => ?_)
  ·
   intro y0
   unfold laws_FnFilesCounted.j3
   repeat' first | (with_reducible first | exact ih0 _ _ | exact ih1 _ _ _ _ _ _ _ _ | exact ih2 _ | exact ih3 _ _ _ _ _ _ _ | exact ih4 _ _ _ _ _ | exact ih5 _ _ _ _ _ | exact ih6 _ _ _ _ _ _ _ _ | exact impl_ArrowBoard.mono _ _ | exact impl_FileNumbers.mono _ _ _ _ | exact impl_FileValue.mono _ _ _ _ _ | exact impl_IsFilePlacement.mono _ _ _ _ _ | exact impl_RookNumbers.mono _ _ _ _ | exact impl_StirlingFirst.mono _ _ _ | exact impl_StirlingSecond.mono _ _ _ | exact laws_kBoard.mono _ _ _ _ _ _ _ | exact laws_kSame.mono _ _ _ | exact spec_ArrowBoard.mono _ _ | exact spec_DrawFileNumbers.mono _ _ | exact spec_DrawFileValue.mono _ _ | exact spec_DrawIsFilePlacement.mono _ _ | exact spec_FileNumbers.mono _ _ _ _ | exact spec_FileValue.mono _ _ _ _ _ | exact spec_IsFilePlacement.mono _ _ _ _ _ | exact LeO.refl _ | exact LeO.none _ | refine LeO.ite ?_ ?_ | refine LeO.bind ?_ (fun _ => ?_)) | exact ih0 _ _ | exact ih1 _ _ _ _ _ _ _ _ | exact ih2 _ | exact ih3 _ _ _ _ _ _ _ | exact ih4 _ _ _ _ _ | exact ih5 _ _ _ _ _ | exact ih6 _ _ _ _ _ _ _ _ | exact impl_ArrowBoard.mono _ _ | exact impl_FileNumbers.mono _ _ _ _ | exact impl_FileValue.mono _ _ _ _ _ | exact impl_IsFilePlacement.mono _ _ _ _ _ | exact impl_RookNumbers.mono _ _ _ _ | exact impl_StirlingFirst.mono _ _ _ | exact impl_StirlingSecond.mono _ _ _ | exact laws_kBoard.mono _ _ _ _ _ _ _ | exact laws_kSame.mono _ _ _ | exact spec_ArrowBoard.mono _ _ | exact spec_DrawFileNumbers.mono _ _ | exact spec_DrawFileValue.mono _ _ | exact spec_DrawIsFilePlacement.mono _ _ | exact spec_FileNumbers.mono _ _ _ _ | exact spec_FileValue.mono _ _ _ _ _ | exact spec_IsFilePlacement.mono _ _ _ _ _ | exact LeO.none _ | refine LeO.ite ?_ ?_ | refine LeO.bind ?_ (fun _ => ?_)
  ·
   intro y0 y1 y2 y3 y4 y5 y6
   unfold laws_FnFilesCounted.j4
   repeat' first | (with_reducible first | exact ih0 _ _ | exact ih1 _ _ _ _ _ _ _ _ | exact ih2 _ | exact ih3 _ _ _ _ _ _ _ | exact ih4 _ _ _ _ _ | exact ih5 _ _ _ _ _ | exact ih6 _ _ _ _ _ _ _ _ | exact impl_ArrowBoard.mono _ _ | exact impl_FileNumbers.mono _ _ _ _ | exact impl_FileValue.mono _ _ _ _ _ | exact impl_IsFilePlacement.mono _ _ _ _ _ | exact impl_RookNumbers.mono _ _ _ _ | exact impl_StirlingFirst.mono _ _ _ | exact impl_StirlingSecond.mono _ _ _ | exact laws_kBoard.mono _ _ _ _ _ _ _ | exact laws_kSame.mono _ _ _ | exact spec_ArrowBoard.mono _ _ | exact spec_DrawFileNumbers.mono _ _ | exact spec_DrawFileValue.mono _ _ | exact spec_DrawIsFilePlacement.mono _ _ | exact spec_FileNumbers.mono _ _ _ _ | exact spec_FileValue.mono _ _ _ _ _ | exact spec_IsFilePlacement.mono _ _ _ _ _ | exact LeO.refl _ | exact LeO.none _ | refine LeO.ite ?_ ?_ | refine LeO.bind ?_ (fun _ => ?_)) | exact ih0 _ _ | exact ih1 _ _ _ _ _ _ _ _ | exact ih2 _ | exact ih3 _ _ _ _ _ _ _ | exact ih4 _ _ _ _ _ | exact ih5 _ _ _ _ _ | exact ih6 _ _ _ _ _ _ _ _ | exact impl_ArrowBoard.mono _ _ | exact impl_FileNumbers.mono _ _ _ _ | exact impl_FileValue.mono _ _ _ _ _ | exact impl_IsFilePlacement.mono _ _ _ _ _ | exact impl_RookNumbers.mono _ _ _ _ | exact impl_StirlingFirst.mono _ _ _ | exact impl_StirlingSecond.mono _ _ _ | exact laws_kBoard.mono _ _ _ _ _ _ _ | exact laws_kSame.mono _ _ _ | exact spec_ArrowBoard.mono _ _ | exact spec_DrawFileNumbers.mono _ _ | exact spec_DrawFileValue.mono _ _ | exact spec_DrawIsFilePlacement.mono _ _ | exact spec_FileNumbers.mono _ _ _ _ | exact spec_FileValue.mono _ _ _ _ _ | exact spec_IsFilePlacement.mono _ _ _ _ _ | exact LeO.none _ | refine LeO.ite ?_ ?_ | refine LeO.bind ?_ (fun _ => ?_)
  ·
   intro y0 y1 y2 y3 y4
   unfold laws_FnFilesCounted.j5
   repeat' first | (with_reducible first | exact ih0 _ _ | exact ih1 _ _ _ _ _ _ _ _ | exact ih2 _ | exact ih3 _ _ _ _ _ _ _ | exact ih4 _ _ _ _ _ | exact ih5 _ _ _ _ _ | exact ih6 _ _ _ _ _ _ _ _ | exact impl_ArrowBoard.mono _ _ | exact impl_FileNumbers.mono _ _ _ _ | exact impl_FileValue.mono _ _ _ _ _ | exact impl_IsFilePlacement.mono _ _ _ _ _ | exact impl_RookNumbers.mono _ _ _ _ | exact impl_StirlingFirst.mono _ _ _ | exact impl_StirlingSecond.mono _ _ _ | exact laws_kBoard.mono _ _ _ _ _ _ _ | exact laws_kSame.mono _ _ _ | exact spec_ArrowBoard.mono _ _ | exact spec_DrawFileNumbers.mono _ _ | exact spec_DrawFileValue.mono _ _ | exact spec_DrawIsFilePlacement.mono _ _ | exact spec_FileNumbers.mono _ _ _ _ | exact spec_FileValue.mono _ _ _ _ _ | exact spec_IsFilePlacement.mono _ _ _ _ _ | exact LeO.refl _ | exact LeO.none _ | refine LeO.ite ?_ ?_ | refine LeO.bind ?_ (fun _ => ?_)) | exact ih0 _ _ | exact ih1 _ _ _ _ _ _ _ _ | exact ih2 _ | exact ih3 _ _ _ _ _ _ _ | exact ih4 _ _ _ _ _ | exact ih5 _ _ _ _ _ | exact ih6 _ _ _ _ _ _ _ _ | exact impl_ArrowBoard.mono _ _ | exact impl_FileNumbers.mono _ _ _ _ | exact impl_FileValue.mono _ _ _ _ _ | exact impl_IsFilePlacement.mono _ _ _ _ _ | exact impl_RookNumbers.mono _ _ _ _ | exact impl_StirlingFirst.mono _ _ _ | exact impl_StirlingSecond.mono _ _ _ | exact laws_kBoard.mono _ _ _ _ _ _ _ | exact laws_kSame.mono _ _ _ | exact spec_ArrowBoard.mono _ _ | exact spec_DrawFileNumbers.mono _ _ | exact spec_DrawFileValue.mono _ _ | exact spec_DrawIsFilePlacement.mono _ _ | exact spec_FileNumbers.mono _ _ _ _ | exact spec_FileValue.mono _ _ _ _ _ | exact spec_IsFilePlacement.mono _ _ _ _ _ | exact LeO.none _ | refine LeO.ite ?_ ?_ | refine LeO.bind ?_ (fun _ => ?_)
  ·
   intro y0 y1 y2 y3 y4
   unfold laws_FnFilesCounted.l1
   repeat' first | (with_reducible first | exact ih0 _ _ | exact ih1 _ _ _ _ _ _ _ _ | exact ih2 _ | exact ih3 _ _ _ _ _ _ _ | exact ih4 _ _ _ _ _ | exact ih5 _ _ _ _ _ | exact ih6 _ _ _ _ _ _ _ _ | exact impl_ArrowBoard.mono _ _ | exact impl_FileNumbers.mono _ _ _ _ | exact impl_FileValue.mono _ _ _ _ _ | exact impl_IsFilePlacement.mono _ _ _ _ _ | exact impl_RookNumbers.mono _ _ _ _ | exact impl_StirlingFirst.mono _ _ _ | exact impl_StirlingSecond.mono _ _ _ | exact laws_kBoard.mono _ _ _ _ _ _ _ | exact laws_kSame.mono _ _ _ | exact spec_ArrowBoard.mono _ _ | exact spec_DrawFileNumbers.mono _ _ | exact spec_DrawFileValue.mono _ _ | exact spec_DrawIsFilePlacement.mono _ _ | exact spec_FileNumbers.mono _ _ _ _ | exact spec_FileValue.mono _ _ _ _ _ | exact spec_IsFilePlacement.mono _ _ _ _ _ | exact LeO.refl _ | exact LeO.none _ | refine LeO.ite ?_ ?_ | refine LeO.bind ?_ (fun _ => ?_)) | exact ih0 _ _ | exact ih1 _ _ _ _ _ _ _ _ | exact ih2 _ | exact ih3 _ _ _ _ _ _ _ | exact ih4 _ _ _ _ _ | exact ih5 _ _ _ _ _ | exact ih6 _ _ _ _ _ _ _ _ | exact impl_ArrowBoard.mono _ _ | exact impl_FileNumbers.mono _ _ _ _ | exact impl_FileValue.mono _ _ _ _ _ | exact impl_IsFilePlacement.mono _ _ _ _ _ | exact impl_RookNumbers.mono _ _ _ _ | exact impl_StirlingFirst.mono _ _ _ | exact impl_StirlingSecond.mono _ _ _ | exact laws_kBoard.mono _ _ _ _ _ _ _ | exact laws_kSame.mono _ _ _ | exact spec_ArrowBoard.mono _ _ | exact spec_DrawFileNumbers.mono _ _ | exact spec_DrawFileValue.mono _ _ | exact spec_DrawIsFilePlacement.mono _ _ | exact spec_FileNumbers.mono _ _ _ _ | exact spec_FileValue.mono _ _ _ _ _ | exact spec_IsFilePlacement.mono _ _ _ _ _ | exact LeO.none _ | refine LeO.ite ?_ ?_ | refine LeO.bind ?_ (fun _ => ?_)
  ·
   intro y0 y1 y2 y3 y4 y5 y6 y7
   unfold laws_FnFilesCounted.l0
   repeat' first | (with_reducible first | exact ih0 _ _ | exact ih1 _ _ _ _ _ _ _ _ | exact ih2 _ | exact ih3 _ _ _ _ _ _ _ | exact ih4 _ _ _ _ _ | exact ih5 _ _ _ _ _ | exact ih6 _ _ _ _ _ _ _ _ | exact impl_ArrowBoard.mono _ _ | exact impl_FileNumbers.mono _ _ _ _ | exact impl_FileValue.mono _ _ _ _ _ | exact impl_IsFilePlacement.mono _ _ _ _ _ | exact impl_RookNumbers.mono _ _ _ _ | exact impl_StirlingFirst.mono _ _ _ | exact impl_StirlingSecond.mono _ _ _ | exact laws_kBoard.mono _ _ _ _ _ _ _ | exact laws_kSame.mono _ _ _ | exact spec_ArrowBoard.mono _ _ | exact spec_DrawFileNumbers.mono _ _ | exact spec_DrawFileValue.mono _ _ | exact spec_DrawIsFilePlacement.mono _ _ | exact spec_FileNumbers.mono _ _ _ _ | exact spec_FileValue.mono _ _ _ _ _ | exact spec_IsFilePlacement.mono _ _ _ _ _ | exact LeO.refl _ | exact LeO.none _ | refine LeO.ite ?_ ?_ | refine LeO.bind ?_ (fun _ => ?_)) | exact ih0 _ _ | exact ih1 _ _ _ _ _ _ _ _ | exact ih2 _ | exact ih3 _ _ _ _ _ _ _ | exact ih4 _ _ _ _ _ | exact ih5 _ _ _ _ _ | exact ih6 _ _ _ _ _ _ _ _ | exact impl_ArrowBoard.mono _ _ | exact impl_FileNumbers.mono _ _ _ _ | exact impl_FileValue.mono _ _ _ _ _ | exact impl_IsFilePlacement.mono _ _ _ _ _ | exact impl_RookNumbers.mono _ _ _ _ | exact impl_StirlingFirst.mono _ _ _ | exact impl_StirlingSecond.mono _ _ _ | exact laws_kBoard.mono _ _ _ _ _ _ _ | exact laws_kSame.mono _ _ _ | exact spec_ArrowBoard.mono _ _ | exact spec_DrawFileNumbers.mono _ _ | exact spec_DrawFileValue.mono _ _ | exact spec_DrawIsFilePlacement.mono _ _ | exact spec_FileNumbers.mono _ _ _ _ | exact spec_FileValue.mono _ _ _ _ _ | exact spec_IsFilePlacement.mono _ _ _ _ _ | exact LeO.none _ | refine LeO.ite ?_ ?_ | refine LeO.bind ?_ (fun _ => ?_)
theorem laws_FnFilesCounted.mono : ∀ a0 a1 k, LeO (laws_FnFilesCounted.f k a0 a1) (laws_FnFilesCounted.f (k + 1) a0 a1) := by
 intro a0 a1 k
 obtain ⟨ih0, ih1, ih2, ih3, ih4, ih5, ih6⟩ := laws_FnFilesCounted.mono_l k
 unfold laws_FnFilesCounted.f
 repeat' first | (with_reducible first | exact ih0 _ _ | exact ih1 _ _ _ _ _ _ _ _ | exact ih2 _ | exact ih3 _ _ _ _ _ _ _ | exact ih4 _ _ _ _ _ | exact ih5 _ _ _ _ _ | exact ih6 _ _ _ _ _ _ _ _ | exact impl_ArrowBoard.mono _ _ | exact impl_FileNumbers.mono _ _ _ _ | exact impl_FileValue.mono _ _ _ _ _ | exact impl_IsFilePlacement.mono _ _ _ _ _ | exact impl_RookNumbers.mono _ _ _ _ | exact impl_StirlingFirst.mono _ _ _ | exact impl_StirlingSecond.mono _ _ _ | exact laws_kBoard.mono _ _ _ _ _ _ _ | exact laws_kSame.mono _ _ _ | exact spec_ArrowBoard.mono _ _ | exact spec_DrawFileNumbers.mono _ _ | exact spec_DrawFileValue.mono _ _ | exact spec_DrawIsFilePlacement.mono _ _ | exact spec_FileNumbers.mono _ _ _ _ | exact spec_FileValue.mono _ _ _ _ _ | exact spec_IsFilePlacement.mono _ _ _ _ _ | exact LeO.refl _ | exact LeO.none _ | refine LeO.ite ?_ ?_ | refine LeO.bind ?_ (fun _ => ?_)) | exact ih0 _ _ | exact ih1 _ _ _ _ _ _ _ _ | exact ih2 _ | exact ih3 _ _ _ _ _ _ _ | exact ih4 _ _ _ _ _ | exact ih5 _ _ _ _ _ | exact ih6 _ _ _ _ _ _ _ _ | exact impl_ArrowBoard.mono _ _ | exact impl_FileNumbers.mono _ _ _ _ | exact impl_FileValue.mono _ _ _ _ _ | exact impl_IsFilePlacement.mono _ _ _ _ _ | exact impl_RookNumbers.mono _ _ _ _ | exact impl_StirlingFirst.mono _ _ _ | exact impl_StirlingSecond.mono _ _ _ | exact laws_kBoard.mono _ _ _ _ _ _ _ | exact laws_kSame.mono _ _ _ | exact spec_ArrowBoard.mono _ _ | exact spec_DrawFileNumbers.mono _ _ | exact spec_DrawFileValue.mono _ _ | exact spec_DrawIsFilePlacement.mono _ _ | exact spec_FileNumbers.mono _ _ _ _ | exact spec_FileValue.mono _ _ _ _ _ | exact spec_IsFilePlacement.mono _ _ _ _ _ | exact LeO.none _ | refine LeO.ite ?_ ?_ | refine LeO.bind ?_ (fun _ => ?_)
theorem laws_FnFilesCounted.calls (k : Nat) (A0 : Option Addr) (c0 : Nat) (l0 : List Int) (A1 : Option Addr) (c1 : Nat) (l1 : List Int) (r : Bool) (w : World) (hr0 : Kd.C (Kd.int .u8) w A0 l0.length l0) (hc0 : l0.length ≤ c0) (hr1 : Kd.C (Kd.int .u8) w A1 l1.length l1) (hc1 : l1.length ≤ c1) (h : laws_FnFilesCounted.f k l0 l1 = some r) :
  Calls Try.prog 16 #[.slice A0 l0.length c0, .slice A1 l1.length c1] w fun e w' => e = .returned (.bool r) ∧ Below w.heap.size w w' := by
 have hu28 := Try.underlying28
 have HR0 := A_ hr0
 have HC0 := A_ hc0
 clear hr0 hc0
 have HR1 := A_ hr1
 have HC1 := A_ hc1
 clear hr1 hc1
 have HB := A_ (Below.refl w.heap.size w)
 have H : ((laws_big.f l0 l1).bind fun t1925 => (if t1925 = true then (some true) else ((spec_DrawFileNumbers.f k l0).bind fun bt1926 => ((impl_FileNumbers.f k bt1926.1 bt1926.2.1 bt1926.2.2).bind fun bt1932 => ((spec_FileNumbers.f k bt1926.1 bt1926.2.1 bt1926.2.2).bind fun bt1936 => (if (bt1932.2 != bt1936.2) = true then (none) else ((laws_kSame.f k bt1932.1 bt1936.1).bind fun t1940 => (laws_FnFilesCounted.j0 k l1 (!t1940))))))))) = some r := h
 clear h
 replace H := Option.bind_eq_some_iff.mp H
 obtain ⟨t1925, A30, H⟩ := H
 replace H : (if t1925 = true then (some true) else ((spec_DrawFileNumbers.f k l0).bind fun bt1926 => ((impl_FileNumbers.f k bt1926.1 bt1926.2.1 bt1926.2.2).bind fun bt1932 => ((spec_FileNumbers.f k bt1926.1 bt1926.2.1 bt1926.2.2).bind fun bt1936 => (if (bt1932.2 != bt1936.2) = true then (none) else ((laws_kSame.f k bt1932.1 bt1936.1).bind fun t1940 => (laws_FnFilesCounted.j0 k l1 (!t1940)))))))) = some r := H
 have A3 := A_ A30
 clear A30
 by_cases c4 : t1925 = true
 ·
  subst c4
  have H1 : (some true) = some r := by rw [if_pos rfl] at H; exact H
  clear H
  have H := H1
  clear H1
  obtain rfl := Option.some.inj H
  go_enter Try.func16, Try.ntmps16
  go_wp2_with (first | (refine gc_ 47 ?_; refine goesT_ (some 43) Try.func47 #[.slice A0 l0.length c0, .slice A1 l1.length c1] ?_; (with_reducible refine (laws_big.calls _ _ l0 _ _ l1 true _ ?side1 ?side2 ?side3 ?side4 A3.out).mono ?_); (case side1 => exact tc0_ HR0.out); (case side2 => exact HC0.out); (case side3 => exact tc0_ HR1.out); (case side4 => exact HC1.out); rintro e w' ⟨rfl, ⟨nd, rfl⟩⟩; refine ⟨_, rfl, ?_⟩))
  go_ret
  exact ⟨te_, tb_⟩
 ·
  replace c4 := Bool.eq_false_iff.mpr c4
  subst c4
  have H1 : ((spec_DrawFileNumbers.f k l0).bind fun bt1926 => ((impl_FileNumbers.f k bt1926.1 bt1926.2.1 bt1926.2.2).bind fun bt1932 => ((spec_FileNumbers.f k bt1926.1 bt1926.2.1 bt1926.2.2).bind fun bt1936 => (if (bt1932.2 != bt1936.2) = true then (none) else ((laws_kSame.f k bt1932.1 bt1936.1).bind fun t1940 => (laws_FnFilesCounted.j0 k l1 (!t1940))))))) = some r := by rw [if_neg (show ¬ (false = true) by decide)] at H; exact H
  clear H
  have H := H1
  clear H1
  replace H := Option.bind_eq_some_iff.mp H
  obtain ⟨⟨t1926, t1927, t1928⟩, A50, H⟩ := H
  replace H : ((impl_FileNumbers.f k t1926 t1927 t1928).bind fun bt1932 => ((spec_FileNumbers.f k t1926 t1927 t1928).bind fun bt1936 => (if (bt1932.2 != bt1936.2) = true then (none) else ((laws_kSame.f k bt1932.1 bt1936.1).bind fun t1940 => (laws_FnFilesCounted.j0 k l1 (!t1940)))))) = some r := H
  have A5 := A_ A50
  clear A50
  replace H := Option.bind_eq_some_iff.mp H
  obtain ⟨⟨t1932, t1935⟩, A60, H⟩ := H
  replace H : ((spec_FileNumbers.f k t1926 t1927 t1928).bind fun bt1936 => (if (t1935 != bt1936.2) = true then (none) else ((laws_kSame.f k t1932 bt1936.1).bind fun t1940 => (laws_FnFilesCounted.j0 k l1 (!t1940))))) = some r := H
  have A6 := A_ A60
  clear A60
  replace H := Option.bind_eq_some_iff.mp H
  obtain ⟨⟨t1936, t1939⟩, A70, H⟩ := H
  replace H : (if (t1935 != t1939) = true then (none) else ((laws_kSame.f k t1932 t1936).bind fun t1940 => (laws_FnFilesCounted.j0 k l1 (!t1940)))) = some r := H
  have A7 := A_ A70
  clear A70
  have HC8 := A_ H
  clear H
  go_enter Try.func16, Try.ntmps16
  go_upto_region 6 with (first | (refine gc_ 47 ?_; refine goesT_ (some 43) Try.func47 #[.slice A0 l0.length c0, .slice A1 l1.length c1] ?_; (with_reducible refine (laws_big.calls _ _ l0 _ _ l1 false _ ?side1 ?side2 ?side3 ?side4 A3.out).mono ?_); (case side1 => exact tc0_ HR0.out); (case side2 => exact HC0.out); (case side3 => exact tc0_ HR1.out); (case side4 => exact HC1.out); rintro e w' ⟨rfl, ⟨nd, rfl⟩⟩; refine ⟨_, rfl, ?_⟩) | (refine gc_ 105 ?_; refine goesT_ (some 45) Try.func105 #[.slice A0 l0.length c0] ?_; (with_reducible refine (spec_DrawFileNumbers.calls k _ _ l0 t1926 t1927 t1928 _ ?side1 ?side2 A5.out).mono ?_); (case side1 => exact tc0_ HR0.out); (case side2 => exact HC0.out); rintro e w9 ⟨v1929, rfl, ho0, hb⟩; refine ⟨_, rfl, ?_⟩; have HO1930 := A_ (Kd.R_lower ho0 (below_size tb_)); replace HB := A_ (below_step tb_ hb); (try clear hb); (try clear ho0)) | (refine gd_ 5 ?_; refine bx_ 5 #[.int .i64 0, .int .i64 0, .slice none 0 0] 28 ?_; intro gb1931 hg w10 hbox hb; replace HO1930 := A_ (Kd.R_below (tr_x HO1930.out) hb); have BK1931 := A_ (hbox); have GW1931 := A_ ((ts_ hg : w.heap.size ≤ gb1931)); have GE1931 := A_ ((ts_ hg : w.heap.size ≤ gb1931)); replace HB := A_ (below_step tb_ hb); clear hb hbox hg; obtain ⟨hcz11_0, hcz11_1, hcz11_2, hfz11_0, hfz11_1, hfz11_2⟩ := cf3_ BK1931.out; obtain ⟨Ao12, co12, eo12⟩ := Kd.R_slice HO1930.out; subst eo12) | (refine gc_ 106 ?_; refine goesT_ (some 48) Try.func106 #[.agg #[.int .i64 t1926, .int .i64 t1927, .slice Ao12 t1928.length co12]] ?_; (with_reducible refine (impl_FileNumbers.calls k t1926 t1927 _ _ t1928 t1932 t1935 _ ?side1 ?side2 A6.out).mono ?_); (case side1 => refine (Kd.R_reads' (e := 3) (base := w.heap.size) (ok := fun k_ => True) (n := t1928.length) (c := co12) ?_).2.2; exact (tr_ (h := by exact (Kd.R_mono (Kd.R_far (p := ⟨gb1931, 2, none⟩) (Kd.R_far (p := ⟨gb1931, 1, none⟩) (Kd.R_far (p := ⟨gb1931, 0, none⟩) (Kd.R_types HO1930.out BK1931.out (by decide)) (fun _ hk => hk.2) (.int .i64 t1926)) (fun _ hk => hk.2) (.int .i64 t1927)) (fun _ hk => hk.2) (.slice Ao12 t1928.length co12)) (fun _ h_ => h_.1))))); (case side2 => exact (Kd.R_reads' HO1930.out).2.1); rintro e w13 ⟨v1933, rfl, ho0, hb⟩; refine ⟨_, rfl, ?_⟩; have HO1934 := A_ (Kd.R_lower (Kd.R_new' ho0 (Kd.R_lt (tr_ (h := by exact (Kd.R_mono (Kd.R_far (p := ⟨gb1931, 2, none⟩) (Kd.R_far (p := ⟨gb1931, 1, none⟩) (Kd.R_far (p := ⟨gb1931, 0, none⟩) (Kd.R_types HO1930.out BK1931.out (by decide)) (fun _ hk => hk.2) (.int .i64 t1926)) (fun _ hk => hk.2) (.int .i64 t1927)) (fun _ hk => hk.2) (.slice Ao12 t1928.length co12)) (fun _ h_ => h_.1)))))) (below_size tb_)); replace HO1930 := A_ (Kd.R_elder' (tr_ (h := by exact (Kd.R_mono (Kd.R_far (p := ⟨gb1931, 2, none⟩) (Kd.R_far (p := ⟨gb1931, 1, none⟩) (Kd.R_far (p := ⟨gb1931, 0, none⟩) (Kd.R_types HO1930.out BK1931.out (by decide)) (fun _ hk => hk.2) (.int .i64 t1926)) (fun _ hk => hk.2) (.int .i64 t1927)) (fun _ hk => hk.2) (.slice Ao12 t1928.length co12)) (fun _ h_ => h_.1)))) (Kd.R_base ho0) hb); replace BK1931 := A_ (blk_below (g := gb1931) (o := .cells #[.int .i64 t1926, .int .i64 t1927, .slice Ao12 t1928.length co12] 28 (0, 0)) (by (with_reducible repeat (first | refine blk_drewN ?_ _ | refine blk_drew ?_ | refine blk_alloc ?_ _)); refine blk_put (cs := #[.int .i64 t1926, .int .i64 t1927, .slice none 0 0]) ?_ 2 _ rfl; (with_reducible repeat (first | refine blk_drewN ?_ _ | refine blk_drew ?_ | refine blk_alloc ?_ _)); refine blk_put (cs := #[.int .i64 t1926, .int .i64 0, .slice none 0 0]) ?_ 1 _ rfl; (with_reducible repeat (first | refine blk_drewN ?_ _ | refine blk_drew ?_ | refine blk_alloc ?_ _)); refine blk_put (cs := #[.int .i64 0, .int .i64 0, .slice none 0 0]) ?_ 0 _ rfl; (with_reducible repeat (first | refine blk_drewN ?_ _ | refine blk_drew ?_ | refine blk_alloc ?_ _)); exact BK1931.out) hb); replace HB := A_ (below_step tb_ hb); (try clear hb); (try clear ho0); obtain ⟨hcz14_0, hcz14_1, hcz14_2, hfz14_0, hfz14_1, hfz14_2⟩ := cf3_ BK1931.out) | (refine gc_ 107 ?_; refine goesT_ (some 53) Try.func107 #[.agg #[.int .i64 t1926, .int .i64 t1927, .slice Ao12 t1928.length co12]] ?_; (with_reducible refine (spec_FileNumbers.calls k t1926 t1927 _ _ t1928 t1936 t1939 _ ?side1 ?side2 A7.out).mono ?_); (case side1 => exact tc0_ (Kd.R_reads' HO1930.out).2.2); (case side2 => exact (Kd.R_reads' HO1930.out).2.1); rintro e w15 ⟨v1937, rfl, ho0, hb⟩; refine ⟨_, rfl, ?_⟩; have HO1938 := A_ (Kd.R_lower (Kd.R_new' (Kd.R_new' ho0 (Kd.R_lt (tr_x HO1930.out))) (Kd.R_lt (tr_x HO1934.out))) (below_size tb_)); replace HO1930 := A_ (Kd.R_elder' (tr_x HO1930.out) (Kd.R_base ho0) hb); replace HO1934 := A_ (Kd.R_elder' (tr_x HO1934.out) (Kd.R_base ho0) hb); replace BK1931 := A_ (blk_below (g := gb1931) (o := .cells #[.int .i64 t1926, .int .i64 t1927, .slice Ao12 t1928.length co12] 28 (0, 0)) (tk_ BK1931) hb); replace HB := A_ (below_step tb_ hb); (try clear hb); (try clear ho0)))
  (try simp only [Act.put, List.setIfInBounds_toArray, List.set_cons_zero, List.set_cons_succ])
  go_cut [64] (fun v64 wc => ∃ (kq : Nat) (x64_7 : Bool), v64 = .bool x64_7 ∧ Aside0 (laws_FnFilesCounted.j0 kq l1 x64_7 = some r) ∧ Aside0 (kq ≤ k) ∧ Aside0 (Kd.R (Kd.int .i64) 3 wc w.heap.size (fun _ => True) (.slice Ao12 t1928.length co12) t1928) ∧ Aside0 (wc.heap[gb1931]? = some (.cells #[.int .i64 t1926, .int .i64 t1927, (.slice Ao12 t1928.length co12)] 28 (0, 0))) ∧ Aside0 (Below w.heap.size w wc))
  case first =>
   as_aux_lemma =>
    have H := HC8.out
    clear HC8
    by_cases c16 : (t1935 != t1939) = true
    ·
     rw [if_pos c16] at H
     exact absurd H (by simp)
    ·
     rw [if_neg c16] at H
     have c16b0 : (t1935 != t1939) = false := by simpa using c16
     (try (have c16b1 : decide (t1935 = t1939) = true := by simpa using c16))
     (try (have c16b2 : (t1935 == t1939) = true := by simpa using c16))
     clear c16
     (first | rw [c16b0] | (simp only [i64_w, i32_w]; rw [c16b0]) | skip)
     replace H := Option.bind_eq_some_iff.mp H
     obtain ⟨t1940, A170, H⟩ := H
     replace H : (laws_FnFilesCounted.j0 k l1 (!t1940)) = some r := H
     have A17 := A_ A170
     clear A170
     have H' := A_ H
     clear H
     obtain ⟨Ao18, co18, eo18⟩ := Kd.R_slice HO1934.out
     subst eo18
     obtain ⟨Ao19, co19, eo19⟩ := Kd.R_slice HO1938.out
     subst eo19
     go_wp2_with (first | (go_at_call 56; (with_reducible refine (laws_kSame.calls k _ _ t1932 _ _ t1936 t1940 _ ?side1 ?side2 ?side3 ?side4 A17.out).mono ?_); (case side1 => exact tc0_ (Kd.R_reads' HO1934.out).2.2); (case side2 => exact (Kd.R_reads' HO1934.out).2.1); (case side3 => exact tc0_ (Kd.R_reads' HO1938.out).2.2); (case side4 => exact (Kd.R_reads' HO1938.out).2.1); rintro e w' ⟨rfl, ⟨nd, rfl⟩⟩))
     go_meet
     case rel => exact ⟨_, (!t1940), tf_, H', ⟨by first | omega | exact Nat.le_refl _⟩, ⟨by (with_reducible repeat (first | apply Kd.R_alloc | apply Kd.R_drewN | apply Kd.R_drew)); exact Kd.R_mono HO1930.out (fun _ hk => trivial)⟩, ⟨tk_ BK1931⟩, ⟨tb_⟩⟩
  case rest =>
   as_aux_lemma =>
    clear HC8
    try clear c1
    try clear p2
    try clear c4
    try clear c10
    try clear c16
    try clear c16b0
    try clear c16b1
    try clear c16b2
    try clear hcz11_0
    try clear hcz11_1
    try clear hcz11_2
    try clear hcz14_0
    try clear hcz14_1
    try clear hcz14_2
    try clear hfz11_0
    try clear hfz11_1
    try clear hfz11_2
    try clear hfz14_0
    try clear hfz14_1
    try clear hfz14_2
    obtain ⟨kq, x64_7, rfl, HA, HJ7, HO_1932002, BK1931, HB⟩ := hcut
    cases kq with
    | zero => exact absurd HA.out (by simp [laws_FnFilesCounted.j0])
    | succ kj7 =>
     have H := HA.out
     clear HA
     simp only [laws_FnFilesCounted.j0] at H
     by_cases c20 : x64_7 = true
     ·
      subst c20
      have H1 : (none) = some r := by rw [if_pos rfl] at H; exact H
      clear H
      have H := H1
      clear H1
      exact absurd H (by simp)
     ·
      replace c20 := Bool.eq_false_iff.mpr c20
      subst c20
      have H1 : ((spec_DrawFileValue.f kj7 l1).bind fun bt1941 => ((impl_FileValue.f kj7 bt1941.1 bt1941.2.1 bt1941.2.2.1 bt1941.2.2.2).bind fun bt1948 => ((spec_FileValue.f kj7 bt1941.1 bt1941.2.1 bt1941.2.2.1 bt1941.2.2.2).bind fun bt1950 => (if (bt1948.2 != bt1950.2) = true then (none) else (laws_FnFilesCounted.j1 kj7 l1 bt1941.2.2.2 bt1948.1 bt1948.2 (bt1948.1 != bt1950.1) bt1941.1 bt1941.2.1 bt1941.2.2.1))))) = some r := by rw [if_neg (show ¬ (false = true) by decide)] at H; exact H
      clear H
      have H := H1
      clear H1
      replace H := Option.bind_eq_some_iff.mp H
      obtain ⟨⟨t1941, t1942, t1943, t1946⟩, A210, H⟩ := H
      replace H : ((impl_FileValue.f kj7 t1941 t1942 t1943 t1946).bind fun bt1948 => ((spec_FileValue.f kj7 t1941 t1942 t1943 t1946).bind fun bt1950 => (if (bt1948.2 != bt1950.2) = true then (none) else (laws_FnFilesCounted.j1 kj7 l1 t1946 bt1948.1 bt1948.2 (bt1948.1 != bt1950.1) t1941 t1942 t1943)))) = some r := H
      have A21 := A_ A210
      clear A210
      replace H := Option.bind_eq_some_iff.mp H
      obtain ⟨⟨t1948, t1949⟩, A220, H⟩ := H
      replace H : ((spec_FileValue.f kj7 t1941 t1942 t1943 t1946).bind fun bt1950 => (if (t1949 != bt1950.2) = true then (none) else (laws_FnFilesCounted.j1 kj7 l1 t1946 t1948 t1949 (t1948 != bt1950.1) t1941 t1942 t1943))) = some r := H
      have A22 := A_ A220
      clear A220
      replace H := Option.bind_eq_some_iff.mp H
      obtain ⟨⟨t1950, t1951⟩, A230, H⟩ := H
      replace H : (if (t1949 != t1951) = true then (none) else (laws_FnFilesCounted.j1 kj7 l1 t1946 t1948 t1949 (t1948 != t1950) t1941 t1942 t1943)) = some r := H
      have A23 := A_ A230
      clear A230
      have HC24 := A_ H
      clear H
      go_upto_region 11 with (first | (refine gc_ 108 ?_; refine goesT_ (some 67) Try.func108 #[.slice A1 l1.length c1] ?_; (with_reducible refine (spec_DrawFileValue.calls kj7 _ _ l1 t1941 t1942 t1943 t1946 _ ?side1 ?side2 A21.out).mono ?_); (case side1 => exact tc_ HR1.out); (case side2 => exact HC1.out); rintro e w25 ⟨v1944, rfl, ho0, hb⟩; refine ⟨_, rfl, ?_⟩; have HO1945 := A_ (Kd.R_lower (Kd.R_new' ho0 (Kd.R_lt (tr_x HO_1932002.out))) (below_size tb_)); replace HO_1932002 := A_ (Kd.R_elder' (tr_x HO_1932002.out) (Kd.R_base ho0) hb); replace BK1931 := A_ (blk_below (g := gb1931) (o := .cells #[.int .i64 t1926, .int .i64 t1927, .slice Ao12 t1928.length co12] 28 (0, 0)) (tk_ BK1931) hb); replace HB := A_ (below_step tb_ hb); (try clear hb); (try clear ho0)) | (refine gd_ 10 ?_; refine bx_ 10 #[.int .i64 0, .int .i64 0, .slice none 0 0] 28 ?_; intro gb1947 hg w26 hbox hb; replace HO_1932002 := A_ (Kd.R_below (tr_x HO_1932002.out) hb); replace HO1945 := A_ (Kd.R_below (tr_x HO1945.out) hb); have BK1947 := A_ (hbox); have GW1947 := A_ ((ts_ hg : w.heap.size ≤ gb1947)); have GE1947 := A_ ((ts_ hg : w.heap.size ≤ gb1947)); replace HB := A_ (below_step tb_ hb); have NB1931_1947 := A_ ((by rw [hg]; exact Nat.ne_of_lt (blk_lt (g := gb1931) (o := .cells #[.int .i64 t1926, .int .i64 t1927, .slice Ao12 t1928.length co12] 28 (0, 0)) (tk_ BK1931)) : gb1931 ≠ gb1947)); have NB1947_1931 := A_ ((by rw [hg]; exact Nat.ne_of_gt (blk_lt (g := gb1931) (o := .cells #[.int .i64 t1926, .int .i64 t1927, .slice Ao12 t1928.length co12] 28 (0, 0)) (tk_ BK1931)) : gb1947 ≠ gb1931)); replace BK1931 := A_ (blk_below (g := gb1931) (o := .cells #[.int .i64 t1926, .int .i64 t1927, .slice Ao12 t1928.length co12] 28 (0, 0)) (tk_ BK1931) hb); clear hb hbox hg; have hnb27 := NB1947_1931.out; have hnc27 := NB1931_1947.out; obtain ⟨hcz28_0, hcz28_1, hcz28_2, hfz28_0, hfz28_1, hfz28_2⟩ := cf3_ BK1947.out; obtain ⟨Ao29, co29, eo29⟩ := Kd.R_slice HO1945.out; subst eo29) | (refine gc_ 109 ?_; refine goesT_ (some 73) Try.func109 #[.agg #[.int .i64 t1941, .int .i64 t1942, .slice Ao29 t1943.length co29], .int .i64 t1946] ?_; (with_reducible refine (impl_FileValue.calls kj7 t1941 t1942 _ _ t1943 t1946 t1948 t1949 _ ?side1 ?side2 A22.out).mono ?_); (case side1 => refine (Kd.R_reads' (e := 3) (base := w.heap.size) (ok := fun k_ => (True ∧ some k_ ≠ (.slice Ao12 t1928.length co12 : Value).ownBlock)) (n := t1943.length) (c := co29) ?_).2.2; exact (tr_ (h := by exact (Kd.R_mono (Kd.R_far (p := ⟨gb1947, 2, none⟩) (Kd.R_far (p := ⟨gb1947, 1, none⟩) (Kd.R_far (p := ⟨gb1947, 0, none⟩) (Kd.R_types HO1945.out BK1947.out (by decide)) (fun _ hk => hk.2) (.int .i64 t1941)) (fun _ hk => hk.2) (.int .i64 t1942)) (fun _ hk => hk.2) (.slice Ao29 t1943.length co29)) (fun _ h_ => h_.1))))); (case side2 => exact (Kd.R_reads' HO1945.out).2.1); rintro e w30 ⟨rfl, hb⟩; refine ⟨_, rfl, ?_⟩; replace HO_1932002 := A_ (Kd.R_below (tr_ (h := by exact (Kd.R_mono (Kd.R_far (p := ⟨gb1947, 2, none⟩) (Kd.R_far (p := ⟨gb1947, 1, none⟩) (Kd.R_far (p := ⟨gb1947, 0, none⟩) (Kd.R_types HO_1932002.out BK1947.out (by decide)) (fun _ hk => hk.2) (.int .i64 t1941)) (fun _ hk => hk.2) (.int .i64 t1942)) (fun _ hk => hk.2) (.slice Ao29 t1943.length co29)) (fun _ h_ => h_.1)))) hb); replace HO1945 := A_ (Kd.R_below (tr_ (h := by exact (Kd.R_mono (Kd.R_far (p := ⟨gb1947, 2, none⟩) (Kd.R_far (p := ⟨gb1947, 1, none⟩) (Kd.R_far (p := ⟨gb1947, 0, none⟩) (Kd.R_types HO1945.out BK1947.out (by decide)) (fun _ hk => hk.2) (.int .i64 t1941)) (fun _ hk => hk.2) (.int .i64 t1942)) (fun _ hk => hk.2) (.slice Ao29 t1943.length co29)) (fun _ h_ => h_.1)))) hb); replace BK1931 := A_ (blk_below (g := gb1931) (o := .cells #[.int .i64 t1926, .int .i64 t1927, .slice Ao12 t1928.length co12] 28 (0, 0)) (tk_ BK1931) hb); replace BK1947 := A_ (blk_below (g := gb1947) (o := .cells #[.int .i64 t1941, .int .i64 t1942, .slice Ao29 t1943.length co29] 28 (0, 0)) (by (with_reducible repeat (first | refine blk_drewN ?_ _ | refine blk_drew ?_ | refine blk_alloc ?_ _)); refine blk_put (cs := #[.int .i64 t1941, .int .i64 t1942, .slice none 0 0]) ?_ 2 _ rfl; (with_reducible repeat (first | refine blk_drewN ?_ _ | refine blk_drew ?_ | refine blk_alloc ?_ _)); refine blk_put (cs := #[.int .i64 t1941, .int .i64 0, .slice none 0 0]) ?_ 1 _ rfl; (with_reducible repeat (first | refine blk_drewN ?_ _ | refine blk_drew ?_ | refine blk_alloc ?_ _)); refine blk_put (cs := #[.int .i64 0, .int .i64 0, .slice none 0 0]) ?_ 0 _ rfl; (with_reducible repeat (first | refine blk_drewN ?_ _ | refine blk_drew ?_ | refine blk_alloc ?_ _)); exact BK1947.out) hb); replace HB := A_ (below_step tb_ hb); (try clear hb); obtain ⟨hcz31_0, hcz31_1, hcz31_2, hfz31_0, hfz31_1, hfz31_2⟩ := cf3_ BK1947.out) | (refine gc_ 110 ?_; refine goesT_ (some 79) Try.func110 #[.agg #[.int .i64 t1941, .int .i64 t1942, .slice Ao29 t1943.length co29], .int .i64 t1946] ?_; (with_reducible refine (spec_FileValue.calls kj7 t1941 t1942 _ _ t1943 t1946 t1950 t1951 _ ?side1 ?side2 A23.out).mono ?_); (case side1 => exact tc0_ (Kd.R_reads' HO1945.out).2.2); (case side2 => exact (Kd.R_reads' HO1945.out).2.1); rintro e w32 ⟨rfl, hb⟩; refine ⟨_, rfl, ?_⟩; replace HO_1932002 := A_ (Kd.R_below (tr_x HO_1932002.out) hb); replace HO1945 := A_ (Kd.R_below (tr_x HO1945.out) hb); replace BK1931 := A_ (blk_below (g := gb1931) (o := .cells #[.int .i64 t1926, .int .i64 t1927, .slice Ao12 t1928.length co12] 28 (0, 0)) (tk_ BK1931) hb); replace BK1947 := A_ (blk_below (g := gb1947) (o := .cells #[.int .i64 t1941, .int .i64 t1942, .slice Ao29 t1943.length co29] 28 (0, 0)) (tk_ BK1947) hb); replace HB := A_ (below_step tb_ hb); (try clear hb)))
      (try simp only [Act.put, List.setIfInBounds_toArray, List.set_cons_zero, List.set_cons_succ])
      go_cut [89] (fun v89 wc => ∃ (kq : Nat) (x89_23 : Bool), v89 = .bool x89_23 ∧ Aside0 (laws_FnFilesCounted.j1 kq l1 t1946 t1948 t1949 x89_23 t1941 t1942 t1943 = some r) ∧ Aside0 (kq ≤ kj7) ∧ Aside0 (Kd.R (Kd.int .i64) 3 wc w.heap.size (fun k_ => some k_ ≠ ((.slice Ao29 t1943.length co29) : Value).ownBlock) (.slice Ao12 t1928.length co12) t1928) ∧ Aside0 (Kd.R (Kd.int .i64) 3 wc w.heap.size (fun k_ => some k_ ≠ ((.slice Ao12 t1928.length co12) : Value).ownBlock) (.slice Ao29 t1943.length co29) t1943) ∧ Aside0 (wc.heap[gb1931]? = some (.cells #[.int .i64 t1926, .int .i64 t1927, (.slice Ao12 t1928.length co12)] 28 (0, 0))) ∧ Aside0 (wc.heap[gb1947]? = some (.cells #[.int .i64 t1941, .int .i64 t1942, (.slice Ao29 t1943.length co29)] 28 (0, 0))) ∧ Aside0 (Below w.heap.size w wc))
      case first =>
       as_aux_lemma =>
        have H := HC24.out
        clear HC24
        by_cases c33 : (t1949 != t1951) = true
        ·
         rw [if_pos c33] at H
         exact absurd H (by simp)
        ·
         rw [if_neg c33] at H
         have c33b0 : (t1949 != t1951) = false := by simpa using c33
         (try (have c33b1 : decide (t1949 = t1951) = true := by simpa using c33))
         (try (have c33b2 : (t1949 == t1951) = true := by simpa using c33))
         clear c33
         (first | rw [c33b0] | (simp only [i64_w, i32_w]; rw [c33b0]) | skip)
         have H' := A_ H
         clear H
         go_wp2
         go_meet
         case rel => exact ⟨_, ((t1948 != t1950)), tf_, H', ⟨by have := HJ7.out; first | omega | exact Nat.le_refl _⟩, ⟨by (with_reducible repeat (first | apply Kd.R_alloc | apply Kd.R_drewN | apply Kd.R_drew)); exact Kd.R_mono HO_1932002.out (fun _ hk => hk.2)⟩, ⟨by (with_reducible repeat (first | apply Kd.R_alloc | apply Kd.R_drewN | apply Kd.R_drew)); exact Kd.R_mono HO1945.out (fun _ hk => hk.2)⟩, ⟨tk_ BK1931⟩, ⟨tk_ BK1947⟩, ⟨tb_⟩⟩
      case rest =>
       as_aux_lemma =>
        clear HC24
        try clear c1
        try clear c2
        try clear p2
        try clear c3
        try clear c4
        try clear c10
        try clear c11
        try clear c16
        try clear c16b0
        try clear c16b1
        try clear c16b2
        try clear c20
        try clear c27
        try clear c33
        try clear c33b0
        try clear c33b1
        try clear c33b2
        try clear hcz11_0
        try clear hcz11_1
        try clear hcz11_2
        try clear hcz14_0
        try clear hcz14_1
        try clear hcz14_2
        try clear hcz28_0
        try clear hcz28_1
        try clear hcz28_2
        try clear hcz31_0
        try clear hcz31_1
        try clear hcz31_2
        try clear hfz11_0
        try clear hfz11_1
        try clear hfz11_2
        try clear hfz14_0
        try clear hfz14_1
        try clear hfz14_2
        try clear hfz28_0
        try clear hfz28_1
        try clear hfz28_2
        try clear hfz31_0
        try clear hfz31_1
        try clear hfz31_2
        try clear p2
        obtain ⟨kq, x89_23, rfl, HA, HJ23, HO_1932002, HO_1948002, BK1931, BK1947, HB⟩ := hcut
        cases kq with
        | zero => exact absurd HA.out (by simp [laws_FnFilesCounted.j1])
        | succ kj23 =>
         have H := HA.out
         clear HA
         simp only [laws_FnFilesCounted.j1] at H
         by_cases c34 : x89_23 = true
         ·
          subst c34
          have H1 : (none) = some r := by rw [if_pos rfl] at H; exact H
          clear H
          have H := H1
          clear H1
          exact absurd H (by simp)
         ·
          replace c34 := Bool.eq_false_iff.mpr c34
          subst c34
          have H1 : (if t1949 = true then ((impl_FileNumbers.f kj23 t1941 t1942 t1943).bind fun bt1952 => (laws_FnFilesCounted.l0 kj23 l1 t1946 t1948 bt1952.2 0 bt1952.1 (bt1952.1.length : Int) 0)) else (laws_FnFilesCounted.j3 kj23 l1)) = some r := by rw [if_neg (show ¬ (false = true) by decide)] at H; exact H
          clear H
          have H := H1
          clear H1
          have HC35 := A_ H
          clear H
          go_upto_if 90 with (fail)
          go_cut [] (fun wc => ∃ (kq : Nat), Aside0 (laws_FnFilesCounted.j3 kq l1 = some r) ∧ Aside0 (kq ≤ kj23) ∧ Aside0 (Kd.R (Kd.int .i64) 3 wc w.heap.size (fun k_ => some k_ ≠ ((.slice Ao29 t1943.length co29) : Value).ownBlock) (.slice Ao12 t1928.length co12) t1928) ∧ Aside0 (Kd.R (Kd.int .i64) 3 wc w.heap.size (fun k_ => some k_ ≠ ((.slice Ao12 t1928.length co12) : Value).ownBlock) (.slice Ao29 t1943.length co29) t1943) ∧ Aside0 (wc.heap[gb1931]? = some (.cells #[.int .i64 t1926, .int .i64 t1927, (.slice Ao12 t1928.length co12)] 28 (0, 0))) ∧ Aside0 (wc.heap[gb1947]? = some (.cells #[.int .i64 t1941, .int .i64 t1942, (.slice Ao29 t1943.length co29)] 28 (0, 0))) ∧ Aside0 (Below w.heap.size w wc))
          case first =>
           as_aux_lemma =>
            have H := HC35.out
            clear HC35
            by_cases c36 : t1949 = true
            ·
             subst c36
             have H1 : ((impl_FileNumbers.f kj23 t1941 t1942 t1943).bind fun bt1952 => (laws_FnFilesCounted.l0 kj23 l1 t1946 t1948 bt1952.2 0 bt1952.1 (bt1952.1.length : Int) 0)) = some r := by rw [if_pos rfl] at H; exact H
             clear H
             have H := H1
             clear H1
             replace H := Option.bind_eq_some_iff.mp H
             obtain ⟨⟨t1952, t1955⟩, A370, H⟩ := H
             replace H : (laws_FnFilesCounted.l0 kj23 l1 t1946 t1948 t1955 0 t1952 (t1952.length : Int) 0) = some r := H
             have A37 := A_ A370
             clear A370
             have H' := A_ H
             clear H
             have hnb38 := NB1947_1931.out
             have hnc38 := NB1931_1947.out
             obtain ⟨hcz39_0, hcz39_1, hcz39_2, hfz39_0, hfz39_1, hfz39_2⟩ := cf3_ BK1947.out
             go_wp2_with (first | (refine gc_ 106 ?_; refine goesT_ (some 93) Try.func106 #[.agg #[.int .i64 t1941, .int .i64 t1942, .slice Ao29 t1943.length co29]] ?_; (with_reducible refine (impl_FileNumbers.calls kj23 t1941 t1942 _ _ t1943 t1952 t1955 _ ?side1 ?side2 A37.out).mono ?_); (case side1 => exact tc0_ (Kd.R_reads' HO_1948002.out).2.2); (case side2 => exact (Kd.R_reads' HO_1948002.out).2.1); rintro e w40 ⟨v1953, rfl, ho0, hb⟩; refine ⟨_, rfl, ?_⟩; have HO1954 := A_ (Kd.R_lower (Kd.R_new' (Kd.R_new' ho0 (Kd.R_lt (tr_x HO_1932002.out))) (Kd.R_lt (tr_x HO_1948002.out))) (below_size tb_)); replace HO_1932002 := A_ (Kd.R_elder' (tr_x HO_1932002.out) (Kd.R_base ho0) hb); replace HO_1948002 := A_ (Kd.R_elder' (tr_x HO_1948002.out) (Kd.R_base ho0) hb); replace BK1931 := A_ (blk_below (g := gb1931) (o := .cells #[.int .i64 t1926, .int .i64 t1927, .slice Ao12 t1928.length co12] 28 (0, 0)) (tk_ BK1931) hb); replace BK1947 := A_ (blk_below (g := gb1947) (o := .cells #[.int .i64 t1941, .int .i64 t1942, .slice Ao29 t1943.length co29] 28 (0, 0)) (tk_ BK1947) hb); replace HB := A_ (below_step tb_ hb); (try clear hb); (try clear ho0); obtain ⟨Ao41, co41, eo41⟩ := Kd.R_slice HO1954.out; subst eo41))
             go_loopg [18, 98] kj23 (fun kq v18 v98 w' => ∃ (x18_3 : Int) (x98_3 : Int), v18 = .int .i64 x18_3 ∧ v98 = .int .i64 x98_3 ∧ Aside0 (laws_FnFilesCounted.l0 kq l1 t1946 t1948 t1955 x18_3 t1952 (t1952.length : Int) x98_3 = some r) ∧ Aside0 (kq ≤ kj23) ∧ Aside0 (Kd.R (Kd.int .i64) 3 w' w.heap.size (fun k_ => some k_ ≠ ((.slice Ao12 t1928.length co12) : Value).ownBlock ∧ some k_ ≠ ((.slice Ao29 t1943.length co29) : Value).ownBlock) (.slice Ao41 t1952.length co41) t1952) ∧ Aside0 (Kd.R (Kd.int .i64) 3 w' w.heap.size (fun k_ => some k_ ≠ ((.slice Ao41 t1952.length co41) : Value).ownBlock ∧ some k_ ≠ ((.slice Ao29 t1943.length co29) : Value).ownBlock) (.slice Ao12 t1928.length co12) t1928) ∧ Aside0 (Kd.R (Kd.int .i64) 3 w' w.heap.size (fun k_ => some k_ ≠ ((.slice Ao41 t1952.length co41) : Value).ownBlock ∧ some k_ ≠ ((.slice Ao12 t1928.length co12) : Value).ownBlock) (.slice Ao29 t1943.length co29) t1943) ∧ Aside0 (w'.heap[gb1931]? = some (.cells #[.int .i64 t1926, .int .i64 t1927, (.slice Ao12 t1928.length co12)] 28 (0, 0))) ∧ Aside0 (w'.heap[gb1947]? = some (.cells #[.int .i64 t1941, .int .i64 t1942, (.slice Ao29 t1943.length co29)] 28 (0, 0))) ∧ Aside0 (Below w.heap.size w w'))
             case atStart => exact ⟨(0), (0), tf_, tf_, H', ⟨Nat.le_refl _⟩, ⟨by (with_reducible repeat (first | apply Kd.R_alloc | apply Kd.R_drewN | apply Kd.R_drew)); exact Kd.R_mono HO1954.out om_⟩, ⟨by (with_reducible repeat (first | apply Kd.R_alloc | apply Kd.R_drewN | apply Kd.R_drew)); exact Kd.R_mono HO_1932002.out om_⟩, ⟨by (with_reducible repeat (first | apply Kd.R_alloc | apply Kd.R_drewN | apply Kd.R_drew)); exact Kd.R_mono HO_1948002.out om_⟩, ⟨tk_ BK1931⟩, ⟨tk_ BK1947⟩, ⟨tb_⟩⟩
             case round =>
              clear H'
              try clear c1
              try clear c2
              try clear p2
              try clear c3
              try clear c4
              try clear c10
              try clear c11
              try clear c16
              try clear c16b0
              try clear c16b1
              try clear c16b2
              try clear c20
              try clear c27
              try clear c33
              try clear c33b0
              try clear c33b1
              try clear c33b2
              try clear c34
              try clear c36
              try clear c38
              try clear hcz11_0
              try clear hcz11_1
              try clear hcz11_2
              try clear hcz14_0
              try clear hcz14_1
              try clear hcz14_2
              try clear hcz28_0
              try clear hcz28_1
              try clear hcz28_2
              try clear hcz31_0
              try clear hcz31_1
              try clear hcz31_2
              try clear hcz39_0
              try clear hcz39_1
              try clear hcz39_2
              try clear hfz11_0
              try clear hfz11_1
              try clear hfz11_2
              try clear hfz14_0
              try clear hfz14_1
              try clear hfz14_2
              try clear hfz28_0
              try clear hfz28_1
              try clear hfz28_2
              try clear hfz31_0
              try clear hfz31_1
              try clear hfz31_2
              try clear hfz39_0
              try clear hfz39_1
              try clear hfz39_2
              try clear p2
              obtain ⟨x18_3, x98_3, rfl, rfl, HA, HK3, HO_96, HO_1932002, HO_1948002, BK1931, BK1947, HB⟩ := hrel
              cases gk with
              | zero => exact absurd HA.out (by simp [laws_FnFilesCounted.l0])
              | succ k3 =>
               have H := HA.out
               clear HA
               simp only [laws_FnFilesCounted.l0] at H
               by_cases c42 : x98_3 < (t1952.length : Int)
               ·
                rw [if_pos c42] at H
                have c42b0 := decide_eq_true c42
                clear c42
                (first | rw [c42b0] | (simp only [i64_w, i32_w]; rw [c42b0]) | skip)
                by_cases c43 : 0 ≤ x98_3
                ·
                 rw [if_pos c43] at H
                 have c43b0 := decide_eq_true c43
                 clear c43
                 by_cases c44 : x98_3 < (t1952.length : Int)
                 ·
                  rw [if_pos c44] at H
                  have c44b0 := decide_eq_true c44
                  clear c44
                  have H' := A_ H
                  clear H
                  have p1956 : 0 ≤ (x98_3 : Int) := od_
                  have q1956 : x98_3 < (t1952.length : Int) := od_
                  obtain ⟨ad1956, e1956, hx1956_0⟩ := Kd.at_int (Kd.R_reads' HO_96.out).2.2 x98_3 p1956 q1956
                  cases e1956
                  replace p1956 := eq_true p1956
                  replace q1956 := eq_true q1956
                  go_wp2
                  go_roundg k3
                  case measure => have := HJ7.out; have := HJ23.out; have := HK3.out; omega
                  case rel => exact ⟨(wrap64 ((wrap64 (x18_3 * t1946)) + (rd t1952 x98_3))), (wrap64 (x98_3 + 1)), tf_, tf_, H', ⟨by have := HJ7.out; have := HJ23.out; have := HK3.out; omega⟩, ⟨tr_x HO_96.out⟩, ⟨tr_x HO_1932002.out⟩, ⟨tr_x HO_1948002.out⟩, ⟨tk_ BK1931⟩, ⟨tk_ BK1947⟩, ⟨tb_⟩⟩
                 ·
                  rw [if_neg c44] at H
                  exact absurd H (by simp)
                ·
                 rw [if_neg c43] at H
                 exact absurd H (by simp)
               ·
                rw [if_neg c42] at H
                have c42b0 := decide_eq_false c42
                clear c42
                (first | rw [c42b0] | (simp only [i64_w, i32_w]; rw [c42b0]) | skip)
                by_cases c45 : t1955 = true
                ·
                 subst c45
                 have H1 : (if x18_3 = t1948 then (laws_FnFilesCounted.j3 k3 l1) else (none)) = some r := by rw [if_pos rfl] at H; exact H
                 clear H
                 have H := H1
                 clear H1
                 by_cases c46 : x18_3 = t1948
                 ·
                  rw [if_pos c46] at H
                  have c46b0 : (x18_3 == t1948) = true := beq_iff_eq.mpr c46
                  have c46b1 : (x18_3 != t1948) = false := bne_eq_false_iff_eq.mpr c46
                  clear c46
                  have H' := A_ H
                  clear H
                  go_wp2
                  go_meet
                  case rel => exact ⟨_, H', ⟨by have := HJ7.out; have := HJ23.out; have := HK3.out; first | omega | exact Nat.le_refl _⟩, ⟨by (with_reducible repeat (first | apply Kd.R_alloc | apply Kd.R_drewN | apply Kd.R_drew)); exact Kd.R_mono HO_1932002.out (fun _ hk => hk.2)⟩, ⟨by (with_reducible repeat (first | apply Kd.R_alloc | apply Kd.R_drewN | apply Kd.R_drew)); exact Kd.R_mono HO_1948002.out (fun _ hk => hk.2)⟩, ⟨tk_ BK1931⟩, ⟨tk_ BK1947⟩, ⟨tb_⟩⟩
                 ·
                  rw [if_neg c46] at H
                  exact absurd H (by simp)
                ·
                 replace c45 := Bool.eq_false_iff.mpr c45
                 subst c45
                 have H1 : (none) = some r := by rw [if_neg (show ¬ (false = true) by decide)] at H; exact H
                 clear H
                 have H := H1
                 clear H1
                 exact absurd H (by simp)
            ·
             replace c36 := Bool.eq_false_iff.mpr c36
             subst c36
             have H1 : (laws_FnFilesCounted.j3 kj23 l1) = some r := by rw [if_neg (show ¬ (false = true) by decide)] at H; exact H
             clear H
             have H := H1
             clear H1
             have H' := A_ H
             clear H
             go_wp2
             go_meet
             case rel => exact ⟨_, H', ⟨by have := HJ7.out; have := HJ23.out; first | omega | exact Nat.le_refl _⟩, ⟨tr_x HO_1932002.out⟩, ⟨tr_x HO_1948002.out⟩, ⟨tk_ BK1931⟩, ⟨tk_ BK1947⟩, ⟨tb_⟩⟩
          case rest =>
           as_aux_lemma =>
            clear HC35
            try clear c1
            try clear p1
            try clear q1
            try clear hx1
            try clear c2
            try clear p2
            try clear c3
            try clear c4
            try clear p6
            try clear c10
            try clear c11
            try clear c16
            try clear c16b0
            try clear c16b1
            try clear c16b2
            try clear p19
            try clear q19
            try clear hx19
            try clear c20
            try clear c27
            try clear c33
            try clear c33b0
            try clear c33b1
            try clear c33b2
            try clear c34
            try clear c36
            try clear c38
            try clear c42
            try clear c42b0
            try clear c43
            try clear c43b0
            try clear c44
            try clear c44b0
            try clear c45
            try clear c46
            try clear c46b0
            try clear c46b1
            try clear hcz11_0
            try clear hcz11_1
            try clear hcz11_2
            try clear hcz14_0
            try clear hcz14_1
            try clear hcz14_2
            try clear hcz28_0
            try clear hcz28_1
            try clear hcz28_2
            try clear hcz31_0
            try clear hcz31_1
            try clear hcz31_2
            try clear hcz39_0
            try clear hcz39_1
            try clear hcz39_2
            try clear hfz11_0
            try clear hfz11_1
            try clear hfz11_2
            try clear hfz14_0
            try clear hfz14_1
            try clear hfz14_2
            try clear hfz28_0
            try clear hfz28_1
            try clear hfz28_2
            try clear hfz31_0
            try clear hfz31_1
            try clear hfz31_2
            try clear hfz39_0
            try clear hfz39_1
            try clear hfz39_2
            try clear hx1956_0
            try clear p1956
            try clear p2
            try clear q1956
            obtain ⟨kq, HA, HJ34, HO_1932002, HO_1948002, BK1931, BK1947, HB⟩ := hcut
            cases kq with
            | zero => exact absurd HA.out (by simp [laws_FnFilesCounted.j3])
            | succ kj34 =>
             have H := HA.out
             clear HA
             simp only [laws_FnFilesCounted.j3] at H
             replace H := Option.bind_eq_some_iff.mp H
             obtain ⟨t1957, A470, H⟩ := H
             replace H : ((impl_ArrowBoard.f kj34 t1957).bind fun bt1958 => ((spec_ArrowBoard.f kj34 t1957).bind fun bt1965 => (if (bt1958.2.2.2 != bt1965.2.2.2) = true then (none) else ((laws_kBoard.f kj34 bt1958.1 bt1958.2.1 bt1958.2.2.1 bt1965.1 bt1965.2.1 bt1965.2.2.1).bind fun t1972 => (laws_FnFilesCounted.j4 kj34 l1 t1957 bt1958.2.2.2 (!t1972) bt1958.1 bt1958.2.1 bt1958.2.2.1))))) = some r := H
             have A47 := A_ A470
             clear A470
             replace H := Option.bind_eq_some_iff.mp H
             obtain ⟨⟨t1958, t1959, t1960, t1963⟩, A480, H⟩ := H
             replace H : ((spec_ArrowBoard.f kj34 t1957).bind fun bt1965 => (if (t1963 != bt1965.2.2.2) = true then (none) else ((laws_kBoard.f kj34 t1958 t1959 t1960 bt1965.1 bt1965.2.1 bt1965.2.2.1).bind fun t1972 => (laws_FnFilesCounted.j4 kj34 l1 t1957 t1963 (!t1972) t1958 t1959 t1960)))) = some r := H
             have A48 := A_ A480
             clear A480
             replace H := Option.bind_eq_some_iff.mp H
             obtain ⟨⟨t1965, t1966, t1967, t1970⟩, A490, H⟩ := H
             replace H : (if (t1963 != t1970) = true then (none) else ((laws_kBoard.f kj34 t1958 t1959 t1960 t1965 t1966 t1967).bind fun t1972 => (laws_FnFilesCounted.j4 kj34 l1 t1957 t1963 (!t1972) t1958 t1959 t1960))) = some r := H
             have A49 := A_ A490
             clear A490
             have HC50 := A_ H
             clear H
             go_upto_region 26 with (first | (refine gc_ 111 ?_; refine goesT_ (some 116) Try.func111 #[.slice A1 l1.length c1] ?_; (with_reducible refine (spec_DrawArrowBoard.calls _ _ l1 t1957 _ ?side1 ?side2 A47.out).mono ?_); (case side1 => exact tc_ HR1.out); (case side2 => exact HC1.out); rintro e w51 ⟨rfl, hb⟩; refine ⟨_, rfl, ?_⟩; replace HO_1932002 := A_ (Kd.R_below (tr_x HO_1932002.out) hb); replace HO_1948002 := A_ (Kd.R_below (tr_x HO_1948002.out) hb); replace BK1931 := A_ (blk_below (g := gb1931) (o := .cells #[.int .i64 t1926, .int .i64 t1927, .slice Ao12 t1928.length co12] 28 (0, 0)) (tk_ BK1931) hb); replace BK1947 := A_ (blk_below (g := gb1947) (o := .cells #[.int .i64 t1941, .int .i64 t1942, .slice Ao29 t1943.length co29] 28 (0, 0)) (tk_ BK1947) hb); replace HB := A_ (below_step tb_ hb); (try clear hb)) | (refine gc_ 112 ?_; refine goesT_ (some 119) Try.func112 #[.int .i64 t1957] ?_; (with_reducible refine (impl_ArrowBoard.calls kj34 t1957 t1958 t1959 t1960 t1963 _ A48.out).mono ?_); rintro e w52 ⟨v1961, rfl, ho0, hb⟩; refine ⟨_, rfl, ?_⟩; have HO1962 := A_ (Kd.R_lower (Kd.R_new' (Kd.R_new' ho0 (Kd.R_lt (tr_x HO_1932002.out))) (Kd.R_lt (tr_x HO_1948002.out))) (below_size tb_)); replace HO_1932002 := A_ (Kd.R_elder' (tr_x HO_1932002.out) (Kd.R_base ho0) hb); replace HO_1948002 := A_ (Kd.R_elder' (tr_x HO_1948002.out) (Kd.R_base ho0) hb); replace BK1931 := A_ (blk_below (g := gb1931) (o := .cells #[.int .i64 t1926, .int .i64 t1927, .slice Ao12 t1928.length co12] 28 (0, 0)) (tk_ BK1931) hb); replace BK1947 := A_ (blk_below (g := gb1947) (o := .cells #[.int .i64 t1941, .int .i64 t1942, .slice Ao29 t1943.length co29] 28 (0, 0)) (tk_ BK1947) hb); replace HB := A_ (below_step tb_ hb); (try clear hb); (try clear ho0)) | (refine gd_ 22 ?_; refine bx_ 22 #[.int .i64 0, .int .i64 0, .slice none 0 0] 28 ?_; intro gb1964 hg w53 hbox hb; replace HO_1932002 := A_ (Kd.R_below (tr_x HO_1932002.out) hb); replace HO_1948002 := A_ (Kd.R_below (tr_x HO_1948002.out) hb); replace HO1962 := A_ (Kd.R_below (tr_x HO1962.out) hb); have BK1964 := A_ (hbox); have GW1964 := A_ ((ts_ hg : w.heap.size ≤ gb1964)); have GE1964 := A_ ((ts_ hg : w.heap.size ≤ gb1964)); replace HB := A_ (below_step tb_ hb); have NB1931_1964 := A_ ((by rw [hg]; exact Nat.ne_of_lt (blk_lt (g := gb1931) (o := .cells #[.int .i64 t1926, .int .i64 t1927, .slice Ao12 t1928.length co12] 28 (0, 0)) (tk_ BK1931)) : gb1931 ≠ gb1964)); have NB1964_1931 := A_ ((by rw [hg]; exact Nat.ne_of_gt (blk_lt (g := gb1931) (o := .cells #[.int .i64 t1926, .int .i64 t1927, .slice Ao12 t1928.length co12] 28 (0, 0)) (tk_ BK1931)) : gb1964 ≠ gb1931)); replace BK1931 := A_ (blk_below (g := gb1931) (o := .cells #[.int .i64 t1926, .int .i64 t1927, .slice Ao12 t1928.length co12] 28 (0, 0)) (tk_ BK1931) hb); have NB1947_1964 := A_ ((by rw [hg]; exact Nat.ne_of_lt (blk_lt (g := gb1947) (o := .cells #[.int .i64 t1941, .int .i64 t1942, .slice Ao29 t1943.length co29] 28 (0, 0)) (tk_ BK1947)) : gb1947 ≠ gb1964)); have NB1964_1947 := A_ ((by rw [hg]; exact Nat.ne_of_gt (blk_lt (g := gb1947) (o := .cells #[.int .i64 t1941, .int .i64 t1942, .slice Ao29 t1943.length co29] 28 (0, 0)) (tk_ BK1947)) : gb1964 ≠ gb1947)); replace BK1947 := A_ (blk_below (g := gb1947) (o := .cells #[.int .i64 t1941, .int .i64 t1942, .slice Ao29 t1943.length co29] 28 (0, 0)) (tk_ BK1947) hb); clear hb hbox hg; have hnb54 := NB1964_1931.out; have hnc54 := NB1931_1964.out; have hnb55 := NB1964_1947.out; have hnc55 := NB1947_1964.out; obtain ⟨hcz56_0, hcz56_1, hcz56_2, hfz56_0, hfz56_1, hfz56_2⟩ := cf3_ BK1964.out; obtain ⟨Ao57, co57, eo57⟩ := Kd.R_slice HO1962.out; subst eo57) | (refine gc_ 113 ?_; refine goesT_ (some 124) Try.func113 #[.int .i64 t1957] ?_; (with_reducible refine (spec_ArrowBoard.calls kj34 t1957 t1965 t1966 t1967 t1970 _ A49.out).mono ?_); rintro e w58 ⟨v1968, rfl, ho0, hb⟩; refine ⟨_, rfl, ?_⟩; have HO1969 := A_ (Kd.R_lower (Kd.R_new' (Kd.R_new' (Kd.R_new' ho0 (Kd.R_lt (tr_ (h := by exact (Kd.R_mono (Kd.R_far (p := ⟨gb1964, 2, none⟩) (Kd.R_far (p := ⟨gb1964, 1, none⟩) (Kd.R_far (p := ⟨gb1964, 0, none⟩) (Kd.R_types HO_1932002.out BK1964.out (by decide)) (fun _ hk => hk.2) (.int .i64 t1958)) (fun _ hk => hk.2) (.int .i64 t1959)) (fun _ hk => hk.2) (.slice Ao57 t1960.length co57)) (fun _ h_ => h_.1)))))) (Kd.R_lt (tr_ (h := by exact (Kd.R_mono (Kd.R_far (p := ⟨gb1964, 2, none⟩) (Kd.R_far (p := ⟨gb1964, 1, none⟩) (Kd.R_far (p := ⟨gb1964, 0, none⟩) (Kd.R_types HO_1948002.out BK1964.out (by decide)) (fun _ hk => hk.2) (.int .i64 t1958)) (fun _ hk => hk.2) (.int .i64 t1959)) (fun _ hk => hk.2) (.slice Ao57 t1960.length co57)) (fun _ h_ => h_.1)))))) (Kd.R_lt (tr_ (h := by exact (Kd.R_mono (Kd.R_far (p := ⟨gb1964, 2, none⟩) (Kd.R_far (p := ⟨gb1964, 1, none⟩) (Kd.R_far (p := ⟨gb1964, 0, none⟩) (Kd.R_types HO1962.out BK1964.out (by decide)) (fun _ hk => hk.2) (.int .i64 t1958)) (fun _ hk => hk.2) (.int .i64 t1959)) (fun _ hk => hk.2) (.slice Ao57 t1960.length co57)) (fun _ h_ => h_.1)))))) (below_size tb_)); replace HO_1932002 := A_ (Kd.R_elder' (tr_ (h := by exact (Kd.R_mono (Kd.R_far (p := ⟨gb1964, 2, none⟩) (Kd.R_far (p := ⟨gb1964, 1, none⟩) (Kd.R_far (p := ⟨gb1964, 0, none⟩) (Kd.R_types HO_1932002.out BK1964.out (by decide)) (fun _ hk => hk.2) (.int .i64 t1958)) (fun _ hk => hk.2) (.int .i64 t1959)) (fun _ hk => hk.2) (.slice Ao57 t1960.length co57)) (fun _ h_ => h_.1)))) (Kd.R_base ho0) hb); replace HO_1948002 := A_ (Kd.R_elder' (tr_ (h := by exact (Kd.R_mono (Kd.R_far (p := ⟨gb1964, 2, none⟩) (Kd.R_far (p := ⟨gb1964, 1, none⟩) (Kd.R_far (p := ⟨gb1964, 0, none⟩) (Kd.R_types HO_1948002.out BK1964.out (by decide)) (fun _ hk => hk.2) (.int .i64 t1958)) (fun _ hk => hk.2) (.int .i64 t1959)) (fun _ hk => hk.2) (.slice Ao57 t1960.length co57)) (fun _ h_ => h_.1)))) (Kd.R_base ho0) hb); replace HO1962 := A_ (Kd.R_elder' (tr_ (h := by exact (Kd.R_mono (Kd.R_far (p := ⟨gb1964, 2, none⟩) (Kd.R_far (p := ⟨gb1964, 1, none⟩) (Kd.R_far (p := ⟨gb1964, 0, none⟩) (Kd.R_types HO1962.out BK1964.out (by decide)) (fun _ hk => hk.2) (.int .i64 t1958)) (fun _ hk => hk.2) (.int .i64 t1959)) (fun _ hk => hk.2) (.slice Ao57 t1960.length co57)) (fun _ h_ => h_.1)))) (Kd.R_base ho0) hb); replace BK1931 := A_ (blk_below (g := gb1931) (o := .cells #[.int .i64 t1926, .int .i64 t1927, .slice Ao12 t1928.length co12] 28 (0, 0)) (tk_ BK1931) hb); replace BK1947 := A_ (blk_below (g := gb1947) (o := .cells #[.int .i64 t1941, .int .i64 t1942, .slice Ao29 t1943.length co29] 28 (0, 0)) (tk_ BK1947) hb); replace BK1964 := A_ (blk_below (g := gb1964) (o := .cells #[.int .i64 t1958, .int .i64 t1959, .slice Ao57 t1960.length co57] 28 (0, 0)) (by (with_reducible repeat (first | refine blk_drewN ?_ _ | refine blk_drew ?_ | refine blk_alloc ?_ _)); refine blk_put (cs := #[.int .i64 t1958, .int .i64 t1959, .slice none 0 0]) ?_ 2 _ rfl; (with_reducible repeat (first | refine blk_drewN ?_ _ | refine blk_drew ?_ | refine blk_alloc ?_ _)); refine blk_put (cs := #[.int .i64 t1958, .int .i64 0, .slice none 0 0]) ?_ 1 _ rfl; (with_reducible repeat (first | refine blk_drewN ?_ _ | refine blk_drew ?_ | refine blk_alloc ?_ _)); refine blk_put (cs := #[.int .i64 0, .int .i64 0, .slice none 0 0]) ?_ 0 _ rfl; (with_reducible repeat (first | refine blk_drewN ?_ _ | refine blk_drew ?_ | refine blk_alloc ?_ _)); exact BK1964.out) hb); replace HB := A_ (below_step tb_ hb); (try clear hb); (try clear ho0)) | (refine gd_ 24 ?_; refine bx_ 24 #[.int .i64 0, .int .i64 0, .slice none 0 0] 28 ?_; intro gb1971 hg w59 hbox hb; replace HO_1932002 := A_ (Kd.R_below (tr_x HO_1932002.out) hb); replace HO_1948002 := A_ (Kd.R_below (tr_x HO_1948002.out) hb); replace HO1962 := A_ (Kd.R_below (tr_x HO1962.out) hb); replace HO1969 := A_ (Kd.R_below (tr_x HO1969.out) hb); have BK1971 := A_ (hbox); have GW1971 := A_ ((ts_ hg : w.heap.size ≤ gb1971)); have GE1971 := A_ ((ts_ hg : w.heap.size ≤ gb1971)); replace HB := A_ (below_step tb_ hb); have NB1931_1971 := A_ ((by rw [hg]; exact Nat.ne_of_lt (blk_lt (g := gb1931) (o := .cells #[.int .i64 t1926, .int .i64 t1927, .slice Ao12 t1928.length co12] 28 (0, 0)) (tk_ BK1931)) : gb1931 ≠ gb1971)); have NB1971_1931 := A_ ((by rw [hg]; exact Nat.ne_of_gt (blk_lt (g := gb1931) (o := .cells #[.int .i64 t1926, .int .i64 t1927, .slice Ao12 t1928.length co12] 28 (0, 0)) (tk_ BK1931)) : gb1971 ≠ gb1931)); replace BK1931 := A_ (blk_below (g := gb1931) (o := .cells #[.int .i64 t1926, .int .i64 t1927, .slice Ao12 t1928.length co12] 28 (0, 0)) (tk_ BK1931) hb); have NB1947_1971 := A_ ((by rw [hg]; exact Nat.ne_of_lt (blk_lt (g := gb1947) (o := .cells #[.int .i64 t1941, .int .i64 t1942, .slice Ao29 t1943.length co29] 28 (0, 0)) (tk_ BK1947)) : gb1947 ≠ gb1971)); have NB1971_1947 := A_ ((by rw [hg]; exact Nat.ne_of_gt (blk_lt (g := gb1947) (o := .cells #[.int .i64 t1941, .int .i64 t1942, .slice Ao29 t1943.length co29] 28 (0, 0)) (tk_ BK1947)) : gb1971 ≠ gb1947)); replace BK1947 := A_ (blk_below (g := gb1947) (o := .cells #[.int .i64 t1941, .int .i64 t1942, .slice Ao29 t1943.length co29] 28 (0, 0)) (tk_ BK1947) hb); have NB1964_1971 := A_ ((by rw [hg]; exact Nat.ne_of_lt (blk_lt (g := gb1964) (o := .cells #[.int .i64 t1958, .int .i64 t1959, .slice Ao57 t1960.length co57] 28 (0, 0)) (tk_ BK1964)) : gb1964 ≠ gb1971)); have NB1971_1964 := A_ ((by rw [hg]; exact Nat.ne_of_gt (blk_lt (g := gb1964) (o := .cells #[.int .i64 t1958, .int .i64 t1959, .slice Ao57 t1960.length co57] 28 (0, 0)) (tk_ BK1964)) : gb1971 ≠ gb1964)); replace BK1964 := A_ (blk_below (g := gb1964) (o := .cells #[.int .i64 t1958, .int .i64 t1959, .slice Ao57 t1960.length co57] 28 (0, 0)) (tk_ BK1964) hb); clear hb hbox hg; have hnb60 := NB1971_1931.out; have hnc60 := NB1931_1971.out; have hnb61 := NB1971_1947.out; have hnc61 := NB1947_1971.out; have hnb62 := NB1971_1964.out; have hnc62 := NB1964_1971.out; obtain ⟨hcz63_0, hcz63_1, hcz63_2, hfz63_0, hfz63_1, hfz63_2⟩ := cf3_ BK1971.out; obtain ⟨Ao64, co64, eo64⟩ := Kd.R_slice HO1969.out; subst eo64))
             (try simp only [Act.put, List.setIfInBounds_toArray, List.set_cons_zero, List.set_cons_succ])
             go_cut [135] (fun v135 wc => ∃ (kq : Nat) (x135_49 : Bool), v135 = .bool x135_49 ∧ Aside0 (laws_FnFilesCounted.j4 kq l1 t1957 t1963 x135_49 t1958 t1959 t1960 = some r) ∧ Aside0 (kq ≤ kj34) ∧ Aside0 (Kd.R (Kd.int .i64) 3 wc w.heap.size (fun k_ => some k_ ≠ ((.slice Ao29 t1943.length co29) : Value).ownBlock ∧ some k_ ≠ ((.slice Ao57 t1960.length co57) : Value).ownBlock ∧ some k_ ≠ ((.slice Ao64 t1967.length co64) : Value).ownBlock) (.slice Ao12 t1928.length co12) t1928) ∧ Aside0 (Kd.R (Kd.int .i64) 3 wc w.heap.size (fun k_ => some k_ ≠ ((.slice Ao12 t1928.length co12) : Value).ownBlock ∧ some k_ ≠ ((.slice Ao57 t1960.length co57) : Value).ownBlock ∧ some k_ ≠ ((.slice Ao64 t1967.length co64) : Value).ownBlock) (.slice Ao29 t1943.length co29) t1943) ∧ Aside0 (Kd.R (Kd.int .i64) 3 wc w.heap.size (fun k_ => some k_ ≠ ((.slice Ao12 t1928.length co12) : Value).ownBlock ∧ some k_ ≠ ((.slice Ao29 t1943.length co29) : Value).ownBlock ∧ some k_ ≠ ((.slice Ao64 t1967.length co64) : Value).ownBlock) (.slice Ao57 t1960.length co57) t1960) ∧ Aside0 (Kd.R (Kd.int .i64) 3 wc w.heap.size (fun k_ => some k_ ≠ ((.slice Ao12 t1928.length co12) : Value).ownBlock ∧ some k_ ≠ ((.slice Ao29 t1943.length co29) : Value).ownBlock ∧ some k_ ≠ ((.slice Ao57 t1960.length co57) : Value).ownBlock) (.slice Ao64 t1967.length co64) t1967) ∧ Aside0 (wc.heap[gb1931]? = some (.cells #[.int .i64 t1926, .int .i64 t1927, (.slice Ao12 t1928.length co12)] 28 (0, 0))) ∧ Aside0 (wc.heap[gb1947]? = some (.cells #[.int .i64 t1941, .int .i64 t1942, (.slice Ao29 t1943.length co29)] 28 (0, 0))) ∧ Aside0 (wc.heap[gb1964]? = some (.cells #[.int .i64 t1958, .int .i64 t1959, (.slice Ao57 t1960.length co57)] 28 (0, 0))) ∧ Aside0 (wc.heap[gb1971]? = some (.cells #[.int .i64 t1965, .int .i64 t1966, (.slice Ao64 t1967.length co64)] 28 (0, 0))) ∧ Aside0 (Below w.heap.size w wc))
             case first =>
              as_aux_lemma =>
               have H := HC50.out
               clear HC50
               by_cases c65 : (t1963 != t1970) = true
               ·
                rw [if_pos c65] at H
                exact absurd H (by simp)
               ·
                rw [if_neg c65] at H
                have c65b0 : (t1963 != t1970) = false := by simpa using c65
                (try (have c65b1 : decide (t1963 = t1970) = true := by simpa using c65))
                (try (have c65b2 : (t1963 == t1970) = true := by simpa using c65))
                clear c65
                (first | rw [c65b0] | (simp only [i64_w, i32_w]; rw [c65b0]) | skip)
                replace H := Option.bind_eq_some_iff.mp H
                obtain ⟨t1972, A660, H⟩ := H
                replace H : (laws_FnFilesCounted.j4 kj34 l1 t1957 t1963 (!t1972) t1958 t1959 t1960) = some r := H
                have A66 := A_ A660
                clear A660
                have H' := A_ H
                clear H
                have hnb67 := NB1964_1931.out
                have hnc67 := NB1931_1964.out
                have hnb68 := NB1964_1947.out
                have hnc68 := NB1947_1964.out
                have hnb69 := NB1964_1971.out
                have hnc69 := NB1971_1964.out
                obtain ⟨hcz70_0, hcz70_1, hcz70_2, hfz70_0, hfz70_1, hfz70_2⟩ := cf3_ BK1964.out
                have hnb71 := NB1971_1931.out
                have hnc71 := NB1931_1971.out
                have hnb72 := NB1971_1947.out
                have hnc72 := NB1947_1971.out
                obtain ⟨hcz73_0, hcz73_1, hcz73_2, hfz73_0, hfz73_1, hfz73_2⟩ := cf3_ BK1971.out
                go_wp2_with (first | (go_at_call 114; (with_reducible refine (laws_kBoard.calls kj34 t1958 t1959 _ _ t1960 t1965 t1966 _ _ t1967 t1972 _ ?side1 ?side2 ?side3 ?side4 A66.out).mono ?_); (case side1 => refine (Kd.R_reads' (e := 3) (base := w.heap.size) (ok := fun k_ => (((True ∧ some k_ ≠ (.slice Ao12 t1928.length co12 : Value).ownBlock) ∧ some k_ ≠ (.slice Ao29 t1943.length co29 : Value).ownBlock) ∧ some k_ ≠ (.slice Ao64 t1967.length co64 : Value).ownBlock)) (n := t1960.length) (c := co57) ?_).2.2; exact (tr_ (h := by exact (Kd.R_mono (Kd.R_far (p := ⟨gb1971, 2, none⟩) (Kd.R_far (p := ⟨gb1971, 1, none⟩) (Kd.R_far (p := ⟨gb1971, 0, none⟩) (Kd.R_types HO1962.out BK1971.out (by decide)) (fun _ hk => hk.2) (.int .i64 t1965)) (fun _ hk => hk.2) (.int .i64 t1966)) (fun _ hk => hk.2) (.slice Ao64 t1967.length co64)) (fun _ h_ => h_.1))))); (case side2 => exact (Kd.R_reads' HO1962.out).2.1); (case side3 => refine (Kd.R_reads' (e := 3) (base := w.heap.size) (ok := fun k_ => (((True ∧ some k_ ≠ (.slice Ao12 t1928.length co12 : Value).ownBlock) ∧ some k_ ≠ (.slice Ao29 t1943.length co29 : Value).ownBlock) ∧ some k_ ≠ (.slice Ao57 t1960.length co57 : Value).ownBlock)) (n := t1967.length) (c := co64) ?_).2.2; exact (tr_ (h := by exact (Kd.R_mono (Kd.R_far (p := ⟨gb1971, 2, none⟩) (Kd.R_far (p := ⟨gb1971, 1, none⟩) (Kd.R_far (p := ⟨gb1971, 0, none⟩) (Kd.R_types HO1969.out BK1971.out (by decide)) (fun _ hk => hk.2) (.int .i64 t1965)) (fun _ hk => hk.2) (.int .i64 t1966)) (fun _ hk => hk.2) (.slice Ao64 t1967.length co64)) (fun _ h_ => h_.1))))); (case side4 => exact (Kd.R_reads' HO1969.out).2.1); rintro e w74 ⟨rfl, hb⟩; replace HO_1932002 := A_ (Kd.R_below (tr_ (h := by exact (Kd.R_mono (Kd.R_far (p := ⟨gb1971, 2, none⟩) (Kd.R_far (p := ⟨gb1971, 1, none⟩) (Kd.R_far (p := ⟨gb1971, 0, none⟩) (Kd.R_types HO_1932002.out BK1971.out (by decide)) (fun _ hk => hk.2) (.int .i64 t1965)) (fun _ hk => hk.2) (.int .i64 t1966)) (fun _ hk => hk.2) (.slice Ao64 t1967.length co64)) (fun _ h_ => h_.1)))) hb); replace HO_1948002 := A_ (Kd.R_below (tr_ (h := by exact (Kd.R_mono (Kd.R_far (p := ⟨gb1971, 2, none⟩) (Kd.R_far (p := ⟨gb1971, 1, none⟩) (Kd.R_far (p := ⟨gb1971, 0, none⟩) (Kd.R_types HO_1948002.out BK1971.out (by decide)) (fun _ hk => hk.2) (.int .i64 t1965)) (fun _ hk => hk.2) (.int .i64 t1966)) (fun _ hk => hk.2) (.slice Ao64 t1967.length co64)) (fun _ h_ => h_.1)))) hb); replace HO1962 := A_ (Kd.R_below (tr_ (h := by exact (Kd.R_mono (Kd.R_far (p := ⟨gb1971, 2, none⟩) (Kd.R_far (p := ⟨gb1971, 1, none⟩) (Kd.R_far (p := ⟨gb1971, 0, none⟩) (Kd.R_types HO1962.out BK1971.out (by decide)) (fun _ hk => hk.2) (.int .i64 t1965)) (fun _ hk => hk.2) (.int .i64 t1966)) (fun _ hk => hk.2) (.slice Ao64 t1967.length co64)) (fun _ h_ => h_.1)))) hb); replace HO1969 := A_ (Kd.R_below (tr_ (h := by exact (Kd.R_mono (Kd.R_far (p := ⟨gb1971, 2, none⟩) (Kd.R_far (p := ⟨gb1971, 1, none⟩) (Kd.R_far (p := ⟨gb1971, 0, none⟩) (Kd.R_types HO1969.out BK1971.out (by decide)) (fun _ hk => hk.2) (.int .i64 t1965)) (fun _ hk => hk.2) (.int .i64 t1966)) (fun _ hk => hk.2) (.slice Ao64 t1967.length co64)) (fun _ h_ => h_.1)))) hb); replace BK1931 := A_ (blk_below (g := gb1931) (o := .cells #[.int .i64 t1926, .int .i64 t1927, .slice Ao12 t1928.length co12] 28 (0, 0)) (tk_ BK1931) hb); replace BK1947 := A_ (blk_below (g := gb1947) (o := .cells #[.int .i64 t1941, .int .i64 t1942, .slice Ao29 t1943.length co29] 28 (0, 0)) (tk_ BK1947) hb); replace BK1964 := A_ (blk_below (g := gb1964) (o := .cells #[.int .i64 t1958, .int .i64 t1959, .slice Ao57 t1960.length co57] 28 (0, 0)) (tk_ BK1964) hb); replace BK1971 := A_ (blk_below (g := gb1971) (o := .cells #[.int .i64 t1965, .int .i64 t1966, .slice Ao64 t1967.length co64] 28 (0, 0)) (by (with_reducible repeat (first | refine blk_drewN ?_ _ | refine blk_drew ?_ | refine blk_alloc ?_ _)); refine blk_put (cs := #[.int .i64 t1965, .int .i64 t1966, .slice none 0 0]) ?_ 2 _ rfl; (with_reducible repeat (first | refine blk_drewN ?_ _ | refine blk_drew ?_ | refine blk_alloc ?_ _)); refine blk_put (cs := #[.int .i64 t1965, .int .i64 0, .slice none 0 0]) ?_ 1 _ rfl; (with_reducible repeat (first | refine blk_drewN ?_ _ | refine blk_drew ?_ | refine blk_alloc ?_ _)); refine blk_put (cs := #[.int .i64 0, .int .i64 0, .slice none 0 0]) ?_ 0 _ rfl; (with_reducible repeat (first | refine blk_drewN ?_ _ | refine blk_drew ?_ | refine blk_alloc ?_ _)); exact BK1971.out) hb); replace HB := A_ (below_step tb_ hb); (try clear hb)))
                go_meet
                case rel => exact ⟨_, (!t1972), tf_, H', ⟨by have := HJ7.out; have := HJ23.out; have := HJ34.out; first | omega | exact Nat.le_refl _⟩, ⟨by (with_reducible repeat (first | apply Kd.R_alloc | apply Kd.R_drewN | apply Kd.R_drew)); exact Kd.R_mono HO_1932002.out om_⟩, ⟨by (with_reducible repeat (first | apply Kd.R_alloc | apply Kd.R_drewN | apply Kd.R_drew)); exact Kd.R_mono HO_1948002.out om_⟩, ⟨by (with_reducible repeat (first | apply Kd.R_alloc | apply Kd.R_drewN | apply Kd.R_drew)); exact Kd.R_mono HO1962.out om_⟩, ⟨by (with_reducible repeat (first | apply Kd.R_alloc | apply Kd.R_drewN | apply Kd.R_drew)); exact Kd.R_mono HO1969.out om_⟩, ⟨tk_ BK1931⟩, ⟨tk_ BK1947⟩, ⟨tk_ BK1964⟩, ⟨tk_ BK1971⟩, ⟨tb_⟩⟩
             case rest =>
              as_aux_lemma =>
               clear HC50
               try clear c1
               try clear p1
               try clear q1
               try clear hx1
               try clear c2
               try clear p2
               try clear c3
               try clear c4
               try clear c5
               try clear c6
               try clear p6
               try clear c7
               try clear c10
               try clear c11
               try clear c16
               try clear c16b0
               try clear c16b1
               try clear c16b2
               try clear p19
               try clear q19
               try clear hx19
               try clear c20
               try clear c27
               try clear c33
               try clear c33b0
               try clear c33b1
               try clear c33b2
               try clear c34
               try clear c36
               try clear c38
               try clear c42
               try clear c42b0
               try clear c43
               try clear c43b0
               try clear c44
               try clear c44b0
               try clear c45
               try clear c46
               try clear c46b0
               try clear c46b1
               try clear c47
               try clear c54
               try clear c55
               try clear c60
               try clear c61
               try clear c62
               try clear p64
               try clear c65
               try clear c65b0
               try clear c65b1
               try clear c65b2
               try clear c67
               try clear c68
               try clear c69
               try clear c71
               try clear c72
               try clear hcz11_0
               try clear hcz11_1
               try clear hcz11_2
               try clear hcz14_0
               try clear hcz14_1
               try clear hcz14_2
               try clear hcz28_0
               try clear hcz28_1
               try clear hcz28_2
               try clear hcz31_0
               try clear hcz31_1
               try clear hcz31_2
               try clear hcz39_0
               try clear hcz39_1
               try clear hcz39_2
               try clear hcz56_0
               try clear hcz56_1
               try clear hcz56_2
               try clear hcz63_0
               try clear hcz63_1
               try clear hcz63_2
               try clear hcz70_0
               try clear hcz70_1
               try clear hcz70_2
               try clear hcz73_0
               try clear hcz73_1
               try clear hcz73_2
               try clear hfz11_0
               try clear hfz11_1
               try clear hfz11_2
               try clear hfz14_0
               try clear hfz14_1
               try clear hfz14_2
               try clear hfz28_0
               try clear hfz28_1
               try clear hfz28_2
               try clear hfz31_0
               try clear hfz31_1
               try clear hfz31_2
               try clear hfz39_0
               try clear hfz39_1
               try clear hfz39_2
               try clear hfz56_0
               try clear hfz56_1
               try clear hfz56_2
               try clear hfz63_0
               try clear hfz63_1
               try clear hfz63_2
               try clear hfz70_0
               try clear hfz70_1
               try clear hfz70_2
               try clear hfz73_0
               try clear hfz73_1
               try clear hfz73_2
               try clear hx1956_0
               try clear p1
               try clear p19
               try clear p1956
               try clear p2
               try clear p6
               try clear q1
               try clear q19
               try clear q1956
               obtain ⟨kq, x135_49, rfl, HA, HJ49, HO_1932002, HO_1948002, HO_1965002, HO_1972002, BK1931, BK1947, BK1964, BK1971, HB⟩ := hcut
               cases kq with
               | zero => exact absurd HA.out (by simp [laws_FnFilesCounted.j4])
               | succ kj49 =>
                have H := HA.out
                clear HA
                simp only [laws_FnFilesCounted.j4] at H
                by_cases c75 : x135_49 = true
                ·
                 subst c75
                 have H1 : (none) = some r := by rw [if_pos rfl] at H; exact H
                 clear H
                 have H := H1
                 clear H1
                 exact absurd H (by simp)
                ·
                 replace c75 := Bool.eq_false_iff.mpr c75
                 subst c75
                 have H1 : (if t1963 = true then ((impl_RookNumbers.f kj49 t1958 t1959 t1960).bind fun bt1973 => ((impl_FileNumbers.f kj49 t1958 t1959 t1960).bind fun bt1977 => (if bt1973.2 = true then (laws_FnFilesCounted.j5 kj49 l1 t1957 bt1973.1 bt1977.1 (!bt1977.2)) else (none)))) else ((spec_DrawIsFilePlacement.f kj49 l1).bind fun bt2000 => ((impl_IsFilePlacement.f kj49 bt2000.1 bt2000.2.1 bt2000.2.2.1 bt2000.2.2.2).bind fun bt2009 => ((spec_IsFilePlacement.f kj49 bt2000.1 bt2000.2.1 bt2000.2.2.1 bt2000.2.2.2).bind fun bt2011 => (if (bt2009.2 == bt2011.2) = true then (some (bt2009.1 == bt2011.1)) else (none)))))) = some r := by rw [if_neg (show ¬ (false = true) by decide)] at H; exact H
                 clear H
                 have H := H1
                 clear H1
                 by_cases c76 : t1963 = true
                 ·
                  subst c76
                  have H1 : ((impl_RookNumbers.f kj49 t1958 t1959 t1960).bind fun bt1973 => ((impl_FileNumbers.f kj49 t1958 t1959 t1960).bind fun bt1977 => (if bt1973.2 = true then (laws_FnFilesCounted.j5 kj49 l1 t1957 bt1973.1 bt1977.1 (!bt1977.2)) else (none)))) = some r := by rw [if_pos rfl] at H; exact H
                  clear H
                  have H := H1
                  clear H1
                  replace H := Option.bind_eq_some_iff.mp H
                  obtain ⟨⟨t1973, t1976⟩, A770, H⟩ := H
                  replace H : ((impl_FileNumbers.f kj49 t1958 t1959 t1960).bind fun bt1977 => (if t1976 = true then (laws_FnFilesCounted.j5 kj49 l1 t1957 t1973 bt1977.1 (!bt1977.2)) else (none))) = some r := H
                  have A77 := A_ A770
                  clear A770
                  replace H := Option.bind_eq_some_iff.mp H
                  obtain ⟨⟨t1977, t1980⟩, A780, H⟩ := H
                  replace H : (if t1976 = true then (laws_FnFilesCounted.j5 kj49 l1 t1957 t1973 t1977 (!t1980)) else (none)) = some r := H
                  have A78 := A_ A780
                  clear A780
                  have HC79 := A_ H
                  clear H
                  have hnb80 := NB1964_1931.out
                  have hnc80 := NB1931_1964.out
                  have hnb81 := NB1964_1947.out
                  have hnc81 := NB1947_1964.out
                  have hnb82 := NB1964_1971.out
                  have hnc82 := NB1971_1964.out
                  obtain ⟨hcz83_0, hcz83_1, hcz83_2, hfz83_0, hfz83_1, hfz83_2⟩ := cf3_ BK1964.out
                  go_upto_region 31 with (first | (refine gc_ 115 ?_; refine goesT_ (some 139) Try.func115 #[.agg #[.int .i64 t1958, .int .i64 t1959, .slice Ao57 t1960.length co57]] ?_; (with_reducible refine (impl_RookNumbers.calls kj49 t1958 t1959 _ _ t1960 t1973 t1976 _ ?side1 ?side2 A77.out).mono ?_); (case side1 => exact tc0_ (Kd.R_reads' HO_1965002.out).2.2); (case side2 => exact (Kd.R_reads' HO_1965002.out).2.1); rintro e w84 ⟨v1974, rfl, ho0, hb⟩; refine ⟨_, rfl, ?_⟩; have HO1975 := A_ (Kd.R_lower (Kd.R_new' (Kd.R_new' (Kd.R_new' (Kd.R_new' ho0 (Kd.R_lt (tr_x HO_1932002.out))) (Kd.R_lt (tr_x HO_1948002.out))) (Kd.R_lt (tr_x HO_1965002.out))) (Kd.R_lt (tr_x HO_1972002.out))) (below_size tb_)); replace HO_1932002 := A_ (Kd.R_elder' (tr_x HO_1932002.out) (Kd.R_base ho0) hb); replace HO_1948002 := A_ (Kd.R_elder' (tr_x HO_1948002.out) (Kd.R_base ho0) hb); replace HO_1965002 := A_ (Kd.R_elder' (tr_x HO_1965002.out) (Kd.R_base ho0) hb); replace HO_1972002 := A_ (Kd.R_elder' (tr_x HO_1972002.out) (Kd.R_base ho0) hb); replace BK1931 := A_ (blk_below (g := gb1931) (o := .cells #[.int .i64 t1926, .int .i64 t1927, .slice Ao12 t1928.length co12] 28 (0, 0)) (tk_ BK1931) hb); replace BK1947 := A_ (blk_below (g := gb1947) (o := .cells #[.int .i64 t1941, .int .i64 t1942, .slice Ao29 t1943.length co29] 28 (0, 0)) (tk_ BK1947) hb); replace BK1964 := A_ (blk_below (g := gb1964) (o := .cells #[.int .i64 t1958, .int .i64 t1959, .slice Ao57 t1960.length co57] 28 (0, 0)) (tk_ BK1964) hb); replace BK1971 := A_ (blk_below (g := gb1971) (o := .cells #[.int .i64 t1965, .int .i64 t1966, .slice Ao64 t1967.length co64] 28 (0, 0)) (tk_ BK1971) hb); replace HB := A_ (below_step tb_ hb); (try clear hb); (try clear ho0); obtain ⟨hcz85_0, hcz85_1, hcz85_2, hfz85_0, hfz85_1, hfz85_2⟩ := cf3_ BK1964.out) | (refine gc_ 106 ?_; refine goesT_ (some 144) Try.func106 #[.agg #[.int .i64 t1958, .int .i64 t1959, .slice Ao57 t1960.length co57]] ?_; (with_reducible refine (impl_FileNumbers.calls kj49 t1958 t1959 _ _ t1960 t1977 t1980 _ ?side1 ?side2 A78.out).mono ?_); (case side1 => exact tc0_ (Kd.R_reads' HO_1965002.out).2.2); (case side2 => exact (Kd.R_reads' HO_1965002.out).2.1); rintro e w86 ⟨v1978, rfl, ho0, hb⟩; refine ⟨_, rfl, ?_⟩; have HO1979 := A_ (Kd.R_lower (Kd.R_new' (Kd.R_new' (Kd.R_new' (Kd.R_new' (Kd.R_new' ho0 (Kd.R_lt (tr_x HO_1932002.out))) (Kd.R_lt (tr_x HO_1948002.out))) (Kd.R_lt (tr_x HO_1965002.out))) (Kd.R_lt (tr_x HO_1972002.out))) (Kd.R_lt (tr_x HO1975.out))) (below_size tb_)); replace HO_1932002 := A_ (Kd.R_elder' (tr_x HO_1932002.out) (Kd.R_base ho0) hb); replace HO_1948002 := A_ (Kd.R_elder' (tr_x HO_1948002.out) (Kd.R_base ho0) hb); replace HO_1965002 := A_ (Kd.R_elder' (tr_x HO_1965002.out) (Kd.R_base ho0) hb); replace HO_1972002 := A_ (Kd.R_elder' (tr_x HO_1972002.out) (Kd.R_base ho0) hb); replace HO1975 := A_ (Kd.R_elder' (tr_x HO1975.out) (Kd.R_base ho0) hb); replace BK1931 := A_ (blk_below (g := gb1931) (o := .cells #[.int .i64 t1926, .int .i64 t1927, .slice Ao12 t1928.length co12] 28 (0, 0)) (tk_ BK1931) hb); replace BK1947 := A_ (blk_below (g := gb1947) (o := .cells #[.int .i64 t1941, .int .i64 t1942, .slice Ao29 t1943.length co29] 28 (0, 0)) (tk_ BK1947) hb); replace BK1964 := A_ (blk_below (g := gb1964) (o := .cells #[.int .i64 t1958, .int .i64 t1959, .slice Ao57 t1960.length co57] 28 (0, 0)) (tk_ BK1964) hb); replace BK1971 := A_ (blk_below (g := gb1971) (o := .cells #[.int .i64 t1965, .int .i64 t1966, .slice Ao64 t1967.length co64] 28 (0, 0)) (tk_ BK1971) hb); replace HB := A_ (below_step tb_ hb); (try clear hb); (try clear ho0)))
                  (try simp only [Act.put, List.setIfInBounds_toArray, List.set_cons_zero, List.set_cons_succ])
                  go_cut [152] (fun v152 wc => ∃ (kq : Nat) (x152_78 : Bool), v152 = .bool x152_78 ∧ Aside0 (laws_FnFilesCounted.j5 kq l1 t1957 t1973 t1977 x152_78 = some r) ∧ Aside0 (kq ≤ kj49) ∧ Aside0 (Kd.R (Kd.int .i64) 3 wc w.heap.size (fun k_ => some k_ ≠ (v1978 : Value).ownBlock ∧ some k_ ≠ ((.slice Ao12 t1928.length co12) : Value).ownBlock ∧ some k_ ≠ ((.slice Ao29 t1943.length co29) : Value).ownBlock ∧ some k_ ≠ ((.slice Ao57 t1960.length co57) : Value).ownBlock ∧ some k_ ≠ ((.slice Ao64 t1967.length co64) : Value).ownBlock) v1974 t1973) ∧ Aside0 (Kd.R (Kd.int .i64) 3 wc w.heap.size (fun k_ => some k_ ≠ (v1974 : Value).ownBlock ∧ some k_ ≠ ((.slice Ao12 t1928.length co12) : Value).ownBlock ∧ some k_ ≠ ((.slice Ao29 t1943.length co29) : Value).ownBlock ∧ some k_ ≠ ((.slice Ao57 t1960.length co57) : Value).ownBlock ∧ some k_ ≠ ((.slice Ao64 t1967.length co64) : Value).ownBlock) v1978 t1977) ∧ Aside0 (Kd.R (Kd.int .i64) 3 wc w.heap.size (fun k_ => some k_ ≠ (v1974 : Value).ownBlock ∧ some k_ ≠ (v1978 : Value).ownBlock ∧ some k_ ≠ ((.slice Ao29 t1943.length co29) : Value).ownBlock ∧ some k_ ≠ ((.slice Ao57 t1960.length co57) : Value).ownBlock ∧ some k_ ≠ ((.slice Ao64 t1967.length co64) : Value).ownBlock) (.slice Ao12 t1928.length co12) t1928) ∧ Aside0 (Kd.R (Kd.int .i64) 3 wc w.heap.size (fun k_ => some k_ ≠ (v1974 : Value).ownBlock ∧ some k_ ≠ (v1978 : Value).ownBlock ∧ some k_ ≠ ((.slice Ao12 t1928.length co12) : Value).ownBlock ∧ some k_ ≠ ((.slice Ao57 t1960.length co57) : Value).ownBlock ∧ some k_ ≠ ((.slice Ao64 t1967.length co64) : Value).ownBlock) (.slice Ao29 t1943.length co29) t1943) ∧ Aside0 (Kd.R (Kd.int .i64) 3 wc w.heap.size (fun k_ => some k_ ≠ (v1974 : Value).ownBlock ∧ some k_ ≠ (v1978 : Value).ownBlock ∧ some k_ ≠ ((.slice Ao12 t1928.length co12) : Value).ownBlock ∧ some k_ ≠ ((.slice Ao29 t1943.length co29) : Value).ownBlock ∧ some k_ ≠ ((.slice Ao64 t1967.length co64) : Value).ownBlock) (.slice Ao57 t1960.length co57) t1960) ∧ Aside0 (Kd.R (Kd.int .i64) 3 wc w.heap.size (fun k_ => some k_ ≠ (v1974 : Value).ownBlock ∧ some k_ ≠ (v1978 : Value).ownBlock ∧ some k_ ≠ ((.slice Ao12 t1928.length co12) : Value).ownBlock ∧ some k_ ≠ ((.slice Ao29 t1943.length co29) : Value).ownBlock ∧ some k_ ≠ ((.slice Ao57 t1960.length co57) : Value).ownBlock) (.slice Ao64 t1967.length co64) t1967) ∧ Aside0 (wc.heap[gb1931]? = some (.cells #[.int .i64 t1926, .int .i64 t1927, (.slice Ao12 t1928.length co12)] 28 (0, 0))) ∧ Aside0 (wc.heap[gb1947]? = some (.cells #[.int .i64 t1941, .int .i64 t1942, (.slice Ao29 t1943.length co29)] 28 (0, 0))) ∧ Aside0 (wc.heap[gb1964]? = some (.cells #[.int .i64 t1958, .int .i64 t1959, (.slice Ao57 t1960.length co57)] 28 (0, 0))) ∧ Aside0 (wc.heap[gb1971]? = some (.cells #[.int .i64 t1965, .int .i64 t1966, (.slice Ao64 t1967.length co64)] 28 (0, 0))) ∧ Aside0 (Below w.heap.size w wc))
                  case first =>
                   as_aux_lemma =>
                    have H := HC79.out
                    clear HC79
                    by_cases c87 : t1976 = true
                    ·
                     subst c87
                     have H1 : (laws_FnFilesCounted.j5 kj49 l1 t1957 t1973 t1977 (!t1980)) = some r := by rw [if_pos rfl] at H; exact H
                     clear H
                     have H := H1
                     clear H1
                     have H' := A_ H
                     clear H
                     go_wp2
                     go_meet
                     case rel => exact ⟨_, (!t1980), tf_, H', ⟨by have := HJ7.out; have := HJ23.out; have := HJ34.out; have := HJ49.out; first | omega | exact Nat.le_refl _⟩, ⟨by (with_reducible repeat (first | apply Kd.R_alloc | apply Kd.R_drewN | apply Kd.R_drew)); exact Kd.R_mono HO1975.out om_⟩, ⟨by (with_reducible repeat (first | apply Kd.R_alloc | apply Kd.R_drewN | apply Kd.R_drew)); exact Kd.R_mono HO1979.out om_⟩, ⟨by (with_reducible repeat (first | apply Kd.R_alloc | apply Kd.R_drewN | apply Kd.R_drew)); exact Kd.R_mono HO_1932002.out om_⟩, ⟨by (with_reducible repeat (first | apply Kd.R_alloc | apply Kd.R_drewN | apply Kd.R_drew)); exact Kd.R_mono HO_1948002.out om_⟩, ⟨by (with_reducible repeat (first | apply Kd.R_alloc | apply Kd.R_drewN | apply Kd.R_drew)); exact Kd.R_mono HO_1965002.out om_⟩, ⟨by (with_reducible repeat (first | apply Kd.R_alloc | apply Kd.R_drewN | apply Kd.R_drew)); exact Kd.R_mono HO_1972002.out om_⟩, ⟨tk_ BK1931⟩, ⟨tk_ BK1947⟩, ⟨tk_ BK1964⟩, ⟨tk_ BK1971⟩, ⟨tb_⟩⟩
                    ·
                     replace c87 := Bool.eq_false_iff.mpr c87
                     subst c87
                     have H1 : (none) = some r := by rw [if_neg (show ¬ (false = true) by decide)] at H; exact H
                     clear H
                     have H := H1
                     clear H1
                     exact absurd H (by simp)
                  case rest =>
                   as_aux_lemma =>
                    clear HC79
                    try clear c1
                    try clear p1
                    try clear q1
                    try clear hx1
                    try clear c2
                    try clear p2
                    try clear c3
                    try clear c4
                    try clear c5
                    try clear c6
                    try clear p6
                    try clear c7
                    try clear c8
                    try clear c10
                    try clear c11
                    try clear c16
                    try clear c16b0
                    try clear c16b1
                    try clear c16b2
                    try clear p19
                    try clear q19
                    try clear hx19
                    try clear c20
                    try clear c27
                    try clear c33
                    try clear c33b0
                    try clear c33b1
                    try clear c33b2
                    try clear c34
                    try clear c36
                    try clear c38
                    try clear c42
                    try clear c42b0
                    try clear c43
                    try clear c43b0
                    try clear c44
                    try clear c44b0
                    try clear c45
                    try clear c46
                    try clear c46b0
                    try clear c46b1
                    try clear c47
                    try clear c54
                    try clear c55
                    try clear c60
                    try clear c61
                    try clear c62
                    try clear p64
                    try clear c65
                    try clear c65b0
                    try clear c65b1
                    try clear c65b2
                    try clear c67
                    try clear c68
                    try clear c69
                    try clear c71
                    try clear c72
                    try clear c75
                    try clear c76
                    try clear c80
                    try clear c81
                    try clear c82
                    try clear c87
                    try clear hcz11_0
                    try clear hcz11_1
                    try clear hcz11_2
                    try clear hcz14_0
                    try clear hcz14_1
                    try clear hcz14_2
                    try clear hcz28_0
                    try clear hcz28_1
                    try clear hcz28_2
                    try clear hcz31_0
                    try clear hcz31_1
                    try clear hcz31_2
                    try clear hcz39_0
                    try clear hcz39_1
                    try clear hcz39_2
                    try clear hcz56_0
                    try clear hcz56_1
                    try clear hcz56_2
                    try clear hcz63_0
                    try clear hcz63_1
                    try clear hcz63_2
                    try clear hcz70_0
                    try clear hcz70_1
                    try clear hcz70_2
                    try clear hcz73_0
                    try clear hcz73_1
                    try clear hcz73_2
                    try clear hcz83_0
                    try clear hcz83_1
                    try clear hcz83_2
                    try clear hcz85_0
                    try clear hcz85_1
                    try clear hcz85_2
                    try clear hfz11_0
                    try clear hfz11_1
                    try clear hfz11_2
                    try clear hfz14_0
                    try clear hfz14_1
                    try clear hfz14_2
                    try clear hfz28_0
                    try clear hfz28_1
                    try clear hfz28_2
                    try clear hfz31_0
                    try clear hfz31_1
                    try clear hfz31_2
                    try clear hfz39_0
                    try clear hfz39_1
                    try clear hfz39_2
                    try clear hfz56_0
                    try clear hfz56_1
                    try clear hfz56_2
                    try clear hfz63_0
                    try clear hfz63_1
                    try clear hfz63_2
                    try clear hfz70_0
                    try clear hfz70_1
                    try clear hfz70_2
                    try clear hfz73_0
                    try clear hfz73_1
                    try clear hfz73_2
                    try clear hfz83_0
                    try clear hfz83_1
                    try clear hfz83_2
                    try clear hfz85_0
                    try clear hfz85_1
                    try clear hfz85_2
                    try clear hx1956_0
                    try clear p1
                    try clear p19
                    try clear p1956
                    try clear p2
                    try clear p6
                    try clear p64
                    try clear q1
                    try clear q19
                    try clear q1956
                    obtain ⟨kq, x152_78, rfl, HA, HJ78, HO_26, HO_28, HO_1932002, HO_1948002, HO_1965002, HO_1972002, BK1931, BK1947, BK1964, BK1971, HB⟩ := hcut
                    cases kq with
                    | zero => exact absurd HA.out (by simp [laws_FnFilesCounted.j5])
                    | succ kj78 =>
                     have H := HA.out
                     clear HA
                     simp only [laws_FnFilesCounted.j5] at H
                     by_cases c88 : x152_78 = true
                     ·
                      subst c88
                      have H1 : (none) = some r := by rw [if_pos rfl] at H; exact H
                      clear H
                      have H := H1
                      clear H1
                      exact absurd H (by simp)
                     ·
                      replace c88 := Bool.eq_false_iff.mpr c88
                      subst c88
                      have H1 : (laws_FnFilesCounted.l1 kj78 l1 t1957 t1973 t1977 0) = some r := by rw [if_neg (show ¬ (false = true) by decide)] at H; exact H
                      clear H
                      have H := H1
                      clear H1
                      have H' := A_ H
                      clear H
                      go_wp2
                      go_loopg [30] kj78 (fun kq v30 w' => ∃ (x30_6 : Int), v30 = .int .i64 x30_6 ∧ Aside0 (laws_FnFilesCounted.l1 kq l1 t1957 t1973 t1977 x30_6 = some r) ∧ Aside0 (kq ≤ kj78) ∧ Aside0 (Kd.R (Kd.int .i64) 3 w' w.heap.size (fun k_ => some k_ ≠ (v1978 : Value).ownBlock ∧ some k_ ≠ ((.slice Ao12 t1928.length co12) : Value).ownBlock ∧ some k_ ≠ ((.slice Ao29 t1943.length co29) : Value).ownBlock ∧ some k_ ≠ ((.slice Ao57 t1960.length co57) : Value).ownBlock ∧ some k_ ≠ ((.slice Ao64 t1967.length co64) : Value).ownBlock) v1974 t1973) ∧ Aside0 (Kd.R (Kd.int .i64) 3 w' w.heap.size (fun k_ => some k_ ≠ (v1974 : Value).ownBlock ∧ some k_ ≠ ((.slice Ao12 t1928.length co12) : Value).ownBlock ∧ some k_ ≠ ((.slice Ao29 t1943.length co29) : Value).ownBlock ∧ some k_ ≠ ((.slice Ao57 t1960.length co57) : Value).ownBlock ∧ some k_ ≠ ((.slice Ao64 t1967.length co64) : Value).ownBlock) v1978 t1977) ∧ Aside0 (Kd.R (Kd.int .i64) 3 w' w.heap.size (fun k_ => some k_ ≠ (v1974 : Value).ownBlock ∧ some k_ ≠ (v1978 : Value).ownBlock ∧ some k_ ≠ ((.slice Ao29 t1943.length co29) : Value).ownBlock ∧ some k_ ≠ ((.slice Ao57 t1960.length co57) : Value).ownBlock ∧ some k_ ≠ ((.slice Ao64 t1967.length co64) : Value).ownBlock) (.slice Ao12 t1928.length co12) t1928) ∧ Aside0 (Kd.R (Kd.int .i64) 3 w' w.heap.size (fun k_ => some k_ ≠ (v1974 : Value).ownBlock ∧ some k_ ≠ (v1978 : Value).ownBlock ∧ some k_ ≠ ((.slice Ao12 t1928.length co12) : Value).ownBlock ∧ some k_ ≠ ((.slice Ao57 t1960.length co57) : Value).ownBlock ∧ some k_ ≠ ((.slice Ao64 t1967.length co64) : Value).ownBlock) (.slice Ao29 t1943.length co29) t1943) ∧ Aside0 (Kd.R (Kd.int .i64) 3 w' w.heap.size (fun k_ => some k_ ≠ (v1974 : Value).ownBlock ∧ some k_ ≠ (v1978 : Value).ownBlock ∧ some k_ ≠ ((.slice Ao12 t1928.length co12) : Value).ownBlock ∧ some k_ ≠ ((.slice Ao29 t1943.length co29) : Value).ownBlock ∧ some k_ ≠ ((.slice Ao64 t1967.length co64) : Value).ownBlock) (.slice Ao57 t1960.length co57) t1960) ∧ Aside0 (Kd.R (Kd.int .i64) 3 w' w.heap.size (fun k_ => some k_ ≠ (v1974 : Value).ownBlock ∧ some k_ ≠ (v1978 : Value).ownBlock ∧ some k_ ≠ ((.slice Ao12 t1928.length co12) : Value).ownBlock ∧ some k_ ≠ ((.slice Ao29 t1943.length co29) : Value).ownBlock ∧ some k_ ≠ ((.slice Ao57 t1960.length co57) : Value).ownBlock) (.slice Ao64 t1967.length co64) t1967) ∧ Aside0 (w'.heap[gb1931]? = some (.cells #[.int .i64 t1926, .int .i64 t1927, (.slice Ao12 t1928.length co12)] 28 (0, 0))) ∧ Aside0 (w'.heap[gb1947]? = some (.cells #[.int .i64 t1941, .int .i64 t1942, (.slice Ao29 t1943.length co29)] 28 (0, 0))) ∧ Aside0 (w'.heap[gb1964]? = some (.cells #[.int .i64 t1958, .int .i64 t1959, (.slice Ao57 t1960.length co57)] 28 (0, 0))) ∧ Aside0 (w'.heap[gb1971]? = some (.cells #[.int .i64 t1965, .int .i64 t1966, (.slice Ao64 t1967.length co64)] 28 (0, 0))) ∧ Aside0 (Below w.heap.size w w'))
                      case atStart => exact ⟨(0), tf_, H', ⟨Nat.le_refl _⟩, ⟨tr_x HO_26.out⟩, ⟨tr_x HO_28.out⟩, ⟨tr_x HO_1932002.out⟩, ⟨tr_x HO_1948002.out⟩, ⟨tr_x HO_1965002.out⟩, ⟨tr_x HO_1972002.out⟩, ⟨tk_ BK1931⟩, ⟨tk_ BK1947⟩, ⟨tk_ BK1964⟩, ⟨tk_ BK1971⟩, ⟨tb_⟩⟩
                      case round =>
                       clear H'
                       try clear c1
                       try clear p1
                       try clear q1
                       try clear hx1
                       try clear c2
                       try clear p2
                       try clear c3
                       try clear c4
                       try clear c5
                       try clear c6
                       try clear p6
                       try clear c7
                       try clear c8
                       try clear c10
                       try clear c11
                       try clear c16
                       try clear c16b0
                       try clear c16b1
                       try clear c16b2
                       try clear p19
                       try clear q19
                       try clear hx19
                       try clear c20
                       try clear c27
                       try clear c33
                       try clear c33b0
                       try clear c33b1
                       try clear c33b2
                       try clear c34
                       try clear c36
                       try clear c38
                       try clear c42
                       try clear c42b0
                       try clear c43
                       try clear c43b0
                       try clear c44
                       try clear c44b0
                       try clear c45
                       try clear c46
                       try clear c46b0
                       try clear c46b1
                       try clear c47
                       try clear c54
                       try clear c55
                       try clear c60
                       try clear c61
                       try clear c62
                       try clear p64
                       try clear c65
                       try clear c65b0
                       try clear c65b1
                       try clear c65b2
                       try clear c67
                       try clear c68
                       try clear c69
                       try clear c71
                       try clear c72
                       try clear c75
                       try clear c76
                       try clear c80
                       try clear c81
                       try clear c82
                       try clear c87
                       try clear c88
                       try clear hcz11_0
                       try clear hcz11_1
                       try clear hcz11_2
                       try clear hcz14_0
                       try clear hcz14_1
                       try clear hcz14_2
                       try clear hcz28_0
                       try clear hcz28_1
                       try clear hcz28_2
                       try clear hcz31_0
                       try clear hcz31_1
                       try clear hcz31_2
                       try clear hcz39_0
                       try clear hcz39_1
                       try clear hcz39_2
                       try clear hcz56_0
                       try clear hcz56_1
                       try clear hcz56_2
                       try clear hcz63_0
                       try clear hcz63_1
                       try clear hcz63_2
                       try clear hcz70_0
                       try clear hcz70_1
                       try clear hcz70_2
                       try clear hcz73_0
                       try clear hcz73_1
                       try clear hcz73_2
                       try clear hcz83_0
                       try clear hcz83_1
                       try clear hcz83_2
                       try clear hcz85_0
                       try clear hcz85_1
                       try clear hcz85_2
                       try clear hfz11_0
                       try clear hfz11_1
                       try clear hfz11_2
                       try clear hfz14_0
                       try clear hfz14_1
                       try clear hfz14_2
                       try clear hfz28_0
                       try clear hfz28_1
                       try clear hfz28_2
                       try clear hfz31_0
                       try clear hfz31_1
                       try clear hfz31_2
                       try clear hfz39_0
                       try clear hfz39_1
                       try clear hfz39_2
                       try clear hfz56_0
                       try clear hfz56_1
                       try clear hfz56_2
                       try clear hfz63_0
                       try clear hfz63_1
                       try clear hfz63_2
                       try clear hfz70_0
                       try clear hfz70_1
                       try clear hfz70_2
                       try clear hfz73_0
                       try clear hfz73_1
                       try clear hfz73_2
                       try clear hfz83_0
                       try clear hfz83_1
                       try clear hfz83_2
                       try clear hfz85_0
                       try clear hfz85_1
                       try clear hfz85_2
                       try clear hx1956_0
                       try clear p1
                       try clear p19
                       try clear p1956
                       try clear p2
                       try clear p6
                       try clear p64
                       try clear q1
                       try clear q19
                       try clear q1956
                       obtain ⟨x30_6, rfl, HA, HK6, HO_26, HO_28, HO_1932002, HO_1948002, HO_1965002, HO_1972002, BK1931, BK1947, BK1964, BK1971, HB⟩ := hrel
                       cases gk with
                       | zero => exact absurd HA.out (by simp [laws_FnFilesCounted.l1])
                       | succ k6 =>
                        have H := HA.out
                        clear HA
                        simp only [laws_FnFilesCounted.l1] at H
                        by_cases c89 : x30_6 ≤ t1957
                        ·
                         rw [if_pos c89] at H
                         have c89b0 := decide_eq_true c89
                         clear c89
                         replace H := Option.bind_eq_some_iff.mp H
                         obtain ⟨⟨t1994, t1995⟩, A900, H⟩ := H
                         replace H : ((impl_StirlingFirst.f k6 t1957 (wrap64 (t1957 - x30_6))).bind fun bt1996 => (if t1995 = true then (if bt1996.2 = true then (if 0 ≤ x30_6 then (if x30_6 < (t1973.length : Int) then (if (rd t1973 x30_6) = t1994 then (if x30_6 < (t1977.length : Int) then (if (rd t1977 x30_6) = bt1996.1 then (laws_FnFilesCounted.l1 k6 l1 t1957 t1973 t1977 (wrap64 (x30_6 + 1))) else (none)) else (none)) else (none)) else (none)) else (none)) else (none)) else (none))) = some r := H
                         have A90 := A_ A900
                         clear A900
                         replace H := Option.bind_eq_some_iff.mp H
                         obtain ⟨⟨t1996, t1997⟩, A910, H⟩ := H
                         replace H : (if t1995 = true then (if t1997 = true then (if 0 ≤ x30_6 then (if x30_6 < (t1973.length : Int) then (if (rd t1973 x30_6) = t1994 then (if x30_6 < (t1977.length : Int) then (if (rd t1977 x30_6) = t1996 then (laws_FnFilesCounted.l1 k6 l1 t1957 t1973 t1977 (wrap64 (x30_6 + 1))) else (none)) else (none)) else (none)) else (none)) else (none)) else (none)) else (none)) = some r := H
                         have A91 := A_ A910
                         clear A910
                         by_cases c92 : t1995 = true
                         ·
                          subst c92
                          have H1 : (if t1997 = true then (if 0 ≤ x30_6 then (if x30_6 < (t1973.length : Int) then (if (rd t1973 x30_6) = t1994 then (if x30_6 < (t1977.length : Int) then (if (rd t1977 x30_6) = t1996 then (laws_FnFilesCounted.l1 k6 l1 t1957 t1973 t1977 (wrap64 (x30_6 + 1))) else (none)) else (none)) else (none)) else (none)) else (none)) else (none)) = some r := by rw [if_pos rfl] at H; exact H
                          clear H
                          have H := H1
                          clear H1
                          by_cases c93 : t1997 = true
                          ·
                           subst c93
                           have H1 : (if 0 ≤ x30_6 then (if x30_6 < (t1973.length : Int) then (if (rd t1973 x30_6) = t1994 then (if x30_6 < (t1977.length : Int) then (if (rd t1977 x30_6) = t1996 then (laws_FnFilesCounted.l1 k6 l1 t1957 t1973 t1977 (wrap64 (x30_6 + 1))) else (none)) else (none)) else (none)) else (none)) else (none)) = some r := by rw [if_pos rfl] at H; exact H
                           clear H
                           have H := H1
                           clear H1
                           by_cases c94 : 0 ≤ x30_6
                           ·
                            rw [if_pos c94] at H
                            have c94b0 := decide_eq_true c94
                            clear c94
                            by_cases c95 : x30_6 < (t1973.length : Int)
                            ·
                             rw [if_pos c95] at H
                             have c95b0 := decide_eq_true c95
                             clear c95
                             by_cases c96 : (rd t1973 x30_6) = t1994
                             ·
                              rw [if_pos c96] at H
                              have c96b0 : ((rd t1973 x30_6) == t1994) = true := beq_iff_eq.mpr c96
                              have c96b1 : ((rd t1973 x30_6) != t1994) = false := bne_eq_false_iff_eq.mpr c96
                              clear c96
                              by_cases c97 : x30_6 < (t1977.length : Int)
                              ·
                               rw [if_pos c97] at H
                               have c97b0 := decide_eq_true c97
                               clear c97
                               by_cases c98 : (rd t1977 x30_6) = t1996
                               ·
                                rw [if_pos c98] at H
                                have c98b0 : ((rd t1977 x30_6) == t1996) = true := beq_iff_eq.mpr c98
                                have c98b1 : ((rd t1977 x30_6) != t1996) = false := bne_eq_false_iff_eq.mpr c98
                                clear c98
                                have H' := A_ H
                                clear H
                                go_wp2_with (first | (refine gc_ 82 ?_; refine goesT_ (some 163) Try.func82 #[.int .i64 t1957, .int .i64 (wrap64 (t1957 - x30_6))] ?_; (with_reducible refine (impl_StirlingSecond.calls k6 t1957 (wrap64 (t1957 - x30_6)) t1994 true _ A90.out).mono ?_); rintro e w99 ⟨rfl, hb⟩; refine ⟨_, rfl, ?_⟩; replace HO_26 := A_ (Kd.R_below (tr_x HO_26.out) hb); replace HO_28 := A_ (Kd.R_below (tr_x HO_28.out) hb); replace HO_1932002 := A_ (Kd.R_below (tr_x HO_1932002.out) hb); replace HO_1948002 := A_ (Kd.R_below (tr_x HO_1948002.out) hb); replace HO_1965002 := A_ (Kd.R_below (tr_x HO_1965002.out) hb); replace HO_1972002 := A_ (Kd.R_below (tr_x HO_1972002.out) hb); replace BK1931 := A_ (blk_below (g := gb1931) (o := .cells #[.int .i64 t1926, .int .i64 t1927, .slice Ao12 t1928.length co12] 28 (0, 0)) (tk_ BK1931) hb); replace BK1947 := A_ (blk_below (g := gb1947) (o := .cells #[.int .i64 t1941, .int .i64 t1942, .slice Ao29 t1943.length co29] 28 (0, 0)) (tk_ BK1947) hb); replace BK1964 := A_ (blk_below (g := gb1964) (o := .cells #[.int .i64 t1958, .int .i64 t1959, .slice Ao57 t1960.length co57] 28 (0, 0)) (tk_ BK1964) hb); replace BK1971 := A_ (blk_below (g := gb1971) (o := .cells #[.int .i64 t1965, .int .i64 t1966, .slice Ao64 t1967.length co64] 28 (0, 0)) (tk_ BK1971) hb); replace HB := A_ (below_step tb_ hb); (try clear hb)) | (refine gc_ 84 ?_; refine goesT_ (some 171) Try.func84 #[.int .i64 t1957, .int .i64 (wrap64 (t1957 - x30_6))] ?_; (with_reducible refine (impl_StirlingFirst.calls k6 t1957 (wrap64 (t1957 - x30_6)) t1996 true _ A91.out).mono ?_); rintro e w100 ⟨rfl, hb⟩; refine ⟨_, rfl, ?_⟩; replace HO_26 := A_ (Kd.R_below (tr_x HO_26.out) hb); replace HO_28 := A_ (Kd.R_below (tr_x HO_28.out) hb); replace HO_1932002 := A_ (Kd.R_below (tr_x HO_1932002.out) hb); replace HO_1948002 := A_ (Kd.R_below (tr_x HO_1948002.out) hb); replace HO_1965002 := A_ (Kd.R_below (tr_x HO_1965002.out) hb); replace HO_1972002 := A_ (Kd.R_below (tr_x HO_1972002.out) hb); replace BK1931 := A_ (blk_below (g := gb1931) (o := .cells #[.int .i64 t1926, .int .i64 t1927, .slice Ao12 t1928.length co12] 28 (0, 0)) (tk_ BK1931) hb); replace BK1947 := A_ (blk_below (g := gb1947) (o := .cells #[.int .i64 t1941, .int .i64 t1942, .slice Ao29 t1943.length co29] 28 (0, 0)) (tk_ BK1947) hb); replace BK1964 := A_ (blk_below (g := gb1964) (o := .cells #[.int .i64 t1958, .int .i64 t1959, .slice Ao57 t1960.length co57] 28 (0, 0)) (tk_ BK1964) hb); replace BK1971 := A_ (blk_below (g := gb1971) (o := .cells #[.int .i64 t1965, .int .i64 t1966, .slice Ao64 t1967.length co64] 28 (0, 0)) (tk_ BK1971) hb); replace HB := A_ (below_step tb_ hb); (try clear hb); obtain ⟨Ao101, co101, eo101⟩ := Kd.R_slice HO_26.out; subst eo101; have p1998 : 0 ≤ (x30_6 : Int) := od_; have q1998 : x30_6 < (t1973.length : Int) := od_; obtain ⟨ad1998, e1998, hx1998_0⟩ := Kd.at_int (Kd.R_reads' HO_26.out).2.2 x30_6 p1998 q1998; cases e1998; replace p1998 := eq_true p1998; replace q1998 := eq_true q1998; obtain ⟨Ao102, co102, eo102⟩ := Kd.R_slice HO_28.out; subst eo102; have p1999 : 0 ≤ (x30_6 : Int) := od_; have q1999 : x30_6 < (t1977.length : Int) := od_; obtain ⟨ad1999, e1999, hx1999_0⟩ := Kd.at_int (Kd.R_reads' HO_28.out).2.2 x30_6 p1999 q1999; cases e1999; replace p1999 := eq_true p1999; replace q1999 := eq_true q1999))
                                go_roundg k6
                                case measure => have := HJ7.out; have := HJ23.out; have := HJ34.out; have := HJ49.out; have := HJ78.out; have := HK6.out; omega
                                case rel => exact ⟨(wrap64 (x30_6 + 1)), tf_, H', ⟨by have := HJ7.out; have := HJ23.out; have := HJ34.out; have := HJ49.out; have := HJ78.out; have := HK6.out; omega⟩, ⟨tr_x HO_26.out⟩, ⟨tr_x HO_28.out⟩, ⟨tr_x HO_1932002.out⟩, ⟨tr_x HO_1948002.out⟩, ⟨tr_x HO_1965002.out⟩, ⟨tr_x HO_1972002.out⟩, ⟨tk_ BK1931⟩, ⟨tk_ BK1947⟩, ⟨tk_ BK1964⟩, ⟨tk_ BK1971⟩, ⟨tb_⟩⟩
                               ·
                                rw [if_neg c98] at H
                                exact absurd H (by simp)
                              ·
                               rw [if_neg c97] at H
                               exact absurd H (by simp)
                             ·
                              rw [if_neg c96] at H
                              exact absurd H (by simp)
                            ·
                             rw [if_neg c95] at H
                             exact absurd H (by simp)
                           ·
                            rw [if_neg c94] at H
                            exact absurd H (by simp)
                          ·
                           replace c93 := Bool.eq_false_iff.mpr c93
                           subst c93
                           have H1 : (none) = some r := by rw [if_neg (show ¬ (false = true) by decide)] at H; exact H
                           clear H
                           have H := H1
                           clear H1
                           exact absurd H (by simp)
                         ·
                          replace c92 := Bool.eq_false_iff.mpr c92
                          subst c92
                          have H1 : (none) = some r := by rw [if_neg (show ¬ (false = true) by decide)] at H; exact H
                          clear H
                          have H := H1
                          clear H1
                          exact absurd H (by simp)
                        ·
                         rw [if_neg c89] at H
                         have c89b0 := decide_eq_false c89
                         clear c89
                         replace H := Option.bind_eq_some_iff.mp H
                         obtain ⟨⟨t1981, t1982, t1983, t1986⟩, A1030, H⟩ := H
                         replace H : ((impl_IsFilePlacement.f k6 t1981 t1982 t1983 t1986).bind fun bt1990 => ((spec_IsFilePlacement.f k6 t1981 t1982 t1983 t1986).bind fun bt1992 => (if (bt1990.2 == bt1992.2) = true then (some (bt1990.1 == bt1992.1)) else (none)))) = some r := H
                         have A103 := A_ A1030
                         clear A1030
                         replace H := Option.bind_eq_some_iff.mp H
                         obtain ⟨⟨t1990, t1991⟩, A1040, H⟩ := H
                         replace H : ((spec_IsFilePlacement.f k6 t1981 t1982 t1983 t1986).bind fun bt1992 => (if (t1991 == bt1992.2) = true then (some (t1990 == bt1992.1)) else (none))) = some r := H
                         have A104 := A_ A1040
                         clear A1040
                         replace H := Option.bind_eq_some_iff.mp H
                         obtain ⟨⟨t1992, t1993⟩, A1050, H⟩ := H
                         replace H : (if (t1991 == t1993) = true then (some (t1990 == t1992)) else (none)) = some r := H
                         have A105 := A_ A1050
                         clear A1050
                         by_cases c106 : (t1991 == t1993) = true
                         ·
                          rw [if_pos c106] at H
                          have c106b0 : (t1991 == t1993) = true := c106
                          (try (have c106b1 : decide (t1991 = t1993) = true := by simpa using c106))
                          (try (have c106b2 : (t1991 == t1993) = true := by simpa using c106))
                          clear c106
                          obtain rfl := Option.some.inj H
                          go_wp2_with (first | (refine gc_ 116 ?_; refine goesT_ (some 198) Try.func116 #[.slice A1 l1.length c1] ?_; (with_reducible refine (spec_DrawIsFilePlacement.calls k6 _ _ l1 t1981 t1982 t1983 t1986 _ ?side1 ?side2 A103.out).mono ?_); (case side1 => exact tc_ HR1.out); (case side2 => exact HC1.out); rintro e w107 ⟨v1984, v1987, rfl, ho0, ho1, hb⟩; refine ⟨_, rfl, ?_⟩; have HO1985 := A_ (Kd.R_lower (Kd.R_new' (Kd.R_new' (Kd.R_new' (Kd.R_new' (Kd.R_new' (Kd.R_new' ho0 (Kd.R_lt (tr_x HO_26.out))) (Kd.R_lt (tr_x HO_28.out))) (Kd.R_lt (tr_x HO_1932002.out))) (Kd.R_lt (tr_x HO_1948002.out))) (Kd.R_lt (tr_x HO_1965002.out))) (Kd.R_lt (tr_x HO_1972002.out))) (below_size tb_)); have HO1988 := A_ (Kd.R_lower (Kd.R_new' (Kd.R_new' (Kd.R_new' (Kd.R_new' (Kd.R_new' (Kd.R_new' ho1 (Kd.R_lt (tr_x HO_26.out))) (Kd.R_lt (tr_x HO_28.out))) (Kd.R_lt (tr_x HO_1932002.out))) (Kd.R_lt (tr_x HO_1948002.out))) (Kd.R_lt (tr_x HO_1965002.out))) (Kd.R_lt (tr_x HO_1972002.out))) (below_size tb_)); replace HO_26 := A_ (Kd.R_mono (Kd.R_told (Kd.R_told (Kd.R_old (tr_x HO_26.out) hb) (Kd.R_base ho0)) (Kd.R_base ho1)) (fun _ h_ => h_.1)); replace HO_28 := A_ (Kd.R_mono (Kd.R_told (Kd.R_told (Kd.R_old (tr_x HO_28.out) hb) (Kd.R_base ho0)) (Kd.R_base ho1)) (fun _ h_ => h_.1)); replace HO_1932002 := A_ (Kd.R_mono (Kd.R_told (Kd.R_told (Kd.R_old (tr_x HO_1932002.out) hb) (Kd.R_base ho0)) (Kd.R_base ho1)) (fun _ h_ => h_.1)); replace HO_1948002 := A_ (Kd.R_mono (Kd.R_told (Kd.R_told (Kd.R_old (tr_x HO_1948002.out) hb) (Kd.R_base ho0)) (Kd.R_base ho1)) (fun _ h_ => h_.1)); replace HO_1965002 := A_ (Kd.R_mono (Kd.R_told (Kd.R_told (Kd.R_old (tr_x HO_1965002.out) hb) (Kd.R_base ho0)) (Kd.R_base ho1)) (fun _ h_ => h_.1)); replace HO_1972002 := A_ (Kd.R_mono (Kd.R_told (Kd.R_told (Kd.R_old (tr_x HO_1972002.out) hb) (Kd.R_base ho0)) (Kd.R_base ho1)) (fun _ h_ => h_.1)); replace BK1931 := A_ (blk_below (g := gb1931) (o := .cells #[.int .i64 t1926, .int .i64 t1927, .slice Ao12 t1928.length co12] 28 (0, 0)) (tk_ BK1931) hb); replace BK1947 := A_ (blk_below (g := gb1947) (o := .cells #[.int .i64 t1941, .int .i64 t1942, .slice Ao29 t1943.length co29] 28 (0, 0)) (tk_ BK1947) hb); replace BK1964 := A_ (blk_below (g := gb1964) (o := .cells #[.int .i64 t1958, .int .i64 t1959, .slice Ao57 t1960.length co57] 28 (0, 0)) (tk_ BK1964) hb); replace BK1971 := A_ (blk_below (g := gb1971) (o := .cells #[.int .i64 t1965, .int .i64 t1966, .slice Ao64 t1967.length co64] 28 (0, 0)) (tk_ BK1971) hb); replace HB := A_ (below_step tb_ hb); (try clear hb); (try clear ho0); (try clear ho1)) | (refine gd_ 35 ?_; refine bx_ 35 #[.int .i64 0, .int .i64 0, .slice none 0 0] 28 ?_; intro gb1989 hg w108 hbox hb; replace HO_26 := A_ (Kd.R_below (tr_x HO_26.out) hb); replace HO_28 := A_ (Kd.R_below (tr_x HO_28.out) hb); replace HO_1932002 := A_ (Kd.R_below (tr_x HO_1932002.out) hb); replace HO_1948002 := A_ (Kd.R_below (tr_x HO_1948002.out) hb); replace HO_1965002 := A_ (Kd.R_below (tr_x HO_1965002.out) hb); replace HO_1972002 := A_ (Kd.R_below (tr_x HO_1972002.out) hb); replace HO1985 := A_ (Kd.R_below (tr_x HO1985.out) hb); replace HO1988 := A_ (Kd.R_below (tr_x HO1988.out) hb); have BK1989 := A_ (hbox); have GW1989 := A_ ((ts_ hg : w.heap.size ≤ gb1989)); have GE1989 := A_ ((ts_ hg : w.heap.size ≤ gb1989)); replace HB := A_ (below_step tb_ hb); have NB1931_1989 := A_ ((by rw [hg]; exact Nat.ne_of_lt (blk_lt (g := gb1931) (o := .cells #[.int .i64 t1926, .int .i64 t1927, .slice Ao12 t1928.length co12] 28 (0, 0)) (tk_ BK1931)) : gb1931 ≠ gb1989)); have NB1989_1931 := A_ ((by rw [hg]; exact Nat.ne_of_gt (blk_lt (g := gb1931) (o := .cells #[.int .i64 t1926, .int .i64 t1927, .slice Ao12 t1928.length co12] 28 (0, 0)) (tk_ BK1931)) : gb1989 ≠ gb1931)); replace BK1931 := A_ (blk_below (g := gb1931) (o := .cells #[.int .i64 t1926, .int .i64 t1927, .slice Ao12 t1928.length co12] 28 (0, 0)) (tk_ BK1931) hb); have NB1947_1989 := A_ ((by rw [hg]; exact Nat.ne_of_lt (blk_lt (g := gb1947) (o := .cells #[.int .i64 t1941, .int .i64 t1942, .slice Ao29 t1943.length co29] 28 (0, 0)) (tk_ BK1947)) : gb1947 ≠ gb1989)); have NB1989_1947 := A_ ((by rw [hg]; exact Nat.ne_of_gt (blk_lt (g := gb1947) (o := .cells #[.int .i64 t1941, .int .i64 t1942, .slice Ao29 t1943.length co29] 28 (0, 0)) (tk_ BK1947)) : gb1989 ≠ gb1947)); replace BK1947 := A_ (blk_below (g := gb1947) (o := .cells #[.int .i64 t1941, .int .i64 t1942, .slice Ao29 t1943.length co29] 28 (0, 0)) (tk_ BK1947) hb); have NB1964_1989 := A_ ((by rw [hg]; exact Nat.ne_of_lt (blk_lt (g := gb1964) (o := .cells #[.int .i64 t1958, .int .i64 t1959, .slice Ao57 t1960.length co57] 28 (0, 0)) (tk_ BK1964)) : gb1964 ≠ gb1989)); have NB1989_1964 := A_ ((by rw [hg]; exact Nat.ne_of_gt (blk_lt (g := gb1964) (o := .cells #[.int .i64 t1958, .int .i64 t1959, .slice Ao57 t1960.length co57] 28 (0, 0)) (tk_ BK1964)) : gb1989 ≠ gb1964)); replace BK1964 := A_ (blk_below (g := gb1964) (o := .cells #[.int .i64 t1958, .int .i64 t1959, .slice Ao57 t1960.length co57] 28 (0, 0)) (tk_ BK1964) hb); have NB1971_1989 := A_ ((by rw [hg]; exact Nat.ne_of_lt (blk_lt (g := gb1971) (o := .cells #[.int .i64 t1965, .int .i64 t1966, .slice Ao64 t1967.length co64] 28 (0, 0)) (tk_ BK1971)) : gb1971 ≠ gb1989)); have NB1989_1971 := A_ ((by rw [hg]; exact Nat.ne_of_gt (blk_lt (g := gb1971) (o := .cells #[.int .i64 t1965, .int .i64 t1966, .slice Ao64 t1967.length co64] 28 (0, 0)) (tk_ BK1971)) : gb1989 ≠ gb1971)); replace BK1971 := A_ (blk_below (g := gb1971) (o := .cells #[.int .i64 t1965, .int .i64 t1966, .slice Ao64 t1967.length co64] 28 (0, 0)) (tk_ BK1971) hb); clear hb hbox hg; have hnb109 := NB1989_1931.out; have hnc109 := NB1931_1989.out; have hnb110 := NB1989_1947.out; have hnc110 := NB1947_1989.out; have hnb111 := NB1989_1964.out; have hnc111 := NB1964_1989.out; have hnb112 := NB1989_1971.out; have hnc112 := NB1971_1989.out; obtain ⟨hcz113_0, hcz113_1, hcz113_2, hfz113_0, hfz113_1, hfz113_2⟩ := cf3_ BK1989.out; obtain ⟨Ao114, co114, eo114⟩ := Kd.R_slice HO1985.out; subst eo114; obtain ⟨Ao115, co115, eo115⟩ := Kd.R_slice HO1988.out; subst eo115) | (refine gc_ 117 ?_; refine goesT_ (some 204) Try.func117 #[.agg #[.int .i64 t1981, .int .i64 t1982, .slice Ao114 t1983.length co114], .slice Ao115 t1986.length co115] ?_; (with_reducible refine (impl_IsFilePlacement.calls k6 t1981 t1982 _ _ t1983 _ _ t1986 t1990 t1991 _ ?side1 ?side2 ?side3 ?side4 A104.out).mono ?_); (case side1 => refine (Kd.R_reads' (e := 3) (base := w.heap.size) (ok := fun k_ => ((((((some k_ ≠ (.slice Ao115 t1986.length co115 : Value).ownBlock ∧ some k_ ≠ (v1974 : Value).ownBlock) ∧ some k_ ≠ (v1978 : Value).ownBlock) ∧ some k_ ≠ (.slice Ao12 t1928.length co12 : Value).ownBlock) ∧ some k_ ≠ (.slice Ao29 t1943.length co29 : Value).ownBlock) ∧ some k_ ≠ (.slice Ao57 t1960.length co57 : Value).ownBlock) ∧ some k_ ≠ (.slice Ao64 t1967.length co64 : Value).ownBlock)) (n := t1983.length) (c := co114) ?_).2.2; exact (tr_ (h := by exact (Kd.R_mono (Kd.R_far (p := ⟨gb1989, 2, none⟩) (Kd.R_far (p := ⟨gb1989, 1, none⟩) (Kd.R_far (p := ⟨gb1989, 0, none⟩) (Kd.R_types HO1985.out BK1989.out (by decide)) (fun _ hk => hk.2) (.int .i64 t1981)) (fun _ hk => hk.2) (.int .i64 t1982)) (fun _ hk => hk.2) (.slice Ao114 t1983.length co114)) (fun _ h_ => h_.1))))); (case side2 => exact (Kd.R_reads' HO1985.out).2.1); (case side3 => refine (Kd.R_reads' (e := 3) (base := w.heap.size) (ok := fun k_ => ((((((some k_ ≠ (.slice Ao114 t1983.length co114 : Value).ownBlock ∧ some k_ ≠ (v1974 : Value).ownBlock) ∧ some k_ ≠ (v1978 : Value).ownBlock) ∧ some k_ ≠ (.slice Ao12 t1928.length co12 : Value).ownBlock) ∧ some k_ ≠ (.slice Ao29 t1943.length co29 : Value).ownBlock) ∧ some k_ ≠ (.slice Ao57 t1960.length co57 : Value).ownBlock) ∧ some k_ ≠ (.slice Ao64 t1967.length co64 : Value).ownBlock)) (n := t1986.length) (c := co115) ?_).2.2; exact (tr_ (h := by exact (Kd.R_mono (Kd.R_far (p := ⟨gb1989, 2, none⟩) (Kd.R_far (p := ⟨gb1989, 1, none⟩) (Kd.R_far (p := ⟨gb1989, 0, none⟩) (Kd.R_types HO1988.out BK1989.out (by decide)) (fun _ hk => hk.2) (.int .i64 t1981)) (fun _ hk => hk.2) (.int .i64 t1982)) (fun _ hk => hk.2) (.slice Ao114 t1983.length co114)) (fun _ h_ => h_.1))))); (case side4 => exact (Kd.R_reads' HO1988.out).2.1); rintro e w116 ⟨rfl, hb⟩; refine ⟨_, rfl, ?_⟩; replace HO_26 := A_ (Kd.R_below (tr_ (h := by exact (Kd.R_mono (Kd.R_far (p := ⟨gb1989, 2, none⟩) (Kd.R_far (p := ⟨gb1989, 1, none⟩) (Kd.R_far (p := ⟨gb1989, 0, none⟩) (Kd.R_types HO_26.out BK1989.out (by decide)) (fun _ hk => hk.2) (.int .i64 t1981)) (fun _ hk => hk.2) (.int .i64 t1982)) (fun _ hk => hk.2) (.slice Ao114 t1983.length co114)) (fun _ h_ => h_.1)))) hb); replace HO_28 := A_ (Kd.R_below (tr_ (h := by exact (Kd.R_mono (Kd.R_far (p := ⟨gb1989, 2, none⟩) (Kd.R_far (p := ⟨gb1989, 1, none⟩) (Kd.R_far (p := ⟨gb1989, 0, none⟩) (Kd.R_types HO_28.out BK1989.out (by decide)) (fun _ hk => hk.2) (.int .i64 t1981)) (fun _ hk => hk.2) (.int .i64 t1982)) (fun _ hk => hk.2) (.slice Ao114 t1983.length co114)) (fun _ h_ => h_.1)))) hb); replace HO_1932002 := A_ (Kd.R_below (tr_ (h := by exact (Kd.R_mono (Kd.R_far (p := ⟨gb1989, 2, none⟩) (Kd.R_far (p := ⟨gb1989, 1, none⟩) (Kd.R_far (p := ⟨gb1989, 0, none⟩) (Kd.R_types HO_1932002.out BK1989.out (by decide)) (fun _ hk => hk.2) (.int .i64 t1981)) (fun _ hk => hk.2) (.int .i64 t1982)) (fun _ hk => hk.2) (.slice Ao114 t1983.length co114)) (fun _ h_ => h_.1)))) hb); replace HO_1948002 := A_ (Kd.R_below (tr_ (h := by exact (Kd.R_mono (Kd.R_far (p := ⟨gb1989, 2, none⟩) (Kd.R_far (p := ⟨gb1989, 1, none⟩) (Kd.R_far (p := ⟨gb1989, 0, none⟩) (Kd.R_types HO_1948002.out BK1989.out (by decide)) (fun _ hk => hk.2) (.int .i64 t1981)) (fun _ hk => hk.2) (.int .i64 t1982)) (fun _ hk => hk.2) (.slice Ao114 t1983.length co114)) (fun _ h_ => h_.1)))) hb); replace HO_1965002 := A_ (Kd.R_below (tr_ (h := by exact (Kd.R_mono (Kd.R_far (p := ⟨gb1989, 2, none⟩) (Kd.R_far (p := ⟨gb1989, 1, none⟩) (Kd.R_far (p := ⟨gb1989, 0, none⟩) (Kd.R_types HO_1965002.out BK1989.out (by decide)) (fun _ hk => hk.2) (.int .i64 t1981)) (fun _ hk => hk.2) (.int .i64 t1982)) (fun _ hk => hk.2) (.slice Ao114 t1983.length co114)) (fun _ h_ => h_.1)))) hb); replace HO_1972002 := A_ (Kd.R_below (tr_ (h := by exact (Kd.R_mono (Kd.R_far (p := ⟨gb1989, 2, none⟩) (Kd.R_far (p := ⟨gb1989, 1, none⟩) (Kd.R_far (p := ⟨gb1989, 0, none⟩) (Kd.R_types HO_1972002.out BK1989.out (by decide)) (fun _ hk => hk.2) (.int .i64 t1981)) (fun _ hk => hk.2) (.int .i64 t1982)) (fun _ hk => hk.2) (.slice Ao114 t1983.length co114)) (fun _ h_ => h_.1)))) hb); replace HO1985 := A_ (Kd.R_below (tr_ (h := by exact (Kd.R_mono (Kd.R_far (p := ⟨gb1989, 2, none⟩) (Kd.R_far (p := ⟨gb1989, 1, none⟩) (Kd.R_far (p := ⟨gb1989, 0, none⟩) (Kd.R_types HO1985.out BK1989.out (by decide)) (fun _ hk => hk.2) (.int .i64 t1981)) (fun _ hk => hk.2) (.int .i64 t1982)) (fun _ hk => hk.2) (.slice Ao114 t1983.length co114)) (fun _ h_ => h_.1)))) hb); replace HO1988 := A_ (Kd.R_below (tr_ (h := by exact (Kd.R_mono (Kd.R_far (p := ⟨gb1989, 2, none⟩) (Kd.R_far (p := ⟨gb1989, 1, none⟩) (Kd.R_far (p := ⟨gb1989, 0, none⟩) (Kd.R_types HO1988.out BK1989.out (by decide)) (fun _ hk => hk.2) (.int .i64 t1981)) (fun _ hk => hk.2) (.int .i64 t1982)) (fun _ hk => hk.2) (.slice Ao114 t1983.length co114)) (fun _ h_ => h_.1)))) hb); replace BK1931 := A_ (blk_below (g := gb1931) (o := .cells #[.int .i64 t1926, .int .i64 t1927, .slice Ao12 t1928.length co12] 28 (0, 0)) (tk_ BK1931) hb); replace BK1947 := A_ (blk_below (g := gb1947) (o := .cells #[.int .i64 t1941, .int .i64 t1942, .slice Ao29 t1943.length co29] 28 (0, 0)) (tk_ BK1947) hb); replace BK1964 := A_ (blk_below (g := gb1964) (o := .cells #[.int .i64 t1958, .int .i64 t1959, .slice Ao57 t1960.length co57] 28 (0, 0)) (tk_ BK1964) hb); replace BK1971 := A_ (blk_below (g := gb1971) (o := .cells #[.int .i64 t1965, .int .i64 t1966, .slice Ao64 t1967.length co64] 28 (0, 0)) (tk_ BK1971) hb); replace BK1989 := A_ (blk_below (g := gb1989) (o := .cells #[.int .i64 t1981, .int .i64 t1982, .slice Ao114 t1983.length co114] 28 (0, 0)) (by (with_reducible repeat (first | refine blk_drewN ?_ _ | refine blk_drew ?_ | refine blk_alloc ?_ _)); refine blk_put (cs := #[.int .i64 t1981, .int .i64 t1982, .slice none 0 0]) ?_ 2 _ rfl; (with_reducible repeat (first | refine blk_drewN ?_ _ | refine blk_drew ?_ | refine blk_alloc ?_ _)); refine blk_put (cs := #[.int .i64 t1981, .int .i64 0, .slice none 0 0]) ?_ 1 _ rfl; (with_reducible repeat (first | refine blk_drewN ?_ _ | refine blk_drew ?_ | refine blk_alloc ?_ _)); refine blk_put (cs := #[.int .i64 0, .int .i64 0, .slice none 0 0]) ?_ 0 _ rfl; (with_reducible repeat (first | refine blk_drewN ?_ _ | refine blk_drew ?_ | refine blk_alloc ?_ _)); exact BK1989.out) hb); replace HB := A_ (below_step tb_ hb); (try clear hb); obtain ⟨hcz117_0, hcz117_1, hcz117_2, hfz117_0, hfz117_1, hfz117_2⟩ := cf3_ BK1989.out) | (refine gc_ 118 ?_; refine goesT_ (some 210) Try.func118 #[.agg #[.int .i64 t1981, .int .i64 t1982, .slice Ao114 t1983.length co114], .slice Ao115 t1986.length co115] ?_; (with_reducible refine (spec_IsFilePlacement.calls k6 t1981 t1982 _ _ t1983 _ _ t1986 t1992 t1993 _ ?side1 ?side2 ?side3 ?side4 A105.out).mono ?_); (case side1 => exact tc0_ (Kd.R_reads' HO1985.out).2.2); (case side2 => exact (Kd.R_reads' HO1985.out).2.1); (case side3 => exact tc0_ (Kd.R_reads' HO1988.out).2.2); (case side4 => exact (Kd.R_reads' HO1988.out).2.1); rintro e w118 ⟨rfl, hb⟩; refine ⟨_, rfl, ?_⟩; replace HO_26 := A_ (Kd.R_below (tr_x HO_26.out) hb); replace HO_28 := A_ (Kd.R_below (tr_x HO_28.out) hb); replace HO_1932002 := A_ (Kd.R_below (tr_x HO_1932002.out) hb); replace HO_1948002 := A_ (Kd.R_below (tr_x HO_1948002.out) hb); replace HO_1965002 := A_ (Kd.R_below (tr_x HO_1965002.out) hb); replace HO_1972002 := A_ (Kd.R_below (tr_x HO_1972002.out) hb); replace HO1985 := A_ (Kd.R_below (tr_x HO1985.out) hb); replace HO1988 := A_ (Kd.R_below (tr_x HO1988.out) hb); replace BK1931 := A_ (blk_below (g := gb1931) (o := .cells #[.int .i64 t1926, .int .i64 t1927, .slice Ao12 t1928.length co12] 28 (0, 0)) (tk_ BK1931) hb); replace BK1947 := A_ (blk_below (g := gb1947) (o := .cells #[.int .i64 t1941, .int .i64 t1942, .slice Ao29 t1943.length co29] 28 (0, 0)) (tk_ BK1947) hb); replace BK1964 := A_ (blk_below (g := gb1964) (o := .cells #[.int .i64 t1958, .int .i64 t1959, .slice Ao57 t1960.length co57] 28 (0, 0)) (tk_ BK1964) hb); replace BK1971 := A_ (blk_below (g := gb1971) (o := .cells #[.int .i64 t1965, .int .i64 t1966, .slice Ao64 t1967.length co64] 28 (0, 0)) (tk_ BK1971) hb); replace BK1989 := A_ (blk_below (g := gb1989) (o := .cells #[.int .i64 t1981, .int .i64 t1982, .slice Ao114 t1983.length co114] 28 (0, 0)) (tk_ BK1989) hb); replace HB := A_ (below_step tb_ hb); (try clear hb)))
                          go_ret
                          exact ⟨te_, tb_⟩
                         ·
                          rw [if_neg c106] at H
                          exact absurd H (by simp)
                 ·
                  replace c76 := Bool.eq_false_iff.mpr c76
                  subst c76
                  have H1 : ((spec_DrawIsFilePlacement.f kj49 l1).bind fun bt2000 => ((impl_IsFilePlacement.f kj49 bt2000.1 bt2000.2.1 bt2000.2.2.1 bt2000.2.2.2).bind fun bt2009 => ((spec_IsFilePlacement.f kj49 bt2000.1 bt2000.2.1 bt2000.2.2.1 bt2000.2.2.2).bind fun bt2011 => (if (bt2009.2 == bt2011.2) = true then (some (bt2009.1 == bt2011.1)) else (none))))) = some r := by rw [if_neg (show ¬ (false = true) by decide)] at H; exact H
                  clear H
                  have H := H1
                  clear H1
                  replace H := Option.bind_eq_some_iff.mp H
                  obtain ⟨⟨t2000, t2001, t2002, t2005⟩, A1190, H⟩ := H
                  replace H : ((impl_IsFilePlacement.f kj49 t2000 t2001 t2002 t2005).bind fun bt2009 => ((spec_IsFilePlacement.f kj49 t2000 t2001 t2002 t2005).bind fun bt2011 => (if (bt2009.2 == bt2011.2) = true then (some (bt2009.1 == bt2011.1)) else (none)))) = some r := H
                  have A119 := A_ A1190
                  clear A1190
                  replace H := Option.bind_eq_some_iff.mp H
                  obtain ⟨⟨t2009, t2010⟩, A1200, H⟩ := H
                  replace H : ((spec_IsFilePlacement.f kj49 t2000 t2001 t2002 t2005).bind fun bt2011 => (if (t2010 == bt2011.2) = true then (some (t2009 == bt2011.1)) else (none))) = some r := H
                  have A120 := A_ A1200
                  clear A1200
                  replace H := Option.bind_eq_some_iff.mp H
                  obtain ⟨⟨t2011, t2012⟩, A1210, H⟩ := H
                  replace H : (if (t2010 == t2012) = true then (some (t2009 == t2011)) else (none)) = some r := H
                  have A121 := A_ A1210
                  clear A1210
                  by_cases c122 : (t2010 == t2012) = true
                  ·
                   rw [if_pos c122] at H
                   have c122b0 : (t2010 == t2012) = true := c122
                   (try (have c122b1 : decide (t2010 = t2012) = true := by simpa using c122))
                   (try (have c122b2 : (t2010 == t2012) = true := by simpa using c122))
                   clear c122
                   obtain rfl := Option.some.inj H
                   go_wp2_with (first | (refine gc_ 116 ?_; refine goesT_ (some 198) Try.func116 #[.slice A1 l1.length c1] ?_; (with_reducible refine (spec_DrawIsFilePlacement.calls kj49 _ _ l1 t2000 t2001 t2002 t2005 _ ?side1 ?side2 A119.out).mono ?_); (case side1 => exact tc_ HR1.out); (case side2 => exact HC1.out); rintro e w123 ⟨v2003, v2006, rfl, ho0, ho1, hb⟩; refine ⟨_, rfl, ?_⟩; have HO2004 := A_ (Kd.R_lower (Kd.R_new' (Kd.R_new' (Kd.R_new' (Kd.R_new' ho0 (Kd.R_lt (tr_x HO_1932002.out))) (Kd.R_lt (tr_x HO_1948002.out))) (Kd.R_lt (tr_x HO_1965002.out))) (Kd.R_lt (tr_x HO_1972002.out))) (below_size tb_)); have HO2007 := A_ (Kd.R_lower (Kd.R_new' (Kd.R_new' (Kd.R_new' (Kd.R_new' ho1 (Kd.R_lt (tr_x HO_1932002.out))) (Kd.R_lt (tr_x HO_1948002.out))) (Kd.R_lt (tr_x HO_1965002.out))) (Kd.R_lt (tr_x HO_1972002.out))) (below_size tb_)); replace HO_1932002 := A_ (Kd.R_mono (Kd.R_told (Kd.R_told (Kd.R_old (tr_x HO_1932002.out) hb) (Kd.R_base ho0)) (Kd.R_base ho1)) (fun _ h_ => h_.1)); replace HO_1948002 := A_ (Kd.R_mono (Kd.R_told (Kd.R_told (Kd.R_old (tr_x HO_1948002.out) hb) (Kd.R_base ho0)) (Kd.R_base ho1)) (fun _ h_ => h_.1)); replace HO_1965002 := A_ (Kd.R_mono (Kd.R_told (Kd.R_told (Kd.R_old (tr_x HO_1965002.out) hb) (Kd.R_base ho0)) (Kd.R_base ho1)) (fun _ h_ => h_.1)); replace HO_1972002 := A_ (Kd.R_mono (Kd.R_told (Kd.R_told (Kd.R_old (tr_x HO_1972002.out) hb) (Kd.R_base ho0)) (Kd.R_base ho1)) (fun _ h_ => h_.1)); replace BK1931 := A_ (blk_below (g := gb1931) (o := .cells #[.int .i64 t1926, .int .i64 t1927, .slice Ao12 t1928.length co12] 28 (0, 0)) (tk_ BK1931) hb); replace BK1947 := A_ (blk_below (g := gb1947) (o := .cells #[.int .i64 t1941, .int .i64 t1942, .slice Ao29 t1943.length co29] 28 (0, 0)) (tk_ BK1947) hb); replace BK1964 := A_ (blk_below (g := gb1964) (o := .cells #[.int .i64 t1958, .int .i64 t1959, .slice Ao57 t1960.length co57] 28 (0, 0)) (tk_ BK1964) hb); replace BK1971 := A_ (blk_below (g := gb1971) (o := .cells #[.int .i64 t1965, .int .i64 t1966, .slice Ao64 t1967.length co64] 28 (0, 0)) (tk_ BK1971) hb); replace HB := A_ (below_step tb_ hb); (try clear hb); (try clear ho0); (try clear ho1)) | (refine gd_ 35 ?_; refine bx_ 35 #[.int .i64 0, .int .i64 0, .slice none 0 0] 28 ?_; intro gb2008 hg w124 hbox hb; replace HO_1932002 := A_ (Kd.R_below (tr_x HO_1932002.out) hb); replace HO_1948002 := A_ (Kd.R_below (tr_x HO_1948002.out) hb); replace HO_1965002 := A_ (Kd.R_below (tr_x HO_1965002.out) hb); replace HO_1972002 := A_ (Kd.R_below (tr_x HO_1972002.out) hb); replace HO2004 := A_ (Kd.R_below (tr_x HO2004.out) hb); replace HO2007 := A_ (Kd.R_below (tr_x HO2007.out) hb); have BK2008 := A_ (hbox); have GW2008 := A_ ((ts_ hg : w.heap.size ≤ gb2008)); have GE2008 := A_ ((ts_ hg : w.heap.size ≤ gb2008)); replace HB := A_ (below_step tb_ hb); have NB1931_2008 := A_ ((by rw [hg]; exact Nat.ne_of_lt (blk_lt (g := gb1931) (o := .cells #[.int .i64 t1926, .int .i64 t1927, .slice Ao12 t1928.length co12] 28 (0, 0)) (tk_ BK1931)) : gb1931 ≠ gb2008)); have NB2008_1931 := A_ ((by rw [hg]; exact Nat.ne_of_gt (blk_lt (g := gb1931) (o := .cells #[.int .i64 t1926, .int .i64 t1927, .slice Ao12 t1928.length co12] 28 (0, 0)) (tk_ BK1931)) : gb2008 ≠ gb1931)); replace BK1931 := A_ (blk_below (g := gb1931) (o := .cells #[.int .i64 t1926, .int .i64 t1927, .slice Ao12 t1928.length co12] 28 (0, 0)) (tk_ BK1931) hb); have NB1947_2008 := A_ ((by rw [hg]; exact Nat.ne_of_lt (blk_lt (g := gb1947) (o := .cells #[.int .i64 t1941, .int .i64 t1942, .slice Ao29 t1943.length co29] 28 (0, 0)) (tk_ BK1947)) : gb1947 ≠ gb2008)); have NB2008_1947 := A_ ((by rw [hg]; exact Nat.ne_of_gt (blk_lt (g := gb1947) (o := .cells #[.int .i64 t1941, .int .i64 t1942, .slice Ao29 t1943.length co29] 28 (0, 0)) (tk_ BK1947)) : gb2008 ≠ gb1947)); replace BK1947 := A_ (blk_below (g := gb1947) (o := .cells #[.int .i64 t1941, .int .i64 t1942, .slice Ao29 t1943.length co29] 28 (0, 0)) (tk_ BK1947) hb); have NB1964_2008 := A_ ((by rw [hg]; exact Nat.ne_of_lt (blk_lt (g := gb1964) (o := .cells #[.int .i64 t1958, .int .i64 t1959, .slice Ao57 t1960.length co57] 28 (0, 0)) (tk_ BK1964)) : gb1964 ≠ gb2008)); have NB2008_1964 := A_ ((by rw [hg]; exact Nat.ne_of_gt (blk_lt (g := gb1964) (o := .cells #[.int .i64 t1958, .int .i64 t1959, .slice Ao57 t1960.length co57] 28 (0, 0)) (tk_ BK1964)) : gb2008 ≠ gb1964)); replace BK1964 := A_ (blk_below (g := gb1964) (o := .cells #[.int .i64 t1958, .int .i64 t1959, .slice Ao57 t1960.length co57] 28 (0, 0)) (tk_ BK1964) hb); have NB1971_2008 := A_ ((by rw [hg]; exact Nat.ne_of_lt (blk_lt (g := gb1971) (o := .cells #[.int .i64 t1965, .int .i64 t1966, .slice Ao64 t1967.length co64] 28 (0, 0)) (tk_ BK1971)) : gb1971 ≠ gb2008)); have NB2008_1971 := A_ ((by rw [hg]; exact Nat.ne_of_gt (blk_lt (g := gb1971) (o := .cells #[.int .i64 t1965, .int .i64 t1966, .slice Ao64 t1967.length co64] 28 (0, 0)) (tk_ BK1971)) : gb2008 ≠ gb1971)); replace BK1971 := A_ (blk_below (g := gb1971) (o := .cells #[.int .i64 t1965, .int .i64 t1966, .slice Ao64 t1967.length co64] 28 (0, 0)) (tk_ BK1971) hb); clear hb hbox hg; have hnb125 := NB2008_1931.out; have hnc125 := NB1931_2008.out; have hnb126 := NB2008_1947.out; have hnc126 := NB1947_2008.out; have hnb127 := NB2008_1964.out; have hnc127 := NB1964_2008.out; have hnb128 := NB2008_1971.out; have hnc128 := NB1971_2008.out; obtain ⟨hcz129_0, hcz129_1, hcz129_2, hfz129_0, hfz129_1, hfz129_2⟩ := cf3_ BK2008.out; obtain ⟨Ao130, co130, eo130⟩ := Kd.R_slice HO2004.out; subst eo130; obtain ⟨Ao131, co131, eo131⟩ := Kd.R_slice HO2007.out; subst eo131) | (refine gc_ 117 ?_; refine goesT_ (some 204) Try.func117 #[.agg #[.int .i64 t2000, .int .i64 t2001, .slice Ao130 t2002.length co130], .slice Ao131 t2005.length co131] ?_; (with_reducible refine (impl_IsFilePlacement.calls kj49 t2000 t2001 _ _ t2002 _ _ t2005 t2009 t2010 _ ?side1 ?side2 ?side3 ?side4 A120.out).mono ?_); (case side1 => refine (Kd.R_reads' (e := 3) (base := w.heap.size) (ok := fun k_ => ((((some k_ ≠ (.slice Ao131 t2005.length co131 : Value).ownBlock ∧ some k_ ≠ (.slice Ao12 t1928.length co12 : Value).ownBlock) ∧ some k_ ≠ (.slice Ao29 t1943.length co29 : Value).ownBlock) ∧ some k_ ≠ (.slice Ao57 t1960.length co57 : Value).ownBlock) ∧ some k_ ≠ (.slice Ao64 t1967.length co64 : Value).ownBlock)) (n := t2002.length) (c := co130) ?_).2.2; exact (tr_ (h := by exact (Kd.R_mono (Kd.R_far (p := ⟨gb2008, 2, none⟩) (Kd.R_far (p := ⟨gb2008, 1, none⟩) (Kd.R_far (p := ⟨gb2008, 0, none⟩) (Kd.R_types HO2004.out BK2008.out (by decide)) (fun _ hk => hk.2) (.int .i64 t2000)) (fun _ hk => hk.2) (.int .i64 t2001)) (fun _ hk => hk.2) (.slice Ao130 t2002.length co130)) (fun _ h_ => h_.1))))); (case side2 => exact (Kd.R_reads' HO2004.out).2.1); (case side3 => refine (Kd.R_reads' (e := 3) (base := w.heap.size) (ok := fun k_ => ((((some k_ ≠ (.slice Ao130 t2002.length co130 : Value).ownBlock ∧ some k_ ≠ (.slice Ao12 t1928.length co12 : Value).ownBlock) ∧ some k_ ≠ (.slice Ao29 t1943.length co29 : Value).ownBlock) ∧ some k_ ≠ (.slice Ao57 t1960.length co57 : Value).ownBlock) ∧ some k_ ≠ (.slice Ao64 t1967.length co64 : Value).ownBlock)) (n := t2005.length) (c := co131) ?_).2.2; exact (tr_ (h := by exact (Kd.R_mono (Kd.R_far (p := ⟨gb2008, 2, none⟩) (Kd.R_far (p := ⟨gb2008, 1, none⟩) (Kd.R_far (p := ⟨gb2008, 0, none⟩) (Kd.R_types HO2007.out BK2008.out (by decide)) (fun _ hk => hk.2) (.int .i64 t2000)) (fun _ hk => hk.2) (.int .i64 t2001)) (fun _ hk => hk.2) (.slice Ao130 t2002.length co130)) (fun _ h_ => h_.1))))); (case side4 => exact (Kd.R_reads' HO2007.out).2.1); rintro e w132 ⟨rfl, hb⟩; refine ⟨_, rfl, ?_⟩; replace HO_1932002 := A_ (Kd.R_below (tr_ (h := by exact (Kd.R_mono (Kd.R_far (p := ⟨gb2008, 2, none⟩) (Kd.R_far (p := ⟨gb2008, 1, none⟩) (Kd.R_far (p := ⟨gb2008, 0, none⟩) (Kd.R_types HO_1932002.out BK2008.out (by decide)) (fun _ hk => hk.2) (.int .i64 t2000)) (fun _ hk => hk.2) (.int .i64 t2001)) (fun _ hk => hk.2) (.slice Ao130 t2002.length co130)) (fun _ h_ => h_.1)))) hb); replace HO_1948002 := A_ (Kd.R_below (tr_ (h := by exact (Kd.R_mono (Kd.R_far (p := ⟨gb2008, 2, none⟩) (Kd.R_far (p := ⟨gb2008, 1, none⟩) (Kd.R_far (p := ⟨gb2008, 0, none⟩) (Kd.R_types HO_1948002.out BK2008.out (by decide)) (fun _ hk => hk.2) (.int .i64 t2000)) (fun _ hk => hk.2) (.int .i64 t2001)) (fun _ hk => hk.2) (.slice Ao130 t2002.length co130)) (fun _ h_ => h_.1)))) hb); replace HO_1965002 := A_ (Kd.R_below (tr_ (h := by exact (Kd.R_mono (Kd.R_far (p := ⟨gb2008, 2, none⟩) (Kd.R_far (p := ⟨gb2008, 1, none⟩) (Kd.R_far (p := ⟨gb2008, 0, none⟩) (Kd.R_types HO_1965002.out BK2008.out (by decide)) (fun _ hk => hk.2) (.int .i64 t2000)) (fun _ hk => hk.2) (.int .i64 t2001)) (fun _ hk => hk.2) (.slice Ao130 t2002.length co130)) (fun _ h_ => h_.1)))) hb); replace HO_1972002 := A_ (Kd.R_below (tr_ (h := by exact (Kd.R_mono (Kd.R_far (p := ⟨gb2008, 2, none⟩) (Kd.R_far (p := ⟨gb2008, 1, none⟩) (Kd.R_far (p := ⟨gb2008, 0, none⟩) (Kd.R_types HO_1972002.out BK2008.out (by decide)) (fun _ hk => hk.2) (.int .i64 t2000)) (fun _ hk => hk.2) (.int .i64 t2001)) (fun _ hk => hk.2) (.slice Ao130 t2002.length co130)) (fun _ h_ => h_.1)))) hb); replace HO2004 := A_ (Kd.R_below (tr_ (h := by exact (Kd.R_mono (Kd.R_far (p := ⟨gb2008, 2, none⟩) (Kd.R_far (p := ⟨gb2008, 1, none⟩) (Kd.R_far (p := ⟨gb2008, 0, none⟩) (Kd.R_types HO2004.out BK2008.out (by decide)) (fun _ hk => hk.2) (.int .i64 t2000)) (fun _ hk => hk.2) (.int .i64 t2001)) (fun _ hk => hk.2) (.slice Ao130 t2002.length co130)) (fun _ h_ => h_.1)))) hb); replace HO2007 := A_ (Kd.R_below (tr_ (h := by exact (Kd.R_mono (Kd.R_far (p := ⟨gb2008, 2, none⟩) (Kd.R_far (p := ⟨gb2008, 1, none⟩) (Kd.R_far (p := ⟨gb2008, 0, none⟩) (Kd.R_types HO2007.out BK2008.out (by decide)) (fun _ hk => hk.2) (.int .i64 t2000)) (fun _ hk => hk.2) (.int .i64 t2001)) (fun _ hk => hk.2) (.slice Ao130 t2002.length co130)) (fun _ h_ => h_.1)))) hb); replace BK1931 := A_ (blk_below (g := gb1931) (o := .cells #[.int .i64 t1926, .int .i64 t1927, .slice Ao12 t1928.length co12] 28 (0, 0)) (tk_ BK1931) hb); replace BK1947 := A_ (blk_below (g := gb1947) (o := .cells #[.int .i64 t1941, .int .i64 t1942, .slice Ao29 t1943.length co29] 28 (0, 0)) (tk_ BK1947) hb); replace BK1964 := A_ (blk_below (g := gb1964) (o := .cells #[.int .i64 t1958, .int .i64 t1959, .slice Ao57 t1960.length co57] 28 (0, 0)) (tk_ BK1964) hb); replace BK1971 := A_ (blk_below (g := gb1971) (o := .cells #[.int .i64 t1965, .int .i64 t1966, .slice Ao64 t1967.length co64] 28 (0, 0)) (tk_ BK1971) hb); replace BK2008 := A_ (blk_below (g := gb2008) (o := .cells #[.int .i64 t2000, .int .i64 t2001, .slice Ao130 t2002.length co130] 28 (0, 0)) (by (with_reducible repeat (first | refine blk_drewN ?_ _ | refine blk_drew ?_ | refine blk_alloc ?_ _)); refine blk_put (cs := #[.int .i64 t2000, .int .i64 t2001, .slice none 0 0]) ?_ 2 _ rfl; (with_reducible repeat (first | refine blk_drewN ?_ _ | refine blk_drew ?_ | refine blk_alloc ?_ _)); refine blk_put (cs := #[.int .i64 t2000, .int .i64 0, .slice none 0 0]) ?_ 1 _ rfl; (with_reducible repeat (first | refine blk_drewN ?_ _ | refine blk_drew ?_ | refine blk_alloc ?_ _)); refine blk_put (cs := #[.int .i64 0, .int .i64 0, .slice none 0 0]) ?_ 0 _ rfl; (with_reducible repeat (first | refine blk_drewN ?_ _ | refine blk_drew ?_ | refine blk_alloc ?_ _)); exact BK2008.out) hb); replace HB := A_ (below_step tb_ hb); (try clear hb); obtain ⟨hcz133_0, hcz133_1, hcz133_2, hfz133_0, hfz133_1, hfz133_2⟩ := cf3_ BK2008.out) | (refine gc_ 118 ?_; refine goesT_ (some 210) Try.func118 #[.agg #[.int .i64 t2000, .int .i64 t2001, .slice Ao130 t2002.length co130], .slice Ao131 t2005.length co131] ?_; (with_reducible refine (spec_IsFilePlacement.calls kj49 t2000 t2001 _ _ t2002 _ _ t2005 t2011 t2012 _ ?side1 ?side2 ?side3 ?side4 A121.out).mono ?_); (case side1 => exact tc0_ (Kd.R_reads' HO2004.out).2.2); (case side2 => exact (Kd.R_reads' HO2004.out).2.1); (case side3 => exact tc0_ (Kd.R_reads' HO2007.out).2.2); (case side4 => exact (Kd.R_reads' HO2007.out).2.1); rintro e w134 ⟨rfl, hb⟩; refine ⟨_, rfl, ?_⟩; replace HO_1932002 := A_ (Kd.R_below (tr_x HO_1932002.out) hb); replace HO_1948002 := A_ (Kd.R_below (tr_x HO_1948002.out) hb); replace HO_1965002 := A_ (Kd.R_below (tr_x HO_1965002.out) hb); replace HO_1972002 := A_ (Kd.R_below (tr_x HO_1972002.out) hb); replace HO2004 := A_ (Kd.R_below (tr_x HO2004.out) hb); replace HO2007 := A_ (Kd.R_below (tr_x HO2007.out) hb); replace BK1931 := A_ (blk_below (g := gb1931) (o := .cells #[.int .i64 t1926, .int .i64 t1927, .slice Ao12 t1928.length co12] 28 (0, 0)) (tk_ BK1931) hb); replace BK1947 := A_ (blk_below (g := gb1947) (o := .cells #[.int .i64 t1941, .int .i64 t1942, .slice Ao29 t1943.length co29] 28 (0, 0)) (tk_ BK1947) hb); replace BK1964 := A_ (blk_below (g := gb1964) (o := .cells #[.int .i64 t1958, .int .i64 t1959, .slice Ao57 t1960.length co57] 28 (0, 0)) (tk_ BK1964) hb); replace BK1971 := A_ (blk_below (g := gb1971) (o := .cells #[.int .i64 t1965, .int .i64 t1966, .slice Ao64 t1967.length co64] 28 (0, 0)) (tk_ BK1971) hb); replace BK2008 := A_ (blk_below (g := gb2008) (o := .cells #[.int .i64 t2000, .int .i64 t2001, .slice Ao130 t2002.length co130] 28 (0, 0)) (tk_ BK2008) hb); replace HB := A_ (below_step tb_ hb); (try clear hb)))
                   go_ret
                   exact ⟨te_, tb_⟩
                  ·
                   rw [if_neg c122] at H
                   exact absurd H (by simp)
    
/-- THE ONE PURE STATEMENT of laws_FnFilesCounted: yours. -/
def laws_FnFilesCounted.Pure : Prop := ∀ (l0 : List Int) (l1 : List Int), l0.length ≤ maxLen → l0.length * 1 ≤ 140737488351232 → (∀ x ∈ l0, (Lit.int .u8 x).wf = true) → l1.length ≤ maxLen → l1.length * 1 ≤ 140737488351232 → (∀ x ∈ l1, (Lit.int .u8 x).wf = true) → ∃ k, laws_FnFilesCounted.f k l0 l1 = some true
theorem laws_FnFilesCounted.walk (P : laws_FnFilesCounted.Pure) (a0 : Option Addr) (len0 cap0 : Nat) (z0 : List Int) (a1 : Option Addr) (len1 cap1 : Nat) (z1 : List Int) (w : World) (w0 : (a0 = none ∧ len0 = 0 ∧ cap0 = 0 ∧ z0 = []) ∨ ∃ x, a0 = some x ∧ len0 ≤ cap0 ∧ cap0 ≤ maxLen ∧ z0.length = cap0 ∧ (∀ i, i < z0.length → w.cell? (x.add i) = some (.int .u8 (z0.getD i 0))) ∧ ∀ n ∈ z0, (Lit.int .u8 n).wf = true) (y0 : len0 * 1 ≤ 140737488351232) (w1 : (a1 = none ∧ len1 = 0 ∧ cap1 = 0 ∧ z1 = []) ∨ ∃ x, a1 = some x ∧ len1 ≤ cap1 ∧ cap1 ≤ maxLen ∧ z1.length = cap1 ∧ (∀ i, i < z1.length → w.cell? (x.add i) = some (.int .u8 (z1.getD i 0))) ∧ ∀ n ∈ z1, (Lit.int .u8 n).wf = true) (y1 : len1 * 1 ≤ 140737488351232) :
  Calls Try.prog 16 #[.slice a0 len0 cap0, .slice a1 len1 cap1] w fun e w' => e = .returned (.bool true) ∧ Below w.heap.size w w' := by
 obtain ⟨l0, rfl, hr0, hm0, hw0, hc0⟩ := ReadsInt.ofRowC w0
 obtain ⟨l1, rfl, hr1, hm1, hw1, hc1⟩ := ReadsInt.ofRowC w1
 obtain ⟨k, h⟩ := P l0 l1 hm0 y0 hw0 hm1 y1 hw1
 refine (laws_FnFilesCounted.calls k _ _ l0 _ _ l1 true w (Kd.C_of_reads (d := (0 : Int)) (h1 := fun _ => rfl) hr0) hc0 (Kd.C_of_reads (d := (0 : Int)) (h1 := fun _ => rfl) hr1) hc1 h).mono ?_
 rintro e w' ⟨rfl, hd⟩
 exact ⟨rfl, hd⟩

end
end Go.Proofs.Ytnpacpdpgngdpaa.P
