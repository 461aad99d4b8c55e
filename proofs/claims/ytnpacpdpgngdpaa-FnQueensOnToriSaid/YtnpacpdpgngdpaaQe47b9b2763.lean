-- printed functions (wip/slim.py)
import Derived.Test.YtnpacpdpgngdpaaPx0
import Derived.Test.YtnpacpdpgngdpaaQ7aa3faaa4f
import Derived.Test.YtnpacpdpgngdpaaQc9a424d6e5
import Derived.Test.YtnpacpdpgngdpaaQ688861e3bd
import Derived.Test.YtnpacpdpgngdpaaQ39cf673806
namespace Go.Proofs.Ytnpacpdpgngdpaa.P
noncomputable section
set_option maxHeartbeats 8000000
set_option maxRecDepth 100000
open Go.RowKit Go.Proofs.YtnpacpdpgngdpaaW.PrintWords Go.Proofs.YtnpacpdpgngdpaaW.PrintLast Go.Proofs.YtnpacpdpgngdpaaW.PrintMore
attribute [local go_sem] max2_int min2_int max_two min_two max_three min_three max_four min_four   -- for this text's walks alone
set_option linter.unusedVariables false
set_option linter.unusedSimpArgs false

/-! ### laws_FnQueensOnTori: function 12 -/
mutual
def laws_FnQueensOnTori.j0 : Nat → List Int → List Int → Int → Int → List Int → Bool → Bool → Option (Bool)
 | 0, _, _, _, _, _, _, _ => none
 | k + 1, x1, x5, x6, x7, x8, x9, x73 => if x73 = true then (none) else (if x9 = true then ((impl_AreOnTorus.f k x5).bind fun bt1113 => ((impl_AreOnTorus.f k x8).bind fun bt1115 => ((impl_ShiftQueens.f k x8 (wrap64 (-x6)) (wrap64 (-x7))).bind fun bt1117 => ((impl_AreQueens.f k x8).bind fun bt1121 => (if bt1113.2 = true then (if bt1115.2 = true then (if (bt1113.1 != bt1115.1) = true then (none) else (if bt1117.2 = true then ((laws_kSame.f k bt1117.1 x5).bind fun t1123 => (if t1123 = true then (if bt1121.2 = true then (if bt1115.1 = true then (if bt1121.1 = true then (laws_FnQueensOnTori.j1 k x1) else (none)) else (laws_FnQueensOnTori.j1 k x1)) else (none)) else (none))) else (none))) else (none)) else (none)))))) else (laws_FnQueensOnTori.j1 k x1))
def laws_FnQueensOnTori.j1 : Nat → List Int → Option (Bool)
 | 0, _ => none
 | k + 1, x1 => (spec_DrawCountOnTorus.f x1).bind fun t1124 => ((impl_CountOnTorus.f k t1124).bind fun bt1125 => ((spec_CountOnTorus.f k t1124).bind fun bt1127 => (if (bt1125.2 != bt1127.2) = true then (none) else (if bt1125.1 = bt1127.1 then (if bt1125.2 = true then (if (Int.tmod t1124 2) = 0 then (laws_FnQueensOnTori.j2 k x1 ((decide (bt1125.1 > 0)) != false)) else (laws_FnQueensOnTori.j2 k x1 ((decide (bt1125.1 > 0)) != ((Int.tmod t1124 3) != 0)))) else (laws_FnQueensOnTori.j2 k x1 false)) else (none)))))
def laws_FnQueensOnTori.j2 : Nat → List Int → Bool → Option (Bool)
 | 0, _, _ => none
 | k + 1, x1, x166 => if x166 = true then (none) else ((spec_DrawStraightQueens.f x1).bind fun bt1129 => ((impl_StraightQueens.f k bt1129.1 bt1129.2).bind fun bt1131 => ((spec_StraightQueens.f k bt1129.1 bt1129.2).bind fun bt1135 => (if (bt1131.2 != bt1135.2) = true then (none) else ((laws_kSame.f k bt1131.1 bt1135.1).bind fun t1139 => (laws_FnQueensOnTori.j3 k x1 bt1129.1 bt1129.2 bt1131.1 bt1131.2 (!t1139)))))))
def laws_FnQueensOnTori.j3 : Nat → List Int → Int → Int → List Int → Bool → Bool → Option (Bool)
 | 0, _, _, _, _, _, _ => none
 | k + 1, x1, x25, x26, x27, x28, x192 => if x192 = true then (none) else (if x28 = true then (laws_FnQueensOnTori.j4 k x1 x25 x26 x27 (decide (x25 > 3))) else (laws_FnQueensOnTori.j4 k x1 x25 x26 x27 false))
def laws_FnQueensOnTori.j4 : Nat → List Int → Int → Int → List Int → Bool → Option (Bool)
 | 0, _, _, _, _, _ => none
 | k + 1, x1, x25, x26, x27, x197 => if x197 = true then ((impl_AreOnTorus.f k x27).bind fun bt1140 => (if x25 = 0 then (none) else ((impl_StraightQueens.f k x25 (Int.tmod (wrap64 (x26 + 1)) x25)).bind fun bt1142 => ((impl_StraightQueens.f k x25 (Int.tmod (wrap64 ((wrap64 (x26 + x25)) - 1)) x25)).bind fun bt1146 => (if bt1140.2 = true then (if bt1142.2 = true then (if bt1146.2 = true then (laws_FnQueensOnTori.j5 k x1 (bt1140.1 != ((bt1142.1.length : Int) == (bt1146.1.length : Int)))) else (laws_FnQueensOnTori.j5 k x1 (bt1140.1 != false))) else (laws_FnQueensOnTori.j5 k x1 (bt1140.1 != false))) else (none)))))) else ((spec_DrawAreOnTorus.f k x1).bind fun t1157 => ((impl_AreOnTorus.f k t1157).bind fun bt1160 => ((spec_AreOnTorus.f k t1157).bind fun bt1162 => (if (bt1160.2 == bt1162.2) = true then (some (bt1160.1 == bt1162.1)) else (none)))))
def laws_FnQueensOnTori.j5 : Nat → List Int → Bool → Option (Bool)
 | 0, _, _ => none
 | k + 1, x1, x239 => if x239 = true then (none) else ((spec_DrawAreOnTorus.f k x1).bind fun t1150 => ((impl_AreOnTorus.f k t1150).bind fun bt1153 => ((spec_AreOnTorus.f k t1150).bind fun bt1155 => (if (bt1153.2 == bt1155.2) = true then (some (bt1153.1 == bt1155.1)) else (none)))))
end
def laws_FnQueensOnTori.f (k : Nat) (l0 : List Int) (l1 : List Int) : Option (Bool) := (laws_big.f l0 l1).bind fun t1098 => (if t1098 = true then (some true) else ((spec_DrawShiftQueens.f k l0).bind fun bt1099 => ((impl_ShiftQueens.f k bt1099.1 bt1099.2.1 bt1099.2.2).bind fun bt1104 => ((spec_ShiftQueens.f k bt1099.1 bt1099.2.1 bt1099.2.2).bind fun bt1108 => (if (bt1104.2 != bt1108.2) = true then (none) else ((laws_kSame.f k bt1104.1 bt1108.1).bind fun t1112 => (laws_FnQueensOnTori.j0 k l1 bt1099.1 bt1099.2.1 bt1099.2.2 bt1104.1 bt1104.2 (!t1112))))))))
theorem laws_FnQueensOnTori.mono_l : ∀ k, (∀ y0 y1 y2 y3 y4 y5 y6, LeO (laws_FnQueensOnTori.j0 k y0 y1 y2 y3 y4 y5 y6) (laws_FnQueensOnTori.j0 (k + 1) y0 y1 y2 y3 y4 y5 y6)) ∧ (∀ y0, LeO (laws_FnQueensOnTori.j1 k y0) (laws_FnQueensOnTori.j1 (k + 1) y0)) ∧ (∀ y0 y1, LeO (laws_FnQueensOnTori.j2 k y0 y1) (laws_FnQueensOnTori.j2 (k + 1) y0 y1)) ∧ (∀ y0 y1 y2 y3 y4 y5, LeO (laws_FnQueensOnTori.j3 k y0 y1 y2 y3 y4 y5) (laws_FnQueensOnTori.j3 (k + 1) y0 y1 y2 y3 y4 y5)) ∧ (∀ y0 y1 y2 y3 y4, LeO (laws_FnQueensOnTori.j4 k y0 y1 y2 y3 y4) (laws_FnQueensOnTori.j4 (k + 1) y0 y1 y2 y3 y4)) ∧ (∀ y0 y1, LeO (laws_FnQueensOnTori.j5 k y0 y1) (laws_FnQueensOnTori.j5 (k + 1) y0 y1))
 | 0 => ⟨fun _ _ _ _ _ _ _ r h => by simp [laws_FnQueensOnTori.j0] at h, fun _ r h => by simp [laws_FnQueensOnTori.j1] at h, fun _ _ r h => by simp [laws_FnQueensOnTori.j2] at h, fun _ _ _ _ _ _ r h => by simp [laws_FnQueensOnTori.j3] at h, fun _ _ _ _ _ r h => by simp [laws_FnQueensOnTori.j4] at h, fun _ _ r h => by simp [laws_FnQueensOnTori.j5] at h⟩
 | k + 1 => by
  obtain ⟨ih0, ih1, ih2, ih3, ih4, ih5⟩ := laws_FnQueensOnTori.mono_l k
  refine ⟨?_, ?_, ?_, ?_, ?_, ?_⟩
  ·
   intro y0 y1 y2 y3 y4 y5 y6
   unfold laws_FnQueensOnTori.j0
   repeat' first | (with_reducible first | exact ih0 _ _ _ _ _ _ _ | exact ih1 _ | exact ih2 _ _ | exact ih3 _ _ _ _ _ _ | exact ih4 _ _ _ _ _ | exact ih5 _ _ | exact impl_AreOnTorus.mono _ _ | exact impl_AreQueens.mono _ _ | exact impl_CountOnTorus.mono _ _ | exact impl_ShiftQueens.mono _ _ _ _ | exact impl_StraightQueens.mono _ _ _ | exact laws_kSame.mono _ _ _ | exact spec_AreOnTorus.mono _ _ | exact spec_CountOnTorus.mono _ _ | exact spec_DrawAreOnTorus.mono _ _ | exact spec_DrawShiftQueens.mono _ _ | exact spec_ShiftQueens.mono _ _ _ _ | exact spec_StraightQueens.mono _ _ _ | exact LeO.refl _ | exact LeO.none _ | refine LeO.ite ?_ ?_ | refine LeO.bind ?_ (fun _ => ?_)) | exact ih0 _ _ _ _ _ _ _ | exact ih1 _ | exact ih2 _ _ | exact ih3 _ _ _ _ _ _ | exact ih4 _ _ _ _ _ | exact ih5 _ _ | exact impl_AreOnTorus.mono _ _ | exact impl_AreQueens.mono _ _ | exact impl_CountOnTorus.mono _ _ | exact impl_ShiftQueens.mono _ _ _ _ | exact impl_StraightQueens.mono _ _ _ | exact laws_kSame.mono _ _ _ | exact spec_AreOnTorus.mono _ _ | exact spec_CountOnTorus.mono _ _ | exact spec_DrawAreOnTorus.mono _ _ | exact spec_DrawShiftQueens.mono _ _ | exact spec_ShiftQueens.mono _ _ _ _ | exact spec_StraightQueens.mono _ _ _ | exact LeO.none _ | refine LeO.ite ?_ ?_ | refine LeO.bind ?_ (fun _ => ?_)
  ·
   intro y0
   unfold laws_FnQueensOnTori.j1
   repeat' first | (with_reducible first | exact ih0 _ _ _ _ _ _ _ | exact ih1 _ | exact ih2 _ _ | exact ih3 _ _ _ _ _ _ | exact ih4 _ _ _ _ _ | exact ih5 _ _ | exact impl_AreOnTorus.mono _ _ | exact impl_AreQueens.mono _ _ | exact impl_CountOnTorus.mono _ _ | exact impl_ShiftQueens.mono _ _ _ _ | exact impl_StraightQueens.mono _ _ _ | exact laws_kSame.mono _ _ _ | exact spec_AreOnTorus.mono _ _ | exact spec_CountOnTorus.mono _ _ | exact spec_DrawAreOnTorus.mono _ _ | exact spec_DrawShiftQueens.mono _ _ | exact spec_ShiftQueens.mono _ _ _ _ | exact spec_StraightQueens.mono _ _ _ | exact LeO.refl _ | exact LeO.none _ | refine LeO.ite ?_ ?_ | refine LeO.bind ?_ (fun _ => ?_)) | exact ih0 _ _ _ _ _ _ _ | exact ih1 _ | exact ih2 _ _ | exact ih3 _ _ _ _ _ _ | exact ih4 _ _ _ _ _ | exact ih5 _ _ | exact impl_AreOnTorus.mono _ _ | exact impl_AreQueens.mono _ _ | exact impl_CountOnTorus.mono _ _ | exact impl_ShiftQueens.mono _ _ _ _ | exact impl_StraightQueens.mono _ _ _ | exact laws_kSame.mono _ _ _ | exact spec_AreOnTorus.mono _ _ | exact spec_CountOnTorus.mono _ _ | exact spec_DrawAreOnTorus.mono _ _ | exact spec_DrawShiftQueens.mono _ _ | exact spec_ShiftQueens.mono _ _ _ _ | exact spec_StraightQueens.mono _ _ _ | exact LeO.none _ | refine LeO.ite ?_ ?_ | refine LeO.bind ?_ (fun _ => ?_)
  ·
   intro y0 y1
   unfold laws_FnQueensOnTori.j2
   repeat' first | (with_reducible first | exact ih0 _ _ _ _ _ _ _ | exact ih1 _ | exact ih2 _ _ | exact ih3 _ _ _ _ _ _ | exact ih4 _ _ _ _ _ | exact ih5 _ _ | exact impl_AreOnTorus.mono _ _ | exact impl_AreQueens.mono _ _ | exact impl_CountOnTorus.mono _ _ | exact impl_ShiftQueens.mono _ _ _ _ | exact impl_StraightQueens.mono _ _ _ | exact laws_kSame.mono _ _ _ | exact spec_AreOnTorus.mono _ _ | exact spec_CountOnTorus.mono _ _ | exact spec_DrawAreOnTorus.mono _ _ | exact spec_DrawShiftQueens.mono _ _ | exact spec_ShiftQueens.mono _ _ _ _ | exact spec_StraightQueens.mono _ _ _ | exact LeO.refl _ | exact LeO.none _ | refine LeO.ite ?_ ?_ | refine LeO.bind ?_ (fun _ => ?_)) | exact ih0 _ _ _ _ _ _ _ | exact ih1 _ | exact ih2 _ _ | exact ih3 _ _ _ _ _ _ | exact ih4 _ _ _ _ _ | exact ih5 _ _ | exact impl_AreOnTorus.mono _ _ | exact impl_AreQueens.mono _ _ | exact impl_CountOnTorus.mono _ _ | exact impl_ShiftQueens.mono _ _ _ _ | exact impl_StraightQueens.mono _ _ _ | exact laws_kSame.mono _ _ _ | exact spec_AreOnTorus.mono _ _ | exact spec_CountOnTorus.mono _ _ | exact spec_DrawAreOnTorus.mono _ _ | exact spec_DrawShiftQueens.mono _ _ | exact spec_ShiftQueens.mono _ _ _ _ | exact spec_StraightQueens.mono _ _ _ | exact LeO.none _ | refine LeO.ite ?_ ?_ | refine LeO.bind ?_ (fun _ => ?_)
  ·
   intro y0 y1 y2 y3 y4 y5
   unfold laws_FnQueensOnTori.j3
   repeat' first | (with_reducible first | exact ih0 _ _ _ _ _ _ _ | exact ih1 _ | exact ih2 _ _ | exact ih3 _ _ _ _ _ _ | exact ih4 _ _ _ _ _ | exact ih5 _ _ | exact impl_AreOnTorus.mono _ _ | exact impl_AreQueens.mono _ _ | exact impl_CountOnTorus.mono _ _ | exact impl_ShiftQueens.mono _ _ _ _ | exact impl_StraightQueens.mono _ _ _ | exact laws_kSame.mono _ _ _ | exact spec_AreOnTorus.mono _ _ | exact spec_CountOnTorus.mono _ _ | exact spec_DrawAreOnTorus.mono _ _ | exact spec_DrawShiftQueens.mono _ _ | exact spec_ShiftQueens.mono _ _ _ _ | exact spec_StraightQueens.mono _ _ _ | exact LeO.refl _ | exact LeO.none _ | refine LeO.ite ?_ ?_ | refine LeO.bind ?_ (fun _ => ?_)) | exact ih0 _ _ _ _ _ _ _ | exact ih1 _ | exact ih2 _ _ | exact ih3 _ _ _ _ _ _ | exact ih4 _ _ _ _ _ | exact ih5 _ _ | exact impl_AreOnTorus.mono _ _ | exact impl_AreQueens.mono _ _ | exact impl_CountOnTorus.mono _ _ | exact impl_ShiftQueens.mono _ _ _ _ | exact impl_StraightQueens.mono _ _ _ | exact laws_kSame.mono _ _ _ | exact spec_AreOnTorus.mono _ _ | exact spec_CountOnTorus.mono _ _ | exact spec_DrawAreOnTorus.mono _ _ | exact spec_DrawShiftQueens.mono _ _ | exact spec_ShiftQueens.mono _ _ _ _ | exact spec_StraightQueens.mono _ _ _ | exact LeO.none _ | refine LeO.ite ?_ ?_ | refine LeO.bind ?_ (fun _ => ?_)
  ·
   intro y0 y1 y2 y3 y4
   unfold laws_FnQueensOnTori.j4
   repeat' first | (with_reducible first | exact ih0 _ _ _ _ _ _ _ | exact ih1 _ | exact ih2 _ _ | exact ih3 _ _ _ _ _ _ | exact ih4 _ _ _ _ _ | exact ih5 _ _ | exact impl_AreOnTorus.mono _ _ | exact impl_AreQueens.mono _ _ | exact impl_CountOnTorus.mono _ _ | exact impl_ShiftQueens.mono _ _ _ _ | exact impl_StraightQueens.mono _ _ _ | exact laws_kSame.mono _ _ _ | exact spec_AreOnTorus.mono _ _ | exact spec_CountOnTorus.mono _ _ | exact spec_DrawAreOnTorus.mono _ _ | exact spec_DrawShiftQueens.mono _ _ | exact spec_ShiftQueens.mono _ _ _ _ | exact spec_StraightQueens.mono _ _ _ | exact LeO.refl _ | exact LeO.none _ | refine LeO.ite ?_ ?_ | refine LeO.bind ?_ (fun _ => ?_)) | exact ih0 _ _ _ _ _ _ _ | exact ih1 _ | exact ih2 _ _ | exact ih3 _ _ _ _ _ _ | exact ih4 _ _ _ _ _ | exact ih5 _ _ | exact impl_AreOnTorus.mono _ _ | exact impl_AreQueens.mono _ _ | exact impl_CountOnTorus.mono _ _ | exact impl_ShiftQueens.mono _ _ _ _ | exact impl_StraightQueens.mono _ _ _ | exact laws_kSame.mono _ _ _ | exact spec_AreOnTorus.mono _ _ | exact spec_CountOnTorus.mono _ _ | exact spec_DrawAreOnTorus.mono _ _ | exact spec_DrawShiftQueens.mono _ _ | exact spec_ShiftQueens.mono _ _ _ _ | exact spec_StraightQueens.mono _ _ _ | exact LeO.none _ | refine LeO.ite ?_ ?_ | refine LeO.bind ?_ (fun _ => ?_)
  ·
   intro y0 y1
   unfold laws_FnQueensOnTori.j5
   repeat' first | (with_reducible first | exact ih0 _ _ _ _ _ _ _ | exact ih1 _ | exact ih2 _ _ | exact ih3 _ _ _ _ _ _ | exact ih4 _ _ _ _ _ | exact ih5 _ _ | exact impl_AreOnTorus.mono _ _ | exact impl_AreQueens.mono _ _ | exact impl_CountOnTorus.mono _ _ | exact impl_ShiftQueens.mono _ _ _ _ | exact impl_StraightQueens.mono _ _ _ | exact laws_kSame.mono _ _ _ | exact spec_AreOnTorus.mono _ _ | exact spec_CountOnTorus.mono _ _ | exact spec_DrawAreOnTorus.mono _ _ | exact spec_DrawShiftQueens.mono _ _ | exact spec_ShiftQueens.mono _ _ _ _ | exact spec_StraightQueens.mono _ _ _ | exact LeO.refl _ | exact LeO.none _ | refine LeO.ite ?_ ?_ | refine LeO.bind ?_ (fun _ => ?_)) | exact ih0 _ _ _ _ _ _ _ | exact ih1 _ | exact ih2 _ _ | exact ih3 _ _ _ _ _ _ | exact ih4 _ _ _ _ _ | exact ih5 _ _ | exact impl_AreOnTorus.mono _ _ | exact impl_AreQueens.mono _ _ | exact impl_CountOnTorus.mono _ _ | exact impl_ShiftQueens.mono _ _ _ _ | exact impl_StraightQueens.mono _ _ _ | exact laws_kSame.mono _ _ _ | exact spec_AreOnTorus.mono _ _ | exact spec_CountOnTorus.mono _ _ | exact spec_DrawAreOnTorus.mono _ _ | exact spec_DrawShiftQueens.mono _ _ | exact spec_ShiftQueens.mono _ _ _ _ | exact spec_StraightQueens.mono _ _ _ | exact LeO.none _ | refine LeO.ite ?_ ?_ | refine LeO.bind ?_ (fun _ => ?_)
theorem laws_FnQueensOnTori.mono : ∀ a0 a1 k, LeO (laws_FnQueensOnTori.f k a0 a1) (laws_FnQueensOnTori.f (k + 1) a0 a1) := by
 intro a0 a1 k
 obtain ⟨ih0, ih1, ih2, ih3, ih4, ih5⟩ := laws_FnQueensOnTori.mono_l k
 unfold laws_FnQueensOnTori.f
 repeat' first | (with_reducible first | exact ih0 _ _ _ _ _ _ _ | exact ih1 _ | exact ih2 _ _ | exact ih3 _ _ _ _ _ _ | exact ih4 _ _ _ _ _ | exact ih5 _ _ | exact impl_AreOnTorus.mono _ _ | exact impl_AreQueens.mono _ _ | exact impl_CountOnTorus.mono _ _ | exact impl_ShiftQueens.mono _ _ _ _ | exact impl_StraightQueens.mono _ _ _ | exact laws_kSame.mono _ _ _ | exact spec_AreOnTorus.mono _ _ | exact spec_CountOnTorus.mono _ _ | exact spec_DrawAreOnTorus.mono _ _ | exact spec_DrawShiftQueens.mono _ _ | exact spec_ShiftQueens.mono _ _ _ _ | exact spec_StraightQueens.mono _ _ _ | exact LeO.refl _ | exact LeO.none _ | refine LeO.ite ?_ ?_ | refine LeO.bind ?_ (fun _ => ?_)) | exact ih0 _ _ _ _ _ _ _ | exact ih1 _ | exact ih2 _ _ | exact ih3 _ _ _ _ _ _ | exact ih4 _ _ _ _ _ | exact ih5 _ _ | exact impl_AreOnTorus.mono _ _ | exact impl_AreQueens.mono _ _ | exact impl_CountOnTorus.mono _ _ | exact impl_ShiftQueens.mono _ _ _ _ | exact impl_StraightQueens.mono _ _ _ | exact laws_kSame.mono _ _ _ | exact spec_AreOnTorus.mono _ _ | exact spec_CountOnTorus.mono _ _ | exact spec_DrawAreOnTorus.mono _ _ | exact spec_DrawShiftQueens.mono _ _ | exact spec_ShiftQueens.mono _ _ _ _ | exact spec_StraightQueens.mono _ _ _ | exact LeO.none _ | refine LeO.ite ?_ ?_ | refine LeO.bind ?_ (fun _ => ?_)
theorem laws_FnQueensOnTori.calls (k : Nat) (A0 : Option Addr) (c0 : Nat) (l0 : List Int) (A1 : Option Addr) (c1 : Nat) (l1 : List Int) (r : Bool) (w : World) (hr0 : Kd.C (Kd.int .u8) w A0 l0.length l0) (hc0 : l0.length ≤ c0) (hr1 : Kd.C (Kd.int .u8) w A1 l1.length l1) (hc1 : l1.length ≤ c1) (h : laws_FnQueensOnTori.f k l0 l1 = some r) :
  Calls Try.prog 12 #[.slice A0 l0.length c0, .slice A1 l1.length c1] w fun e w' => e = .returned (.bool r) ∧ Below w.heap.size w w' := by
 have HR0 := A_ hr0
 have HC0 := A_ hc0
 clear hr0 hc0
 have HR1 := A_ hr1
 have HC1 := A_ hc1
 clear hr1 hc1
 have HB := A_ (Below.refl w.heap.size w)
 have H : ((laws_big.f l0 l1).bind fun t1098 => (if t1098 = true then (some true) else ((spec_DrawShiftQueens.f k l0).bind fun bt1099 => ((impl_ShiftQueens.f k bt1099.1 bt1099.2.1 bt1099.2.2).bind fun bt1104 => ((spec_ShiftQueens.f k bt1099.1 bt1099.2.1 bt1099.2.2).bind fun bt1108 => (if (bt1104.2 != bt1108.2) = true then (none) else ((laws_kSame.f k bt1104.1 bt1108.1).bind fun t1112 => (laws_FnQueensOnTori.j0 k l1 bt1099.1 bt1099.2.1 bt1099.2.2 bt1104.1 bt1104.2 (!t1112))))))))) = some r := h
 clear h
 replace H := Option.bind_eq_some_iff.mp H
 obtain ⟨t1098, A30, H⟩ := H
 replace H : (if t1098 = true then (some true) else ((spec_DrawShiftQueens.f k l0).bind fun bt1099 => ((impl_ShiftQueens.f k bt1099.1 bt1099.2.1 bt1099.2.2).bind fun bt1104 => ((spec_ShiftQueens.f k bt1099.1 bt1099.2.1 bt1099.2.2).bind fun bt1108 => (if (bt1104.2 != bt1108.2) = true then (none) else ((laws_kSame.f k bt1104.1 bt1108.1).bind fun t1112 => (laws_FnQueensOnTori.j0 k l1 bt1099.1 bt1099.2.1 bt1099.2.2 bt1104.1 bt1104.2 (!t1112)))))))) = some r := H
 have A3 := A_ A30
 clear A30
 by_cases c4 : t1098 = true
 ·
  subst c4
  have H1 : (some true) = some r := by rw [if_pos rfl] at H; exact H
  clear H
  have H := H1
  clear H1
  obtain rfl := Option.some.inj H
  go_enter Try.func12, Try.ntmps12
  go_wp2_with (first | (refine gc_ 47 ?_; refine goesT_ (some 44) Try.func47 #[.slice A0 l0.length c0, .slice A1 l1.length c1] ?_; (with_reducible refine (laws_big.calls _ _ l0 _ _ l1 true _ ?side1 ?side2 ?side3 ?side4 A3.out).mono ?_); (case side1 => exact tc0_ HR0.out); (case side2 => exact HC0.out); (case side3 => exact tc0_ HR1.out); (case side4 => exact HC1.out); rintro e w' ⟨rfl, ⟨nd, rfl⟩⟩; refine ⟨_, rfl, ?_⟩))
  go_ret
  exact ⟨te_, tb_⟩
 ·
  replace c4 := Bool.eq_false_iff.mpr c4
  subst c4
  have H1 : ((spec_DrawShiftQueens.f k l0).bind fun bt1099 => ((impl_ShiftQueens.f k bt1099.1 bt1099.2.1 bt1099.2.2).bind fun bt1104 => ((spec_ShiftQueens.f k bt1099.1 bt1099.2.1 bt1099.2.2).bind fun bt1108 => (if (bt1104.2 != bt1108.2) = true then (none) else ((laws_kSame.f k bt1104.1 bt1108.1).bind fun t1112 => (laws_FnQueensOnTori.j0 k l1 bt1099.1 bt1099.2.1 bt1099.2.2 bt1104.1 bt1104.2 (!t1112))))))) = some r := by rw [if_neg (show ¬ (false = true) by decide)] at H; exact H
  clear H
  have H := H1
  clear H1
  replace H := Option.bind_eq_some_iff.mp H
  obtain ⟨⟨t1099, t1100, t1101⟩, A50, H⟩ := H
  replace H : ((impl_ShiftQueens.f k t1099 t1100 t1101).bind fun bt1104 => ((spec_ShiftQueens.f k t1099 t1100 t1101).bind fun bt1108 => (if (bt1104.2 != bt1108.2) = true then (none) else ((laws_kSame.f k bt1104.1 bt1108.1).bind fun t1112 => (laws_FnQueensOnTori.j0 k l1 t1099 t1100 t1101 bt1104.1 bt1104.2 (!t1112)))))) = some r := H
  have A5 := A_ A50
  clear A50
  replace H := Option.bind_eq_some_iff.mp H
  obtain ⟨⟨t1104, t1105⟩, A60, H⟩ := H
  replace H : ((spec_ShiftQueens.f k t1099 t1100 t1101).bind fun bt1108 => (if (t1105 != bt1108.2) = true then (none) else ((laws_kSame.f k t1104 bt1108.1).bind fun t1112 => (laws_FnQueensOnTori.j0 k l1 t1099 t1100 t1101 t1104 t1105 (!t1112))))) = some r := H
  have A6 := A_ A60
  clear A60
  replace H := Option.bind_eq_some_iff.mp H
  obtain ⟨⟨t1108, t1109⟩, A70, H⟩ := H
  replace H : (if (t1105 != t1109) = true then (none) else ((laws_kSame.f k t1104 t1108).bind fun t1112 => (laws_FnQueensOnTori.j0 k l1 t1099 t1100 t1101 t1104 t1105 (!t1112)))) = some r := H
  have A7 := A_ A70
  clear A70
  have HC8 := A_ H
  clear H
  go_enter Try.func12, Try.ntmps12
  go_upto_region 6 with (first | (refine gc_ 47 ?_; refine goesT_ (some 44) Try.func47 #[.slice A0 l0.length c0, .slice A1 l1.length c1] ?_; (with_reducible refine (laws_big.calls _ _ l0 _ _ l1 false _ ?side1 ?side2 ?side3 ?side4 A3.out).mono ?_); (case side1 => exact tc0_ HR0.out); (case side2 => exact HC0.out); (case side3 => exact tc0_ HR1.out); (case side4 => exact HC1.out); rintro e w' ⟨rfl, ⟨nd, rfl⟩⟩; refine ⟨_, rfl, ?_⟩) | (refine gc_ 53 ?_; refine goesT_ (some 47) Try.func53 #[.slice A0 l0.length c0] ?_; (with_reducible refine (spec_DrawShiftQueens.calls k _ _ l0 t1099 t1100 t1101 _ ?side1 ?side2 A5.out).mono ?_); (case side1 => exact tc0_ HR0.out); (case side2 => exact HC0.out); rintro e w9 ⟨v1102, rfl, ho0, hb⟩; refine ⟨_, rfl, ?_⟩; have HO1103 := A_ (Kd.R_lower ho0 (below_size tb_)); replace HB := A_ (below_step tb_ hb); (try clear hb); (try clear ho0); obtain ⟨Ao10, co10, eo10⟩ := Kd.R_slice HO1103.out; subst eo10) | (refine gc_ 54 ?_; refine goesT_ (some 55) Try.func54 #[.slice Ao10 t1099.length co10, .int .i64 t1100, .int .i64 t1101] ?_; (with_reducible refine (impl_ShiftQueens.calls k _ _ t1099 t1100 t1101 t1104 t1105 _ ?side1 ?side2 A6.out).mono ?_); (case side1 => exact tc0_ (Kd.R_reads' HO1103.out).2.2); (case side2 => exact (Kd.R_reads' HO1103.out).2.1); rintro e w11 ⟨v1106, rfl, ho0, hb⟩; refine ⟨_, rfl, ?_⟩; have HO1107 := A_ (Kd.R_lower (Kd.R_new' ho0 (Kd.R_lt (tr_x HO1103.out))) (below_size tb_)); replace HO1103 := A_ (Kd.R_elder' (tr_x HO1103.out) (Kd.R_base ho0) hb); replace HB := A_ (below_step tb_ hb); (try clear hb); (try clear ho0)) | (refine gc_ 55 ?_; refine goesT_ (some 62) Try.func55 #[.slice Ao10 t1099.length co10, .int .i64 t1100, .int .i64 t1101] ?_; (with_reducible refine (spec_ShiftQueens.calls k _ _ t1099 t1100 t1101 t1108 t1109 _ ?side1 ?side2 A7.out).mono ?_); (case side1 => exact tc0_ (Kd.R_reads' HO1103.out).2.2); (case side2 => exact (Kd.R_reads' HO1103.out).2.1); rintro e w12 ⟨v1110, rfl, ho0, hb⟩; refine ⟨_, rfl, ?_⟩; have HO1111 := A_ (Kd.R_lower (Kd.R_new' (Kd.R_new' ho0 (Kd.R_lt (tr_x HO1103.out))) (Kd.R_lt (tr_x HO1107.out))) (below_size tb_)); replace HO1103 := A_ (Kd.R_elder' (tr_x HO1103.out) (Kd.R_base ho0) hb); replace HO1107 := A_ (Kd.R_elder' (tr_x HO1107.out) (Kd.R_base ho0) hb); replace HB := A_ (below_step tb_ hb); (try clear hb); (try clear ho0)))
  (try simp only [Act.put, List.setIfInBounds_toArray, List.set_cons_zero, List.set_cons_succ])
  go_cut [73] (fun v73 wc => ∃ (kq : Nat) (x73_7 : Bool), v73 = .bool x73_7 ∧ Aside0 (laws_FnQueensOnTori.j0 kq l1 t1099 t1100 t1101 t1104 t1105 x73_7 = some r) ∧ Aside0 (kq ≤ k) ∧ Aside0 (Kd.R (Kd.int .i64) 3 wc w.heap.size (fun k_ => some k_ ≠ (v1106 : Value).ownBlock) (.slice Ao10 t1099.length co10) t1099) ∧ Aside0 (Kd.R (Kd.int .i64) 3 wc w.heap.size (fun k_ => some k_ ≠ ((.slice Ao10 t1099.length co10) : Value).ownBlock) v1106 t1104) ∧ Aside0 (Below w.heap.size w wc))
  case first =>
   as_aux_lemma =>
    have H := HC8.out
    clear HC8
    by_cases c13 : (t1105 != t1109) = true
    ·
     rw [if_pos c13] at H
     exact absurd H (by simp)
    ·
     rw [if_neg c13] at H
     have c13b0 : (t1105 != t1109) = false := by simpa using c13
     (try (have c13b1 : decide (t1105 = t1109) = true := by simpa using c13))
     (try (have c13b2 : (t1105 == t1109) = true := by simpa using c13))
     clear c13
     (first | rw [c13b0] | (simp only [i64_w, i32_w]; rw [c13b0]) | skip)
     replace H := Option.bind_eq_some_iff.mp H
     obtain ⟨t1112, A140, H⟩ := H
     replace H : (laws_FnQueensOnTori.j0 k l1 t1099 t1100 t1101 t1104 t1105 (!t1112)) = some r := H
     have A14 := A_ A140
     clear A140
     have H' := A_ H
     clear H
     obtain ⟨Ao15, co15, eo15⟩ := Kd.R_slice HO1107.out
     subst eo15
     obtain ⟨Ao16, co16, eo16⟩ := Kd.R_slice HO1111.out
     subst eo16
     go_wp2_with (first | (go_at_call 56; (with_reducible refine (laws_kSame.calls k _ _ t1104 _ _ t1108 t1112 _ ?side1 ?side2 ?side3 ?side4 A14.out).mono ?_); (case side1 => exact tc0_ (Kd.R_reads' HO1107.out).2.2); (case side2 => exact (Kd.R_reads' HO1107.out).2.1); (case side3 => exact tc0_ (Kd.R_reads' HO1111.out).2.2); (case side4 => exact (Kd.R_reads' HO1111.out).2.1); rintro e w' ⟨rfl, ⟨nd, rfl⟩⟩))
     go_meet
     case rel => exact ⟨_, (!t1112), tf_, H', ⟨by first | omega | exact Nat.le_refl _⟩, ⟨by (with_reducible repeat (first | apply Kd.R_alloc | apply Kd.R_drewN | apply Kd.R_drew)); exact Kd.R_mono HO1103.out (fun _ hk => hk.1.2)⟩, ⟨by (with_reducible repeat (first | apply Kd.R_alloc | apply Kd.R_drewN | apply Kd.R_drew)); exact Kd.R_mono HO1107.out (fun _ hk => hk.1.2)⟩, ⟨tb_⟩⟩
  case rest =>
   as_aux_lemma =>
    clear HC8
    try clear c1
    try clear p2
    try clear c4
    try clear c5
    try clear c12
    try clear c13
    try clear c13b0
    try clear c13b1
    try clear c13b2
    obtain ⟨kq, x73_7, rfl, HA, HJ7, HO_5, HO_8, HB⟩ := hcut
    cases kq with
    | zero => exact absurd HA.out (by simp [laws_FnQueensOnTori.j0])
    | succ kj7 =>
     have H := HA.out
     clear HA
     simp only [laws_FnQueensOnTori.j0] at H
     by_cases c17 : x73_7 = true
     ·
      subst c17
      have H1 : (none) = some r := by rw [if_pos rfl] at H; exact H
      clear H
      have H := H1
      clear H1
      exact absurd H (by simp)
     ·
      replace c17 := Bool.eq_false_iff.mpr c17
      subst c17
      have H1 : (if t1105 = true then ((impl_AreOnTorus.f kj7 t1099).bind fun bt1113 => ((impl_AreOnTorus.f kj7 t1104).bind fun bt1115 => ((impl_ShiftQueens.f kj7 t1104 (wrap64 (-t1100)) (wrap64 (-t1101))).bind fun bt1117 => ((impl_AreQueens.f kj7 t1104).bind fun bt1121 => (if bt1113.2 = true then (if bt1115.2 = true then (if (bt1113.1 != bt1115.1) = true then (none) else (if bt1117.2 = true then ((laws_kSame.f kj7 bt1117.1 t1099).bind fun t1123 => (if t1123 = true then (if bt1121.2 = true then (if bt1115.1 = true then (if bt1121.1 = true then (laws_FnQueensOnTori.j1 kj7 l1) else (none)) else (laws_FnQueensOnTori.j1 kj7 l1)) else (none)) else (none))) else (none))) else (none)) else (none)))))) else (laws_FnQueensOnTori.j1 kj7 l1)) = some r := by rw [if_neg (show ¬ (false = true) by decide)] at H; exact H
      clear H
      have H := H1
      clear H1
      have HC18 := A_ H
      clear H
      go_upto_if 74 with (fail)
      go_cut [] (fun wc => ∃ (kq : Nat), Aside0 (laws_FnQueensOnTori.j1 kq l1 = some r) ∧ Aside0 (kq ≤ kj7) ∧ Aside0 (Below w.heap.size w wc))
      case first =>
       as_aux_lemma =>
        have H := HC18.out
        clear HC18
        by_cases c19 : t1105 = true
        ·
         subst c19
         have H1 : ((impl_AreOnTorus.f kj7 t1099).bind fun bt1113 => ((impl_AreOnTorus.f kj7 t1104).bind fun bt1115 => ((impl_ShiftQueens.f kj7 t1104 (wrap64 (-t1100)) (wrap64 (-t1101))).bind fun bt1117 => ((impl_AreQueens.f kj7 t1104).bind fun bt1121 => (if bt1113.2 = true then (if bt1115.2 = true then (if (bt1113.1 != bt1115.1) = true then (none) else (if bt1117.2 = true then ((laws_kSame.f kj7 bt1117.1 t1099).bind fun t1123 => (if t1123 = true then (if bt1121.2 = true then (if bt1115.1 = true then (if bt1121.1 = true then (laws_FnQueensOnTori.j1 kj7 l1) else (none)) else (laws_FnQueensOnTori.j1 kj7 l1)) else (none)) else (none))) else (none))) else (none)) else (none)))))) = some r := by rw [if_pos rfl] at H; exact H
         clear H
         have H := H1
         clear H1
         replace H := Option.bind_eq_some_iff.mp H
         obtain ⟨⟨t1113, t1114⟩, A200, H⟩ := H
         replace H : ((impl_AreOnTorus.f kj7 t1104).bind fun bt1115 => ((impl_ShiftQueens.f kj7 t1104 (wrap64 (-t1100)) (wrap64 (-t1101))).bind fun bt1117 => ((impl_AreQueens.f kj7 t1104).bind fun bt1121 => (if t1114 = true then (if bt1115.2 = true then (if (t1113 != bt1115.1) = true then (none) else (if bt1117.2 = true then ((laws_kSame.f kj7 bt1117.1 t1099).bind fun t1123 => (if t1123 = true then (if bt1121.2 = true then (if bt1115.1 = true then (if bt1121.1 = true then (laws_FnQueensOnTori.j1 kj7 l1) else (none)) else (laws_FnQueensOnTori.j1 kj7 l1)) else (none)) else (none))) else (none))) else (none)) else (none))))) = some r := H
         have A20 := A_ A200
         clear A200
         replace H := Option.bind_eq_some_iff.mp H
         obtain ⟨⟨t1115, t1116⟩, A210, H⟩ := H
         replace H : ((impl_ShiftQueens.f kj7 t1104 (wrap64 (-t1100)) (wrap64 (-t1101))).bind fun bt1117 => ((impl_AreQueens.f kj7 t1104).bind fun bt1121 => (if t1114 = true then (if t1116 = true then (if (t1113 != t1115) = true then (none) else (if bt1117.2 = true then ((laws_kSame.f kj7 bt1117.1 t1099).bind fun t1123 => (if t1123 = true then (if bt1121.2 = true then (if t1115 = true then (if bt1121.1 = true then (laws_FnQueensOnTori.j1 kj7 l1) else (none)) else (laws_FnQueensOnTori.j1 kj7 l1)) else (none)) else (none))) else (none))) else (none)) else (none)))) = some r := H
         have A21 := A_ A210
         clear A210
         replace H := Option.bind_eq_some_iff.mp H
         obtain ⟨⟨t1117, t1118⟩, A220, H⟩ := H
         replace H : ((impl_AreQueens.f kj7 t1104).bind fun bt1121 => (if t1114 = true then (if t1116 = true then (if (t1113 != t1115) = true then (none) else (if t1118 = true then ((laws_kSame.f kj7 t1117 t1099).bind fun t1123 => (if t1123 = true then (if bt1121.2 = true then (if t1115 = true then (if bt1121.1 = true then (laws_FnQueensOnTori.j1 kj7 l1) else (none)) else (laws_FnQueensOnTori.j1 kj7 l1)) else (none)) else (none))) else (none))) else (none)) else (none))) = some r := H
         have A22 := A_ A220
         clear A220
         replace H := Option.bind_eq_some_iff.mp H
         obtain ⟨⟨t1121, t1122⟩, A230, H⟩ := H
         replace H : (if t1114 = true then (if t1116 = true then (if (t1113 != t1115) = true then (none) else (if t1118 = true then ((laws_kSame.f kj7 t1117 t1099).bind fun t1123 => (if t1123 = true then (if t1122 = true then (if t1115 = true then (if t1121 = true then (laws_FnQueensOnTori.j1 kj7 l1) else (none)) else (laws_FnQueensOnTori.j1 kj7 l1)) else (none)) else (none))) else (none))) else (none)) else (none)) = some r := H
         have A23 := A_ A230
         clear A230
         by_cases c24 : t1114 = true
         ·
          subst c24
          have H1 : (if t1116 = true then (if (t1113 != t1115) = true then (none) else (if t1118 = true then ((laws_kSame.f kj7 t1117 t1099).bind fun t1123 => (if t1123 = true then (if t1122 = true then (if t1115 = true then (if t1121 = true then (laws_FnQueensOnTori.j1 kj7 l1) else (none)) else (laws_FnQueensOnTori.j1 kj7 l1)) else (none)) else (none))) else (none))) else (none)) = some r := by rw [if_pos rfl] at H; exact H
          clear H
          have H := H1
          clear H1
          by_cases c25 : t1116 = true
          ·
           subst c25
           have H1 : (if (t1113 != t1115) = true then (none) else (if t1118 = true then ((laws_kSame.f kj7 t1117 t1099).bind fun t1123 => (if t1123 = true then (if t1122 = true then (if t1115 = true then (if t1121 = true then (laws_FnQueensOnTori.j1 kj7 l1) else (none)) else (laws_FnQueensOnTori.j1 kj7 l1)) else (none)) else (none))) else (none))) = some r := by rw [if_pos rfl] at H; exact H
           clear H
           have H := H1
           clear H1
           by_cases c26 : (t1113 != t1115) = true
           ·
            rw [if_pos c26] at H
            exact absurd H (by simp)
           ·
            rw [if_neg c26] at H
            have c26b0 : (t1113 != t1115) = false := by simpa using c26
            (try (have c26b1 : decide (t1113 = t1115) = true := by simpa using c26))
            (try (have c26b2 : (t1113 == t1115) = true := by simpa using c26))
            clear c26
            (first | rw [c26b0] | (simp only [i64_w, i32_w]; rw [c26b0]) | skip)
            by_cases c27 : t1118 = true
            ·
             subst c27
             have H1 : ((laws_kSame.f kj7 t1117 t1099).bind fun t1123 => (if t1123 = true then (if t1122 = true then (if t1115 = true then (if t1121 = true then (laws_FnQueensOnTori.j1 kj7 l1) else (none)) else (laws_FnQueensOnTori.j1 kj7 l1)) else (none)) else (none))) = some r := by rw [if_pos rfl] at H; exact H
             clear H
             have H := H1
             clear H1
             replace H := Option.bind_eq_some_iff.mp H
             obtain ⟨t1123, A280, H⟩ := H
             replace H : (if t1123 = true then (if t1122 = true then (if t1115 = true then (if t1121 = true then (laws_FnQueensOnTori.j1 kj7 l1) else (none)) else (laws_FnQueensOnTori.j1 kj7 l1)) else (none)) else (none)) = some r := H
             have A28 := A_ A280
             clear A280
             by_cases c29 : t1123 = true
             ·
              subst c29
              have H1 : (if t1122 = true then (if t1115 = true then (if t1121 = true then (laws_FnQueensOnTori.j1 kj7 l1) else (none)) else (laws_FnQueensOnTori.j1 kj7 l1)) else (none)) = some r := by rw [if_pos rfl] at H; exact H
              clear H
              have H := H1
              clear H1
              by_cases c30 : t1122 = true
              ·
               subst c30
               have H1 : (if t1115 = true then (if t1121 = true then (laws_FnQueensOnTori.j1 kj7 l1) else (none)) else (laws_FnQueensOnTori.j1 kj7 l1)) = some r := by rw [if_pos rfl] at H; exact H
               clear H
               have H := H1
               clear H1
               by_cases c31 : t1115 = true
               ·
                subst c31
                have H1 : (if t1121 = true then (laws_FnQueensOnTori.j1 kj7 l1) else (none)) = some r := by rw [if_pos rfl] at H; exact H
                clear H
                have H := H1
                clear H1
                by_cases c32 : t1121 = true
                ·
                 subst c32
                 have H1 : (laws_FnQueensOnTori.j1 kj7 l1) = some r := by rw [if_pos rfl] at H; exact H
                 clear H
                 have H := H1
                 clear H1
                 have H' := A_ H
                 clear H
                 go_wp2_with (first | (refine gc_ 57 ?_; refine goesT_ (some 77) Try.func57 #[.slice Ao10 t1099.length co10] ?_; (with_reducible refine (impl_AreOnTorus.calls kj7 _ _ t1099 t1113 true _ ?side1 ?side2 A20.out).mono ?_); (case side1 => exact tc0_ (Kd.R_reads' HO_5.out).2.2); (case side2 => exact (Kd.R_reads' HO_5.out).2.1); rintro e w33 ⟨rfl, hb⟩; refine ⟨_, rfl, ?_⟩; replace HO_5 := A_ (Kd.R_below (tr_x HO_5.out) hb); replace HO_8 := A_ (Kd.R_below (tr_x HO_8.out) hb); replace HB := A_ (below_step tb_ hb); (try clear hb); obtain ⟨Ao34, co34, eo34⟩ := Kd.R_slice HO_8.out; subst eo34) | (refine gc_ 57 ?_; refine goesT_ (some 82) Try.func57 #[.slice Ao34 t1104.length co34] ?_; (with_reducible refine (impl_AreOnTorus.calls kj7 _ _ t1104 true true _ ?side1 ?side2 A21.out).mono ?_); (case side1 => exact tc0_ (Kd.R_reads' HO_8.out).2.2); (case side2 => exact (Kd.R_reads' HO_8.out).2.1); rintro e w35 ⟨rfl, hb⟩; refine ⟨_, rfl, ?_⟩; replace HO_5 := A_ (Kd.R_below (tr_x HO_5.out) hb); replace HO_8 := A_ (Kd.R_below (tr_x HO_8.out) hb); replace HB := A_ (below_step tb_ hb); (try clear hb)) | (refine gc_ 54 ?_; refine goesT_ (some 91) Try.func54 #[.slice Ao34 t1104.length co34, .int .i64 (wrap64 (-t1100)), .int .i64 (wrap64 (-t1101))] ?_; (with_reducible refine (impl_ShiftQueens.calls kj7 _ _ t1104 (wrap64 (-t1100)) (wrap64 (-t1101)) t1117 true _ ?side1 ?side2 A22.out).mono ?_); (case side1 => exact tc0_ (Kd.R_reads' HO_8.out).2.2); (case side2 => exact (Kd.R_reads' HO_8.out).2.1); rintro e w36 ⟨v1119, rfl, ho0, hb⟩; refine ⟨_, rfl, ?_⟩; have HO1120 := A_ (Kd.R_lower (Kd.R_new' (Kd.R_new' ho0 (Kd.R_lt (tr_x HO_5.out))) (Kd.R_lt (tr_x HO_8.out))) (below_size tb_)); replace HO_5 := A_ (Kd.R_elder' (tr_x HO_5.out) (Kd.R_base ho0) hb); replace HO_8 := A_ (Kd.R_elder' (tr_x HO_8.out) (Kd.R_base ho0) hb); replace HB := A_ (below_step tb_ hb); (try clear hb); (try clear ho0)) | (refine gc_ 58 ?_; refine goesT_ (some 96) Try.func58 #[.slice Ao34 t1104.length co34] ?_; (with_reducible refine (impl_AreQueens.calls kj7 _ _ t1104 true true _ ?side1 ?side2 A23.out).mono ?_); (case side1 => exact tc0_ (Kd.R_reads' HO_8.out).2.2); (case side2 => exact (Kd.R_reads' HO_8.out).2.1); rintro e w37 ⟨rfl, hb⟩; refine ⟨_, rfl, ?_⟩; replace HO_5 := A_ (Kd.R_below (tr_x HO_5.out) hb); replace HO_8 := A_ (Kd.R_below (tr_x HO_8.out) hb); replace HO1120 := A_ (Kd.R_below (tr_x HO1120.out) hb); replace HB := A_ (below_step tb_ hb); (try clear hb); obtain ⟨Ao38, co38, eo38⟩ := Kd.R_slice HO1120.out; subst eo38) | (go_at_call 56; (with_reducible refine (laws_kSame.calls kj7 _ _ t1117 _ _ t1099 true _ ?side1 ?side2 ?side3 ?side4 A28.out).mono ?_); (case side1 => exact tc0_ (Kd.R_reads' HO1120.out).2.2); (case side2 => exact (Kd.R_reads' HO1120.out).2.1); (case side3 => exact tc0_ (Kd.R_reads' HO_5.out).2.2); (case side4 => exact (Kd.R_reads' HO_5.out).2.1); rintro e w' ⟨rfl, ⟨nd, rfl⟩⟩))
                 go_meet
                 case rel => exact ⟨_, H', ⟨by have := HJ7.out; first | omega | exact Nat.le_refl _⟩, ⟨tb_⟩⟩
                ·
                 replace c32 := Bool.eq_false_iff.mpr c32
                 subst c32
                 have H1 : (none) = some r := by rw [if_neg (show ¬ (false = true) by decide)] at H; exact H
                 clear H
                 have H := H1
                 clear H1
                 exact absurd H (by simp)
               ·
                replace c31 := Bool.eq_false_iff.mpr c31
                subst c31
                have H1 : (laws_FnQueensOnTori.j1 kj7 l1) = some r := by rw [if_neg (show ¬ (false = true) by decide)] at H; exact H
                clear H
                have H := H1
                clear H1
                have H' := A_ H
                clear H
                go_wp2_with (first | (refine gc_ 57 ?_; refine goesT_ (some 77) Try.func57 #[.slice Ao10 t1099.length co10] ?_; (with_reducible refine (impl_AreOnTorus.calls kj7 _ _ t1099 t1113 true _ ?side1 ?side2 A20.out).mono ?_); (case side1 => exact tc0_ (Kd.R_reads' HO_5.out).2.2); (case side2 => exact (Kd.R_reads' HO_5.out).2.1); rintro e w39 ⟨rfl, hb⟩; refine ⟨_, rfl, ?_⟩; replace HO_5 := A_ (Kd.R_below (tr_x HO_5.out) hb); replace HO_8 := A_ (Kd.R_below (tr_x HO_8.out) hb); replace HB := A_ (below_step tb_ hb); (try clear hb); obtain ⟨Ao40, co40, eo40⟩ := Kd.R_slice HO_8.out; subst eo40) | (refine gc_ 57 ?_; refine goesT_ (some 82) Try.func57 #[.slice Ao40 t1104.length co40] ?_; (with_reducible refine (impl_AreOnTorus.calls kj7 _ _ t1104 false true _ ?side1 ?side2 A21.out).mono ?_); (case side1 => exact tc0_ (Kd.R_reads' HO_8.out).2.2); (case side2 => exact (Kd.R_reads' HO_8.out).2.1); rintro e w41 ⟨rfl, hb⟩; refine ⟨_, rfl, ?_⟩; replace HO_5 := A_ (Kd.R_below (tr_x HO_5.out) hb); replace HO_8 := A_ (Kd.R_below (tr_x HO_8.out) hb); replace HB := A_ (below_step tb_ hb); (try clear hb)) | (refine gc_ 54 ?_; refine goesT_ (some 91) Try.func54 #[.slice Ao40 t1104.length co40, .int .i64 (wrap64 (-t1100)), .int .i64 (wrap64 (-t1101))] ?_; (with_reducible refine (impl_ShiftQueens.calls kj7 _ _ t1104 (wrap64 (-t1100)) (wrap64 (-t1101)) t1117 true _ ?side1 ?side2 A22.out).mono ?_); (case side1 => exact tc0_ (Kd.R_reads' HO_8.out).2.2); (case side2 => exact (Kd.R_reads' HO_8.out).2.1); rintro e w42 ⟨v1119, rfl, ho0, hb⟩; refine ⟨_, rfl, ?_⟩; have HO1120 := A_ (Kd.R_lower (Kd.R_new' (Kd.R_new' ho0 (Kd.R_lt (tr_x HO_5.out))) (Kd.R_lt (tr_x HO_8.out))) (below_size tb_)); replace HO_5 := A_ (Kd.R_elder' (tr_x HO_5.out) (Kd.R_base ho0) hb); replace HO_8 := A_ (Kd.R_elder' (tr_x HO_8.out) (Kd.R_base ho0) hb); replace HB := A_ (below_step tb_ hb); (try clear hb); (try clear ho0)) | (refine gc_ 58 ?_; refine goesT_ (some 96) Try.func58 #[.slice Ao40 t1104.length co40] ?_; (with_reducible refine (impl_AreQueens.calls kj7 _ _ t1104 t1121 true _ ?side1 ?side2 A23.out).mono ?_); (case side1 => exact tc0_ (Kd.R_reads' HO_8.out).2.2); (case side2 => exact (Kd.R_reads' HO_8.out).2.1); rintro e w43 ⟨rfl, hb⟩; refine ⟨_, rfl, ?_⟩; replace HO_5 := A_ (Kd.R_below (tr_x HO_5.out) hb); replace HO_8 := A_ (Kd.R_below (tr_x HO_8.out) hb); replace HO1120 := A_ (Kd.R_below (tr_x HO1120.out) hb); replace HB := A_ (below_step tb_ hb); (try clear hb); obtain ⟨Ao44, co44, eo44⟩ := Kd.R_slice HO1120.out; subst eo44) | (go_at_call 56; (with_reducible refine (laws_kSame.calls kj7 _ _ t1117 _ _ t1099 true _ ?side1 ?side2 ?side3 ?side4 A28.out).mono ?_); (case side1 => exact tc0_ (Kd.R_reads' HO1120.out).2.2); (case side2 => exact (Kd.R_reads' HO1120.out).2.1); (case side3 => exact tc0_ (Kd.R_reads' HO_5.out).2.2); (case side4 => exact (Kd.R_reads' HO_5.out).2.1); rintro e w' ⟨rfl, ⟨nd, rfl⟩⟩))
                go_meet
                case rel => exact ⟨_, H', ⟨by have := HJ7.out; first | omega | exact Nat.le_refl _⟩, ⟨tb_⟩⟩
              ·
               replace c30 := Bool.eq_false_iff.mpr c30
               subst c30
               have H1 : (none) = some r := by rw [if_neg (show ¬ (false = true) by decide)] at H; exact H
               clear H
               have H := H1
               clear H1
               exact absurd H (by simp)
             ·
              replace c29 := Bool.eq_false_iff.mpr c29
              subst c29
              have H1 : (none) = some r := by rw [if_neg (show ¬ (false = true) by decide)] at H; exact H
              clear H
              have H := H1
              clear H1
              exact absurd H (by simp)
            ·
             replace c27 := Bool.eq_false_iff.mpr c27
             subst c27
             have H1 : (none) = some r := by rw [if_neg (show ¬ (false = true) by decide)] at H; exact H
             clear H
             have H := H1
             clear H1
             exact absurd H (by simp)
          ·
           replace c25 := Bool.eq_false_iff.mpr c25
           subst c25
           have H1 : (none) = some r := by rw [if_neg (show ¬ (false = true) by decide)] at H; exact H
           clear H
           have H := H1
           clear H1
           exact absurd H (by simp)
         ·
          replace c24 := Bool.eq_false_iff.mpr c24
          subst c24
          have H1 : (none) = some r := by rw [if_neg (show ¬ (false = true) by decide)] at H; exact H
          clear H
          have H := H1
          clear H1
          exact absurd H (by simp)
        ·
         replace c19 := Bool.eq_false_iff.mpr c19
         subst c19
         have H1 : (laws_FnQueensOnTori.j1 kj7 l1) = some r := by rw [if_neg (show ¬ (false = true) by decide)] at H; exact H
         clear H
         have H := H1
         clear H1
         have H' := A_ H
         clear H
         go_wp2
         go_meet
         case rel => exact ⟨_, H', ⟨by have := HJ7.out; first | omega | exact Nat.le_refl _⟩, ⟨tb_⟩⟩
      case rest =>
       as_aux_lemma =>
        clear HC18
        try clear c1
        try clear c2
        try clear p2
        try clear c3
        try clear c4
        try clear c5
        try clear p6
        try clear c12
        try clear c13
        try clear c13b0
        try clear c13b1
        try clear c13b2
        try clear c17
        try clear c19
        try clear c24
        try clear c25
        try clear c26
        try clear c26b0
        try clear c26b1
        try clear c26b2
        try clear c27
        try clear c29
        try clear c30
        try clear c31
        try clear c32
        try clear p2
        obtain ⟨kq, HA, HJ17, HB⟩ := hcut
        cases kq with
        | zero => exact absurd HA.out (by simp [laws_FnQueensOnTori.j1])
        | succ kj17 =>
         have H := HA.out
         clear HA
         simp only [laws_FnQueensOnTori.j1] at H
         replace H := Option.bind_eq_some_iff.mp H
         obtain ⟨t1124, A450, H⟩ := H
         replace H : ((impl_CountOnTorus.f kj17 t1124).bind fun bt1125 => ((spec_CountOnTorus.f kj17 t1124).bind fun bt1127 => (if (bt1125.2 != bt1127.2) = true then (none) else (if bt1125.1 = bt1127.1 then (if bt1125.2 = true then (if (Int.tmod t1124 2) = 0 then (laws_FnQueensOnTori.j2 kj17 l1 ((decide (bt1125.1 > 0)) != false)) else (laws_FnQueensOnTori.j2 kj17 l1 ((decide (bt1125.1 > 0)) != ((Int.tmod t1124 3) != 0)))) else (laws_FnQueensOnTori.j2 kj17 l1 false)) else (none))))) = some r := H
         have A45 := A_ A450
         clear A450
         replace H := Option.bind_eq_some_iff.mp H
         obtain ⟨⟨t1125, t1126⟩, A460, H⟩ := H
         replace H : ((spec_CountOnTorus.f kj17 t1124).bind fun bt1127 => (if (t1126 != bt1127.2) = true then (none) else (if t1125 = bt1127.1 then (if t1126 = true then (if (Int.tmod t1124 2) = 0 then (laws_FnQueensOnTori.j2 kj17 l1 ((decide (t1125 > 0)) != false)) else (laws_FnQueensOnTori.j2 kj17 l1 ((decide (t1125 > 0)) != ((Int.tmod t1124 3) != 0)))) else (laws_FnQueensOnTori.j2 kj17 l1 false)) else (none)))) = some r := H
         have A46 := A_ A460
         clear A460
         replace H := Option.bind_eq_some_iff.mp H
         obtain ⟨⟨t1127, t1128⟩, A470, H⟩ := H
         replace H : (if (t1126 != t1128) = true then (none) else (if t1125 = t1127 then (if t1126 = true then (if (Int.tmod t1124 2) = 0 then (laws_FnQueensOnTori.j2 kj17 l1 ((decide (t1125 > 0)) != false)) else (laws_FnQueensOnTori.j2 kj17 l1 ((decide (t1125 > 0)) != ((Int.tmod t1124 3) != 0)))) else (laws_FnQueensOnTori.j2 kj17 l1 false)) else (none))) = some r := H
         have A47 := A_ A470
         clear A470
         have HC48 := A_ H
         clear H
         go_upto_region 18 with (first | (refine gc_ 59 ?_; refine goesT_ (some 132) Try.func59 #[.slice A1 l1.length c1] ?_; (with_reducible refine (spec_DrawCountOnTorus.calls _ _ l1 t1124 _ ?side1 ?side2 A45.out).mono ?_); (case side1 => exact tc_ HR1.out); (case side2 => exact HC1.out); rintro e w49 ⟨rfl, hb⟩; refine ⟨_, rfl, ?_⟩; replace HB := A_ (below_step tb_ hb); (try clear hb)) | (refine gc_ 60 ?_; refine goesT_ (some 135) Try.func60 #[.int .i64 t1124] ?_; (with_reducible refine (impl_CountOnTorus.calls kj17 t1124 t1125 t1126 _ A46.out).mono ?_); rintro e w50 ⟨rfl, hb⟩; refine ⟨_, rfl, ?_⟩; replace HB := A_ (below_step tb_ hb); (try clear hb)) | (refine gc_ 61 ?_; refine goesT_ (some 140) Try.func61 #[.int .i64 t1124] ?_; (with_reducible refine (spec_CountOnTorus.calls kj17 t1124 t1127 t1128 _ A47.out).mono ?_); rintro e w51 ⟨rfl, hb⟩; refine ⟨_, rfl, ?_⟩; replace HB := A_ (below_step tb_ hb); (try clear hb)))
         (try simp only [Act.put, List.setIfInBounds_toArray, List.set_cons_zero, List.set_cons_succ])
         go_cut [166] (fun v166 wc => ∃ (kq : Nat) (x166_47 : Bool), v166 = .bool x166_47 ∧ Aside0 (laws_FnQueensOnTori.j2 kq l1 x166_47 = some r) ∧ Aside0 (kq ≤ kj17) ∧ Aside0 (Below w.heap.size w wc))
         case first =>
          as_aux_lemma =>
           have H := HC48.out
           clear HC48
           by_cases c52 : (t1126 != t1128) = true
           ·
            rw [if_pos c52] at H
            exact absurd H (by simp)
           ·
            rw [if_neg c52] at H
            have c52b0 : (t1126 != t1128) = false := by simpa using c52
            (try (have c52b1 : decide (t1126 = t1128) = true := by simpa using c52))
            (try (have c52b2 : (t1126 == t1128) = true := by simpa using c52))
            clear c52
            (first | rw [c52b0] | (simp only [i64_w, i32_w]; rw [c52b0]) | skip)
            by_cases c53 : t1125 = t1127
            ·
             rw [if_pos c53] at H
             have c53b0 : (t1125 == t1127) = true := beq_iff_eq.mpr c53
             have c53b1 : (t1125 != t1127) = false := bne_eq_false_iff_eq.mpr c53
             clear c53
             by_cases c54 : t1126 = true
             ·
              subst c54
              have H1 : (if (Int.tmod t1124 2) = 0 then (laws_FnQueensOnTori.j2 kj17 l1 ((decide (t1125 > 0)) != false)) else (laws_FnQueensOnTori.j2 kj17 l1 ((decide (t1125 > 0)) != ((Int.tmod t1124 3) != 0)))) = some r := by rw [if_pos rfl] at H; exact H
              clear H
              have H := H1
              clear H1
              by_cases c55 : (Int.tmod t1124 2) = 0
              ·
               rw [if_pos c55] at H
               have c55b0 : ((Int.tmod t1124 2) == 0) = true := beq_iff_eq.mpr c55
               have c55b1 : ((Int.tmod t1124 2) != 0) = false := bne_eq_false_iff_eq.mpr c55
               clear c55
               have H' := A_ H
               clear H
               go_wp2
               go_meet
               case rel => exact ⟨_, (((decide (t1125 > 0)) != false)), tf_, H', ⟨by have := HJ7.out; have := HJ17.out; first | omega | exact Nat.le_refl _⟩, ⟨tb_⟩⟩
              ·
               rw [if_neg c55] at H
               have c55b0 : ((Int.tmod t1124 2) == 0) = false := beq_eq_false_iff_ne.mpr c55
               have c55b1 : ((Int.tmod t1124 2) != 0) = true := bne_iff_ne.mpr c55
               have H' := A_ H
               clear H
               go_wp2
               go_meet
               case rel => exact ⟨_, (((decide (t1125 > 0)) != ((Int.tmod t1124 3) != 0))), tf_, H', ⟨by have := HJ7.out; have := HJ17.out; first | omega | exact Nat.le_refl _⟩, ⟨tb_⟩⟩
             ·
              replace c54 := Bool.eq_false_iff.mpr c54
              subst c54
              have H1 : (laws_FnQueensOnTori.j2 kj17 l1 false) = some r := by rw [if_neg (show ¬ (false = true) by decide)] at H; exact H
              clear H
              have H := H1
              clear H1
              have H' := A_ H
              clear H
              go_wp2
              go_meet
              case rel => exact ⟨_, (false), tf_, H', ⟨by have := HJ7.out; have := HJ17.out; first | omega | exact Nat.le_refl _⟩, ⟨tb_⟩⟩
            ·
             rw [if_neg c53] at H
             exact absurd H (by simp)
         case rest =>
          as_aux_lemma =>
           clear HC48
           try clear c1
           try clear c2
           try clear p2
           try clear c3
           try clear c4
           try clear c5
           try clear c6
           try clear p6
           try clear c12
           try clear c13
           try clear c13b0
           try clear c13b1
           try clear c13b2
           try clear c17
           try clear c19
           try clear c24
           try clear c25
           try clear c26
           try clear c26b0
           try clear c26b1
           try clear c26b2
           try clear c27
           try clear c29
           try clear c30
           try clear c31
           try clear c32
           try clear c47
           try clear c52
           try clear c52b0
           try clear c52b1
           try clear c52b2
           try clear c53
           try clear c53b0
           try clear c53b1
           try clear c54
           try clear c55
           try clear c55b0
           try clear c55b1
           try clear p2
           try clear p6
           obtain ⟨kq, x166_47, rfl, HA, HJ47, HB⟩ := hcut
           cases kq with
           | zero => exact absurd HA.out (by simp [laws_FnQueensOnTori.j2])
           | succ kj47 =>
            have H := HA.out
            clear HA
            simp only [laws_FnQueensOnTori.j2] at H
            by_cases c56 : x166_47 = true
            ·
             subst c56
             have H1 : (none) = some r := by rw [if_pos rfl] at H; exact H
             clear H
             have H := H1
             clear H1
             exact absurd H (by simp)
            ·
             replace c56 := Bool.eq_false_iff.mpr c56
             subst c56
             have H1 : ((spec_DrawStraightQueens.f l1).bind fun bt1129 => ((impl_StraightQueens.f kj47 bt1129.1 bt1129.2).bind fun bt1131 => ((spec_StraightQueens.f kj47 bt1129.1 bt1129.2).bind fun bt1135 => (if (bt1131.2 != bt1135.2) = true then (none) else ((laws_kSame.f kj47 bt1131.1 bt1135.1).bind fun t1139 => (laws_FnQueensOnTori.j3 kj47 l1 bt1129.1 bt1129.2 bt1131.1 bt1131.2 (!t1139))))))) = some r := by rw [if_neg (show ¬ (false = true) by decide)] at H; exact H
             clear H
             have H := H1
             clear H1
             replace H := Option.bind_eq_some_iff.mp H
             obtain ⟨⟨t1129, t1130⟩, A570, H⟩ := H
             replace H : ((impl_StraightQueens.f kj47 t1129 t1130).bind fun bt1131 => ((spec_StraightQueens.f kj47 t1129 t1130).bind fun bt1135 => (if (bt1131.2 != bt1135.2) = true then (none) else ((laws_kSame.f kj47 bt1131.1 bt1135.1).bind fun t1139 => (laws_FnQueensOnTori.j3 kj47 l1 t1129 t1130 bt1131.1 bt1131.2 (!t1139)))))) = some r := H
             have A57 := A_ A570
             clear A570
             replace H := Option.bind_eq_some_iff.mp H
             obtain ⟨⟨t1131, t1132⟩, A580, H⟩ := H
             replace H : ((spec_StraightQueens.f kj47 t1129 t1130).bind fun bt1135 => (if (t1132 != bt1135.2) = true then (none) else ((laws_kSame.f kj47 t1131 bt1135.1).bind fun t1139 => (laws_FnQueensOnTori.j3 kj47 l1 t1129 t1130 t1131 t1132 (!t1139))))) = some r := H
             have A58 := A_ A580
             clear A580
             replace H := Option.bind_eq_some_iff.mp H
             obtain ⟨⟨t1135, t1136⟩, A590, H⟩ := H
             replace H : (if (t1132 != t1136) = true then (none) else ((laws_kSame.f kj47 t1131 t1135).bind fun t1139 => (laws_FnQueensOnTori.j3 kj47 l1 t1129 t1130 t1131 t1132 (!t1139)))) = some r := H
             have A59 := A_ A590
             clear A590
             have HC60 := A_ H
             clear H
             go_upto_region 23 with (first | (refine gc_ 62 ?_; refine goesT_ (some 169) Try.func62 #[.slice A1 l1.length c1] ?_; (with_reducible refine (spec_DrawStraightQueens.calls _ _ l1 t1129 t1130 _ ?side1 ?side2 A57.out).mono ?_); (case side1 => exact tc_ HR1.out); (case side2 => exact HC1.out); rintro e w61 ⟨rfl, hb⟩; refine ⟨_, rfl, ?_⟩; replace HB := A_ (below_step tb_ hb); (try clear hb)) | (refine gc_ 63 ?_; refine goesT_ (some 175) Try.func63 #[.int .i64 t1129, .int .i64 t1130] ?_; (with_reducible refine (impl_StraightQueens.calls kj47 t1129 t1130 t1131 t1132 _ A58.out).mono ?_); rintro e w62 ⟨v1133, rfl, ho0, hb⟩; refine ⟨_, rfl, ?_⟩; have HO1134 := A_ (Kd.R_lower ho0 (below_size tb_)); replace HB := A_ (below_step tb_ hb); (try clear hb); (try clear ho0)) | (refine gc_ 64 ?_; refine goesT_ (some 181) Try.func64 #[.int .i64 t1129, .int .i64 t1130] ?_; (with_reducible refine (spec_StraightQueens.calls kj47 t1129 t1130 t1135 t1136 _ A59.out).mono ?_); rintro e w63 ⟨v1137, rfl, ho0, hb⟩; refine ⟨_, rfl, ?_⟩; have HO1138 := A_ (Kd.R_lower (Kd.R_new' ho0 (Kd.R_lt (tr_x HO1134.out))) (below_size tb_)); replace HO1134 := A_ (Kd.R_elder' (tr_x HO1134.out) (Kd.R_base ho0) hb); replace HB := A_ (below_step tb_ hb); (try clear hb); (try clear ho0)))
             (try simp only [Act.put, List.setIfInBounds_toArray, List.set_cons_zero, List.set_cons_succ])
             go_cut [192] (fun v192 wc => ∃ (kq : Nat) (x192_59 : Bool), v192 = .bool x192_59 ∧ Aside0 (laws_FnQueensOnTori.j3 kq l1 t1129 t1130 t1131 t1132 x192_59 = some r) ∧ Aside0 (kq ≤ kj47) ∧ Aside0 (Kd.R (Kd.int .i64) 3 wc w.heap.size (fun _ => True) v1133 t1131) ∧ Aside0 (Below w.heap.size w wc))
             case first =>
              as_aux_lemma =>
               have H := HC60.out
               clear HC60
               by_cases c64 : (t1132 != t1136) = true
               ·
                rw [if_pos c64] at H
                exact absurd H (by simp)
               ·
                rw [if_neg c64] at H
                have c64b0 : (t1132 != t1136) = false := by simpa using c64
                (try (have c64b1 : decide (t1132 = t1136) = true := by simpa using c64))
                (try (have c64b2 : (t1132 == t1136) = true := by simpa using c64))
                clear c64
                (first | rw [c64b0] | (simp only [i64_w, i32_w]; rw [c64b0]) | skip)
                replace H := Option.bind_eq_some_iff.mp H
                obtain ⟨t1139, A650, H⟩ := H
                replace H : (laws_FnQueensOnTori.j3 kj47 l1 t1129 t1130 t1131 t1132 (!t1139)) = some r := H
                have A65 := A_ A650
                clear A650
                have H' := A_ H
                clear H
                obtain ⟨Ao66, co66, eo66⟩ := Kd.R_slice HO1134.out
                subst eo66
                obtain ⟨Ao67, co67, eo67⟩ := Kd.R_slice HO1138.out
                subst eo67
                go_wp2_with (first | (go_at_call 56; (with_reducible refine (laws_kSame.calls kj47 _ _ t1131 _ _ t1135 t1139 _ ?side1 ?side2 ?side3 ?side4 A65.out).mono ?_); (case side1 => exact tc0_ (Kd.R_reads' HO1134.out).2.2); (case side2 => exact (Kd.R_reads' HO1134.out).2.1); (case side3 => exact tc0_ (Kd.R_reads' HO1138.out).2.2); (case side4 => exact (Kd.R_reads' HO1138.out).2.1); rintro e w' ⟨rfl, ⟨nd, rfl⟩⟩))
                go_meet
                case rel => exact ⟨_, (!t1139), tf_, H', ⟨by have := HJ7.out; have := HJ17.out; have := HJ47.out; first | omega | exact Nat.le_refl _⟩, ⟨by (with_reducible repeat (first | apply Kd.R_alloc | apply Kd.R_drewN | apply Kd.R_drew)); exact Kd.R_mono HO1134.out (fun _ hk => trivial)⟩, ⟨tb_⟩⟩
             case rest =>
              as_aux_lemma =>
               clear HC60
               try clear c1
               try clear c2
               try clear p2
               try clear c3
               try clear c4
               try clear c5
               try clear c6
               try clear p6
               try clear c12
               try clear c13
               try clear c13b0
               try clear c13b1
               try clear c13b2
               try clear c17
               try clear c19
               try clear c24
               try clear c25
               try clear c26
               try clear c26b0
               try clear c26b1
               try clear c26b2
               try clear c27
               try clear c29
               try clear c30
               try clear c31
               try clear c32
               try clear c47
               try clear c52
               try clear c52b0
               try clear c52b1
               try clear c52b2
               try clear c53
               try clear c53b0
               try clear c53b1
               try clear c54
               try clear c55
               try clear c55b0
               try clear c55b1
               try clear c56
               try clear c57
               try clear c58
               try clear c59
               try clear c60
               try clear c61
               try clear c62
               try clear c63
               try clear c64
               try clear c64b0
               try clear c64b1
               try clear c64b2
               try clear p64
               try clear p2
               try clear p6
               obtain ⟨kq, x192_59, rfl, HA, HJ59, HO_27, HB⟩ := hcut
               cases kq with
               | zero => exact absurd HA.out (by simp [laws_FnQueensOnTori.j3])
               | succ kj59 =>
                have H := HA.out
                clear HA
                simp only [laws_FnQueensOnTori.j3] at H
                by_cases c68 : x192_59 = true
                ·
                 subst c68
                 have H1 : (none) = some r := by rw [if_pos rfl] at H; exact H
                 clear H
                 have H := H1
                 clear H1
                 exact absurd H (by simp)
                ·
                 replace c68 := Bool.eq_false_iff.mpr c68
                 subst c68
                 have H1 : (if t1132 = true then (laws_FnQueensOnTori.j4 kj59 l1 t1129 t1130 t1131 (decide (t1129 > 3))) else (laws_FnQueensOnTori.j4 kj59 l1 t1129 t1130 t1131 false)) = some r := by rw [if_neg (show ¬ (false = true) by decide)] at H; exact H
                 clear H
                 have H := H1
                 clear H1
                 have HC69 := A_ H
                 clear H
                 go_upto_region 25 with (fail)
                 go_cut [197] (fun v197 wc => ∃ (kq : Nat) (x197_68 : Bool), v197 = .bool x197_68 ∧ Aside0 (laws_FnQueensOnTori.j4 kq l1 t1129 t1130 t1131 x197_68 = some r) ∧ Aside0 (kq ≤ kj59) ∧ Aside0 (Kd.R (Kd.int .i64) 3 wc w.heap.size (fun _ => True) v1133 t1131) ∧ Aside0 (Below w.heap.size w wc))
                 case first =>
                  as_aux_lemma =>
                   have H := HC69.out
                   clear HC69
                   by_cases c70 : t1132 = true
                   ·
                    subst c70
                    have H1 : (laws_FnQueensOnTori.j4 kj59 l1 t1129 t1130 t1131 (decide (t1129 > 3))) = some r := by rw [if_pos rfl] at H; exact H
                    clear H
                    have H := H1
                    clear H1
                    have H' := A_ H
                    clear H
                    go_wp2
                    go_meet
                    case rel => exact ⟨_, (decide (t1129 > 3)), tf_, H', ⟨by have := HJ7.out; have := HJ17.out; have := HJ47.out; have := HJ59.out; first | omega | exact Nat.le_refl _⟩, ⟨tr_x HO_27.out⟩, ⟨tb_⟩⟩
                   ·
                    replace c70 := Bool.eq_false_iff.mpr c70
                    subst c70
                    have H1 : (laws_FnQueensOnTori.j4 kj59 l1 t1129 t1130 t1131 false) = some r := by rw [if_neg (show ¬ (false = true) by decide)] at H; exact H
                    clear H
                    have H := H1
                    clear H1
                    have H' := A_ H
                    clear H
                    go_wp2
                    go_meet
                    case rel => exact ⟨_, (false), tf_, H', ⟨by have := HJ7.out; have := HJ17.out; have := HJ47.out; have := HJ59.out; first | omega | exact Nat.le_refl _⟩, ⟨tr_x HO_27.out⟩, ⟨tb_⟩⟩
                 case rest =>
                  as_aux_lemma =>
                   clear HC69
                   try clear c1
                   try clear c2
                   try clear p2
                   try clear c3
                   try clear c4
                   try clear c5
                   try clear c6
                   try clear p6
                   try clear c7
                   try clear c12
                   try clear c13
                   try clear c13b0
                   try clear c13b1
                   try clear c13b2
                   try clear c17
                   try clear c19
                   try clear c24
                   try clear c25
                   try clear c26
                   try clear c26b0
                   try clear c26b1
                   try clear c26b2
                   try clear c27
                   try clear c29
                   try clear c30
                   try clear c31
                   try clear c32
                   try clear c47
                   try clear c52
                   try clear c52b0
                   try clear c52b1
                   try clear c52b2
                   try clear c53
                   try clear c53b0
                   try clear c53b1
                   try clear c54
                   try clear c55
                   try clear c55b0
                   try clear c55b1
                   try clear c56
                   try clear c57
                   try clear c58
                   try clear c59
                   try clear c60
                   try clear c61
                   try clear c62
                   try clear c63
                   try clear c64
                   try clear c64b0
                   try clear c64b1
                   try clear c64b2
                   try clear p64
                   try clear c68
                   try clear c70
                   try clear p2
                   try clear p6
                   try clear p64
                   obtain ⟨kq, x197_68, rfl, HA, HJ68, HO_27, HB⟩ := hcut
                   cases kq with
                   | zero => exact absurd HA.out (by simp [laws_FnQueensOnTori.j4])
                   | succ kj68 =>
                    have H := HA.out
                    clear HA
                    simp only [laws_FnQueensOnTori.j4] at H
                    by_cases c71 : x197_68 = true
                    ·
                     subst c71
                     have H1 : ((impl_AreOnTorus.f kj68 t1131).bind fun bt1140 => (if t1129 = 0 then (none) else ((impl_StraightQueens.f kj68 t1129 (Int.tmod (wrap64 (t1130 + 1)) t1129)).bind fun bt1142 => ((impl_StraightQueens.f kj68 t1129 (Int.tmod (wrap64 ((wrap64 (t1130 + t1129)) - 1)) t1129)).bind fun bt1146 => (if bt1140.2 = true then (if bt1142.2 = true then (if bt1146.2 = true then (laws_FnQueensOnTori.j5 kj68 l1 (bt1140.1 != ((bt1142.1.length : Int) == (bt1146.1.length : Int)))) else (laws_FnQueensOnTori.j5 kj68 l1 (bt1140.1 != false))) else (laws_FnQueensOnTori.j5 kj68 l1 (bt1140.1 != false))) else (none)))))) = some r := by rw [if_pos rfl] at H; exact H
                     clear H
                     have H := H1
                     clear H1
                     replace H := Option.bind_eq_some_iff.mp H
                     obtain ⟨⟨t1140, t1141⟩, A720, H⟩ := H
                     replace H : (if t1129 = 0 then (none) else ((impl_StraightQueens.f kj68 t1129 (Int.tmod (wrap64 (t1130 + 1)) t1129)).bind fun bt1142 => ((impl_StraightQueens.f kj68 t1129 (Int.tmod (wrap64 ((wrap64 (t1130 + t1129)) - 1)) t1129)).bind fun bt1146 => (if t1141 = true then (if bt1142.2 = true then (if bt1146.2 = true then (laws_FnQueensOnTori.j5 kj68 l1 (t1140 != ((bt1142.1.length : Int) == (bt1146.1.length : Int)))) else (laws_FnQueensOnTori.j5 kj68 l1 (t1140 != false))) else (laws_FnQueensOnTori.j5 kj68 l1 (t1140 != false))) else (none))))) = some r := H
                     have A72 := A_ A720
                     clear A720
                     by_cases c73 : t1129 = 0
                     ·
                      rw [if_pos c73] at H
                      exact absurd H (by simp)
                     ·
                      rw [if_neg c73] at H
                      have c73b0 : (t1129 == 0) = false := beq_eq_false_iff_ne.mpr c73
                      have c73b1 : (t1129 != 0) = true := bne_iff_ne.mpr c73
                      replace H := Option.bind_eq_some_iff.mp H
                      obtain ⟨⟨t1142, t1143⟩, A740, H⟩ := H
                      replace H : ((impl_StraightQueens.f kj68 t1129 (Int.tmod (wrap64 ((wrap64 (t1130 + t1129)) - 1)) t1129)).bind fun bt1146 => (if t1141 = true then (if t1143 = true then (if bt1146.2 = true then (laws_FnQueensOnTori.j5 kj68 l1 (t1140 != ((t1142.length : Int) == (bt1146.1.length : Int)))) else (laws_FnQueensOnTori.j5 kj68 l1 (t1140 != false))) else (laws_FnQueensOnTori.j5 kj68 l1 (t1140 != false))) else (none))) = some r := H
                      have A74 := A_ A740
                      clear A740
                      replace H := Option.bind_eq_some_iff.mp H
                      obtain ⟨⟨t1146, t1147⟩, A750, H⟩ := H
                      replace H : (if t1141 = true then (if t1143 = true then (if t1147 = true then (laws_FnQueensOnTori.j5 kj68 l1 (t1140 != ((t1142.length : Int) == (t1146.length : Int)))) else (laws_FnQueensOnTori.j5 kj68 l1 (t1140 != false))) else (laws_FnQueensOnTori.j5 kj68 l1 (t1140 != false))) else (none)) = some r := H
                      have A75 := A_ A750
                      clear A750
                      have HC76 := A_ H
                      clear H
                      obtain ⟨Ao77, co77, eo77⟩ := Kd.R_slice HO_27.out
                      subst eo77
                      go_upto_region 29 with (first | (refine gc_ 57 ?_; refine goesT_ (some 200) Try.func57 #[.slice Ao77 t1131.length co77] ?_; (with_reducible refine (impl_AreOnTorus.calls kj68 _ _ t1131 t1140 t1141 _ ?side1 ?side2 A72.out).mono ?_); (case side1 => exact tc0_ (Kd.R_reads' HO_27.out).2.2); (case side2 => exact (Kd.R_reads' HO_27.out).2.1); rintro e w78 ⟨rfl, hb⟩; refine ⟨_, rfl, ?_⟩; replace HO_27 := A_ (Kd.R_below (tr_x HO_27.out) hb); replace HB := A_ (below_step tb_ hb); (try clear hb)) | (refine gc_ 63 ?_; refine goesT_ (some 209) Try.func63 #[.int .i64 t1129, .int .i64 (Int.tmod (wrap64 (t1130 + 1)) t1129)] ?_; (with_reducible refine (impl_StraightQueens.calls kj68 t1129 (Int.tmod (wrap64 (t1130 + 1)) t1129) t1142 t1143 _ A74.out).mono ?_); rintro e w79 ⟨v1144, rfl, ho0, hb⟩; refine ⟨_, rfl, ?_⟩; have HO1145 := A_ (Kd.R_lower (Kd.R_new' ho0 (Kd.R_lt (tr_x HO_27.out))) (below_size tb_)); replace HO_27 := A_ (Kd.R_elder' (tr_x HO_27.out) (Kd.R_base ho0) hb); replace HB := A_ (below_step tb_ hb); (try clear hb); (try clear ho0)) | (refine gc_ 63 ?_; refine goesT_ (some 220) Try.func63 #[.int .i64 t1129, .int .i64 (Int.tmod (wrap64 ((wrap64 (t1130 + t1129)) - 1)) t1129)] ?_; (with_reducible refine (impl_StraightQueens.calls kj68 t1129 (Int.tmod (wrap64 ((wrap64 (t1130 + t1129)) - 1)) t1129) t1146 t1147 _ A75.out).mono ?_); rintro e w80 ⟨v1148, rfl, ho0, hb⟩; refine ⟨_, rfl, ?_⟩; have HO1149 := A_ (Kd.R_lower (Kd.R_new' (Kd.R_new' ho0 (Kd.R_lt (tr_x HO_27.out))) (Kd.R_lt (tr_x HO1145.out))) (below_size tb_)); replace HO_27 := A_ (Kd.R_elder' (tr_x HO_27.out) (Kd.R_base ho0) hb); replace HO1145 := A_ (Kd.R_elder' (tr_x HO1145.out) (Kd.R_base ho0) hb); replace HB := A_ (below_step tb_ hb); (try clear hb); (try clear ho0)))
                      (try simp only [Act.put, List.setIfInBounds_toArray, List.set_cons_zero, List.set_cons_succ])
                      go_cut [239] (fun v239 wc => ∃ (kq : Nat) (x239_75 : Bool), v239 = .bool x239_75 ∧ Aside0 (laws_FnQueensOnTori.j5 kq l1 x239_75 = some r) ∧ Aside0 (kq ≤ kj68) ∧ Aside0 (Below w.heap.size w wc))
                      case first =>
                       as_aux_lemma =>
                        have H := HC76.out
                        clear HC76
                        by_cases c81 : t1141 = true
                        ·
                         subst c81
                         have H1 : (if t1143 = true then (if t1147 = true then (laws_FnQueensOnTori.j5 kj68 l1 (t1140 != ((t1142.length : Int) == (t1146.length : Int)))) else (laws_FnQueensOnTori.j5 kj68 l1 (t1140 != false))) else (laws_FnQueensOnTori.j5 kj68 l1 (t1140 != false))) = some r := by rw [if_pos rfl] at H; exact H
                         clear H
                         have H := H1
                         clear H1
                         by_cases c82 : t1143 = true
                         ·
                          subst c82
                          have H1 : (if t1147 = true then (laws_FnQueensOnTori.j5 kj68 l1 (t1140 != ((t1142.length : Int) == (t1146.length : Int)))) else (laws_FnQueensOnTori.j5 kj68 l1 (t1140 != false))) = some r := by rw [if_pos rfl] at H; exact H
                          clear H
                          have H := H1
                          clear H1
                          by_cases c83 : t1147 = true
                          ·
                           subst c83
                           have H1 : (laws_FnQueensOnTori.j5 kj68 l1 (t1140 != ((t1142.length : Int) == (t1146.length : Int)))) = some r := by rw [if_pos rfl] at H; exact H
                           clear H
                           have H := H1
                           clear H1
                           have H' := A_ H
                           clear H
                           obtain ⟨Ao84, co84, eo84⟩ := Kd.R_slice HO1145.out
                           subst eo84
                           obtain ⟨Ao85, co85, eo85⟩ := Kd.R_slice HO1149.out
                           subst eo85
                           go_wp2
                           go_meet
                           case rel => exact ⟨_, ((t1140 != ((t1142.length : Int) == (t1146.length : Int)))), tf_, H', ⟨by have := HJ7.out; have := HJ17.out; have := HJ47.out; have := HJ59.out; have := HJ68.out; first | omega | exact Nat.le_refl _⟩, ⟨tb_⟩⟩
                          ·
                           replace c83 := Bool.eq_false_iff.mpr c83
                           subst c83
                           have H1 : (laws_FnQueensOnTori.j5 kj68 l1 (t1140 != false)) = some r := by rw [if_neg (show ¬ (false = true) by decide)] at H; exact H
                           clear H
                           have H := H1
                           clear H1
                           have H' := A_ H
                           clear H
                           go_wp2
                           go_meet
                           case rel => exact ⟨_, ((t1140 != false)), tf_, H', ⟨by have := HJ7.out; have := HJ17.out; have := HJ47.out; have := HJ59.out; have := HJ68.out; first | omega | exact Nat.le_refl _⟩, ⟨tb_⟩⟩
                         ·
                          replace c82 := Bool.eq_false_iff.mpr c82
                          subst c82
                          have H1 : (laws_FnQueensOnTori.j5 kj68 l1 (t1140 != false)) = some r := by rw [if_neg (show ¬ (false = true) by decide)] at H; exact H
                          clear H
                          have H := H1
                          clear H1
                          have H' := A_ H
                          clear H
                          go_wp2
                          go_meet
                          case rel => exact ⟨_, ((t1140 != false)), tf_, H', ⟨by have := HJ7.out; have := HJ17.out; have := HJ47.out; have := HJ59.out; have := HJ68.out; first | omega | exact Nat.le_refl _⟩, ⟨tb_⟩⟩
                        ·
                         replace c81 := Bool.eq_false_iff.mpr c81
                         subst c81
                         have H1 : (none) = some r := by rw [if_neg (show ¬ (false = true) by decide)] at H; exact H
                         clear H
                         have H := H1
                         clear H1
                         exact absurd H (by simp)
                      case rest =>
                       as_aux_lemma =>
                        clear HC76
                        try clear c1
                        try clear c2
                        try clear p2
                        try clear c3
                        try clear c4
                        try clear c5
                        try clear c6
                        try clear p6
                        try clear c7
                        try clear c8
                        try clear c12
                        try clear c13
                        try clear c13b0
                        try clear c13b1
                        try clear c13b2
                        try clear c17
                        try clear c19
                        try clear c24
                        try clear c25
                        try clear c26
                        try clear c26b0
                        try clear c26b1
                        try clear c26b2
                        try clear c27
                        try clear c29
                        try clear c30
                        try clear c31
                        try clear c32
                        try clear c47
                        try clear c52
                        try clear c52b0
                        try clear c52b1
                        try clear c52b2
                        try clear c53
                        try clear c53b0
                        try clear c53b1
                        try clear c54
                        try clear c55
                        try clear c55b0
                        try clear c55b1
                        try clear c56
                        try clear c57
                        try clear c58
                        try clear c59
                        try clear c60
                        try clear c61
                        try clear c62
                        try clear c63
                        try clear c64
                        try clear c64b0
                        try clear c64b1
                        try clear c64b2
                        try clear p64
                        try clear c68
                        try clear c70
                        try clear c71
                        try clear c73
                        try clear c73b0
                        try clear c73b1
                        try clear c81
                        try clear c82
                        try clear c83
                        try clear p2
                        try clear p6
                        try clear p64
                        obtain ⟨kq, x239_75, rfl, HA, HJ75, HB⟩ := hcut
                        cases kq with
                        | zero => exact absurd HA.out (by simp [laws_FnQueensOnTori.j5])
                        | succ kj75 =>
                         have H := HA.out
                         clear HA
                         simp only [laws_FnQueensOnTori.j5] at H
                         by_cases c86 : x239_75 = true
                         ·
                          subst c86
                          have H1 : (none) = some r := by rw [if_pos rfl] at H; exact H
                          clear H
                          have H := H1
                          clear H1
                          exact absurd H (by simp)
                         ·
                          replace c86 := Bool.eq_false_iff.mpr c86
                          subst c86
                          have H1 : ((spec_DrawAreOnTorus.f kj75 l1).bind fun t1150 => ((impl_AreOnTorus.f kj75 t1150).bind fun bt1153 => ((spec_AreOnTorus.f kj75 t1150).bind fun bt1155 => (if (bt1153.2 == bt1155.2) = true then (some (bt1153.1 == bt1155.1)) else (none))))) = some r := by rw [if_neg (show ¬ (false = true) by decide)] at H; exact H
                          clear H
                          have H := H1
                          clear H1
                          replace H := Option.bind_eq_some_iff.mp H
                          obtain ⟨t1150, A870, H⟩ := H
                          replace H : ((impl_AreOnTorus.f kj75 t1150).bind fun bt1153 => ((spec_AreOnTorus.f kj75 t1150).bind fun bt1155 => (if (bt1153.2 == bt1155.2) = true then (some (bt1153.1 == bt1155.1)) else (none)))) = some r := H
                          have A87 := A_ A870
                          clear A870
                          replace H := Option.bind_eq_some_iff.mp H
                          obtain ⟨⟨t1153, t1154⟩, A880, H⟩ := H
                          replace H : ((spec_AreOnTorus.f kj75 t1150).bind fun bt1155 => (if (t1154 == bt1155.2) = true then (some (t1153 == bt1155.1)) else (none))) = some r := H
                          have A88 := A_ A880
                          clear A880
                          replace H := Option.bind_eq_some_iff.mp H
                          obtain ⟨⟨t1155, t1156⟩, A890, H⟩ := H
                          replace H : (if (t1154 == t1156) = true then (some (t1153 == t1155)) else (none)) = some r := H
                          have A89 := A_ A890
                          clear A890
                          by_cases c90 : (t1154 == t1156) = true
                          ·
                           rw [if_pos c90] at H
                           have c90b0 : (t1154 == t1156) = true := c90
                           (try (have c90b1 : decide (t1154 = t1156) = true := by simpa using c90))
                           (try (have c90b2 : (t1154 == t1156) = true := by simpa using c90))
                           clear c90
                           obtain rfl := Option.some.inj H
                           go_wp2_with (first | (refine gc_ 65 ?_; refine goesT_ (some 241) Try.func65 #[.slice A1 l1.length c1] ?_; (with_reducible refine (spec_DrawAreOnTorus.calls kj75 _ _ l1 t1150 _ ?side1 ?side2 A87.out).mono ?_); (case side1 => exact tc_ HR1.out); (case side2 => exact HC1.out); rintro e w91 ⟨v1151, rfl, ho0, hb⟩; refine ⟨_, rfl, ?_⟩; have HO1152 := A_ (Kd.R_lower ho0 (below_size tb_)); replace HB := A_ (below_step tb_ hb); (try clear hb); (try clear ho0); obtain ⟨Ao92, co92, eo92⟩ := Kd.R_slice HO1152.out; subst eo92) | (refine gc_ 57 ?_; refine goesT_ (some 244) Try.func57 #[.slice Ao92 t1150.length co92] ?_; (with_reducible refine (impl_AreOnTorus.calls kj75 _ _ t1150 t1153 t1154 _ ?side1 ?side2 A88.out).mono ?_); (case side1 => exact tc0_ (Kd.R_reads' HO1152.out).2.2); (case side2 => exact (Kd.R_reads' HO1152.out).2.1); rintro e w93 ⟨rfl, hb⟩; refine ⟨_, rfl, ?_⟩; replace HO1152 := A_ (Kd.R_below (tr_x HO1152.out) hb); replace HB := A_ (below_step tb_ hb); (try clear hb)) | (refine gc_ 66 ?_; refine goesT_ (some 249) Try.func66 #[.slice Ao92 t1150.length co92] ?_; (with_reducible refine (spec_AreOnTorus.calls kj75 _ _ t1150 t1155 t1156 _ ?side1 ?side2 A89.out).mono ?_); (case side1 => exact tc0_ (Kd.R_reads' HO1152.out).2.2); (case side2 => exact (Kd.R_reads' HO1152.out).2.1); rintro e w' ⟨rfl, ⟨nd, rfl⟩⟩; refine ⟨_, rfl, ?_⟩))
                           go_ret
                           exact ⟨te_, tb_⟩
                          ·
                           rw [if_neg c90] at H
                           exact absurd H (by simp)
                    ·
                     replace c71 := Bool.eq_false_iff.mpr c71
                     subst c71
                     have H1 : ((spec_DrawAreOnTorus.f kj68 l1).bind fun t1157 => ((impl_AreOnTorus.f kj68 t1157).bind fun bt1160 => ((spec_AreOnTorus.f kj68 t1157).bind fun bt1162 => (if (bt1160.2 == bt1162.2) = true then (some (bt1160.1 == bt1162.1)) else (none))))) = some r := by rw [if_neg (show ¬ (false = true) by decide)] at H; exact H
                     clear H
                     have H := H1
                     clear H1
                     replace H := Option.bind_eq_some_iff.mp H
                     obtain ⟨t1157, A940, H⟩ := H
                     replace H : ((impl_AreOnTorus.f kj68 t1157).bind fun bt1160 => ((spec_AreOnTorus.f kj68 t1157).bind fun bt1162 => (if (bt1160.2 == bt1162.2) = true then (some (bt1160.1 == bt1162.1)) else (none)))) = some r := H
                     have A94 := A_ A940
                     clear A940
                     replace H := Option.bind_eq_some_iff.mp H
                     obtain ⟨⟨t1160, t1161⟩, A950, H⟩ := H
                     replace H : ((spec_AreOnTorus.f kj68 t1157).bind fun bt1162 => (if (t1161 == bt1162.2) = true then (some (t1160 == bt1162.1)) else (none))) = some r := H
                     have A95 := A_ A950
                     clear A950
                     replace H := Option.bind_eq_some_iff.mp H
                     obtain ⟨⟨t1162, t1163⟩, A960, H⟩ := H
                     replace H : (if (t1161 == t1163) = true then (some (t1160 == t1162)) else (none)) = some r := H
                     have A96 := A_ A960
                     clear A960
                     by_cases c97 : (t1161 == t1163) = true
                     ·
                      rw [if_pos c97] at H
                      have c97b0 : (t1161 == t1163) = true := c97
                      (try (have c97b1 : decide (t1161 = t1163) = true := by simpa using c97))
                      (try (have c97b2 : (t1161 == t1163) = true := by simpa using c97))
                      clear c97
                      obtain rfl := Option.some.inj H
                      go_wp2_with (first | (refine gc_ 65 ?_; refine goesT_ (some 241) Try.func65 #[.slice A1 l1.length c1] ?_; (with_reducible refine (spec_DrawAreOnTorus.calls kj68 _ _ l1 t1157 _ ?side1 ?side2 A94.out).mono ?_); (case side1 => exact tc_ HR1.out); (case side2 => exact HC1.out); rintro e w98 ⟨v1158, rfl, ho0, hb⟩; refine ⟨_, rfl, ?_⟩; have HO1159 := A_ (Kd.R_lower (Kd.R_new' ho0 (Kd.R_lt (tr_x HO_27.out))) (below_size tb_)); replace HO_27 := A_ (Kd.R_elder' (tr_x HO_27.out) (Kd.R_base ho0) hb); replace HB := A_ (below_step tb_ hb); (try clear hb); (try clear ho0); obtain ⟨Ao99, co99, eo99⟩ := Kd.R_slice HO1159.out; subst eo99) | (refine gc_ 57 ?_; refine goesT_ (some 244) Try.func57 #[.slice Ao99 t1157.length co99] ?_; (with_reducible refine (impl_AreOnTorus.calls kj68 _ _ t1157 t1160 t1161 _ ?side1 ?side2 A95.out).mono ?_); (case side1 => exact tc0_ (Kd.R_reads' HO1159.out).2.2); (case side2 => exact (Kd.R_reads' HO1159.out).2.1); rintro e w100 ⟨rfl, hb⟩; refine ⟨_, rfl, ?_⟩; replace HO_27 := A_ (Kd.R_below (tr_x HO_27.out) hb); replace HO1159 := A_ (Kd.R_below (tr_x HO1159.out) hb); replace HB := A_ (below_step tb_ hb); (try clear hb)) | (refine gc_ 66 ?_; refine goesT_ (some 249) Try.func66 #[.slice Ao99 t1157.length co99] ?_; (with_reducible refine (spec_AreOnTorus.calls kj68 _ _ t1157 t1162 t1163 _ ?side1 ?side2 A96.out).mono ?_); (case side1 => exact tc0_ (Kd.R_reads' HO1159.out).2.2); (case side2 => exact (Kd.R_reads' HO1159.out).2.1); rintro e w' ⟨rfl, ⟨nd, rfl⟩⟩; refine ⟨_, rfl, ?_⟩))
                      go_ret
                      exact ⟨te_, tb_⟩
                     ·
                      rw [if_neg c97] at H
                      exact absurd H (by simp)
     
/-- THE ONE PURE STATEMENT of laws_FnQueensOnTori: yours. -/
def laws_FnQueensOnTori.Pure : Prop := ∀ (l0 : List Int) (l1 : List Int), l0.length ≤ maxLen → l0.length * 1 ≤ 140737488351232 → (∀ x ∈ l0, (Lit.int .u8 x).wf = true) → l1.length ≤ maxLen → l1.length * 1 ≤ 140737488351232 → (∀ x ∈ l1, (Lit.int .u8 x).wf = true) → ∃ k, laws_FnQueensOnTori.f k l0 l1 = some true
theorem laws_FnQueensOnTori.walk (P : laws_FnQueensOnTori.Pure) (a0 : Option Addr) (len0 cap0 : Nat) (z0 : List Int) (a1 : Option Addr) (len1 cap1 : Nat) (z1 : List Int) (w : World) (w0 : (a0 = none ∧ len0 = 0 ∧ cap0 = 0 ∧ z0 = []) ∨ ∃ x, a0 = some x ∧ len0 ≤ cap0 ∧ cap0 ≤ maxLen ∧ z0.length = cap0 ∧ (∀ i, i < z0.length → w.cell? (x.add i) = some (.int .u8 (z0.getD i 0))) ∧ ∀ n ∈ z0, (Lit.int .u8 n).wf = true) (y0 : len0 * 1 ≤ 140737488351232) (w1 : (a1 = none ∧ len1 = 0 ∧ cap1 = 0 ∧ z1 = []) ∨ ∃ x, a1 = some x ∧ len1 ≤ cap1 ∧ cap1 ≤ maxLen ∧ z1.length = cap1 ∧ (∀ i, i < z1.length → w.cell? (x.add i) = some (.int .u8 (z1.getD i 0))) ∧ ∀ n ∈ z1, (Lit.int .u8 n).wf = true) (y1 : len1 * 1 ≤ 140737488351232) :
  Calls Try.prog 12 #[.slice a0 len0 cap0, .slice a1 len1 cap1] w fun e w' => e = .returned (.bool true) ∧ Below w.heap.size w w' := by
 obtain ⟨l0, rfl, hr0, hm0, hw0, hc0⟩ := ReadsInt.ofRowC w0
 obtain ⟨l1, rfl, hr1, hm1, hw1, hc1⟩ := ReadsInt.ofRowC w1
 obtain ⟨k, h⟩ := P l0 l1 hm0 y0 hw0 hm1 y1 hw1
 refine (laws_FnQueensOnTori.calls k _ _ l0 _ _ l1 true w (Kd.C_of_reads (d := (0 : Int)) (h1 := fun _ => rfl) hr0) hc0 (Kd.C_of_reads (d := (0 : Int)) (h1 := fun _ => rfl) hr1) hc1 h).mono ?_
 rintro e w' ⟨rfl, hd⟩
 exact ⟨rfl, hd⟩

end
end Go.Proofs.Ytnpacpdpgngdpaa.P
