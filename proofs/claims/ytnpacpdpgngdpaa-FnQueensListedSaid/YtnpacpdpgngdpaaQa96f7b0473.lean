-- printed functions (wip/slim.py)
import Derived.Test.YtnpacpdpgngdpaaPx0
import Derived.Test.YtnpacpdpgngdpaaQb3e74b462c
import Derived.Test.YtnpacpdpgngdpaaQ9aa0533272
import Derived.Test.YtnpacpdpgngdpaaQc0c3f4387e
namespace Go.Proofs.Ytnpacpdpgngdpaa.P
noncomputable section
set_option maxHeartbeats 8000000
set_option maxRecDepth 100000
open Go.RowKit Go.Proofs.YtnpacpdpgngdpaaW.PrintWords Go.Proofs.YtnpacpdpgngdpaaW.PrintLast Go.Proofs.YtnpacpdpgngdpaaW.PrintMore
attribute [local go_sem] max2_int min2_int max_two min_two max_three min_three max_four min_four   -- for this text's walks alone
set_option linter.unusedVariables false
set_option linter.unusedSimpArgs false

/-! ### laws_FnQueensListed: function 13 -/
mutual
def laws_FnQueensListed.j0 : Nat → List Int → Int → List (List Int) → Bool → Int → List Int → Bool → Bool → Option (Bool)
 | 0, _, _, _, _, _, _, _, _ => none
 | k + 1, x1, x5, x6, x7, x10, x14, x15, x108 => if x108 = true then (none) else (if x7 = true then (laws_FnQueensListed.l0 k x1 x5 x6 x10 x14 x15 0 0) else (laws_FnQueensListed.j4 k x1))
def laws_FnQueensListed.j4 : Nat → List Int → Option (Bool)
 | 0, _ => none
 | k + 1, x1 => (spec_DrawCountGoingOn.f k x1).bind fun bt1320 => ((impl_CountGoingOn.f k bt1320.1 bt1320.2).bind fun bt1324 => ((spec_CountGoingOn.f k bt1320.1 bt1320.2).bind fun bt1326 => ((spec_DrawAttacksOf.f k x1).bind fun t1328 => ((impl_AttacksOf.f k t1328).bind fun bt1331 => ((spec_AttacksOf.f k t1328).bind fun bt1335 => ((impl_AreQueens.f k t1328).bind fun bt1339 => (if (bt1324.2 == bt1326.2) = true then (if bt1324.1 = bt1326.1 then (if (bt1331.2 == bt1335.2) = true then ((laws_kRows.f k bt1331.1 bt1335.1).bind fun t1341 => (if t1341 = true then (if (bt1339.2 == bt1331.2) = true then (if bt1339.2 = true then (some (bt1339.1 == ((bt1331.1.length : Int) == 0))) else (some (bt1339.1 == false))) else (none)) else (none))) else (none)) else (none)) else (none))))))))
def laws_FnQueensListed.l0 : Nat → List Int → Int → List (List Int) → Int → List Int → Bool → Int → Int → Option (Bool)
 | 0, _, _, _, _, _, _, _, _ => none
 | k + 1, x1, x5, x6, x10, x14, x15, x18, x19 => if x19 < x5 then ((impl_CountGoingOn.f k x5 (([x19] : List Int))).bind fun bt1311 => (if bt1311.2 = true then (laws_FnQueensListed.l0 k x1 x5 x6 x10 x14 x15 (wrap64 (x18 + bt1311.1)) (wrap64 (x19 + 1))) else (none))) else (if (x6.length : Int) = x10 then (if x18 = x10 then (if (x15 != (decide (x10 > 0))) = true then (none) else (if x15 = true then (if 0 < (x6.length : Int) then ((laws_kSame.f k x14 (rd_L1 x6 0)).bind fun t1314 => (if t1314 = true then (if x5 = 2 then (laws_FnQueensListed.j2 k x1 x6 (x15 != false)) else (laws_FnQueensListed.j2 k x1 x6 (x15 != (x5 != 3)))) else (none))) else (none)) else (if x5 = 2 then (laws_FnQueensListed.j2 k x1 x6 (x15 != false)) else (laws_FnQueensListed.j2 k x1 x6 (x15 != (x5 != 3)))))) else (none)) else (none))
def laws_FnQueensListed.j2 : Nat → List Int → List (List Int) → Bool → Option (Bool)
 | 0, _, _, _ => none
 | k + 1, x1, x6, x162 => if x162 = true then (none) else (laws_FnQueensListed.l1 k x1 x6 x6 (x6.length : Int) 0)
def laws_FnQueensListed.l1 : Nat → List Int → List (List Int) → List (List Int) → Int → Int → Option (Bool)
 | 0, _, _, _, _, _ => none
 | k + 1, x1, x6, x163, x164, x165 => if x165 < x164 then (if 0 ≤ x165 then (if x165 < (x163.length : Int) then ((impl_AreQueens.f k (rd_L1 x163 x165)).bind fun bt1316 => (if bt1316.2 = true then (if bt1316.1 = true then (if x165 > 0 then (if 0 ≤ (wrap64 (x165 - 1)) then (if (wrap64 (x165 - 1)) < (x6.length : Int) then ((laws_kLess.f k (rd_L1 x6 (wrap64 (x165 - 1))) (rd_L1 x163 x165)).bind fun t1319 => (if t1319 = true then (laws_FnQueensListed.l1 k x1 x6 x163 x164 (wrap64 (x165 + 1))) else (none))) else (none)) else (none)) else (laws_FnQueensListed.l1 k x1 x6 x163 x164 (wrap64 (x165 + 1)))) else (none)) else (none))) else (none)) else (none)) else (laws_FnQueensListed.j4 k x1)
end
def laws_FnQueensListed.f (k : Nat) (l0 : List Int) (l1 : List Int) : Option (Bool) := (laws_big.f l0 l1).bind fun t1284 => (if t1284 = true then (some true) else ((spec_DrawAllQueens.f l0).bind fun t1285 => ((impl_AllQueens.f k t1285).bind fun bt1286 => ((spec_AllQueens.f k t1285).bind fun bt1290 => ((impl_CountQueens.f k t1285).bind fun bt1294 => ((spec_CountQueens.f k t1285).bind fun bt1296 => ((impl_FirstQueens.f k t1285).bind fun bt1298 => ((spec_FirstQueens.f k t1285).bind fun bt1302 => (if (bt1286.2 != bt1290.2) = true then (none) else ((laws_kRows.f k bt1286.1 bt1290.1).bind fun t1306 => (if t1306 = true then (if (bt1294.2 != bt1296.2) = true then (none) else (if bt1294.1 = bt1296.1 then (if (bt1298.2 != bt1302.2) = true then (none) else ((laws_kSame.f k bt1298.1 bt1302.1).bind fun t1307 => (if t1307 = true then (laws_FnQueensListed.j0 k l1 t1285 bt1286.1 bt1286.2 bt1294.1 bt1298.1 bt1298.2 (bt1294.2 != bt1286.2)) else (none)))) else (none))) else (none))))))))))))
theorem laws_FnQueensListed.mono_l : ∀ k, (∀ y0 y1 y2 y3 y4 y5 y6 y7, LeO (laws_FnQueensListed.j0 k y0 y1 y2 y3 y4 y5 y6 y7) (laws_FnQueensListed.j0 (k + 1) y0 y1 y2 y3 y4 y5 y6 y7)) ∧ (∀ y0, LeO (laws_FnQueensListed.j4 k y0) (laws_FnQueensListed.j4 (k + 1) y0)) ∧ (∀ y0 y1 y2 y3 y4 y5 y6 y7, LeO (laws_FnQueensListed.l0 k y0 y1 y2 y3 y4 y5 y6 y7) (laws_FnQueensListed.l0 (k + 1) y0 y1 y2 y3 y4 y5 y6 y7)) ∧ (∀ y0 y1 y2, LeO (laws_FnQueensListed.j2 k y0 y1 y2) (laws_FnQueensListed.j2 (k + 1) y0 y1 y2)) ∧ (∀ y0 y1 y2 y3 y4, LeO (laws_FnQueensListed.l1 k y0 y1 y2 y3 y4) (laws_FnQueensListed.l1 (k + 1) y0 y1 y2 y3 y4))
 | 0 => ⟨fun _ _ _ _ _ _ _ _ r h => by simp [laws_FnQueensListed.j0] at h, fun _ r h => by simp [laws_FnQueensListed.j4] at h, fun _ _ _ _ _ _ _ _ r h => by simp [laws_FnQueensListed.l0] at h, fun _ _ _ r h => by simp [laws_FnQueensListed.j2] at h, fun _ _ _ _ _ r h => by simp [laws_FnQueensListed.l1] at h⟩
 | k + 1 => by
  obtain ⟨ih0, ih1, ih2, ih3, ih4⟩ := laws_FnQueensListed.mono_l k
  refine ⟨?_, ?_, ?_, ?_, ?_⟩
  ·
   intro y0 y1 y2 y3 y4 y5 y6 y7
   unfold laws_FnQueensListed.j0
   repeat' first | (with_reducible first | exact ih0 _ _ _ _ _ _ _ _ | exact ih1 _ | exact ih2 _ _ _ _ _ _ _ _ | exact ih3 _ _ _ | exact ih4 _ _ _ _ _ | exact impl_AllQueens.mono _ _ | exact impl_AreQueens.mono _ _ | exact impl_AttacksOf.mono _ _ | exact impl_CountGoingOn.mono _ _ _ | exact impl_CountQueens.mono _ _ | exact impl_FirstQueens.mono _ _ | exact laws_kLess.mono _ _ _ | exact laws_kRows.mono _ _ _ | exact laws_kSame.mono _ _ _ | exact spec_AllQueens.mono _ _ | exact spec_AttacksOf.mono _ _ | exact spec_CountGoingOn.mono _ _ _ | exact spec_CountQueens.mono _ _ | exact spec_DrawAttacksOf.mono _ _ | exact spec_DrawCountGoingOn.mono _ _ | exact spec_FirstQueens.mono _ _ | exact LeO.refl _ | exact LeO.none _ | refine LeO.ite ?_ ?_ | refine LeO.bind ?_ (fun _ => ?_)) | exact ih0 _ _ _ _ _ _ _ _ | exact ih1 _ | exact ih2 _ _ _ _ _ _ _ _ | exact ih3 _ _ _ | exact ih4 _ _ _ _ _ | exact impl_AllQueens.mono _ _ | exact impl_AreQueens.mono _ _ | exact impl_AttacksOf.mono _ _ | exact impl_CountGoingOn.mono _ _ _ | exact impl_CountQueens.mono _ _ | exact impl_FirstQueens.mono _ _ | exact laws_kLess.mono _ _ _ | exact laws_kRows.mono _ _ _ | exact laws_kSame.mono _ _ _ | exact spec_AllQueens.mono _ _ | exact spec_AttacksOf.mono _ _ | exact spec_CountGoingOn.mono _ _ _ | exact spec_CountQueens.mono _ _ | exact spec_DrawAttacksOf.mono _ _ | exact spec_DrawCountGoingOn.mono _ _ | exact spec_FirstQueens.mono _ _ | exact LeO.none _ | refine LeO.ite ?_ ?_ | refine LeO.bind ?_ (fun _ => ?_)
  ·
   intro y0
   unfold laws_FnQueensListed.j4
   repeat' first | (with_reducible first | exact ih0 _ _ _ _ _ _ _ _ | exact ih1 _ | exact ih2 _ _ _ _ _ _ _ _ | exact ih3 _ _ _ | exact ih4 _ _ _ _ _ | exact impl_AllQueens.mono _ _ | exact impl_AreQueens.mono _ _ | exact impl_AttacksOf.mono _ _ | exact impl_CountGoingOn.mono _ _ _ | exact impl_CountQueens.mono _ _ | exact impl_FirstQueens.mono _ _ | exact laws_kLess.mono _ _ _ | exact laws_kRows.mono _ _ _ | exact laws_kSame.mono _ _ _ | exact spec_AllQueens.mono _ _ | exact spec_AttacksOf.mono _ _ | exact spec_CountGoingOn.mono _ _ _ | exact spec_CountQueens.mono _ _ | exact spec_DrawAttacksOf.mono _ _ | exact spec_DrawCountGoingOn.mono _ _ | exact spec_FirstQueens.mono _ _ | exact LeO.refl _ | exact LeO.none _ | refine LeO.ite ?_ ?_ | refine LeO.bind ?_ (fun _ => ?_)) | exact ih0 _ _ _ _ _ _ _ _ | exact ih1 _ | exact ih2 _ _ _ _ _ _ _ _ | exact ih3 _ _ _ | exact ih4 _ _ _ _ _ | exact impl_AllQueens.mono _ _ | exact impl_AreQueens.mono _ _ | exact impl_AttacksOf.mono _ _ | exact impl_CountGoingOn.mono _ _ _ | exact impl_CountQueens.mono _ _ | exact impl_FirstQueens.mono _ _ | exact laws_kLess.mono _ _ _ | exact laws_kRows.mono _ _ _ | exact laws_kSame.mono _ _ _ | exact spec_AllQueens.mono _ _ | exact spec_AttacksOf.mono _ _ | exact spec_CountGoingOn.mono _ _ _ | exact spec_CountQueens.mono _ _ | exact spec_DrawAttacksOf.mono _ _ | exact spec_DrawCountGoingOn.mono _ _ | exact spec_FirstQueens.mono _ _ | exact LeO.none _ | refine LeO.ite ?_ ?_ | refine LeO.bind ?_ (fun _ => ?_)
  ·
   intro y0 y1 y2 y3 y4 y5 y6 y7
   unfold laws_FnQueensListed.l0
   repeat' first | (with_reducible first | exact ih0 _ _ _ _ _ _ _ _ | exact ih1 _ | exact ih2 _ _ _ _ _ _ _ _ | exact ih3 _ _ _ | exact ih4 _ _ _ _ _ | exact impl_AllQueens.mono _ _ | exact impl_AreQueens.mono _ _ | exact impl_AttacksOf.mono _ _ | exact impl_CountGoingOn.mono _ _ _ | exact impl_CountQueens.mono _ _ | exact impl_FirstQueens.mono _ _ | exact laws_kLess.mono _ _ _ | exact laws_kRows.mono _ _ _ | exact laws_kSame.mono _ _ _ | exact spec_AllQueens.mono _ _ | exact spec_AttacksOf.mono _ _ | exact spec_CountGoingOn.mono _ _ _ | exact spec_CountQueens.mono _ _ | exact spec_DrawAttacksOf.mono _ _ | exact spec_DrawCountGoingOn.mono _ _ | exact spec_FirstQueens.mono _ _ | exact LeO.refl _ | exact LeO.none _ | refine LeO.ite ?_ ?_ | refine LeO.bind ?_ (fun _ => ?_)) | exact ih0 _ _ _ _ _ _ _ _ | exact ih1 _ | exact ih2 _ _ _ _ _ _ _ _ | exact ih3 _ _ _ | exact ih4 _ _ _ _ _ | exact impl_AllQueens.mono _ _ | exact impl_AreQueens.mono _ _ | exact impl_AttacksOf.mono _ _ | exact impl_CountGoingOn.mono _ _ _ | exact impl_CountQueens.mono _ _ | exact impl_FirstQueens.mono _ _ | exact laws_kLess.mono _ _ _ | exact laws_kRows.mono _ _ _ | exact laws_kSame.mono _ _ _ | exact spec_AllQueens.mono _ _ | exact spec_AttacksOf.mono _ _ | exact spec_CountGoingOn.mono _ _ _ | exact spec_CountQueens.mono _ _ | exact spec_DrawAttacksOf.mono _ _ | exact spec_DrawCountGoingOn.mono _ _ | exact spec_FirstQueens.mono _ _ | exact LeO.none _ | refine LeO.ite ?_ ?_ | refine LeO.bind ?_ (fun _ => ?_)
  ·
   intro y0 y1 y2
   unfold laws_FnQueensListed.j2
   repeat' first | (with_reducible first | exact ih0 _ _ _ _ _ _ _ _ | exact ih1 _ | exact ih2 _ _ _ _ _ _ _ _ | exact ih3 _ _ _ | exact ih4 _ _ _ _ _ | exact impl_AllQueens.mono _ _ | exact impl_AreQueens.mono _ _ | exact impl_AttacksOf.mono _ _ | exact impl_CountGoingOn.mono _ _ _ | exact impl_CountQueens.mono _ _ | exact impl_FirstQueens.mono _ _ | exact laws_kLess.mono _ _ _ | exact laws_kRows.mono _ _ _ | exact laws_kSame.mono _ _ _ | exact spec_AllQueens.mono _ _ | exact spec_AttacksOf.mono _ _ | exact spec_CountGoingOn.mono _ _ _ | exact spec_CountQueens.mono _ _ | exact spec_DrawAttacksOf.mono _ _ | exact spec_DrawCountGoingOn.mono _ _ | exact spec_FirstQueens.mono _ _ | exact LeO.refl _ | exact LeO.none _ | refine LeO.ite ?_ ?_ | refine LeO.bind ?_ (fun _ => ?_)) | exact ih0 _ _ _ _ _ _ _ _ | exact ih1 _ | exact ih2 _ _ _ _ _ _ _ _ | exact ih3 _ _ _ | exact ih4 _ _ _ _ _ | exact impl_AllQueens.mono _ _ | exact impl_AreQueens.mono _ _ | exact impl_AttacksOf.mono _ _ | exact impl_CountGoingOn.mono _ _ _ | exact impl_CountQueens.mono _ _ | exact impl_FirstQueens.mono _ _ | exact laws_kLess.mono _ _ _ | exact laws_kRows.mono _ _ _ | exact laws_kSame.mono _ _ _ | exact spec_AllQueens.mono _ _ | exact spec_AttacksOf.mono _ _ | exact spec_CountGoingOn.mono _ _ _ | exact spec_CountQueens.mono _ _ | exact spec_DrawAttacksOf.mono _ _ | exact spec_DrawCountGoingOn.mono _ _ | exact spec_FirstQueens.mono _ _ | exact LeO.none _ | refine LeO.ite ?_ ?_ | refine LeO.bind ?_ (fun _ => ?_)
  ·
   intro y0 y1 y2 y3 y4
   unfold laws_FnQueensListed.l1
   repeat' first | (with_reducible first | exact ih0 _ _ _ _ _ _ _ _ | exact ih1 _ | exact ih2 _ _ _ _ _ _ _ _ | exact ih3 _ _ _ | exact ih4 _ _ _ _ _ | exact impl_AllQueens.mono _ _ | exact impl_AreQueens.mono _ _ | exact impl_AttacksOf.mono _ _ | exact impl_CountGoingOn.mono _ _ _ | exact impl_CountQueens.mono _ _ | exact impl_FirstQueens.mono _ _ | exact laws_kLess.mono _ _ _ | exact laws_kRows.mono _ _ _ | exact laws_kSame.mono _ _ _ | exact spec_AllQueens.mono _ _ | exact spec_AttacksOf.mono _ _ | exact spec_CountGoingOn.mono _ _ _ | exact spec_CountQueens.mono _ _ | exact spec_DrawAttacksOf.mono _ _ | exact spec_DrawCountGoingOn.mono _ _ | exact spec_FirstQueens.mono _ _ | exact LeO.refl _ | exact LeO.none _ | refine LeO.ite ?_ ?_ | refine LeO.bind ?_ (fun _ => ?_)) | exact ih0 _ _ _ _ _ _ _ _ | exact ih1 _ | exact ih2 _ _ _ _ _ _ _ _ | exact ih3 _ _ _ | exact ih4 _ _ _ _ _ | exact impl_AllQueens.mono _ _ | exact impl_AreQueens.mono _ _ | exact impl_AttacksOf.mono _ _ | exact impl_CountGoingOn.mono _ _ _ | exact impl_CountQueens.mono _ _ | exact impl_FirstQueens.mono _ _ | exact laws_kLess.mono _ _ _ | exact laws_kRows.mono _ _ _ | exact laws_kSame.mono _ _ _ | exact spec_AllQueens.mono _ _ | exact spec_AttacksOf.mono _ _ | exact spec_CountGoingOn.mono _ _ _ | exact spec_CountQueens.mono _ _ | exact spec_DrawAttacksOf.mono _ _ | exact spec_DrawCountGoingOn.mono _ _ | exact spec_FirstQueens.mono _ _ | exact LeO.none _ | refine LeO.ite ?_ ?_ | refine LeO.bind ?_ (fun _ => ?_)
theorem laws_FnQueensListed.mono : ∀ a0 a1 k, LeO (laws_FnQueensListed.f k a0 a1) (laws_FnQueensListed.f (k + 1) a0 a1) := by
 intro a0 a1 k
 obtain ⟨ih0, ih1, ih2, ih3, ih4⟩ := laws_FnQueensListed.mono_l k
 unfold laws_FnQueensListed.f
 repeat' first | (with_reducible first | exact ih0 _ _ _ _ _ _ _ _ | exact ih1 _ | exact ih2 _ _ _ _ _ _ _ _ | exact ih3 _ _ _ | exact ih4 _ _ _ _ _ | exact impl_AllQueens.mono _ _ | exact impl_AreQueens.mono _ _ | exact impl_AttacksOf.mono _ _ | exact impl_CountGoingOn.mono _ _ _ | exact impl_CountQueens.mono _ _ | exact impl_FirstQueens.mono _ _ | exact laws_kLess.mono _ _ _ | exact laws_kRows.mono _ _ _ | exact laws_kSame.mono _ _ _ | exact spec_AllQueens.mono _ _ | exact spec_AttacksOf.mono _ _ | exact spec_CountGoingOn.mono _ _ _ | exact spec_CountQueens.mono _ _ | exact spec_DrawAttacksOf.mono _ _ | exact spec_DrawCountGoingOn.mono _ _ | exact spec_FirstQueens.mono _ _ | exact LeO.refl _ | exact LeO.none _ | refine LeO.ite ?_ ?_ | refine LeO.bind ?_ (fun _ => ?_)) | exact ih0 _ _ _ _ _ _ _ _ | exact ih1 _ | exact ih2 _ _ _ _ _ _ _ _ | exact ih3 _ _ _ | exact ih4 _ _ _ _ _ | exact impl_AllQueens.mono _ _ | exact impl_AreQueens.mono _ _ | exact impl_AttacksOf.mono _ _ | exact impl_CountGoingOn.mono _ _ _ | exact impl_CountQueens.mono _ _ | exact impl_FirstQueens.mono _ _ | exact laws_kLess.mono _ _ _ | exact laws_kRows.mono _ _ _ | exact laws_kSame.mono _ _ _ | exact spec_AllQueens.mono _ _ | exact spec_AttacksOf.mono _ _ | exact spec_CountGoingOn.mono _ _ _ | exact spec_CountQueens.mono _ _ | exact spec_DrawAttacksOf.mono _ _ | exact spec_DrawCountGoingOn.mono _ _ | exact spec_FirstQueens.mono _ _ | exact LeO.none _ | refine LeO.ite ?_ ?_ | refine LeO.bind ?_ (fun _ => ?_)
theorem laws_FnQueensListed.calls (k : Nat) (A0 : Option Addr) (c0 : Nat) (l0 : List Int) (A1 : Option Addr) (c1 : Nat) (l1 : List Int) (r : Bool) (w : World) (hr0 : Kd.C (Kd.int .u8) w A0 l0.length l0) (hc0 : l0.length ≤ c0) (hr1 : Kd.C (Kd.int .u8) w A1 l1.length l1) (hc1 : l1.length ≤ c1) (h : laws_FnQueensListed.f k l0 l1 = some r) :
  Calls Try.prog 13 #[.slice A0 l0.length c0, .slice A1 l1.length c1] w fun e w' => e = .returned (.bool r) ∧ Below w.heap.size w w' := by
 have HR0 := A_ hr0
 have HC0 := A_ hc0
 clear hr0 hc0
 have HR1 := A_ hr1
 have HC1 := A_ hc1
 clear hr1 hc1
 have HB := A_ (Below.refl w.heap.size w)
 have H : ((laws_big.f l0 l1).bind fun t1284 => (if t1284 = true then (some true) else ((spec_DrawAllQueens.f l0).bind fun t1285 => ((impl_AllQueens.f k t1285).bind fun bt1286 => ((spec_AllQueens.f k t1285).bind fun bt1290 => ((impl_CountQueens.f k t1285).bind fun bt1294 => ((spec_CountQueens.f k t1285).bind fun bt1296 => ((impl_FirstQueens.f k t1285).bind fun bt1298 => ((spec_FirstQueens.f k t1285).bind fun bt1302 => (if (bt1286.2 != bt1290.2) = true then (none) else ((laws_kRows.f k bt1286.1 bt1290.1).bind fun t1306 => (if t1306 = true then (if (bt1294.2 != bt1296.2) = true then (none) else (if bt1294.1 = bt1296.1 then (if (bt1298.2 != bt1302.2) = true then (none) else ((laws_kSame.f k bt1298.1 bt1302.1).bind fun t1307 => (if t1307 = true then (laws_FnQueensListed.j0 k l1 t1285 bt1286.1 bt1286.2 bt1294.1 bt1298.1 bt1298.2 (bt1294.2 != bt1286.2)) else (none)))) else (none))) else (none))))))))))))) = some r := h
 clear h
 replace H := Option.bind_eq_some_iff.mp H
 obtain ⟨t1284, A30, H⟩ := H
 replace H : (if t1284 = true then (some true) else ((spec_DrawAllQueens.f l0).bind fun t1285 => ((impl_AllQueens.f k t1285).bind fun bt1286 => ((spec_AllQueens.f k t1285).bind fun bt1290 => ((impl_CountQueens.f k t1285).bind fun bt1294 => ((spec_CountQueens.f k t1285).bind fun bt1296 => ((impl_FirstQueens.f k t1285).bind fun bt1298 => ((spec_FirstQueens.f k t1285).bind fun bt1302 => (if (bt1286.2 != bt1290.2) = true then (none) else ((laws_kRows.f k bt1286.1 bt1290.1).bind fun t1306 => (if t1306 = true then (if (bt1294.2 != bt1296.2) = true then (none) else (if bt1294.1 = bt1296.1 then (if (bt1298.2 != bt1302.2) = true then (none) else ((laws_kSame.f k bt1298.1 bt1302.1).bind fun t1307 => (if t1307 = true then (laws_FnQueensListed.j0 k l1 t1285 bt1286.1 bt1286.2 bt1294.1 bt1298.1 bt1298.2 (bt1294.2 != bt1286.2)) else (none)))) else (none))) else (none)))))))))))) = some r := H
 have A3 := A_ A30
 clear A30
 by_cases c4 : t1284 = true
 ·
  subst c4
  have H1 : (some true) = some r := by rw [if_pos rfl] at H; exact H
  clear H
  have H := H1
  clear H1
  obtain rfl := Option.some.inj H
  go_enter Try.func13, Try.ntmps13
  go_wp2_with (first | (refine gc_ 47 ?_; refine goesT_ (some 41) Try.func47 #[.slice A0 l0.length c0, .slice A1 l1.length c1] ?_; (with_reducible refine (laws_big.calls _ _ l0 _ _ l1 true _ ?side1 ?side2 ?side3 ?side4 A3.out).mono ?_); (case side1 => exact tc0_ HR0.out); (case side2 => exact HC0.out); (case side3 => exact tc0_ HR1.out); (case side4 => exact HC1.out); rintro e w' ⟨rfl, ⟨nd, rfl⟩⟩; refine ⟨_, rfl, ?_⟩))
  go_ret
  exact ⟨te_, tb_⟩
 ·
  replace c4 := Bool.eq_false_iff.mpr c4
  subst c4
  have H1 : ((spec_DrawAllQueens.f l0).bind fun t1285 => ((impl_AllQueens.f k t1285).bind fun bt1286 => ((spec_AllQueens.f k t1285).bind fun bt1290 => ((impl_CountQueens.f k t1285).bind fun bt1294 => ((spec_CountQueens.f k t1285).bind fun bt1296 => ((impl_FirstQueens.f k t1285).bind fun bt1298 => ((spec_FirstQueens.f k t1285).bind fun bt1302 => (if (bt1286.2 != bt1290.2) = true then (none) else ((laws_kRows.f k bt1286.1 bt1290.1).bind fun t1306 => (if t1306 = true then (if (bt1294.2 != bt1296.2) = true then (none) else (if bt1294.1 = bt1296.1 then (if (bt1298.2 != bt1302.2) = true then (none) else ((laws_kSame.f k bt1298.1 bt1302.1).bind fun t1307 => (if t1307 = true then (laws_FnQueensListed.j0 k l1 t1285 bt1286.1 bt1286.2 bt1294.1 bt1298.1 bt1298.2 (bt1294.2 != bt1286.2)) else (none)))) else (none))) else (none))))))))))) = some r := by rw [if_neg (show ¬ (false = true) by decide)] at H; exact H
  clear H
  have H := H1
  clear H1
  replace H := Option.bind_eq_some_iff.mp H
  obtain ⟨t1285, A50, H⟩ := H
  replace H : ((impl_AllQueens.f k t1285).bind fun bt1286 => ((spec_AllQueens.f k t1285).bind fun bt1290 => ((impl_CountQueens.f k t1285).bind fun bt1294 => ((spec_CountQueens.f k t1285).bind fun bt1296 => ((impl_FirstQueens.f k t1285).bind fun bt1298 => ((spec_FirstQueens.f k t1285).bind fun bt1302 => (if (bt1286.2 != bt1290.2) = true then (none) else ((laws_kRows.f k bt1286.1 bt1290.1).bind fun t1306 => (if t1306 = true then (if (bt1294.2 != bt1296.2) = true then (none) else (if bt1294.1 = bt1296.1 then (if (bt1298.2 != bt1302.2) = true then (none) else ((laws_kSame.f k bt1298.1 bt1302.1).bind fun t1307 => (if t1307 = true then (laws_FnQueensListed.j0 k l1 t1285 bt1286.1 bt1286.2 bt1294.1 bt1298.1 bt1298.2 (bt1294.2 != bt1286.2)) else (none)))) else (none))) else (none)))))))))) = some r := H
  have A5 := A_ A50
  clear A50
  replace H := Option.bind_eq_some_iff.mp H
  obtain ⟨⟨t1286, t1287⟩, A60, H⟩ := H
  replace H : ((spec_AllQueens.f k t1285).bind fun bt1290 => ((impl_CountQueens.f k t1285).bind fun bt1294 => ((spec_CountQueens.f k t1285).bind fun bt1296 => ((impl_FirstQueens.f k t1285).bind fun bt1298 => ((spec_FirstQueens.f k t1285).bind fun bt1302 => (if (t1287 != bt1290.2) = true then (none) else ((laws_kRows.f k t1286 bt1290.1).bind fun t1306 => (if t1306 = true then (if (bt1294.2 != bt1296.2) = true then (none) else (if bt1294.1 = bt1296.1 then (if (bt1298.2 != bt1302.2) = true then (none) else ((laws_kSame.f k bt1298.1 bt1302.1).bind fun t1307 => (if t1307 = true then (laws_FnQueensListed.j0 k l1 t1285 t1286 t1287 bt1294.1 bt1298.1 bt1298.2 (bt1294.2 != t1287)) else (none)))) else (none))) else (none))))))))) = some r := H
  have A6 := A_ A60
  clear A60
  replace H := Option.bind_eq_some_iff.mp H
  obtain ⟨⟨t1290, t1293⟩, A70, H⟩ := H
  replace H : ((impl_CountQueens.f k t1285).bind fun bt1294 => ((spec_CountQueens.f k t1285).bind fun bt1296 => ((impl_FirstQueens.f k t1285).bind fun bt1298 => ((spec_FirstQueens.f k t1285).bind fun bt1302 => (if (t1287 != t1293) = true then (none) else ((laws_kRows.f k t1286 t1290).bind fun t1306 => (if t1306 = true then (if (bt1294.2 != bt1296.2) = true then (none) else (if bt1294.1 = bt1296.1 then (if (bt1298.2 != bt1302.2) = true then (none) else ((laws_kSame.f k bt1298.1 bt1302.1).bind fun t1307 => (if t1307 = true then (laws_FnQueensListed.j0 k l1 t1285 t1286 t1287 bt1294.1 bt1298.1 bt1298.2 (bt1294.2 != t1287)) else (none)))) else (none))) else (none)))))))) = some r := H
  have A7 := A_ A70
  clear A70
  replace H := Option.bind_eq_some_iff.mp H
  obtain ⟨⟨t1294, t1295⟩, A80, H⟩ := H
  replace H : ((spec_CountQueens.f k t1285).bind fun bt1296 => ((impl_FirstQueens.f k t1285).bind fun bt1298 => ((spec_FirstQueens.f k t1285).bind fun bt1302 => (if (t1287 != t1293) = true then (none) else ((laws_kRows.f k t1286 t1290).bind fun t1306 => (if t1306 = true then (if (t1295 != bt1296.2) = true then (none) else (if t1294 = bt1296.1 then (if (bt1298.2 != bt1302.2) = true then (none) else ((laws_kSame.f k bt1298.1 bt1302.1).bind fun t1307 => (if t1307 = true then (laws_FnQueensListed.j0 k l1 t1285 t1286 t1287 t1294 bt1298.1 bt1298.2 (t1295 != t1287)) else (none)))) else (none))) else (none))))))) = some r := H
  have A8 := A_ A80
  clear A80
  replace H := Option.bind_eq_some_iff.mp H
  obtain ⟨⟨t1296, t1297⟩, A90, H⟩ := H
  replace H : ((impl_FirstQueens.f k t1285).bind fun bt1298 => ((spec_FirstQueens.f k t1285).bind fun bt1302 => (if (t1287 != t1293) = true then (none) else ((laws_kRows.f k t1286 t1290).bind fun t1306 => (if t1306 = true then (if (t1295 != t1297) = true then (none) else (if t1294 = t1296 then (if (bt1298.2 != bt1302.2) = true then (none) else ((laws_kSame.f k bt1298.1 bt1302.1).bind fun t1307 => (if t1307 = true then (laws_FnQueensListed.j0 k l1 t1285 t1286 t1287 t1294 bt1298.1 bt1298.2 (t1295 != t1287)) else (none)))) else (none))) else (none)))))) = some r := H
  have A9 := A_ A90
  clear A90
  replace H := Option.bind_eq_some_iff.mp H
  obtain ⟨⟨t1298, t1299⟩, A100, H⟩ := H
  replace H : ((spec_FirstQueens.f k t1285).bind fun bt1302 => (if (t1287 != t1293) = true then (none) else ((laws_kRows.f k t1286 t1290).bind fun t1306 => (if t1306 = true then (if (t1295 != t1297) = true then (none) else (if t1294 = t1296 then (if (t1299 != bt1302.2) = true then (none) else ((laws_kSame.f k t1298 bt1302.1).bind fun t1307 => (if t1307 = true then (laws_FnQueensListed.j0 k l1 t1285 t1286 t1287 t1294 t1298 t1299 (t1295 != t1287)) else (none)))) else (none))) else (none))))) = some r := H
  have A10 := A_ A100
  clear A100
  replace H := Option.bind_eq_some_iff.mp H
  obtain ⟨⟨t1302, t1305⟩, A110, H⟩ := H
  replace H : (if (t1287 != t1293) = true then (none) else ((laws_kRows.f k t1286 t1290).bind fun t1306 => (if t1306 = true then (if (t1295 != t1297) = true then (none) else (if t1294 = t1296 then (if (t1299 != t1305) = true then (none) else ((laws_kSame.f k t1298 t1302).bind fun t1307 => (if t1307 = true then (laws_FnQueensListed.j0 k l1 t1285 t1286 t1287 t1294 t1298 t1299 (t1295 != t1287)) else (none)))) else (none))) else (none)))) = some r := H
  have A11 := A_ A110
  clear A110
  have HC12 := A_ H
  clear H
  go_enter Try.func13, Try.ntmps13
  go_upto_region 10 with (first | (refine gc_ 47 ?_; refine goesT_ (some 41) Try.func47 #[.slice A0 l0.length c0, .slice A1 l1.length c1] ?_; (with_reducible refine (laws_big.calls _ _ l0 _ _ l1 false _ ?side1 ?side2 ?side3 ?side4 A3.out).mono ?_); (case side1 => exact tc0_ HR0.out); (case side2 => exact HC0.out); (case side3 => exact tc0_ HR1.out); (case side4 => exact HC1.out); rintro e w' ⟨rfl, ⟨nd, rfl⟩⟩; refine ⟨_, rfl, ?_⟩) | (refine gc_ 67 ?_; refine goesT_ (some 43) Try.func67 #[.slice A0 l0.length c0] ?_; (with_reducible refine (spec_DrawAllQueens.calls _ _ l0 t1285 _ ?side1 ?side2 A5.out).mono ?_); (case side1 => exact tc0_ HR0.out); (case side2 => exact HC0.out); rintro e w13 ⟨rfl, hb⟩; refine ⟨_, rfl, ?_⟩; replace HB := A_ (below_step tb_ hb); (try clear hb)) | (refine gc_ 68 ?_; refine goesT_ (some 46) Try.func68 #[.int .i64 t1285] ?_; (with_reducible refine (impl_AllQueens.calls k t1285 t1286 t1287 _ A6.out).mono ?_); rintro e w14 ⟨v1288, rfl, ho0, hb⟩; refine ⟨_, rfl, ?_⟩; have HO1289 := A_ (Kd.N_lower (Kd.N_mono (ok' := fun k_ => True) (Kd.S_N (Kd.S_bound ho0)) (fun k_ hk_ => trivial)) (below_size tb_)); replace HB := A_ (below_step tb_ hb); (try clear hb); (try clear ho0)) | (refine gc_ 69 ?_; refine goesT_ (some 51) Try.func69 #[.int .i64 t1285] ?_; (with_reducible refine (spec_AllQueens.calls k t1285 t1290 t1293 _ A7.out).mono ?_); rintro e w15 ⟨v1291, rfl, ho0, hb⟩; refine ⟨_, rfl, ?_⟩; have HO1292 := A_ (Kd.N_lower (Kd.N_mono (ok' := fun k_ => some k_ ≠ (v1288 : Value).ownBlock) ho0 (fun k_ hk_ => (Kd.fresh' (Kd.N_lt (by (with_reducible repeat (first | apply Kd.N_alloc | apply Kd.N_drewN | apply Kd.N_drew)); exact HO1289.out)) k_ hk_))) (below_size tb_)); replace HO1289 := A_ (Kd.N_elder' (by (with_reducible repeat (first | apply Kd.N_alloc | apply Kd.N_drewN | apply Kd.N_drew)); exact HO1289.out) (by first | exact Kd.N_base ho0 | exact Kd.S_base ho0) hb); replace HB := A_ (below_step tb_ hb); (try clear hb); (try clear ho0)) | (refine gc_ 70 ?_; refine goesT_ (some 56) Try.func70 #[.int .i64 t1285] ?_; (with_reducible refine (impl_CountQueens.calls k t1285 t1294 t1295 _ A8.out).mono ?_); rintro e w16 ⟨rfl, hb⟩; refine ⟨_, rfl, ?_⟩; replace HO1289 := A_ (Kd.N_below (by (with_reducible repeat (first | apply Kd.N_alloc | apply Kd.N_drewN | apply Kd.N_drew)); exact HO1289.out) hb); replace HO1292 := A_ (Kd.N_below (by (with_reducible repeat (first | apply Kd.N_alloc | apply Kd.N_drewN | apply Kd.N_drew)); exact HO1292.out) hb); replace HB := A_ (below_step tb_ hb); (try clear hb)) | (refine gc_ 71 ?_; refine goesT_ (some 61) Try.func71 #[.int .i64 t1285] ?_; (with_reducible refine (spec_CountQueens.calls k t1285 t1296 t1297 _ A9.out).mono ?_); rintro e w17 ⟨rfl, hb⟩; refine ⟨_, rfl, ?_⟩; replace HO1289 := A_ (Kd.N_below (by (with_reducible repeat (first | apply Kd.N_alloc | apply Kd.N_drewN | apply Kd.N_drew)); exact HO1289.out) hb); replace HO1292 := A_ (Kd.N_below (by (with_reducible repeat (first | apply Kd.N_alloc | apply Kd.N_drewN | apply Kd.N_drew)); exact HO1292.out) hb); replace HB := A_ (below_step tb_ hb); (try clear hb)) | (refine gc_ 72 ?_; refine goesT_ (some 66) Try.func72 #[.int .i64 t1285] ?_; (with_reducible refine (impl_FirstQueens.calls k t1285 t1298 t1299 _ A10.out).mono ?_); rintro e w18 ⟨v1300, rfl, ho0, hb⟩; refine ⟨_, rfl, ?_⟩; replace HO1289 := A_ (Kd.N_elder' (by (with_reducible repeat (first | apply Kd.N_alloc | apply Kd.N_drewN | apply Kd.N_drew)); exact HO1289.out) (Kd.R_base ho0) hb); replace HO1292 := A_ (Kd.N_elder' (by (with_reducible repeat (first | apply Kd.N_alloc | apply Kd.N_drewN | apply Kd.N_drew)); exact HO1292.out) (Kd.R_base ho0) hb); have HO1301 := A_ (Kd.R_lower ho0 (below_size tb_)); replace HB := A_ (below_step tb_ hb); (try clear hb); (try clear ho0)) | (refine gc_ 73 ?_; refine goesT_ (some 71) Try.func73 #[.int .i64 t1285] ?_; (with_reducible refine (spec_FirstQueens.calls k t1285 t1302 t1305 _ A11.out).mono ?_); rintro e w19 ⟨v1303, rfl, ho0, hb⟩; refine ⟨_, rfl, ?_⟩; have HO1304 := A_ (Kd.V_lower (Kd.V_mono (ok' := fun k_ => some k_ ≠ (v1288 : Value).ownBlock ∧ some k_ ≠ (v1291 : Value).ownBlock ∧ some k_ ≠ (v1300 : Value).ownBlock) ho0 (fun k_ hk_ => ⟨(Kd.fresh' (Kd.N_lt (by (with_reducible repeat (first | apply Kd.N_alloc | apply Kd.N_drewN | apply Kd.N_drew)); exact HO1289.out)) k_ hk_), (Kd.fresh' (Kd.N_lt (by (with_reducible repeat (first | apply Kd.N_alloc | apply Kd.N_drewN | apply Kd.N_drew)); exact HO1292.out)) k_ hk_), (Kd.fresh' (Kd.R_lt (tr_x HO1301.out)) k_ hk_)⟩)) (below_size tb_)); replace HO1289 := A_ (Kd.N_below (by (with_reducible repeat (first | apply Kd.N_alloc | apply Kd.N_drewN | apply Kd.N_drew)); exact HO1289.out) hb); replace HO1292 := A_ (Kd.N_below (by (with_reducible repeat (first | apply Kd.N_alloc | apply Kd.N_drewN | apply Kd.N_drew)); exact HO1292.out) hb); replace HO1301 := A_ (Kd.R_below (tr_x HO1301.out) hb); replace HB := A_ (below_step tb_ hb); (try clear hb); (try clear ho0)))
  (try simp only [Act.put, List.setIfInBounds_toArray, List.set_cons_zero, List.set_cons_succ])
  go_cut [108] (fun v108 wc => ∃ (kq : Nat) (x108_11 : Bool), v108 = .bool x108_11 ∧ Aside0 (laws_FnQueensListed.j0 kq l1 t1285 t1286 t1287 t1294 t1298 t1299 x108_11 = some r) ∧ Aside0 (kq ≤ k) ∧ Aside0 (Kd.N (Kd.slice 3 (Kd.int .i64)) 22 wc w.heap.size (fun k_ => some k_ ≠ (v1300 : Value).ownBlock) v1288 t1286) ∧ Aside0 (Kd.R (Kd.int .i64) 3 wc w.heap.size (fun _ => True) v1300 t1298) ∧ Aside0 (Below w.heap.size w wc))
  case first =>
   as_aux_lemma =>
    have H := HC12.out
    clear HC12
    by_cases c20 : (t1287 != t1293) = true
    ·
     rw [if_pos c20] at H
     exact absurd H (by simp)
    ·
     rw [if_neg c20] at H
     have c20b0 : (t1287 != t1293) = false := by simpa using c20
     (try (have c20b1 : decide (t1287 = t1293) = true := by simpa using c20))
     (try (have c20b2 : (t1287 == t1293) = true := by simpa using c20))
     clear c20
     (first | rw [c20b0] | (simp only [i64_w, i32_w]; rw [c20b0]) | skip)
     replace H := Option.bind_eq_some_iff.mp H
     obtain ⟨t1306, A210, H⟩ := H
     replace H : (if t1306 = true then (if (t1295 != t1297) = true then (none) else (if t1294 = t1296 then (if (t1299 != t1305) = true then (none) else ((laws_kSame.f k t1298 t1302).bind fun t1307 => (if t1307 = true then (laws_FnQueensListed.j0 k l1 t1285 t1286 t1287 t1294 t1298 t1299 (t1295 != t1287)) else (none)))) else (none))) else (none)) = some r := H
     have A21 := A_ A210
     clear A210
     by_cases c22 : t1306 = true
     ·
      subst c22
      have H1 : (if (t1295 != t1297) = true then (none) else (if t1294 = t1296 then (if (t1299 != t1305) = true then (none) else ((laws_kSame.f k t1298 t1302).bind fun t1307 => (if t1307 = true then (laws_FnQueensListed.j0 k l1 t1285 t1286 t1287 t1294 t1298 t1299 (t1295 != t1287)) else (none)))) else (none))) = some r := by rw [if_pos rfl] at H; exact H
      clear H
      have H := H1
      clear H1
      by_cases c23 : (t1295 != t1297) = true
      ·
       rw [if_pos c23] at H
       exact absurd H (by simp)
      ·
       rw [if_neg c23] at H
       have c23b0 : (t1295 != t1297) = false := by simpa using c23
       (try (have c23b1 : decide (t1295 = t1297) = true := by simpa using c23))
       (try (have c23b2 : (t1295 == t1297) = true := by simpa using c23))
       clear c23
       by_cases c24 : t1294 = t1296
       ·
        rw [if_pos c24] at H
        have c24b0 : (t1294 == t1296) = true := beq_iff_eq.mpr c24
        have c24b1 : (t1294 != t1296) = false := bne_eq_false_iff_eq.mpr c24
        clear c24
        by_cases c25 : (t1299 != t1305) = true
        ·
         rw [if_pos c25] at H
         exact absurd H (by simp)
        ·
         rw [if_neg c25] at H
         have c25b0 : (t1299 != t1305) = false := by simpa using c25
         (try (have c25b1 : decide (t1299 = t1305) = true := by simpa using c25))
         (try (have c25b2 : (t1299 == t1305) = true := by simpa using c25))
         clear c25
         replace H := Option.bind_eq_some_iff.mp H
         obtain ⟨t1307, A260, H⟩ := H
         replace H : (if t1307 = true then (laws_FnQueensListed.j0 k l1 t1285 t1286 t1287 t1294 t1298 t1299 (t1295 != t1287)) else (none)) = some r := H
         have A26 := A_ A260
         clear A260
         by_cases c27 : t1307 = true
         ·
          subst c27
          have H1 : (laws_FnQueensListed.j0 k l1 t1285 t1286 t1287 t1294 t1298 t1299 (t1295 != t1287)) = some r := by rw [if_pos rfl] at H; exact H
          clear H
          have H := H1
          clear H1
          have H' := A_ H
          clear H
          obtain ⟨Ao28, co28, eo28⟩ := Kd.N_slice HO1289.out
          subst eo28
          obtain ⟨Ao29, co29, eo29⟩ := Kd.N_slice HO1292.out
          subst eo29
          go_wp2_with (first | (go_at_call 49; (with_reducible refine (laws_kRows.calls k _ _ t1286 _ _ t1290 true _ ?side1 ?side2 ?side3 ?side4 A21.out).mono ?_); (case side1 => repeat (first | exact (Kd.N_reads' HO1289.out).2.2 | (with_reducible refine Kd.C_alloc ?_ _) | (with_reducible refine Kd.C_drewN ?_ _) | (with_reducible refine Kd.C_drew ?_))); (case side2 => exact (Kd.N_reads' HO1289.out).2.1); (case side3 => repeat (first | exact (Kd.N_reads' HO1292.out).2.2 | (with_reducible refine Kd.C_alloc ?_ _) | (with_reducible refine Kd.C_drewN ?_ _) | (with_reducible refine Kd.C_drew ?_))); (case side4 => exact (Kd.N_reads' HO1292.out).2.1); rintro e w' ⟨rfl, ⟨nd, rfl⟩⟩; obtain ⟨Ao30, co30, eo30⟩ := Kd.R_slice HO1301.out; subst eo30; obtain ⟨Ao31, co31, eo31⟩ := Kd.V_slice HO1304.out; subst eo31) | (go_at_call 56; (with_reducible refine (laws_kSame.calls k _ _ t1298 _ _ t1302 true _ ?side1 ?side2 ?side3 ?side4 A26.out).mono ?_); (case side1 => exact tc0_ (Kd.R_reads' HO1301.out).2.2); (case side2 => exact (Kd.R_reads' HO1301.out).2.1); (case side3 => repeat (first | exact (Kd.V_reads' HO1304.out).2.2 | (with_reducible refine Kd.C_alloc ?_ _) | (with_reducible refine Kd.C_drewN ?_ _) | (with_reducible refine Kd.C_drew ?_))); (case side4 => exact (Kd.V_reads' HO1304.out).2.1); rintro e w' ⟨rfl, ⟨nd, rfl⟩⟩))
          go_meet
          case rel => exact ⟨_, ((t1295 != t1287)), tf_, H', ⟨by first | omega | exact Nat.le_refl _⟩, ⟨by (with_reducible repeat (first | apply Kd.N_alloc | apply Kd.N_drewN | apply Kd.N_drew)); exact Kd.N_mono HO1289.out (fun _ hk => hk.2)⟩, ⟨tr_x HO1301.out⟩, ⟨tb_⟩⟩
         ·
          replace c27 := Bool.eq_false_iff.mpr c27
          subst c27
          have H1 : (none) = some r := by rw [if_neg (show ¬ (false = true) by decide)] at H; exact H
          clear H
          have H := H1
          clear H1
          exact absurd H (by simp)
       ·
        rw [if_neg c24] at H
        exact absurd H (by simp)
     ·
      replace c22 := Bool.eq_false_iff.mpr c22
      subst c22
      have H1 : (none) = some r := by rw [if_neg (show ¬ (false = true) by decide)] at H; exact H
      clear H
      have H := H1
      clear H1
      exact absurd H (by simp)
  case rest =>
   as_aux_lemma =>
    clear HC12
    try clear c1
    try clear c2
    try clear p2
    try clear c4
    try clear c6
    try clear c7
    try clear c13
    try clear c20
    try clear c20b0
    try clear c20b1
    try clear c20b2
    try clear c22
    try clear c23
    try clear c23b0
    try clear c23b1
    try clear c23b2
    try clear c24
    try clear c24b0
    try clear c24b1
    try clear c25
    try clear c25b0
    try clear c25b1
    try clear c25b2
    try clear c27
    obtain ⟨kq, x108_11, rfl, HA, HJ11, HO_6, HO_14, HB⟩ := hcut
    cases kq with
    | zero => exact absurd HA.out (by simp [laws_FnQueensListed.j0])
    | succ kj11 =>
     have H := HA.out
     clear HA
     simp only [laws_FnQueensListed.j0] at H
     by_cases c32 : x108_11 = true
     ·
      subst c32
      have H1 : (none) = some r := by rw [if_pos rfl] at H; exact H
      clear H
      have H := H1
      clear H1
      exact absurd H (by simp)
     ·
      replace c32 := Bool.eq_false_iff.mpr c32
      subst c32
      have H1 : (if t1287 = true then (laws_FnQueensListed.l0 kj11 l1 t1285 t1286 t1294 t1298 t1299 0 0) else (laws_FnQueensListed.j4 kj11 l1)) = some r := by rw [if_neg (show ¬ (false = true) by decide)] at H; exact H
      clear H
      have H := H1
      clear H1
      have HC33 := A_ H
      clear H
      go_upto_if 109 with (fail)
      go_cut [] (fun wc => ∃ (kq : Nat), Aside0 (laws_FnQueensListed.j4 kq l1 = some r) ∧ Aside0 (kq ≤ kj11) ∧ Aside0 (Below w.heap.size w wc))
      case first =>
       as_aux_lemma =>
        have H := HC33.out
        clear HC33
        by_cases c34 : t1287 = true
        ·
         subst c34
         have H1 : (laws_FnQueensListed.l0 kj11 l1 t1285 t1286 t1294 t1298 t1299 0 0) = some r := by rw [if_pos rfl] at H; exact H
         clear H
         have H := H1
         clear H1
         have H' := A_ H
         clear H
         go_wp2
         go_loopg [18, 19] kj11 (fun kq v18 v19 w' => ∃ (x18_2 : Int) (x19_2 : Int), v18 = .int .i64 x18_2 ∧ v19 = .int .i64 x19_2 ∧ Aside0 (laws_FnQueensListed.l0 kq l1 t1285 t1286 t1294 t1298 t1299 x18_2 x19_2 = some r) ∧ Aside0 (kq ≤ kj11) ∧ Aside0 (Kd.N (Kd.slice 3 (Kd.int .i64)) 22 w' w.heap.size (fun k_ => some k_ ≠ (v1300 : Value).ownBlock) v1288 t1286) ∧ Aside0 (Kd.R (Kd.int .i64) 3 w' w.heap.size (fun _ => True) v1300 t1298) ∧ Aside0 (Below w.heap.size w w'))
         case atStart => exact ⟨(0), (0), tf_, tf_, H', ⟨Nat.le_refl _⟩, ⟨by (with_reducible repeat (first | apply Kd.N_alloc | apply Kd.N_drewN | apply Kd.N_drew)); exact HO_6.out⟩, ⟨tr_x HO_14.out⟩, ⟨tb_⟩⟩
         case round =>
          clear H'
          try clear c1
          try clear c2
          try clear p2
          try clear c3
          try clear c4
          try clear c6
          try clear c7
          try clear c13
          try clear c20
          try clear c20b0
          try clear c20b1
          try clear c20b2
          try clear c22
          try clear c23
          try clear c23b0
          try clear c23b1
          try clear c23b2
          try clear c24
          try clear c24b0
          try clear c24b1
          try clear c25
          try clear c25b0
          try clear c25b1
          try clear c25b2
          try clear c27
          try clear c32
          try clear c34
          try clear p2
          obtain ⟨x18_2, x19_2, rfl, rfl, HA, HK2, HO_6, HO_14, HB⟩ := hrel
          cases gk with
          | zero => exact absurd HA.out (by simp [laws_FnQueensListed.l0])
          | succ k2 =>
           have H := HA.out
           clear HA
           simp only [laws_FnQueensListed.l0] at H
           by_cases c35 : x19_2 < t1285
           ·
            rw [if_pos c35] at H
            have c35b0 := decide_eq_true c35
            clear c35
            (first | rw [c35b0] | (simp only [i64_w, i32_w]; rw [c35b0]) | skip)
            obtain ⟨y1308, hy1308⟩ : ∃ y_ : List Int, y_ = (([x19_2] : List Int)) := ⟨_, rfl⟩
            replace H : ((impl_CountGoingOn.f k2 t1285 y1308).bind fun bt1311 => (if bt1311.2 = true then (laws_FnQueensListed.l0 k2 l1 t1285 t1286 t1294 t1298 t1299 (wrap64 (x18_2 + bt1311.1)) (wrap64 (x19_2 + 1))) else (none))) = some r := ty_ hy1308 H
            have Ny1308 := A_ hy1308
            clear hy1308
            replace H := Option.bind_eq_some_iff.mp H
            obtain ⟨⟨t1311, t1312⟩, A360, H⟩ := H
            replace H : (if t1312 = true then (laws_FnQueensListed.l0 k2 l1 t1285 t1286 t1294 t1298 t1299 (wrap64 (x18_2 + t1311)) (wrap64 (x19_2 + 1))) else (none)) = some r := H
            have A36 := A_ A360
            clear A360
            by_cases c37 : t1312 = true
            ·
             subst c37
             have H1 : (laws_FnQueensListed.l0 k2 l1 t1285 t1286 t1294 t1298 t1299 (wrap64 (x18_2 + t1311)) (wrap64 (x19_2 + 1))) = some r := by rw [if_pos rfl] at H; exact H
             clear H
             have H := H1
             clear H1
             have H' := A_ H
             clear H
             go_wp2_with (first | (refine gd_ 118 ?_; (try (refine gate_guard (by rfl) ?_; dsimp only)); refine Kd.R_lit (Kd.int .i64) _ 3 ?hg (N := 118) ?hd (xs := ([x19_2] : List Int)) (inner := [.int .i64 x19_2]) (ok := fun _ => True) (okp := fun _ => True) ?hr ?hp (fun _ hk => hk) trivial (Below.refl _ _) (Nat.le_refl _) (by simp) ?_; (case hd => rfl); (case hg => rfl); (case hr => first | (go_simp; done) | (go_simp; rfl)); (case hp => exact (Reps.one (show Kd.M (Kd.int .i64) _ _ _ x19_2 [.int .i64 x19_2] from rfl) (Reps.none _ _))); intro v1309 w38 ho39 hb hg_ hnew_; clear hg_ hnew_; (first | rw [← Ny1308.out] at ho39 | (simp only [Int.reduceToNat] at ho39; rw [← Ny1308.out] at ho39)); replace HO_6 := A_ (Kd.N_elder' (by (with_reducible repeat (first | apply Kd.N_alloc | apply Kd.N_drewN | apply Kd.N_drew)); exact HO_6.out) (Kd.R_base ho39) hb); have HO1310 := A_ (Kd.R_lower (Kd.R_new' ho39 (Kd.R_lt (tr_x HO_14.out))) (below_size tb_)); replace HO_14 := A_ (Kd.R_elder' (tr_x HO_14.out) (Kd.R_base ho39) hb); replace HB := A_ (below_step tb_ hb); clear hb ho39; obtain ⟨Ao40, co40, eo40⟩ := Kd.R_slice HO1310.out; subst eo40) | (refine gc_ 74 ?_; refine goesT_ (some 119) Try.func74 #[.int .i64 t1285, .slice Ao40 y1308.length co40] ?_; (with_reducible refine (impl_CountGoingOn.calls k2 t1285 _ _ y1308 t1311 true _ ?side1 ?side2 A36.out).mono ?_); (case side1 => exact tc0_ (Kd.R_reads' HO1310.out).2.2); (case side2 => exact (Kd.R_reads' HO1310.out).2.1); rintro e w41 ⟨rfl, hb⟩; refine ⟨_, rfl, ?_⟩; replace HO_6 := A_ (Kd.N_below (by (with_reducible repeat (first | apply Kd.N_alloc | apply Kd.N_drewN | apply Kd.N_drew)); exact HO_6.out) hb); replace HO_14 := A_ (Kd.R_below (tr_x HO_14.out) hb); replace HO1310 := A_ (Kd.R_below (tr_x HO1310.out) hb); replace HB := A_ (below_step tb_ hb); (try clear hb)))
             go_roundg k2
             case measure => have := HJ11.out; have := HK2.out; omega
             case rel => exact ⟨(wrap64 (x18_2 + t1311)), (wrap64 (x19_2 + 1)), tf_, tf_, H', ⟨by have := HJ11.out; have := HK2.out; omega⟩, ⟨by (with_reducible repeat (first | apply Kd.N_alloc | apply Kd.N_drewN | apply Kd.N_drew)); exact Kd.N_mono HO_6.out (fun _ hk => hk.1)⟩, ⟨by (with_reducible repeat (first | apply Kd.R_alloc | apply Kd.R_drewN | apply Kd.R_drew)); exact Kd.R_mono HO_14.out (fun _ hk => trivial)⟩, ⟨tb_⟩⟩
            ·
             replace c37 := Bool.eq_false_iff.mpr c37
             subst c37
             have H1 : (none) = some r := by rw [if_neg (show ¬ (false = true) by decide)] at H; exact H
             clear H
             have H := H1
             clear H1
             exact absurd H (by simp)
           ·
            rw [if_neg c35] at H
            have c35b0 := decide_eq_false c35
            clear c35
            (first | rw [c35b0] | (simp only [i64_w, i32_w]; rw [c35b0]) | skip)
            have HC42 := A_ H
            clear H
            go_upto_region 21 with (fail)
            go_cut [162] (fun v162 wc => ∃ (kq : Nat) (x162_41 : Bool), v162 = .bool x162_41 ∧ Aside0 (laws_FnQueensListed.j2 kq l1 t1286 x162_41 = some r) ∧ Aside0 (kq ≤ k2) ∧ Aside0 (Kd.N (Kd.slice 3 (Kd.int .i64)) 22 wc w.heap.size (fun _ => True) v1288 t1286) ∧ Aside0 (Below w.heap.size w wc))
            case first =>
             as_aux_lemma =>
              have H := HC42.out
              clear HC42
              by_cases c43 : (t1286.length : Int) = t1294
              ·
               rw [if_pos c43] at H
               have c43b0 : ((t1286.length : Int) == t1294) = true := beq_iff_eq.mpr c43
               have c43b1 : ((t1286.length : Int) != t1294) = false := bne_eq_false_iff_eq.mpr c43
               clear c43
               (first | rw [c43b0] | (simp only [i64_w, i32_w]; rw [c43b0]) | skip)
               by_cases c44 : x18_2 = t1294
               ·
                rw [if_pos c44] at H
                have c44b0 : (x18_2 == t1294) = true := beq_iff_eq.mpr c44
                have c44b1 : (x18_2 != t1294) = false := bne_eq_false_iff_eq.mpr c44
                clear c44
                by_cases c45 : (t1299 != (decide (t1294 > 0))) = true
                ·
                 rw [if_pos c45] at H
                 exact absurd H (by simp)
                ·
                 rw [if_neg c45] at H
                 have c45b0 : (t1299 != (decide (t1294 > 0))) = false := by simpa using c45
                 (try (have c45b1 : decide (t1299 = (decide (t1294 > 0))) = true := by simpa using c45))
                 (try (have c45b2 : (t1299 == (decide (t1294 > 0))) = true := by simpa using c45))
                 clear c45
                 by_cases c46 : t1299 = true
                 ·
                  subst c46
                  have H1 : (if 0 < (t1286.length : Int) then ((laws_kSame.f k2 t1298 (rd_L1 t1286 0)).bind fun t1314 => (if t1314 = true then (if t1285 = 2 then (laws_FnQueensListed.j2 k2 l1 t1286 (true != false)) else (laws_FnQueensListed.j2 k2 l1 t1286 (true != (t1285 != 3)))) else (none))) else (none)) = some r := by rw [if_pos rfl] at H; exact H
                  clear H
                  have H := H1
                  clear H1
                  by_cases c47 : 0 < (t1286.length : Int)
                  ·
                   rw [if_pos c47] at H
                   have c47b0 := decide_eq_true c47
                   have c47b1 : decide (0 < t1286.length) = true := decide_eq_true (by omega)
                   clear c47
                   replace H := Option.bind_eq_some_iff.mp H
                   obtain ⟨t1314, A480, H⟩ := H
                   replace H : (if t1314 = true then (if t1285 = 2 then (laws_FnQueensListed.j2 k2 l1 t1286 (true != false)) else (laws_FnQueensListed.j2 k2 l1 t1286 (true != (t1285 != 3)))) else (none)) = some r := H
                   have A48 := A_ A480
                   clear A480
                   by_cases c49 : t1314 = true
                   ·
                    subst c49
                    have H1 : (if t1285 = 2 then (laws_FnQueensListed.j2 k2 l1 t1286 (true != false)) else (laws_FnQueensListed.j2 k2 l1 t1286 (true != (t1285 != 3)))) = some r := by rw [if_pos rfl] at H; exact H
                    clear H
                    have H := H1
                    clear H1
                    by_cases c50 : t1285 = 2
                    ·
                     rw [if_pos c50] at H
                     have c50b0 : (t1285 == 2) = true := beq_iff_eq.mpr c50
                     have c50b1 : (t1285 != 2) = false := bne_eq_false_iff_eq.mpr c50
                     clear c50
                     have H' := A_ H
                     clear H
                     obtain ⟨Ao51, co51, eo51⟩ := Kd.N_slice HO_6.out
                     subst eo51
                     have p1313 : 0 ≤ (0 : Int) := (by omega)
                     have q1313 : 0 < (t1286.length : Int) := od_
                     obtain ⟨ad1313, A1313_0, c1313_0, e1313, hx1313_0, hl1313_0, hi1313_0⟩ := at_L1 (Kd.N_reads' HO_6.out).2.2 0 p1313 q1313
                     cases e1313
                     obtain ⟨ce1313, hce1313, hMe1313, hcc1313⟩ := Kd.N_get HO_6.out [] 0 p1313 (by first | exact q1313 | exact od_ | (have e_ := (Kd.N_reads' HO_6.out).1; omega))
                     obtain ⟨ua1313_0, uc1313_0, rfl, ul1313_0, ge1313_0⟩ := Kd.FK_slice_open hMe1313
                     have hv1313_0 := hcc1313 0 _ rfl
                     rw [Nat.add_zero, show ((Kd.slice 3 (Kd.int .i64))).sz = 1 from rfl, Nat.mul_one] at hv1313_0
                     replace hv1313_0 := Option.some.inj (hv1313_0.symm.trans hx1313_0)
                     injection hv1313_0 with hva_ hvn_ hvc_
                     rw [hva_] at ge1313_0
                     rw [hvc_] at ul1313_0
                     have HL1313_0 := A_ (show Kd.V (Kd.int .i64) 3 _ w.heap.size _ _ (rd_L1 t1286 0) from Kd.V_mk ul1313_0 ge1313_0)
                     clear hva_ hvn_ hvc_ ge1313_0 ul1313_0
                     clear hcc1313 hce1313
                     have qi1313 : (0 < t1286.length) = True := eq_true (by omega)
                     (try rw [show ((0 : Int)).toNat = 0 from rfl] at hx1313_0)
                     (try rw [Addr.add_zero'] at hx1313_0)
                     have HR1313_0 := A_ hi1313_0
                     have HC1313_0 := A_ hl1313_0
                     clear hi1313_0 hl1313_0
                     replace p1313 := eq_true p1313
                     replace q1313 := eq_true q1313
                     obtain ⟨Ao52, co52, eo52⟩ := Kd.R_slice HO_14.out
                     subst eo52
                     go_wp2_with (first | (go_at_call 56; (with_reducible refine (laws_kSame.calls k2 _ _ t1298 _ _ (rd_L1 t1286 0) true _ ?side1 ?side2 ?side3 ?side4 A48.out).mono ?_); (case side1 => exact tc0_ (Kd.R_reads' HO_14.out).2.2); (case side2 => exact (Kd.R_reads' HO_14.out).2.1); (case side3 => repeat (first | exact (by repeat (first | (with_reducible exact HR1313_0.out) | (with_reducible refine Kd.C_alloc ?_ _) | (with_reducible refine Kd.C_drewN ?_ _) | (with_reducible refine Kd.C_drew ?_) | exact HR1313_0.out)) | (with_reducible refine Kd.C_alloc ?_ _) | (with_reducible refine Kd.C_drewN ?_ _) | (with_reducible refine Kd.C_drew ?_))); (case side4 => exact HC1313_0.out); rintro e w' ⟨rfl, ⟨nd, rfl⟩⟩))
                     go_meet
                     case rel => exact ⟨_, ((true != false)), tf_, H', ⟨by have := HJ11.out; have := HK2.out; first | omega | exact Nat.le_refl _⟩, ⟨by (with_reducible repeat (first | apply Kd.N_alloc | apply Kd.N_drewN | apply Kd.N_drew)); exact Kd.N_mono HO_6.out (fun _ hk => trivial)⟩, ⟨tb_⟩⟩
                    ·
                     rw [if_neg c50] at H
                     have c50b0 : (t1285 == 2) = false := beq_eq_false_iff_ne.mpr c50
                     have c50b1 : (t1285 != 2) = true := bne_iff_ne.mpr c50
                     have H' := A_ H
                     clear H
                     obtain ⟨Ao53, co53, eo53⟩ := Kd.N_slice HO_6.out
                     subst eo53
                     have p1313 : 0 ≤ (0 : Int) := (by omega)
                     have q1313 : 0 < (t1286.length : Int) := od_
                     obtain ⟨ad1313, A1313_0, c1313_0, e1313, hx1313_0, hl1313_0, hi1313_0⟩ := at_L1 (Kd.N_reads' HO_6.out).2.2 0 p1313 q1313
                     cases e1313
                     obtain ⟨ce1313, hce1313, hMe1313, hcc1313⟩ := Kd.N_get HO_6.out [] 0 p1313 (by first | exact q1313 | exact od_ | (have e_ := (Kd.N_reads' HO_6.out).1; omega))
                     obtain ⟨ua1313_0, uc1313_0, rfl, ul1313_0, ge1313_0⟩ := Kd.FK_slice_open hMe1313
                     have hv1313_0 := hcc1313 0 _ rfl
                     rw [Nat.add_zero, show ((Kd.slice 3 (Kd.int .i64))).sz = 1 from rfl, Nat.mul_one] at hv1313_0
                     replace hv1313_0 := Option.some.inj (hv1313_0.symm.trans hx1313_0)
                     injection hv1313_0 with hva_ hvn_ hvc_
                     rw [hva_] at ge1313_0
                     rw [hvc_] at ul1313_0
                     have HL1313_0 := A_ (show Kd.V (Kd.int .i64) 3 _ w.heap.size _ _ (rd_L1 t1286 0) from Kd.V_mk ul1313_0 ge1313_0)
                     clear hva_ hvn_ hvc_ ge1313_0 ul1313_0
                     clear hcc1313 hce1313
                     have qi1313 : (0 < t1286.length) = True := eq_true (by omega)
                     (try rw [show ((0 : Int)).toNat = 0 from rfl] at hx1313_0)
                     (try rw [Addr.add_zero'] at hx1313_0)
                     have HR1313_0 := A_ hi1313_0
                     have HC1313_0 := A_ hl1313_0
                     clear hi1313_0 hl1313_0
                     replace p1313 := eq_true p1313
                     replace q1313 := eq_true q1313
                     obtain ⟨Ao54, co54, eo54⟩ := Kd.R_slice HO_14.out
                     subst eo54
                     go_wp2_with (first | (go_at_call 56; (with_reducible refine (laws_kSame.calls k2 _ _ t1298 _ _ (rd_L1 t1286 0) true _ ?side1 ?side2 ?side3 ?side4 A48.out).mono ?_); (case side1 => exact tc0_ (Kd.R_reads' HO_14.out).2.2); (case side2 => exact (Kd.R_reads' HO_14.out).2.1); (case side3 => repeat (first | exact (by repeat (first | (with_reducible exact HR1313_0.out) | (with_reducible refine Kd.C_alloc ?_ _) | (with_reducible refine Kd.C_drewN ?_ _) | (with_reducible refine Kd.C_drew ?_) | exact HR1313_0.out)) | (with_reducible refine Kd.C_alloc ?_ _) | (with_reducible refine Kd.C_drewN ?_ _) | (with_reducible refine Kd.C_drew ?_))); (case side4 => exact HC1313_0.out); rintro e w' ⟨rfl, ⟨nd, rfl⟩⟩))
                     go_meet
                     case rel => exact ⟨_, ((true != (t1285 != 3))), tf_, H', ⟨by have := HJ11.out; have := HK2.out; first | omega | exact Nat.le_refl _⟩, ⟨by (with_reducible repeat (first | apply Kd.N_alloc | apply Kd.N_drewN | apply Kd.N_drew)); exact Kd.N_mono HO_6.out (fun _ hk => trivial)⟩, ⟨tb_⟩⟩
                   ·
                    replace c49 := Bool.eq_false_iff.mpr c49
                    subst c49
                    have H1 : (none) = some r := by rw [if_neg (show ¬ (false = true) by decide)] at H; exact H
                    clear H
                    have H := H1
                    clear H1
                    exact absurd H (by simp)
                  ·
                   rw [if_neg c47] at H
                   exact absurd H (by simp)
                 ·
                  replace c46 := Bool.eq_false_iff.mpr c46
                  subst c46
                  have H1 : (if t1285 = 2 then (laws_FnQueensListed.j2 k2 l1 t1286 (false != false)) else (laws_FnQueensListed.j2 k2 l1 t1286 (false != (t1285 != 3)))) = some r := by rw [if_neg (show ¬ (false = true) by decide)] at H; exact H
                  clear H
                  have H := H1
                  clear H1
                  by_cases c55 : t1285 = 2
                  ·
                   rw [if_pos c55] at H
                   have c55b0 : (t1285 == 2) = true := beq_iff_eq.mpr c55
                   have c55b1 : (t1285 != 2) = false := bne_eq_false_iff_eq.mpr c55
                   clear c55
                   have H' := A_ H
                   clear H
                   obtain ⟨Ao56, co56, eo56⟩ := Kd.N_slice HO_6.out
                   subst eo56
                   go_wp2
                   go_meet
                   case rel => exact ⟨_, ((false != false)), tf_, H', ⟨by have := HJ11.out; have := HK2.out; first | omega | exact Nat.le_refl _⟩, ⟨by (with_reducible repeat (first | apply Kd.N_alloc | apply Kd.N_drewN | apply Kd.N_drew)); exact Kd.N_mono HO_6.out (fun _ hk => trivial)⟩, ⟨tb_⟩⟩
                  ·
                   rw [if_neg c55] at H
                   have c55b0 : (t1285 == 2) = false := beq_eq_false_iff_ne.mpr c55
                   have c55b1 : (t1285 != 2) = true := bne_iff_ne.mpr c55
                   have H' := A_ H
                   clear H
                   obtain ⟨Ao57, co57, eo57⟩ := Kd.N_slice HO_6.out
                   subst eo57
                   go_wp2
                   go_meet
                   case rel => exact ⟨_, ((false != (t1285 != 3))), tf_, H', ⟨by have := HJ11.out; have := HK2.out; first | omega | exact Nat.le_refl _⟩, ⟨by (with_reducible repeat (first | apply Kd.N_alloc | apply Kd.N_drewN | apply Kd.N_drew)); exact Kd.N_mono HO_6.out (fun _ hk => trivial)⟩, ⟨tb_⟩⟩
               ·
                rw [if_neg c44] at H
                exact absurd H (by simp)
              ·
               rw [if_neg c43] at H
               exact absurd H (by simp)
            case rest =>
             as_aux_lemma =>
              clear HC42
              try clear c1
              try clear p1
              try clear q1
              try clear hx1
              try clear qi1
              try clear c2
              try clear p2
              try clear c3
              try clear c4
              try clear c5
              try clear c6
              try clear p6
              try clear c7
              try clear c13
              try clear p13
              try clear q13
              try clear hx13
              try clear qi13
              try clear c20
              try clear c20b0
              try clear c20b1
              try clear c20b2
              try clear c22
              try clear c23
              try clear c23b0
              try clear c23b1
              try clear c23b2
              try clear c24
              try clear c24b0
              try clear c24b1
              try clear c25
              try clear c25b0
              try clear c25b1
              try clear c25b2
              try clear c27
              try clear c32
              try clear c34
              try clear c35
              try clear c35b0
              try clear c37
              try clear c43
              try clear c43b0
              try clear c43b1
              try clear c44
              try clear c44b0
              try clear c44b1
              try clear c45
              try clear c45b0
              try clear c45b1
              try clear c45b2
              try clear c46
              try clear c47
              try clear c47b0
              try clear c47b1
              try clear c49
              try clear c50
              try clear c50b0
              try clear c50b1
              try clear c55
              try clear c55b0
              try clear c55b1
              try clear hx1313_0
              try clear p1313
              try clear p2
              try clear q1313
              obtain ⟨kq, x162_41, rfl, HA, HJ41, HO_6, HB⟩ := hcut
              cases kq with
              | zero => exact absurd HA.out (by simp [laws_FnQueensListed.j2])
              | succ kj41 =>
               have H := HA.out
               clear HA
               simp only [laws_FnQueensListed.j2] at H
               by_cases c58 : x162_41 = true
               ·
                subst c58
                have H1 : (none) = some r := by rw [if_pos rfl] at H; exact H
                clear H
                have H := H1
                clear H1
                exact absurd H (by simp)
               ·
                replace c58 := Bool.eq_false_iff.mpr c58
                subst c58
                have H1 : (laws_FnQueensListed.l1 kj41 l1 t1286 t1286 (t1286.length : Int) 0) = some r := by rw [if_neg (show ¬ (false = true) by decide)] at H; exact H
                clear H
                have H := H1
                clear H1
                have H' := A_ H
                clear H
                obtain ⟨Ao59, co59, eo59⟩ := Kd.N_slice HO_6.out
                subst eo59
                go_wp2
                go_loopg [165] kj41 (fun kq v165 w' => ∃ (x165_4 : Int), v165 = .int .i64 x165_4 ∧ Aside0 (laws_FnQueensListed.l1 kq l1 t1286 t1286 (t1286.length : Int) x165_4 = some r) ∧ Aside0 (kq ≤ kj41) ∧ Aside0 (Kd.N (Kd.slice 3 (Kd.int .i64)) 22 w' w.heap.size (fun _ => True) (.slice Ao59 t1286.length co59) t1286) ∧ Aside0 (Kd.N (Kd.slice 3 (Kd.int .i64)) 22 w' w.heap.size (fun _ => True) (.slice Ao59 t1286.length co59) t1286) ∧ Aside0 (Below w.heap.size w w'))
                case atStart => exact ⟨(0), tf_, H', ⟨Nat.le_refl _⟩, ⟨by (with_reducible repeat (first | apply Kd.N_alloc | apply Kd.N_drewN | apply Kd.N_drew)); exact HO_6.out⟩, ⟨by (with_reducible repeat (first | apply Kd.N_alloc | apply Kd.N_drewN | apply Kd.N_drew)); exact HO_6.out⟩, ⟨tb_⟩⟩
                case round =>
                 clear H'
                 try clear c1
                 try clear p1
                 try clear q1
                 try clear hx1
                 try clear qi1
                 try clear c2
                 try clear p2
                 try clear c3
                 try clear c4
                 try clear c5
                 try clear c6
                 try clear p6
                 try clear c7
                 try clear c13
                 try clear p13
                 try clear q13
                 try clear hx13
                 try clear qi13
                 try clear c20
                 try clear c20b0
                 try clear c20b1
                 try clear c20b2
                 try clear c22
                 try clear c23
                 try clear c23b0
                 try clear c23b1
                 try clear c23b2
                 try clear c24
                 try clear c24b0
                 try clear c24b1
                 try clear c25
                 try clear c25b0
                 try clear c25b1
                 try clear c25b2
                 try clear c27
                 try clear c32
                 try clear c34
                 try clear c35
                 try clear c35b0
                 try clear c37
                 try clear c43
                 try clear c43b0
                 try clear c43b1
                 try clear c44
                 try clear c44b0
                 try clear c44b1
                 try clear c45
                 try clear c45b0
                 try clear c45b1
                 try clear c45b2
                 try clear c46
                 try clear c47
                 try clear c47b0
                 try clear c47b1
                 try clear c49
                 try clear c50
                 try clear c50b0
                 try clear c50b1
                 try clear c55
                 try clear c55b0
                 try clear c55b1
                 try clear c58
                 try clear hx1313_0
                 try clear p1
                 try clear p13
                 try clear p1313
                 try clear p2
                 try clear p6
                 try clear q1
                 try clear q13
                 try clear q1313
                 obtain ⟨x165_4, rfl, HA, HK4, HO_6, HO_163, HB⟩ := hrel
                 cases gk with
                 | zero => exact absurd HA.out (by simp [laws_FnQueensListed.l1])
                 | succ k4 =>
                  have H := HA.out
                  clear HA
                  simp only [laws_FnQueensListed.l1] at H
                  by_cases c60 : x165_4 < (t1286.length : Int)
                  ·
                   rw [if_pos c60] at H
                   have c60b0 := decide_eq_true c60
                   clear c60
                   by_cases c61 : 0 ≤ x165_4
                   ·
                    rw [if_pos c61] at H
                    have c61b0 := decide_eq_true c61
                    clear c61
                    by_cases c62 : x165_4 < (t1286.length : Int)
                    ·
                     rw [if_pos c62] at H
                     have c62b0 := decide_eq_true c62
                     clear c62
                     replace H := Option.bind_eq_some_iff.mp H
                     obtain ⟨⟨t1316, t1317⟩, A630, H⟩ := H
                     replace H : (if t1317 = true then (if t1316 = true then (if x165_4 > 0 then (if 0 ≤ (wrap64 (x165_4 - 1)) then (if (wrap64 (x165_4 - 1)) < (t1286.length : Int) then ((laws_kLess.f k4 (rd_L1 t1286 (wrap64 (x165_4 - 1))) (rd_L1 t1286 x165_4)).bind fun t1319 => (if t1319 = true then (laws_FnQueensListed.l1 k4 l1 t1286 t1286 (t1286.length : Int) (wrap64 (x165_4 + 1))) else (none))) else (none)) else (none)) else (laws_FnQueensListed.l1 k4 l1 t1286 t1286 (t1286.length : Int) (wrap64 (x165_4 + 1)))) else (none)) else (none)) = some r := H
                     have A63 := A_ A630
                     clear A630
                     by_cases c64 : t1317 = true
                     ·
                      subst c64
                      have H1 : (if t1316 = true then (if x165_4 > 0 then (if 0 ≤ (wrap64 (x165_4 - 1)) then (if (wrap64 (x165_4 - 1)) < (t1286.length : Int) then ((laws_kLess.f k4 (rd_L1 t1286 (wrap64 (x165_4 - 1))) (rd_L1 t1286 x165_4)).bind fun t1319 => (if t1319 = true then (laws_FnQueensListed.l1 k4 l1 t1286 t1286 (t1286.length : Int) (wrap64 (x165_4 + 1))) else (none))) else (none)) else (none)) else (laws_FnQueensListed.l1 k4 l1 t1286 t1286 (t1286.length : Int) (wrap64 (x165_4 + 1)))) else (none)) = some r := by rw [if_pos rfl] at H; exact H
                      clear H
                      have H := H1
                      clear H1
                      by_cases c65 : t1316 = true
                      ·
                       subst c65
                       have H1 : (if x165_4 > 0 then (if 0 ≤ (wrap64 (x165_4 - 1)) then (if (wrap64 (x165_4 - 1)) < (t1286.length : Int) then ((laws_kLess.f k4 (rd_L1 t1286 (wrap64 (x165_4 - 1))) (rd_L1 t1286 x165_4)).bind fun t1319 => (if t1319 = true then (laws_FnQueensListed.l1 k4 l1 t1286 t1286 (t1286.length : Int) (wrap64 (x165_4 + 1))) else (none))) else (none)) else (none)) else (laws_FnQueensListed.l1 k4 l1 t1286 t1286 (t1286.length : Int) (wrap64 (x165_4 + 1)))) = some r := by rw [if_pos rfl] at H; exact H
                       clear H
                       have H := H1
                       clear H1
                       by_cases c66 : x165_4 > 0
                       ·
                        rw [if_pos c66] at H
                        have c66b0 := decide_eq_true c66
                        clear c66
                        obtain ⟨ji67, hji67⟩ : ∃ j_ : Int, (wrap64 (x165_4 - 1)) = j_ := ⟨_, rfl⟩
                        replace H : (if 0 ≤ (ji67) then (if (ji67) < (t1286.length : Int) then ((laws_kLess.f k4 (rd_L1 t1286 (ji67)) (rd_L1 t1286 x165_4)).bind fun t1319 => (if t1319 = true then (laws_FnQueensListed.l1 k4 l1 t1286 t1286 (t1286.length : Int) (wrap64 (x165_4 + 1))) else (none))) else (none)) else (none)) = some r := by first | (rw [hji67] at H; exact H) | (simp only [hji67] at H ⊢; exact H)
                        (try rw [hji67] at A63)
                        have hji67w : (IntKind.i64.wrap (x165_4 - 1)) = ji67 := (i64_w _).trans hji67
                        by_cases c68 : 0 ≤ (ji67)
                        ·
                         rw [if_pos c68] at H
                         have c68b0 := decide_eq_true c68
                         clear c68
                         by_cases c69 : (ji67) < (t1286.length : Int)
                         ·
                          rw [if_pos c69] at H
                          have c69b0 := decide_eq_true c69
                          clear c69
                          replace H := Option.bind_eq_some_iff.mp H
                          obtain ⟨t1319, A700, H⟩ := H
                          replace H : (if t1319 = true then (laws_FnQueensListed.l1 k4 l1 t1286 t1286 (t1286.length : Int) (wrap64 (x165_4 + 1))) else (none)) = some r := H
                          have A70 := A_ A700
                          clear A700
                          by_cases c71 : t1319 = true
                          ·
                           subst c71
                           have H1 : (laws_FnQueensListed.l1 k4 l1 t1286 t1286 (t1286.length : Int) (wrap64 (x165_4 + 1))) = some r := by rw [if_pos rfl] at H; exact H
                           clear H
                           have H := H1
                           clear H1
                           have H' := A_ H
                           clear H
                           have p1315 : 0 ≤ (x165_4 : Int) := od_
                           have q1315 : x165_4 < (t1286.length : Int) := od_
                           obtain ⟨ad1315, A1315_0, c1315_0, e1315, hx1315_0, hl1315_0, hi1315_0⟩ := at_L1 (Kd.N_reads' HO_163.out).2.2 x165_4 p1315 q1315
                           cases e1315
                           obtain ⟨ce1315, hce1315, hMe1315, hcc1315⟩ := Kd.N_get HO_163.out [] x165_4 p1315 (by first | exact q1315 | exact od_ | (have e_ := (Kd.N_reads' HO_163.out).1; omega))
                           obtain ⟨ua1315_0, uc1315_0, rfl, ul1315_0, ge1315_0⟩ := Kd.FK_slice_open hMe1315
                           have hv1315_0 := hcc1315 0 _ rfl
                           rw [Nat.add_zero, show ((Kd.slice 3 (Kd.int .i64))).sz = 1 from rfl, Nat.mul_one] at hv1315_0
                           replace hv1315_0 := Option.some.inj (hv1315_0.symm.trans hx1315_0)
                           injection hv1315_0 with hva_ hvn_ hvc_
                           rw [hva_] at ge1315_0
                           rw [hvc_] at ul1315_0
                           have HL1315_0 := A_ (show Kd.V (Kd.int .i64) 3 _ w.heap.size _ _ (rd_L1 t1286 x165_4) from Kd.V_mk ul1315_0 ge1315_0)
                           clear hva_ hvn_ hvc_ ge1315_0 ul1315_0
                           clear hcc1315 hce1315
                           have HR1315_0 := A_ hi1315_0
                           have HC1315_0 := A_ hl1315_0
                           clear hi1315_0 hl1315_0
                           replace p1315 := eq_true p1315
                           replace q1315 := eq_true q1315
                           go_wp2_with (first | (refine gc_ 58 ?_; refine goesT_ (some 172) Try.func58 #[.slice A1315_0 (rd_L1 t1286 x165_4).length c1315_0] ?_; (with_reducible refine (impl_AreQueens.calls k4 _ _ (rd_L1 t1286 x165_4) true true _ ?side1 ?side2 A63.out).mono ?_); (case side1 => repeat (first | exact (by repeat (first | (with_reducible exact HR1315_0.out) | (with_reducible refine Kd.C_alloc ?_ _) | (with_reducible refine Kd.C_drewN ?_ _) | (with_reducible refine Kd.C_drew ?_) | exact HR1315_0.out)) | (with_reducible refine Kd.C_alloc ?_ _) | (with_reducible refine Kd.C_drewN ?_ _) | (with_reducible refine Kd.C_drew ?_))); (case side2 => exact HC1315_0.out); rintro e w72 ⟨rfl, hb⟩; refine ⟨_, rfl, ?_⟩; replace HO_6 := A_ (Kd.N_below (by (with_reducible repeat (first | apply Kd.N_alloc | apply Kd.N_drewN | apply Kd.N_drew)); exact HO_6.out) hb); replace HO_163 := A_ (Kd.N_below (by (with_reducible repeat (first | apply Kd.N_alloc | apply Kd.N_drewN | apply Kd.N_drew)); exact HO_163.out) hb); replace HL1315_0 := A_ (Kd.V_below (by (with_reducible repeat (first | apply Kd.V_alloc | apply Kd.V_drewN | apply Kd.V_drew)); exact HL1315_0.out) hb); replace HR1315_0 := A_ (Kd.C_below (by repeat (first | (with_reducible exact HR1315_0.out) | (with_reducible refine Kd.C_alloc ?_ _) | (with_reducible refine Kd.C_drewN ?_ _) | (with_reducible refine Kd.C_drew ?_) | exact HR1315_0.out)) hb); replace HB := A_ (below_step tb_ hb); (try clear hb); (try clear hb2); (try clear hk); (try clear hi); have p1318 : 0 ≤ ((ji67) : Int) := od_; have q1318 : (ji67) < (t1286.length : Int) := od_; obtain ⟨ad1318, A1318_0, c1318_0, e1318, hx1318_0, hl1318_0, hi1318_0⟩ := at_L1 (Kd.N_reads' HO_6.out).2.2 (ji67) p1318 q1318; obtain rfl : ad1315 = ad1318 := (by injection e1318); obtain ⟨ce1318, hce1318, hMe1318, hcc1318⟩ := Kd.N_get HO_6.out [] (ji67) p1318 (by first | exact q1318 | exact od_ | (have e_ := (Kd.N_reads' HO_6.out).1; omega)); obtain ⟨ua1318_0, uc1318_0, rfl, ul1318_0, ge1318_0⟩ := Kd.FK_slice_open hMe1318; have hv1318_0 := hcc1318 0 _ rfl; rw [Nat.add_zero, show ((Kd.slice 3 (Kd.int .i64))).sz = 1 from rfl, Nat.mul_one] at hv1318_0; replace hv1318_0 := Option.some.inj (hv1318_0.symm.trans hx1318_0); injection hv1318_0 with hva_ hvn_ hvc_; rw [hva_] at ge1318_0; rw [hvc_] at ul1318_0; have HL1318_0 := A_ (show Kd.V (Kd.int .i64) 3 _ w.heap.size _ _ (rd_L1 t1286 (ji67)) from Kd.V_mk ul1318_0 ge1318_0); clear hva_ hvn_ hvc_ ge1318_0 ul1318_0; clear hcc1318 hce1318; have HR1318_0 := A_ hi1318_0; have HC1318_0 := A_ hl1318_0; clear hi1318_0 hl1318_0; replace p1318 := eq_true p1318; replace q1318 := eq_true q1318) | (go_at_call 75; (with_reducible refine (laws_kLess.calls k4 _ _ (rd_L1 t1286 (ji67)) _ _ (rd_L1 t1286 x165_4) true _ ?side1 ?side2 ?side3 ?side4 A70.out).mono ?_); (case side1 => repeat (first | exact (by repeat (first | (with_reducible exact HR1318_0.out) | (with_reducible refine Kd.C_alloc ?_ _) | (with_reducible refine Kd.C_drewN ?_ _) | (with_reducible refine Kd.C_drew ?_) | exact HR1318_0.out)) | (with_reducible refine Kd.C_alloc ?_ _) | (with_reducible refine Kd.C_drewN ?_ _) | (with_reducible refine Kd.C_drew ?_))); (case side2 => exact HC1318_0.out); (case side3 => repeat (first | exact (by repeat (first | (with_reducible exact HR1315_0.out) | (with_reducible refine Kd.C_alloc ?_ _) | (with_reducible refine Kd.C_drewN ?_ _) | (with_reducible refine Kd.C_drew ?_) | exact HR1315_0.out)) | (with_reducible refine Kd.C_alloc ?_ _) | (with_reducible refine Kd.C_drewN ?_ _) | (with_reducible refine Kd.C_drew ?_))); (case side4 => exact HC1315_0.out); rintro e w' ⟨rfl, ⟨nd, rfl⟩⟩))
                           go_roundg k4
                           case measure => have := HJ11.out; have := HK2.out; have := HJ41.out; have := HK4.out; omega
                           case rel => exact ⟨(wrap64 (x165_4 + 1)), tf_, H', ⟨by have := HJ11.out; have := HK2.out; have := HJ41.out; have := HK4.out; omega⟩, ⟨by (with_reducible repeat (first | apply Kd.N_alloc | apply Kd.N_drewN | apply Kd.N_drew)); exact HO_6.out⟩, ⟨by (with_reducible repeat (first | apply Kd.N_alloc | apply Kd.N_drewN | apply Kd.N_drew)); exact HO_163.out⟩, ⟨tb_⟩⟩
                          ·
                           replace c71 := Bool.eq_false_iff.mpr c71
                           subst c71
                           have H1 : (none) = some r := by rw [if_neg (show ¬ (false = true) by decide)] at H; exact H
                           clear H
                           have H := H1
                           clear H1
                           exact absurd H (by simp)
                         ·
                          rw [if_neg c69] at H
                          exact absurd H (by simp)
                        ·
                         rw [if_neg c68] at H
                         exact absurd H (by simp)
                       ·
                        rw [if_neg c66] at H
                        have c66b0 := decide_eq_false c66
                        clear c66
                        have H' := A_ H
                        clear H
                        have p1315 : 0 ≤ (x165_4 : Int) := od_
                        have q1315 : x165_4 < (t1286.length : Int) := od_
                        obtain ⟨ad1315, A1315_0, c1315_0, e1315, hx1315_0, hl1315_0, hi1315_0⟩ := at_L1 (Kd.N_reads' HO_163.out).2.2 x165_4 p1315 q1315
                        cases e1315
                        obtain ⟨ce1315, hce1315, hMe1315, hcc1315⟩ := Kd.N_get HO_163.out [] x165_4 p1315 (by first | exact q1315 | exact od_ | (have e_ := (Kd.N_reads' HO_163.out).1; omega))
                        obtain ⟨ua1315_0, uc1315_0, rfl, ul1315_0, ge1315_0⟩ := Kd.FK_slice_open hMe1315
                        have hv1315_0 := hcc1315 0 _ rfl
                        rw [Nat.add_zero, show ((Kd.slice 3 (Kd.int .i64))).sz = 1 from rfl, Nat.mul_one] at hv1315_0
                        replace hv1315_0 := Option.some.inj (hv1315_0.symm.trans hx1315_0)
                        injection hv1315_0 with hva_ hvn_ hvc_
                        rw [hva_] at ge1315_0
                        rw [hvc_] at ul1315_0
                        have HL1315_0 := A_ (show Kd.V (Kd.int .i64) 3 _ w.heap.size _ _ (rd_L1 t1286 x165_4) from Kd.V_mk ul1315_0 ge1315_0)
                        clear hva_ hvn_ hvc_ ge1315_0 ul1315_0
                        clear hcc1315 hce1315
                        have HR1315_0 := A_ hi1315_0
                        have HC1315_0 := A_ hl1315_0
                        clear hi1315_0 hl1315_0
                        replace p1315 := eq_true p1315
                        replace q1315 := eq_true q1315
                        go_wp2_with (first | (refine gc_ 58 ?_; refine goesT_ (some 172) Try.func58 #[.slice A1315_0 (rd_L1 t1286 x165_4).length c1315_0] ?_; (with_reducible refine (impl_AreQueens.calls k4 _ _ (rd_L1 t1286 x165_4) true true _ ?side1 ?side2 A63.out).mono ?_); (case side1 => repeat (first | exact (by repeat (first | (with_reducible exact HR1315_0.out) | (with_reducible refine Kd.C_alloc ?_ _) | (with_reducible refine Kd.C_drewN ?_ _) | (with_reducible refine Kd.C_drew ?_) | exact HR1315_0.out)) | (with_reducible refine Kd.C_alloc ?_ _) | (with_reducible refine Kd.C_drewN ?_ _) | (with_reducible refine Kd.C_drew ?_))); (case side2 => exact HC1315_0.out); rintro e w73 ⟨rfl, hb⟩; refine ⟨_, rfl, ?_⟩; replace HO_6 := A_ (Kd.N_below (by (with_reducible repeat (first | apply Kd.N_alloc | apply Kd.N_drewN | apply Kd.N_drew)); exact HO_6.out) hb); replace HO_163 := A_ (Kd.N_below (by (with_reducible repeat (first | apply Kd.N_alloc | apply Kd.N_drewN | apply Kd.N_drew)); exact HO_163.out) hb); replace HL1315_0 := A_ (Kd.V_below (by (with_reducible repeat (first | apply Kd.V_alloc | apply Kd.V_drewN | apply Kd.V_drew)); exact HL1315_0.out) hb); replace HR1315_0 := A_ (Kd.C_below (by repeat (first | (with_reducible exact HR1315_0.out) | (with_reducible refine Kd.C_alloc ?_ _) | (with_reducible refine Kd.C_drewN ?_ _) | (with_reducible refine Kd.C_drew ?_) | exact HR1315_0.out)) hb); replace HB := A_ (below_step tb_ hb); (try clear hb); (try clear hb2); (try clear hk); (try clear hi)))
                        go_roundg k4
                        case measure => have := HJ11.out; have := HK2.out; have := HJ41.out; have := HK4.out; omega
                        case rel => exact ⟨(wrap64 (x165_4 + 1)), tf_, H', ⟨by have := HJ11.out; have := HK2.out; have := HJ41.out; have := HK4.out; omega⟩, ⟨by (with_reducible repeat (first | apply Kd.N_alloc | apply Kd.N_drewN | apply Kd.N_drew)); exact HO_6.out⟩, ⟨by (with_reducible repeat (first | apply Kd.N_alloc | apply Kd.N_drewN | apply Kd.N_drew)); exact HO_163.out⟩, ⟨tb_⟩⟩
                      ·
                       replace c65 := Bool.eq_false_iff.mpr c65
                       subst c65
                       have H1 : (none) = some r := by rw [if_neg (show ¬ (false = true) by decide)] at H; exact H
                       clear H
                       have H := H1
                       clear H1
                       exact absurd H (by simp)
                     ·
                      replace c64 := Bool.eq_false_iff.mpr c64
                      subst c64
                      have H1 : (none) = some r := by rw [if_neg (show ¬ (false = true) by decide)] at H; exact H
                      clear H
                      have H := H1
                      clear H1
                      exact absurd H (by simp)
                    ·
                     rw [if_neg c62] at H
                     exact absurd H (by simp)
                   ·
                    rw [if_neg c61] at H
                    exact absurd H (by simp)
                  ·
                   rw [if_neg c60] at H
                   have c60b0 := decide_eq_false c60
                   clear c60
                   have H' := A_ H
                   clear H
                   go_wp2
                   go_meet
                   case rel => exact ⟨_, H', ⟨by have := HJ11.out; have := HK2.out; have := HJ41.out; have := HK4.out; first | omega | exact Nat.le_refl _⟩, ⟨tb_⟩⟩
        ·
         replace c34 := Bool.eq_false_iff.mpr c34
         subst c34
         have H1 : (laws_FnQueensListed.j4 kj11 l1) = some r := by rw [if_neg (show ¬ (false = true) by decide)] at H; exact H
         clear H
         have H := H1
         clear H1
         have H' := A_ H
         clear H
         go_wp2
         go_meet
         case rel => exact ⟨_, H', ⟨by have := HJ11.out; first | omega | exact Nat.le_refl _⟩, ⟨tb_⟩⟩
      case rest =>
       as_aux_lemma =>
        clear HC33
        try clear c1
        try clear p1
        try clear q1
        try clear hx1
        try clear qi1
        try clear c2
        try clear p2
        try clear c3
        try clear c4
        try clear c5
        try clear c6
        try clear p6
        try clear c7
        try clear c13
        try clear p13
        try clear q13
        try clear hx13
        try clear qi13
        try clear c20
        try clear c20b0
        try clear c20b1
        try clear c20b2
        try clear c22
        try clear c23
        try clear c23b0
        try clear c23b1
        try clear c23b2
        try clear c24
        try clear c24b0
        try clear c24b1
        try clear c25
        try clear c25b0
        try clear c25b1
        try clear c25b2
        try clear c27
        try clear c32
        try clear c34
        try clear c35
        try clear c35b0
        try clear c37
        try clear c43
        try clear c43b0
        try clear c43b1
        try clear c44
        try clear c44b0
        try clear c44b1
        try clear c45
        try clear c45b0
        try clear c45b1
        try clear c45b2
        try clear c46
        try clear c47
        try clear c47b0
        try clear c47b1
        try clear c49
        try clear c50
        try clear c50b0
        try clear c50b1
        try clear c55
        try clear c55b0
        try clear c55b1
        try clear c58
        try clear c60
        try clear c60b0
        try clear c61
        try clear c61b0
        try clear c62
        try clear c62b0
        try clear c64
        try clear p64
        try clear c65
        try clear c66
        try clear c66b0
        try clear c68
        try clear c68b0
        try clear c69
        try clear c69b0
        try clear c71
        try clear hx1313_0
        try clear hx1315_0
        try clear hx1318_0
        try clear p1
        try clear p13
        try clear p1313
        try clear p1315
        try clear p1318
        try clear p2
        try clear p6
        try clear q1
        try clear q13
        try clear q1313
        try clear q1315
        try clear q1318
        obtain ⟨kq, HA, HJ32, HB⟩ := hcut
        cases kq with
        | zero => exact absurd HA.out (by simp [laws_FnQueensListed.j4])
        | succ kj32 =>
         have H := HA.out
         clear HA
         simp only [laws_FnQueensListed.j4] at H
         replace H := Option.bind_eq_some_iff.mp H
         obtain ⟨⟨t1320, t1321⟩, A740, H⟩ := H
         replace H : ((impl_CountGoingOn.f kj32 t1320 t1321).bind fun bt1324 => ((spec_CountGoingOn.f kj32 t1320 t1321).bind fun bt1326 => ((spec_DrawAttacksOf.f kj32 l1).bind fun t1328 => ((impl_AttacksOf.f kj32 t1328).bind fun bt1331 => ((spec_AttacksOf.f kj32 t1328).bind fun bt1335 => ((impl_AreQueens.f kj32 t1328).bind fun bt1339 => (if (bt1324.2 == bt1326.2) = true then (if bt1324.1 = bt1326.1 then (if (bt1331.2 == bt1335.2) = true then ((laws_kRows.f kj32 bt1331.1 bt1335.1).bind fun t1341 => (if t1341 = true then (if (bt1339.2 == bt1331.2) = true then (if bt1339.2 = true then (some (bt1339.1 == ((bt1331.1.length : Int) == 0))) else (some (bt1339.1 == false))) else (none)) else (none))) else (none)) else (none)) else (none)))))))) = some r := H
         have A74 := A_ A740
         clear A740
         replace H := Option.bind_eq_some_iff.mp H
         obtain ⟨⟨t1324, t1325⟩, A750, H⟩ := H
         replace H : ((spec_CountGoingOn.f kj32 t1320 t1321).bind fun bt1326 => ((spec_DrawAttacksOf.f kj32 l1).bind fun t1328 => ((impl_AttacksOf.f kj32 t1328).bind fun bt1331 => ((spec_AttacksOf.f kj32 t1328).bind fun bt1335 => ((impl_AreQueens.f kj32 t1328).bind fun bt1339 => (if (t1325 == bt1326.2) = true then (if t1324 = bt1326.1 then (if (bt1331.2 == bt1335.2) = true then ((laws_kRows.f kj32 bt1331.1 bt1335.1).bind fun t1341 => (if t1341 = true then (if (bt1339.2 == bt1331.2) = true then (if bt1339.2 = true then (some (bt1339.1 == ((bt1331.1.length : Int) == 0))) else (some (bt1339.1 == false))) else (none)) else (none))) else (none)) else (none)) else (none))))))) = some r := H
         have A75 := A_ A750
         clear A750
         replace H := Option.bind_eq_some_iff.mp H
         obtain ⟨⟨t1326, t1327⟩, A760, H⟩ := H
         replace H : ((spec_DrawAttacksOf.f kj32 l1).bind fun t1328 => ((impl_AttacksOf.f kj32 t1328).bind fun bt1331 => ((spec_AttacksOf.f kj32 t1328).bind fun bt1335 => ((impl_AreQueens.f kj32 t1328).bind fun bt1339 => (if (t1325 == t1327) = true then (if t1324 = t1326 then (if (bt1331.2 == bt1335.2) = true then ((laws_kRows.f kj32 bt1331.1 bt1335.1).bind fun t1341 => (if t1341 = true then (if (bt1339.2 == bt1331.2) = true then (if bt1339.2 = true then (some (bt1339.1 == ((bt1331.1.length : Int) == 0))) else (some (bt1339.1 == false))) else (none)) else (none))) else (none)) else (none)) else (none)))))) = some r := H
         have A76 := A_ A760
         clear A760
         replace H := Option.bind_eq_some_iff.mp H
         obtain ⟨t1328, A770, H⟩ := H
         replace H : ((impl_AttacksOf.f kj32 t1328).bind fun bt1331 => ((spec_AttacksOf.f kj32 t1328).bind fun bt1335 => ((impl_AreQueens.f kj32 t1328).bind fun bt1339 => (if (t1325 == t1327) = true then (if t1324 = t1326 then (if (bt1331.2 == bt1335.2) = true then ((laws_kRows.f kj32 bt1331.1 bt1335.1).bind fun t1341 => (if t1341 = true then (if (bt1339.2 == bt1331.2) = true then (if bt1339.2 = true then (some (bt1339.1 == ((bt1331.1.length : Int) == 0))) else (some (bt1339.1 == false))) else (none)) else (none))) else (none)) else (none)) else (none))))) = some r := H
         have A77 := A_ A770
         clear A770
         replace H := Option.bind_eq_some_iff.mp H
         obtain ⟨⟨t1331, t1332⟩, A780, H⟩ := H
         replace H : ((spec_AttacksOf.f kj32 t1328).bind fun bt1335 => ((impl_AreQueens.f kj32 t1328).bind fun bt1339 => (if (t1325 == t1327) = true then (if t1324 = t1326 then (if (t1332 == bt1335.2) = true then ((laws_kRows.f kj32 t1331 bt1335.1).bind fun t1341 => (if t1341 = true then (if (bt1339.2 == t1332) = true then (if bt1339.2 = true then (some (bt1339.1 == ((t1331.length : Int) == 0))) else (some (bt1339.1 == false))) else (none)) else (none))) else (none)) else (none)) else (none)))) = some r := H
         have A78 := A_ A780
         clear A780
         replace H := Option.bind_eq_some_iff.mp H
         obtain ⟨⟨t1335, t1336⟩, A790, H⟩ := H
         replace H : ((impl_AreQueens.f kj32 t1328).bind fun bt1339 => (if (t1325 == t1327) = true then (if t1324 = t1326 then (if (t1332 == t1336) = true then ((laws_kRows.f kj32 t1331 t1335).bind fun t1341 => (if t1341 = true then (if (bt1339.2 == t1332) = true then (if bt1339.2 = true then (some (bt1339.1 == ((t1331.length : Int) == 0))) else (some (bt1339.1 == false))) else (none)) else (none))) else (none)) else (none)) else (none))) = some r := H
         have A79 := A_ A790
         clear A790
         replace H := Option.bind_eq_some_iff.mp H
         obtain ⟨⟨t1339, t1340⟩, A800, H⟩ := H
         replace H : (if (t1325 == t1327) = true then (if t1324 = t1326 then (if (t1332 == t1336) = true then ((laws_kRows.f kj32 t1331 t1335).bind fun t1341 => (if t1341 = true then (if (t1340 == t1332) = true then (if t1340 = true then (some (t1339 == ((t1331.length : Int) == 0))) else (some (t1339 == false))) else (none)) else (none))) else (none)) else (none)) else (none)) = some r := H
         have A80 := A_ A800
         clear A800
         by_cases c81 : (t1325 == t1327) = true
         ·
          rw [if_pos c81] at H
          have c81b0 : (t1325 == t1327) = true := c81
          (try (have c81b1 : decide (t1325 = t1327) = true := by simpa using c81))
          (try (have c81b2 : (t1325 == t1327) = true := by simpa using c81))
          clear c81
          by_cases c82 : t1324 = t1326
          ·
           rw [if_pos c82] at H
           have c82b0 : (t1324 == t1326) = true := beq_iff_eq.mpr c82
           have c82b1 : (t1324 != t1326) = false := bne_eq_false_iff_eq.mpr c82
           clear c82
           by_cases c83 : (t1332 == t1336) = true
           ·
            rw [if_pos c83] at H
            have c83b0 : (t1332 == t1336) = true := c83
            (try (have c83b1 : decide (t1332 = t1336) = true := by simpa using c83))
            (try (have c83b2 : (t1332 == t1336) = true := by simpa using c83))
            clear c83
            replace H := Option.bind_eq_some_iff.mp H
            obtain ⟨t1341, A840, H⟩ := H
            replace H : (if t1341 = true then (if (t1340 == t1332) = true then (if t1340 = true then (some (t1339 == ((t1331.length : Int) == 0))) else (some (t1339 == false))) else (none)) else (none)) = some r := H
            have A84 := A_ A840
            clear A840
            by_cases c85 : t1341 = true
            ·
             subst c85
             have H1 : (if (t1340 == t1332) = true then (if t1340 = true then (some (t1339 == ((t1331.length : Int) == 0))) else (some (t1339 == false))) else (none)) = some r := by rw [if_pos rfl] at H; exact H
             clear H
             have H := H1
             clear H1
             by_cases c86 : (t1340 == t1332) = true
             ·
              rw [if_pos c86] at H
              have c86b0 : (t1340 == t1332) = true := c86
              (try (have c86b1 : decide (t1340 = t1332) = true := by simpa using c86))
              (try (have c86b2 : (t1340 == t1332) = true := by simpa using c86))
              clear c86
              by_cases c87 : t1340 = true
              ·
               subst c87
               have H1 : (some (t1339 == ((t1331.length : Int) == 0))) = some r := by rw [if_pos rfl] at H; exact H
               clear H
               have H := H1
               clear H1
               obtain rfl := Option.some.inj H
               go_wp2_with (first | (refine gc_ 76 ?_; refine goesT_ (some 198) Try.func76 #[.slice A1 l1.length c1] ?_; (with_reducible refine (spec_DrawCountGoingOn.calls kj32 _ _ l1 t1320 t1321 _ ?side1 ?side2 A74.out).mono ?_); (case side1 => exact tc_ HR1.out); (case side2 => exact HC1.out); rintro e w88 ⟨v1322, rfl, ho0, hb⟩; refine ⟨_, rfl, ?_⟩; have HO1323 := A_ (Kd.R_lower ho0 (below_size tb_)); replace HB := A_ (below_step tb_ hb); (try clear hb); (try clear ho0); obtain ⟨Ao89, co89, eo89⟩ := Kd.R_slice HO1323.out; subst eo89) | (refine gc_ 74 ?_; refine goesT_ (some 204) Try.func74 #[.int .i64 t1320, .slice Ao89 t1321.length co89] ?_; (with_reducible refine (impl_CountGoingOn.calls kj32 t1320 _ _ t1321 t1324 t1325 _ ?side1 ?side2 A75.out).mono ?_); (case side1 => exact tc0_ (Kd.R_reads' HO1323.out).2.2); (case side2 => exact (Kd.R_reads' HO1323.out).2.1); rintro e w90 ⟨rfl, hb⟩; refine ⟨_, rfl, ?_⟩; replace HO1323 := A_ (Kd.R_below (tr_x HO1323.out) hb); replace HB := A_ (below_step tb_ hb); (try clear hb)) | (refine gc_ 77 ?_; refine goesT_ (some 210) Try.func77 #[.int .i64 t1320, .slice Ao89 t1321.length co89] ?_; (with_reducible refine (spec_CountGoingOn.calls kj32 t1320 _ _ t1321 t1326 t1327 _ ?side1 ?side2 A76.out).mono ?_); (case side1 => exact tc0_ (Kd.R_reads' HO1323.out).2.2); (case side2 => exact (Kd.R_reads' HO1323.out).2.1); rintro e w91 ⟨rfl, hb⟩; refine ⟨_, rfl, ?_⟩; replace HO1323 := A_ (Kd.R_below (tr_x HO1323.out) hb); replace HB := A_ (below_step tb_ hb); (try clear hb)) | (refine gc_ 78 ?_; refine goesT_ (some 214) Try.func78 #[.slice A1 l1.length c1] ?_; (with_reducible refine (spec_DrawAttacksOf.calls kj32 _ _ l1 t1328 _ ?side1 ?side2 A77.out).mono ?_); (case side1 => exact tc_ HR1.out); (case side2 => exact HC1.out); rintro e w92 ⟨v1329, rfl, ho0, hb⟩; refine ⟨_, rfl, ?_⟩; have HO1330 := A_ (Kd.R_lower (Kd.R_new' ho0 (Kd.R_lt (tr_x HO1323.out))) (below_size tb_)); replace HO1323 := A_ (Kd.R_elder' (tr_x HO1323.out) (Kd.R_base ho0) hb); replace HB := A_ (below_step tb_ hb); (try clear hb); (try clear ho0); obtain ⟨Ao93, co93, eo93⟩ := Kd.R_slice HO1330.out; subst eo93) | (refine gc_ 79 ?_; refine goesT_ (some 217) Try.func79 #[.slice Ao93 t1328.length co93] ?_; (with_reducible refine (impl_AttacksOf.calls kj32 _ _ t1328 t1331 t1332 _ ?side1 ?side2 A78.out).mono ?_); (case side1 => exact tc0_ (Kd.R_reads' HO1330.out).2.2); (case side2 => exact (Kd.R_reads' HO1330.out).2.1); rintro e w94 ⟨v1333, rfl, ho0, hb⟩; refine ⟨_, rfl, ?_⟩; have HO1334 := A_ (Kd.N_lower (Kd.N_mono (ok' := fun k_ => some k_ ≠ (.slice Ao89 t1321.length co89 : Value).ownBlock ∧ some k_ ≠ (.slice Ao93 t1328.length co93 : Value).ownBlock) (Kd.S_N (Kd.S_bound ho0)) (fun k_ hk_ => ⟨(Kd.fresh' (Kd.R_lt (tr_x HO1323.out)) k_ hk_.2.1), (Kd.fresh' (Kd.R_lt (tr_x HO1330.out)) k_ hk_.2.1)⟩)) (below_size tb_)); replace HO1323 := A_ (Kd.R_below (tr_x HO1323.out) hb); replace HO1330 := A_ (Kd.R_below (tr_x HO1330.out) hb); replace HB := A_ (below_step tb_ hb); (try clear hb); (try clear ho0)) | (refine gc_ 80 ?_; refine goesT_ (some 222) Try.func80 #[.slice Ao93 t1328.length co93] ?_; (with_reducible refine (spec_AttacksOf.calls kj32 _ _ t1328 t1335 t1336 _ ?side1 ?side2 A79.out).mono ?_); (case side1 => exact tc0_ (Kd.R_reads' HO1330.out).2.2); (case side2 => exact (Kd.R_reads' HO1330.out).2.1); rintro e w95 ⟨v1337, rfl, ho0, hb⟩; refine ⟨_, rfl, ?_⟩; have HO1338 := A_ (Kd.N_lower (Kd.N_mono (ok' := fun k_ => some k_ ≠ (.slice Ao89 t1321.length co89 : Value).ownBlock ∧ some k_ ≠ (.slice Ao93 t1328.length co93 : Value).ownBlock ∧ some k_ ≠ (v1333 : Value).ownBlock) (Kd.S_N (Kd.S_bound ho0)) (fun k_ hk_ => ⟨(Kd.fresh' (Kd.R_lt (tr_x HO1323.out)) k_ hk_.2.1), (Kd.fresh' (Kd.R_lt (tr_x HO1330.out)) k_ hk_.2.1), (Kd.fresh' (Kd.N_lt (by (with_reducible repeat (first | apply Kd.N_alloc | apply Kd.N_drewN | apply Kd.N_drew)); exact HO1334.out)) k_ hk_.2.1)⟩)) (below_size tb_)); replace HO1323 := A_ (Kd.R_below (tr_x HO1323.out) hb); replace HO1330 := A_ (Kd.R_below (tr_x HO1330.out) hb); replace HO1334 := A_ (Kd.N_elder' (by (with_reducible repeat (first | apply Kd.N_alloc | apply Kd.N_drewN | apply Kd.N_drew)); exact HO1334.out) (by first | exact Kd.N_base ho0 | exact Kd.S_base ho0) hb); replace HB := A_ (below_step tb_ hb); (try clear hb); (try clear ho0)) | (refine gc_ 58 ?_; refine goesT_ (some 227) Try.func58 #[.slice Ao93 t1328.length co93] ?_; (with_reducible refine (impl_AreQueens.calls kj32 _ _ t1328 t1339 true _ ?side1 ?side2 A80.out).mono ?_); (case side1 => exact tc0_ (Kd.R_reads' HO1330.out).2.2); (case side2 => exact (Kd.R_reads' HO1330.out).2.1); rintro e w96 ⟨rfl, hb⟩; refine ⟨_, rfl, ?_⟩; replace HO1323 := A_ (Kd.R_below (tr_x HO1323.out) hb); replace HO1330 := A_ (Kd.R_below (tr_x HO1330.out) hb); replace HO1334 := A_ (Kd.N_below (by (with_reducible repeat (first | apply Kd.N_alloc | apply Kd.N_drewN | apply Kd.N_drew)); exact HO1334.out) hb); replace HO1338 := A_ (Kd.N_below (by (with_reducible repeat (first | apply Kd.N_alloc | apply Kd.N_drewN | apply Kd.N_drew)); exact HO1338.out) hb); replace HB := A_ (below_step tb_ hb); (try clear hb); obtain ⟨Ao97, co97, eo97⟩ := Kd.N_slice HO1334.out; subst eo97; obtain ⟨Ao98, co98, eo98⟩ := Kd.N_slice HO1338.out; subst eo98) | (go_at_call 49; (with_reducible refine (laws_kRows.calls kj32 _ _ t1331 _ _ t1335 true _ ?side1 ?side2 ?side3 ?side4 A84.out).mono ?_); (case side1 => repeat (first | exact (Kd.N_reads' HO1334.out).2.2 | (with_reducible refine Kd.C_alloc ?_ _) | (with_reducible refine Kd.C_drewN ?_ _) | (with_reducible refine Kd.C_drew ?_))); (case side2 => exact (Kd.N_reads' HO1334.out).2.1); (case side3 => repeat (first | exact (Kd.N_reads' HO1338.out).2.2 | (with_reducible refine Kd.C_alloc ?_ _) | (with_reducible refine Kd.C_drewN ?_ _) | (with_reducible refine Kd.C_drew ?_))); (case side4 => exact (Kd.N_reads' HO1338.out).2.1); rintro e w' ⟨rfl, ⟨nd, rfl⟩⟩))
               go_ret
               exact ⟨te_, tb_⟩
              ·
               replace c87 := Bool.eq_false_iff.mpr c87
               subst c87
               have H1 : (some (t1339 == false)) = some r := by rw [if_neg (show ¬ (false = true) by decide)] at H; exact H
               clear H
               have H := H1
               clear H1
               obtain rfl := Option.some.inj H
               go_wp2_with (first | (refine gc_ 76 ?_; refine goesT_ (some 198) Try.func76 #[.slice A1 l1.length c1] ?_; (with_reducible refine (spec_DrawCountGoingOn.calls kj32 _ _ l1 t1320 t1321 _ ?side1 ?side2 A74.out).mono ?_); (case side1 => exact tc_ HR1.out); (case side2 => exact HC1.out); rintro e w99 ⟨v1322, rfl, ho0, hb⟩; refine ⟨_, rfl, ?_⟩; have HO1323 := A_ (Kd.R_lower ho0 (below_size tb_)); replace HB := A_ (below_step tb_ hb); (try clear hb); (try clear ho0); obtain ⟨Ao100, co100, eo100⟩ := Kd.R_slice HO1323.out; subst eo100) | (refine gc_ 74 ?_; refine goesT_ (some 204) Try.func74 #[.int .i64 t1320, .slice Ao100 t1321.length co100] ?_; (with_reducible refine (impl_CountGoingOn.calls kj32 t1320 _ _ t1321 t1324 t1325 _ ?side1 ?side2 A75.out).mono ?_); (case side1 => exact tc0_ (Kd.R_reads' HO1323.out).2.2); (case side2 => exact (Kd.R_reads' HO1323.out).2.1); rintro e w101 ⟨rfl, hb⟩; refine ⟨_, rfl, ?_⟩; replace HO1323 := A_ (Kd.R_below (tr_x HO1323.out) hb); replace HB := A_ (below_step tb_ hb); (try clear hb)) | (refine gc_ 77 ?_; refine goesT_ (some 210) Try.func77 #[.int .i64 t1320, .slice Ao100 t1321.length co100] ?_; (with_reducible refine (spec_CountGoingOn.calls kj32 t1320 _ _ t1321 t1326 t1327 _ ?side1 ?side2 A76.out).mono ?_); (case side1 => exact tc0_ (Kd.R_reads' HO1323.out).2.2); (case side2 => exact (Kd.R_reads' HO1323.out).2.1); rintro e w102 ⟨rfl, hb⟩; refine ⟨_, rfl, ?_⟩; replace HO1323 := A_ (Kd.R_below (tr_x HO1323.out) hb); replace HB := A_ (below_step tb_ hb); (try clear hb)) | (refine gc_ 78 ?_; refine goesT_ (some 214) Try.func78 #[.slice A1 l1.length c1] ?_; (with_reducible refine (spec_DrawAttacksOf.calls kj32 _ _ l1 t1328 _ ?side1 ?side2 A77.out).mono ?_); (case side1 => exact tc_ HR1.out); (case side2 => exact HC1.out); rintro e w103 ⟨v1329, rfl, ho0, hb⟩; refine ⟨_, rfl, ?_⟩; have HO1330 := A_ (Kd.R_lower (Kd.R_new' ho0 (Kd.R_lt (tr_x HO1323.out))) (below_size tb_)); replace HO1323 := A_ (Kd.R_elder' (tr_x HO1323.out) (Kd.R_base ho0) hb); replace HB := A_ (below_step tb_ hb); (try clear hb); (try clear ho0); obtain ⟨Ao104, co104, eo104⟩ := Kd.R_slice HO1330.out; subst eo104) | (refine gc_ 79 ?_; refine goesT_ (some 217) Try.func79 #[.slice Ao104 t1328.length co104] ?_; (with_reducible refine (impl_AttacksOf.calls kj32 _ _ t1328 t1331 t1332 _ ?side1 ?side2 A78.out).mono ?_); (case side1 => exact tc0_ (Kd.R_reads' HO1330.out).2.2); (case side2 => exact (Kd.R_reads' HO1330.out).2.1); rintro e w105 ⟨v1333, rfl, ho0, hb⟩; refine ⟨_, rfl, ?_⟩; have HO1334 := A_ (Kd.N_lower (Kd.N_mono (ok' := fun k_ => some k_ ≠ (.slice Ao100 t1321.length co100 : Value).ownBlock ∧ some k_ ≠ (.slice Ao104 t1328.length co104 : Value).ownBlock) (Kd.S_N (Kd.S_bound ho0)) (fun k_ hk_ => ⟨(Kd.fresh' (Kd.R_lt (tr_x HO1323.out)) k_ hk_.2.1), (Kd.fresh' (Kd.R_lt (tr_x HO1330.out)) k_ hk_.2.1)⟩)) (below_size tb_)); replace HO1323 := A_ (Kd.R_below (tr_x HO1323.out) hb); replace HO1330 := A_ (Kd.R_below (tr_x HO1330.out) hb); replace HB := A_ (below_step tb_ hb); (try clear hb); (try clear ho0)) | (refine gc_ 80 ?_; refine goesT_ (some 222) Try.func80 #[.slice Ao104 t1328.length co104] ?_; (with_reducible refine (spec_AttacksOf.calls kj32 _ _ t1328 t1335 t1336 _ ?side1 ?side2 A79.out).mono ?_); (case side1 => exact tc0_ (Kd.R_reads' HO1330.out).2.2); (case side2 => exact (Kd.R_reads' HO1330.out).2.1); rintro e w106 ⟨v1337, rfl, ho0, hb⟩; refine ⟨_, rfl, ?_⟩; have HO1338 := A_ (Kd.N_lower (Kd.N_mono (ok' := fun k_ => some k_ ≠ (.slice Ao100 t1321.length co100 : Value).ownBlock ∧ some k_ ≠ (.slice Ao104 t1328.length co104 : Value).ownBlock ∧ some k_ ≠ (v1333 : Value).ownBlock) (Kd.S_N (Kd.S_bound ho0)) (fun k_ hk_ => ⟨(Kd.fresh' (Kd.R_lt (tr_x HO1323.out)) k_ hk_.2.1), (Kd.fresh' (Kd.R_lt (tr_x HO1330.out)) k_ hk_.2.1), (Kd.fresh' (Kd.N_lt (by (with_reducible repeat (first | apply Kd.N_alloc | apply Kd.N_drewN | apply Kd.N_drew)); exact HO1334.out)) k_ hk_.2.1)⟩)) (below_size tb_)); replace HO1323 := A_ (Kd.R_below (tr_x HO1323.out) hb); replace HO1330 := A_ (Kd.R_below (tr_x HO1330.out) hb); replace HO1334 := A_ (Kd.N_elder' (by (with_reducible repeat (first | apply Kd.N_alloc | apply Kd.N_drewN | apply Kd.N_drew)); exact HO1334.out) (by first | exact Kd.N_base ho0 | exact Kd.S_base ho0) hb); replace HB := A_ (below_step tb_ hb); (try clear hb); (try clear ho0)) | (refine gc_ 58 ?_; refine goesT_ (some 227) Try.func58 #[.slice Ao104 t1328.length co104] ?_; (with_reducible refine (impl_AreQueens.calls kj32 _ _ t1328 t1339 false _ ?side1 ?side2 A80.out).mono ?_); (case side1 => exact tc0_ (Kd.R_reads' HO1330.out).2.2); (case side2 => exact (Kd.R_reads' HO1330.out).2.1); rintro e w107 ⟨rfl, hb⟩; refine ⟨_, rfl, ?_⟩; replace HO1323 := A_ (Kd.R_below (tr_x HO1323.out) hb); replace HO1330 := A_ (Kd.R_below (tr_x HO1330.out) hb); replace HO1334 := A_ (Kd.N_below (by (with_reducible repeat (first | apply Kd.N_alloc | apply Kd.N_drewN | apply Kd.N_drew)); exact HO1334.out) hb); replace HO1338 := A_ (Kd.N_below (by (with_reducible repeat (first | apply Kd.N_alloc | apply Kd.N_drewN | apply Kd.N_drew)); exact HO1338.out) hb); replace HB := A_ (below_step tb_ hb); (try clear hb); obtain ⟨Ao108, co108, eo108⟩ := Kd.N_slice HO1334.out; subst eo108; obtain ⟨Ao109, co109, eo109⟩ := Kd.N_slice HO1338.out; subst eo109) | (go_at_call 49; (with_reducible refine (laws_kRows.calls kj32 _ _ t1331 _ _ t1335 true _ ?side1 ?side2 ?side3 ?side4 A84.out).mono ?_); (case side1 => repeat (first | exact (Kd.N_reads' HO1334.out).2.2 | (with_reducible refine Kd.C_alloc ?_ _) | (with_reducible refine Kd.C_drewN ?_ _) | (with_reducible refine Kd.C_drew ?_))); (case side2 => exact (Kd.N_reads' HO1334.out).2.1); (case side3 => repeat (first | exact (Kd.N_reads' HO1338.out).2.2 | (with_reducible refine Kd.C_alloc ?_ _) | (with_reducible refine Kd.C_drewN ?_ _) | (with_reducible refine Kd.C_drew ?_))); (case side4 => exact (Kd.N_reads' HO1338.out).2.1); rintro e w' ⟨rfl, ⟨nd, rfl⟩⟩))
               go_ret
               exact ⟨te_, tb_⟩
             ·
              rw [if_neg c86] at H
              exact absurd H (by simp)
            ·
             replace c85 := Bool.eq_false_iff.mpr c85
             subst c85
             have H1 : (none) = some r := by rw [if_neg (show ¬ (false = true) by decide)] at H; exact H
             clear H
             have H := H1
             clear H1
             exact absurd H (by simp)
           ·
            rw [if_neg c83] at H
            exact absurd H (by simp)
          ·
           rw [if_neg c82] at H
           exact absurd H (by simp)
         ·
          rw [if_neg c81] at H
          exact absurd H (by simp)
  
/-- THE ONE PURE STATEMENT of laws_FnQueensListed: yours. -/
def laws_FnQueensListed.Pure : Prop := ∀ (l0 : List Int) (l1 : List Int), l0.length ≤ maxLen → l0.length * 1 ≤ 140737488351232 → (∀ x ∈ l0, (Lit.int .u8 x).wf = true) → l1.length ≤ maxLen → l1.length * 1 ≤ 140737488351232 → (∀ x ∈ l1, (Lit.int .u8 x).wf = true) → ∃ k, laws_FnQueensListed.f k l0 l1 = some true
theorem laws_FnQueensListed.walk (P : laws_FnQueensListed.Pure) (a0 : Option Addr) (len0 cap0 : Nat) (z0 : List Int) (a1 : Option Addr) (len1 cap1 : Nat) (z1 : List Int) (w : World) (w0 : (a0 = none ∧ len0 = 0 ∧ cap0 = 0 ∧ z0 = []) ∨ ∃ x, a0 = some x ∧ len0 ≤ cap0 ∧ cap0 ≤ maxLen ∧ z0.length = cap0 ∧ (∀ i, i < z0.length → w.cell? (x.add i) = some (.int .u8 (z0.getD i 0))) ∧ ∀ n ∈ z0, (Lit.int .u8 n).wf = true) (y0 : len0 * 1 ≤ 140737488351232) (w1 : (a1 = none ∧ len1 = 0 ∧ cap1 = 0 ∧ z1 = []) ∨ ∃ x, a1 = some x ∧ len1 ≤ cap1 ∧ cap1 ≤ maxLen ∧ z1.length = cap1 ∧ (∀ i, i < z1.length → w.cell? (x.add i) = some (.int .u8 (z1.getD i 0))) ∧ ∀ n ∈ z1, (Lit.int .u8 n).wf = true) (y1 : len1 * 1 ≤ 140737488351232) :
  Calls Try.prog 13 #[.slice a0 len0 cap0, .slice a1 len1 cap1] w fun e w' => e = .returned (.bool true) ∧ Below w.heap.size w w' := by
 obtain ⟨l0, rfl, hr0, hm0, hw0, hc0⟩ := ReadsInt.ofRowC w0
 obtain ⟨l1, rfl, hr1, hm1, hw1, hc1⟩ := ReadsInt.ofRowC w1
 obtain ⟨k, h⟩ := P l0 l1 hm0 y0 hw0 hm1 y1 hw1
 refine (laws_FnQueensListed.calls k _ _ l0 _ _ l1 true w (Kd.C_of_reads (d := (0 : Int)) (h1 := fun _ => rfl) hr0) hc0 (Kd.C_of_reads (d := (0 : Int)) (h1 := fun _ => rfl) hr1) hc1 h).mono ?_
 rintro e w' ⟨rfl, hd⟩
 exact ⟨rfl, hd⟩

end
end Go.Proofs.Ytnpacpdpgngdpaa.P
