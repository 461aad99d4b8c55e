-- printed functions (wip/slim.py)
import Derived.Test.YtnpacpdpgngdpaaPx0
import Derived.Test.YtnpacpdpgngdpaaQc74da3dc26
import Derived.Test.YtnpacpdpgngdpaaQ755427cc63
import Derived.Test.YtnpacpdpgngdpaaQb85a676f67
import Derived.Test.YtnpacpdpgngdpaaQec2268f9ee
namespace Go.Proofs.Ytnpacpdpgngdpaa.P
noncomputable section
set_option maxHeartbeats 8000000
set_option maxRecDepth 100000
open Go.RowKit Go.Proofs.YtnpacpdpgngdpaaW.PrintWords Go.Proofs.YtnpacpdpgngdpaaW.PrintLast Go.Proofs.YtnpacpdpgngdpaaW.PrintMore
attribute [local go_sem] max2_int min2_int max_two min_two max_three min_three max_four min_four   -- for this text's walks alone
set_option linter.unusedVariables false
set_option linter.unusedSimpArgs false

/-! ### laws_FnQueensTurned: function 15 -/
mutual
def laws_FnQueensTurned.j0 : Nat → List Int → List Int → List Int → Bool → List Int → Bool → Option (Bool)
 | 0, _, _, _, _, _, _ => none
 | k + 1, x1, x5, x6, x7, x14, x114 => if x114 = true then (none) else (if x7 = true then ((impl_AttacksOf.f k x5).bind fun bt1639 => (laws_FnQueensTurned.l0 k x1 x5 x6 x14 x5 bt1639.1 bt1639.2 0)) else (laws_FnQueensTurned.j2 k x1))
def laws_FnQueensTurned.j2 : Nat → List Int → Option (Bool)
 | 0, _ => none
 | k + 1, x1 => (spec_DrawCountDifferent.f x1).bind fun t1668 => ((impl_CountDifferent.f k t1668).bind fun bt1669 => ((spec_CountDifferent.f k t1668).bind fun bt1671 => ((impl_CountQueens.f k t1668).bind fun bt1673 => (if (bt1669.2 == bt1671.2) = true then (if bt1669.1 = bt1671.1 then (if (bt1673.2 == bt1669.2) = true then (if bt1669.1 ≤ bt1673.1 then (some (decide ((wrap64 (8 * bt1669.1)) ≥ bt1673.1))) else (none)) else (none)) else (none)) else (none)))))
def laws_FnQueensTurned.l0 : Nat → List Int → List Int → List Int → List Int → List Int → List (List Int) → Bool → Int → Option (Bool)
 | 0, _, _, _, _, _, _, _, _ => none
 | k + 1, x1, x5, x6, x14, x18, x19, x20, x21 => if x21 < 4 then ((impl_TurnQueens.f k x18).bind fun bt1643 => ((impl_LeastQueens.f k bt1643.1).bind fun bt1647 => ((impl_AttacksOf.f k bt1643.1).bind fun bt1651 => (if bt1643.2 = true then (if bt1647.2 = true then ((laws_kSame.f k bt1647.1 x6).bind fun t1655 => (if t1655 = true then (if bt1651.2 = true then (if (bt1651.1.length : Int) = (x19.length : Int) then ((laws_kLess.f k bt1643.1 x6).bind fun t1656 => (if t1656 = true then (none) else (laws_FnQueensTurned.l0 k x1 x5 x6 x14 bt1643.1 x19 x20 (wrap64 (x21 + 1))))) else (none)) else (none)) else (none))) else (none)) else (none))))) else ((impl_MirrorQueens.f k x14).bind fun bt1657 => ((impl_LeastQueens.f k x14).bind fun bt1661 => (if x20 = true then ((laws_kSame.f k x18 x5).bind fun t1665 => (if t1665 = true then (if bt1657.2 = true then ((laws_kSame.f k bt1657.1 x5).bind fun t1666 => (if t1666 = true then (if bt1661.2 = true then ((laws_kSame.f k bt1661.1 x6).bind fun t1667 => (if t1667 = true then (laws_FnQueensTurned.j2 k x1) else (none))) else (none)) else (none))) else (none)) else (none))) else (none))))
end
def laws_FnQueensTurned.f (k : Nat) (l0 : List Int) (l1 : List Int) : Option (Bool) := (laws_big.f l0 l1).bind fun t1608 => (if t1608 = true then (some true) else ((spec_DrawLeastQueens.f k l0).bind fun t1609 => ((impl_LeastQueens.f k t1609).bind fun bt1612 => ((spec_LeastQueens.f k t1609).bind fun bt1616 => ((impl_TurnQueens.f k t1609).bind fun bt1620 => ((spec_TurnQueens.f k t1609).bind fun bt1624 => ((impl_MirrorQueens.f k t1609).bind fun bt1628 => ((spec_MirrorQueens.f k t1609).bind fun bt1632 => (if (bt1612.2 != bt1616.2) = true then (none) else ((laws_kSame.f k bt1612.1 bt1616.1).bind fun t1636 => (if t1636 = true then (if (bt1620.2 != bt1624.2) = true then (none) else ((laws_kSame.f k bt1620.1 bt1624.1).bind fun t1637 => (if t1637 = true then (if (bt1628.2 != bt1632.2) = true then (none) else ((laws_kSame.f k bt1628.1 bt1632.1).bind fun t1638 => (if t1638 = true then (if (bt1620.2 != bt1612.2) = true then (none) else (laws_FnQueensTurned.j0 k l1 t1609 bt1612.1 bt1612.2 bt1628.1 (bt1628.2 != bt1612.2))) else (none)))) else (none)))) else (none))))))))))))
theorem laws_FnQueensTurned.mono_l : ∀ k, (∀ y0 y1 y2 y3 y4 y5, LeO (laws_FnQueensTurned.j0 k y0 y1 y2 y3 y4 y5) (laws_FnQueensTurned.j0 (k + 1) y0 y1 y2 y3 y4 y5)) ∧ (∀ y0, LeO (laws_FnQueensTurned.j2 k y0) (laws_FnQueensTurned.j2 (k + 1) y0)) ∧ (∀ y0 y1 y2 y3 y4 y5 y6 y7, LeO (laws_FnQueensTurned.l0 k y0 y1 y2 y3 y4 y5 y6 y7) (laws_FnQueensTurned.l0 (k + 1) y0 y1 y2 y3 y4 y5 y6 y7))
 | 0 => ⟨fun _ _ _ _ _ _ r h => by simp [laws_FnQueensTurned.j0] at h, fun _ r h => by simp [laws_FnQueensTurned.j2] at h, fun _ _ _ _ _ _ _ _ r h => by simp [laws_FnQueensTurned.l0] at h⟩
 | k + 1 => by
  obtain ⟨ih0, ih1, ih2⟩ := laws_FnQueensTurned.mono_l k
  refine ⟨?_, ?_, ?_⟩
  ·
   intro y0 y1 y2 y3 y4 y5
   unfold laws_FnQueensTurned.j0
   repeat' first | (with_reducible first | exact ih0 _ _ _ _ _ _ | exact ih1 _ | exact ih2 _ _ _ _ _ _ _ _ | exact impl_AttacksOf.mono _ _ | exact impl_CountDifferent.mono _ _ | exact impl_CountQueens.mono _ _ | exact impl_LeastQueens.mono _ _ | exact impl_MirrorQueens.mono _ _ | exact impl_TurnQueens.mono _ _ | exact laws_kLess.mono _ _ _ | exact laws_kSame.mono _ _ _ | exact spec_CountDifferent.mono _ _ | exact spec_DrawLeastQueens.mono _ _ | exact spec_LeastQueens.mono _ _ | exact spec_MirrorQueens.mono _ _ | exact spec_TurnQueens.mono _ _ | exact LeO.refl _ | exact LeO.none _ | refine LeO.ite ?_ ?_ | refine LeO.bind ?_ (fun _ => ?_)) | exact ih0 _ _ _ _ _ _ | exact ih1 _ | exact ih2 _ _ _ _ _ _ _ _ | exact impl_AttacksOf.mono _ _ | exact impl_CountDifferent.mono _ _ | exact impl_CountQueens.mono _ _ | exact impl_LeastQueens.mono _ _ | exact impl_MirrorQueens.mono _ _ | exact impl_TurnQueens.mono _ _ | exact laws_kLess.mono _ _ _ | exact laws_kSame.mono _ _ _ | exact spec_CountDifferent.mono _ _ | exact spec_DrawLeastQueens.mono _ _ | exact spec_LeastQueens.mono _ _ | exact spec_MirrorQueens.mono _ _ | exact spec_TurnQueens.mono _ _ | exact LeO.none _ | refine LeO.ite ?_ ?_ | refine LeO.bind ?_ (fun _ => ?_)
  ·
   intro y0
   unfold laws_FnQueensTurned.j2
   repeat' first | (with_reducible first | exact ih0 _ _ _ _ _ _ | exact ih1 _ | exact ih2 _ _ _ _ _ _ _ _ | exact impl_AttacksOf.mono _ _ | exact impl_CountDifferent.mono _ _ | exact impl_CountQueens.mono _ _ | exact impl_LeastQueens.mono _ _ | exact impl_MirrorQueens.mono _ _ | exact impl_TurnQueens.mono _ _ | exact laws_kLess.mono _ _ _ | exact laws_kSame.mono _ _ _ | exact spec_CountDifferent.mono _ _ | exact spec_DrawLeastQueens.mono _ _ | exact spec_LeastQueens.mono _ _ | exact spec_MirrorQueens.mono _ _ | exact spec_TurnQueens.mono _ _ | exact LeO.refl _ | exact LeO.none _ | refine LeO.ite ?_ ?_ | refine LeO.bind ?_ (fun _ => ?_)) | exact ih0 _ _ _ _ _ _ | exact ih1 _ | exact ih2 _ _ _ _ _ _ _ _ | exact impl_AttacksOf.mono _ _ | exact impl_CountDifferent.mono _ _ | exact impl_CountQueens.mono _ _ | exact impl_LeastQueens.mono _ _ | exact impl_MirrorQueens.mono _ _ | exact impl_TurnQueens.mono _ _ | exact laws_kLess.mono _ _ _ | exact laws_kSame.mono _ _ _ | exact spec_CountDifferent.mono _ _ | exact spec_DrawLeastQueens.mono _ _ | exact spec_LeastQueens.mono _ _ | exact spec_MirrorQueens.mono _ _ | exact spec_TurnQueens.mono _ _ | exact LeO.none _ | refine LeO.ite ?_ ?_ | refine LeO.bind ?_ (fun _ => ?_)
  ·
   intro y0 y1 y2 y3 y4 y5 y6 y7
   unfold laws_FnQueensTurned.l0
   repeat' first | (with_reducible first | exact ih0 _ _ _ _ _ _ | exact ih1 _ | exact ih2 _ _ _ _ _ _ _ _ | exact impl_AttacksOf.mono _ _ | exact impl_CountDifferent.mono _ _ | exact impl_CountQueens.mono _ _ | exact impl_LeastQueens.mono _ _ | exact impl_MirrorQueens.mono _ _ | exact impl_TurnQueens.mono _ _ | exact laws_kLess.mono _ _ _ | exact laws_kSame.mono _ _ _ | exact spec_CountDifferent.mono _ _ | exact spec_DrawLeastQueens.mono _ _ | exact spec_LeastQueens.mono _ _ | exact spec_MirrorQueens.mono _ _ | exact spec_TurnQueens.mono _ _ | exact LeO.refl _ | exact LeO.none _ | refine LeO.ite ?_ ?_ | refine LeO.bind ?_ (fun _ => ?_)) | exact ih0 _ _ _ _ _ _ | exact ih1 _ | exact ih2 _ _ _ _ _ _ _ _ | exact impl_AttacksOf.mono _ _ | exact impl_CountDifferent.mono _ _ | exact impl_CountQueens.mono _ _ | exact impl_LeastQueens.mono _ _ | exact impl_MirrorQueens.mono _ _ | exact impl_TurnQueens.mono _ _ | exact laws_kLess.mono _ _ _ | exact laws_kSame.mono _ _ _ | exact spec_CountDifferent.mono _ _ | exact spec_DrawLeastQueens.mono _ _ | exact spec_LeastQueens.mono _ _ | exact spec_MirrorQueens.mono _ _ | exact spec_TurnQueens.mono _ _ | exact LeO.none _ | refine LeO.ite ?_ ?_ | refine LeO.bind ?_ (fun _ => ?_)
theorem laws_FnQueensTurned.mono : ∀ a0 a1 k, LeO (laws_FnQueensTurned.f k a0 a1) (laws_FnQueensTurned.f (k + 1) a0 a1) := by
 intro a0 a1 k
 obtain ⟨ih0, ih1, ih2⟩ := laws_FnQueensTurned.mono_l k
 unfold laws_FnQueensTurned.f
 repeat' first | (with_reducible first | exact ih0 _ _ _ _ _ _ | exact ih1 _ | exact ih2 _ _ _ _ _ _ _ _ | exact impl_AttacksOf.mono _ _ | exact impl_CountDifferent.mono _ _ | exact impl_CountQueens.mono _ _ | exact impl_LeastQueens.mono _ _ | exact impl_MirrorQueens.mono _ _ | exact impl_TurnQueens.mono _ _ | exact laws_kLess.mono _ _ _ | exact laws_kSame.mono _ _ _ | exact spec_CountDifferent.mono _ _ | exact spec_DrawLeastQueens.mono _ _ | exact spec_LeastQueens.mono _ _ | exact spec_MirrorQueens.mono _ _ | exact spec_TurnQueens.mono _ _ | exact LeO.refl _ | exact LeO.none _ | refine LeO.ite ?_ ?_ | refine LeO.bind ?_ (fun _ => ?_)) | exact ih0 _ _ _ _ _ _ | exact ih1 _ | exact ih2 _ _ _ _ _ _ _ _ | exact impl_AttacksOf.mono _ _ | exact impl_CountDifferent.mono _ _ | exact impl_CountQueens.mono _ _ | exact impl_LeastQueens.mono _ _ | exact impl_MirrorQueens.mono _ _ | exact impl_TurnQueens.mono _ _ | exact laws_kLess.mono _ _ _ | exact laws_kSame.mono _ _ _ | exact spec_CountDifferent.mono _ _ | exact spec_DrawLeastQueens.mono _ _ | exact spec_LeastQueens.mono _ _ | exact spec_MirrorQueens.mono _ _ | exact spec_TurnQueens.mono _ _ | exact LeO.none _ | refine LeO.ite ?_ ?_ | refine LeO.bind ?_ (fun _ => ?_)
theorem laws_FnQueensTurned.calls (k : Nat) (A0 : Option Addr) (c0 : Nat) (l0 : List Int) (A1 : Option Addr) (c1 : Nat) (l1 : List Int) (r : Bool) (w : World) (hr0 : Kd.C (Kd.int .u8) w A0 l0.length l0) (hc0 : l0.length ≤ c0) (hr1 : Kd.C (Kd.int .u8) w A1 l1.length l1) (hc1 : l1.length ≤ c1) (h : laws_FnQueensTurned.f k l0 l1 = some r) :
  Calls Try.prog 15 #[.slice A0 l0.length c0, .slice A1 l1.length c1] w fun e w' => e = .returned (.bool r) ∧ Below w.heap.size w w' := by
 have HR0 := A_ hr0
 have HC0 := A_ hc0
 clear hr0 hc0
 have HR1 := A_ hr1
 have HC1 := A_ hc1
 clear hr1 hc1
 have HB := A_ (Below.refl w.heap.size w)
 have H : ((laws_big.f l0 l1).bind fun t1608 => (if t1608 = true then (some true) else ((spec_DrawLeastQueens.f k l0).bind fun t1609 => ((impl_LeastQueens.f k t1609).bind fun bt1612 => ((spec_LeastQueens.f k t1609).bind fun bt1616 => ((impl_TurnQueens.f k t1609).bind fun bt1620 => ((spec_TurnQueens.f k t1609).bind fun bt1624 => ((impl_MirrorQueens.f k t1609).bind fun bt1628 => ((spec_MirrorQueens.f k t1609).bind fun bt1632 => (if (bt1612.2 != bt1616.2) = true then (none) else ((laws_kSame.f k bt1612.1 bt1616.1).bind fun t1636 => (if t1636 = true then (if (bt1620.2 != bt1624.2) = true then (none) else ((laws_kSame.f k bt1620.1 bt1624.1).bind fun t1637 => (if t1637 = true then (if (bt1628.2 != bt1632.2) = true then (none) else ((laws_kSame.f k bt1628.1 bt1632.1).bind fun t1638 => (if t1638 = true then (if (bt1620.2 != bt1612.2) = true then (none) else (laws_FnQueensTurned.j0 k l1 t1609 bt1612.1 bt1612.2 bt1628.1 (bt1628.2 != bt1612.2))) else (none)))) else (none)))) else (none))))))))))))) = some r := h
 clear h
 replace H := Option.bind_eq_some_iff.mp H
 obtain ⟨t1608, A30, H⟩ := H
 replace H : (if t1608 = true then (some true) else ((spec_DrawLeastQueens.f k l0).bind fun t1609 => ((impl_LeastQueens.f k t1609).bind fun bt1612 => ((spec_LeastQueens.f k t1609).bind fun bt1616 => ((impl_TurnQueens.f k t1609).bind fun bt1620 => ((spec_TurnQueens.f k t1609).bind fun bt1624 => ((impl_MirrorQueens.f k t1609).bind fun bt1628 => ((spec_MirrorQueens.f k t1609).bind fun bt1632 => (if (bt1612.2 != bt1616.2) = true then (none) else ((laws_kSame.f k bt1612.1 bt1616.1).bind fun t1636 => (if t1636 = true then (if (bt1620.2 != bt1624.2) = true then (none) else ((laws_kSame.f k bt1620.1 bt1624.1).bind fun t1637 => (if t1637 = true then (if (bt1628.2 != bt1632.2) = true then (none) else ((laws_kSame.f k bt1628.1 bt1632.1).bind fun t1638 => (if t1638 = true then (if (bt1620.2 != bt1612.2) = true then (none) else (laws_FnQueensTurned.j0 k l1 t1609 bt1612.1 bt1612.2 bt1628.1 (bt1628.2 != bt1612.2))) else (none)))) else (none)))) else (none)))))))))))) = some r := H
 have A3 := A_ A30
 clear A30
 by_cases c4 : t1608 = true
 ·
  subst c4
  have H1 : (some true) = some r := by rw [if_pos rfl] at H; exact H
  clear H
  have H := H1
  clear H1
  obtain rfl := Option.some.inj H
  go_enter Try.func15, Try.ntmps15
  go_wp2_with (first | (refine gc_ 47 ?_; refine goesT_ (some 41) Try.func47 #[.slice A0 l0.length c0, .slice A1 l1.length c1] ?_; (with_reducible refine (laws_big.calls _ _ l0 _ _ l1 true _ ?side1 ?side2 ?side3 ?side4 A3.out).mono ?_); (case side1 => exact tc0_ HR0.out); (case side2 => exact HC0.out); (case side3 => exact tc0_ HR1.out); (case side4 => exact HC1.out); rintro e w' ⟨rfl, ⟨nd, rfl⟩⟩; refine ⟨_, rfl, ?_⟩))
  go_ret
  exact ⟨te_, tb_⟩
 ·
  replace c4 := Bool.eq_false_iff.mpr c4
  subst c4
  have H1 : ((spec_DrawLeastQueens.f k l0).bind fun t1609 => ((impl_LeastQueens.f k t1609).bind fun bt1612 => ((spec_LeastQueens.f k t1609).bind fun bt1616 => ((impl_TurnQueens.f k t1609).bind fun bt1620 => ((spec_TurnQueens.f k t1609).bind fun bt1624 => ((impl_MirrorQueens.f k t1609).bind fun bt1628 => ((spec_MirrorQueens.f k t1609).bind fun bt1632 => (if (bt1612.2 != bt1616.2) = true then (none) else ((laws_kSame.f k bt1612.1 bt1616.1).bind fun t1636 => (if t1636 = true then (if (bt1620.2 != bt1624.2) = true then (none) else ((laws_kSame.f k bt1620.1 bt1624.1).bind fun t1637 => (if t1637 = true then (if (bt1628.2 != bt1632.2) = true then (none) else ((laws_kSame.f k bt1628.1 bt1632.1).bind fun t1638 => (if t1638 = true then (if (bt1620.2 != bt1612.2) = true then (none) else (laws_FnQueensTurned.j0 k l1 t1609 bt1612.1 bt1612.2 bt1628.1 (bt1628.2 != bt1612.2))) else (none)))) else (none)))) else (none))))))))))) = some r := by rw [if_neg (show ¬ (false = true) by decide)] at H; exact H
  clear H
  have H := H1
  clear H1
  replace H := Option.bind_eq_some_iff.mp H
  obtain ⟨t1609, A50, H⟩ := H
  replace H : ((impl_LeastQueens.f k t1609).bind fun bt1612 => ((spec_LeastQueens.f k t1609).bind fun bt1616 => ((impl_TurnQueens.f k t1609).bind fun bt1620 => ((spec_TurnQueens.f k t1609).bind fun bt1624 => ((impl_MirrorQueens.f k t1609).bind fun bt1628 => ((spec_MirrorQueens.f k t1609).bind fun bt1632 => (if (bt1612.2 != bt1616.2) = true then (none) else ((laws_kSame.f k bt1612.1 bt1616.1).bind fun t1636 => (if t1636 = true then (if (bt1620.2 != bt1624.2) = true then (none) else ((laws_kSame.f k bt1620.1 bt1624.1).bind fun t1637 => (if t1637 = true then (if (bt1628.2 != bt1632.2) = true then (none) else ((laws_kSame.f k bt1628.1 bt1632.1).bind fun t1638 => (if t1638 = true then (if (bt1620.2 != bt1612.2) = true then (none) else (laws_FnQueensTurned.j0 k l1 t1609 bt1612.1 bt1612.2 bt1628.1 (bt1628.2 != bt1612.2))) else (none)))) else (none)))) else (none)))))))))) = some r := H
  have A5 := A_ A50
  clear A50
  replace H := Option.bind_eq_some_iff.mp H
  obtain ⟨⟨t1612, t1613⟩, A60, H⟩ := H
  replace H : ((spec_LeastQueens.f k t1609).bind fun bt1616 => ((impl_TurnQueens.f k t1609).bind fun bt1620 => ((spec_TurnQueens.f k t1609).bind fun bt1624 => ((impl_MirrorQueens.f k t1609).bind fun bt1628 => ((spec_MirrorQueens.f k t1609).bind fun bt1632 => (if (t1613 != bt1616.2) = true then (none) else ((laws_kSame.f k t1612 bt1616.1).bind fun t1636 => (if t1636 = true then (if (bt1620.2 != bt1624.2) = true then (none) else ((laws_kSame.f k bt1620.1 bt1624.1).bind fun t1637 => (if t1637 = true then (if (bt1628.2 != bt1632.2) = true then (none) else ((laws_kSame.f k bt1628.1 bt1632.1).bind fun t1638 => (if t1638 = true then (if (bt1620.2 != t1613) = true then (none) else (laws_FnQueensTurned.j0 k l1 t1609 t1612 t1613 bt1628.1 (bt1628.2 != t1613))) else (none)))) else (none)))) else (none))))))))) = some r := H
  have A6 := A_ A60
  clear A60
  replace H := Option.bind_eq_some_iff.mp H
  obtain ⟨⟨t1616, t1617⟩, A70, H⟩ := H
  replace H : ((impl_TurnQueens.f k t1609).bind fun bt1620 => ((spec_TurnQueens.f k t1609).bind fun bt1624 => ((impl_MirrorQueens.f k t1609).bind fun bt1628 => ((spec_MirrorQueens.f k t1609).bind fun bt1632 => (if (t1613 != t1617) = true then (none) else ((laws_kSame.f k t1612 t1616).bind fun t1636 => (if t1636 = true then (if (bt1620.2 != bt1624.2) = true then (none) else ((laws_kSame.f k bt1620.1 bt1624.1).bind fun t1637 => (if t1637 = true then (if (bt1628.2 != bt1632.2) = true then (none) else ((laws_kSame.f k bt1628.1 bt1632.1).bind fun t1638 => (if t1638 = true then (if (bt1620.2 != t1613) = true then (none) else (laws_FnQueensTurned.j0 k l1 t1609 t1612 t1613 bt1628.1 (bt1628.2 != t1613))) else (none)))) else (none)))) else (none)))))))) = some r := H
  have A7 := A_ A70
  clear A70
  replace H := Option.bind_eq_some_iff.mp H
  obtain ⟨⟨t1620, t1621⟩, A80, H⟩ := H
  replace H : ((spec_TurnQueens.f k t1609).bind fun bt1624 => ((impl_MirrorQueens.f k t1609).bind fun bt1628 => ((spec_MirrorQueens.f k t1609).bind fun bt1632 => (if (t1613 != t1617) = true then (none) else ((laws_kSame.f k t1612 t1616).bind fun t1636 => (if t1636 = true then (if (t1621 != bt1624.2) = true then (none) else ((laws_kSame.f k t1620 bt1624.1).bind fun t1637 => (if t1637 = true then (if (bt1628.2 != bt1632.2) = true then (none) else ((laws_kSame.f k bt1628.1 bt1632.1).bind fun t1638 => (if t1638 = true then (if (t1621 != t1613) = true then (none) else (laws_FnQueensTurned.j0 k l1 t1609 t1612 t1613 bt1628.1 (bt1628.2 != t1613))) else (none)))) else (none)))) else (none))))))) = some r := H
  have A8 := A_ A80
  clear A80
  replace H := Option.bind_eq_some_iff.mp H
  obtain ⟨⟨t1624, t1625⟩, A90, H⟩ := H
  replace H : ((impl_MirrorQueens.f k t1609).bind fun bt1628 => ((spec_MirrorQueens.f k t1609).bind fun bt1632 => (if (t1613 != t1617) = true then (none) else ((laws_kSame.f k t1612 t1616).bind fun t1636 => (if t1636 = true then (if (t1621 != t1625) = true then (none) else ((laws_kSame.f k t1620 t1624).bind fun t1637 => (if t1637 = true then (if (bt1628.2 != bt1632.2) = true then (none) else ((laws_kSame.f k bt1628.1 bt1632.1).bind fun t1638 => (if t1638 = true then (if (t1621 != t1613) = true then (none) else (laws_FnQueensTurned.j0 k l1 t1609 t1612 t1613 bt1628.1 (bt1628.2 != t1613))) else (none)))) else (none)))) else (none)))))) = some r := H
  have A9 := A_ A90
  clear A90
  replace H := Option.bind_eq_some_iff.mp H
  obtain ⟨⟨t1628, t1629⟩, A100, H⟩ := H
  replace H : ((spec_MirrorQueens.f k t1609).bind fun bt1632 => (if (t1613 != t1617) = true then (none) else ((laws_kSame.f k t1612 t1616).bind fun t1636 => (if t1636 = true then (if (t1621 != t1625) = true then (none) else ((laws_kSame.f k t1620 t1624).bind fun t1637 => (if t1637 = true then (if (t1629 != bt1632.2) = true then (none) else ((laws_kSame.f k t1628 bt1632.1).bind fun t1638 => (if t1638 = true then (if (t1621 != t1613) = true then (none) else (laws_FnQueensTurned.j0 k l1 t1609 t1612 t1613 t1628 (t1629 != t1613))) else (none)))) else (none)))) else (none))))) = some r := H
  have A10 := A_ A100
  clear A100
  replace H := Option.bind_eq_some_iff.mp H
  obtain ⟨⟨t1632, t1633⟩, A110, H⟩ := H
  replace H : (if (t1613 != t1617) = true then (none) else ((laws_kSame.f k t1612 t1616).bind fun t1636 => (if t1636 = true then (if (t1621 != t1625) = true then (none) else ((laws_kSame.f k t1620 t1624).bind fun t1637 => (if t1637 = true then (if (t1629 != t1633) = true then (none) else ((laws_kSame.f k t1628 t1632).bind fun t1638 => (if t1638 = true then (if (t1621 != t1613) = true then (none) else (laws_FnQueensTurned.j0 k l1 t1609 t1612 t1613 t1628 (t1629 != t1613))) else (none)))) else (none)))) else (none)))) = some r := H
  have A11 := A_ A110
  clear A110
  have HC12 := A_ H
  clear H
  go_enter Try.func15, Try.ntmps15
  go_upto_region 10 with (first | (refine gc_ 47 ?_; refine goesT_ (some 41) Try.func47 #[.slice A0 l0.length c0, .slice A1 l1.length c1] ?_; (with_reducible refine (laws_big.calls _ _ l0 _ _ l1 false _ ?side1 ?side2 ?side3 ?side4 A3.out).mono ?_); (case side1 => exact tc0_ HR0.out); (case side2 => exact HC0.out); (case side3 => exact tc0_ HR1.out); (case side4 => exact HC1.out); rintro e w' ⟨rfl, ⟨nd, rfl⟩⟩; refine ⟨_, rfl, ?_⟩) | (refine gc_ 95 ?_; refine goesT_ (some 43) Try.func95 #[.slice A0 l0.length c0] ?_; (with_reducible refine (spec_DrawLeastQueens.calls k _ _ l0 t1609 _ ?side1 ?side2 A5.out).mono ?_); (case side1 => exact tc0_ HR0.out); (case side2 => exact HC0.out); rintro e w13 ⟨v1610, rfl, ho0, hb⟩; refine ⟨_, rfl, ?_⟩; have HO1611 := A_ (Kd.R_lower ho0 (below_size tb_)); replace HB := A_ (below_step tb_ hb); (try clear hb); (try clear ho0); obtain ⟨Ao14, co14, eo14⟩ := Kd.R_slice HO1611.out; subst eo14) | (refine gc_ 96 ?_; refine goesT_ (some 46) Try.func96 #[.slice Ao14 t1609.length co14] ?_; (with_reducible refine (impl_LeastQueens.calls k _ _ t1609 t1612 t1613 _ ?side1 ?side2 A6.out).mono ?_); (case side1 => exact tc0_ (Kd.R_reads' HO1611.out).2.2); (case side2 => exact (Kd.R_reads' HO1611.out).2.1); rintro e w15 ⟨v1614, rfl, ho0, hb⟩; refine ⟨_, rfl, ?_⟩; have HO1615 := A_ (Kd.R_lower (Kd.R_new' ho0 (Kd.R_lt (tr_x HO1611.out))) (below_size tb_)); replace HO1611 := A_ (Kd.R_elder' (tr_x HO1611.out) (Kd.R_base ho0) hb); replace HB := A_ (below_step tb_ hb); (try clear hb); (try clear ho0)) | (refine gc_ 97 ?_; refine goesT_ (some 51) Try.func97 #[.slice Ao14 t1609.length co14] ?_; (with_reducible refine (spec_LeastQueens.calls k _ _ t1609 t1616 t1617 _ ?side1 ?side2 A7.out).mono ?_); (case side1 => exact tc0_ (Kd.R_reads' HO1611.out).2.2); (case side2 => exact (Kd.R_reads' HO1611.out).2.1); rintro e w16 ⟨v1618, rfl, ho0, hb⟩; refine ⟨_, rfl, ?_⟩; have HO1619 := A_ (Kd.R_lower (Kd.R_new' (Kd.R_new' ho0 (Kd.R_lt (tr_x HO1611.out))) (Kd.R_lt (tr_x HO1615.out))) (below_size tb_)); replace HO1611 := A_ (Kd.R_elder' (tr_x HO1611.out) (Kd.R_base ho0) hb); replace HO1615 := A_ (Kd.R_elder' (tr_x HO1615.out) (Kd.R_base ho0) hb); replace HB := A_ (below_step tb_ hb); (try clear hb); (try clear ho0)) | (refine gc_ 98 ?_; refine goesT_ (some 56) Try.func98 #[.slice Ao14 t1609.length co14] ?_; (with_reducible refine (impl_TurnQueens.calls k _ _ t1609 t1620 t1621 _ ?side1 ?side2 A8.out).mono ?_); (case side1 => exact tc0_ (Kd.R_reads' HO1611.out).2.2); (case side2 => exact (Kd.R_reads' HO1611.out).2.1); rintro e w17 ⟨v1622, rfl, ho0, hb⟩; refine ⟨_, rfl, ?_⟩; have HO1623 := A_ (Kd.R_lower (Kd.R_new' (Kd.R_new' (Kd.R_new' ho0 (Kd.R_lt (tr_x HO1611.out))) (Kd.R_lt (tr_x HO1615.out))) (Kd.R_lt (tr_x HO1619.out))) (below_size tb_)); replace HO1611 := A_ (Kd.R_elder' (tr_x HO1611.out) (Kd.R_base ho0) hb); replace HO1615 := A_ (Kd.R_elder' (tr_x HO1615.out) (Kd.R_base ho0) hb); replace HO1619 := A_ (Kd.R_elder' (tr_x HO1619.out) (Kd.R_base ho0) hb); replace HB := A_ (below_step tb_ hb); (try clear hb); (try clear ho0)) | (refine gc_ 99 ?_; refine goesT_ (some 61) Try.func99 #[.slice Ao14 t1609.length co14] ?_; (with_reducible refine (spec_TurnQueens.calls k _ _ t1609 t1624 t1625 _ ?side1 ?side2 A9.out).mono ?_); (case side1 => exact tc0_ (Kd.R_reads' HO1611.out).2.2); (case side2 => exact (Kd.R_reads' HO1611.out).2.1); rintro e w18 ⟨v1626, rfl, ho0, hb⟩; refine ⟨_, rfl, ?_⟩; have HO1627 := A_ (Kd.R_lower (Kd.R_new' (Kd.R_new' (Kd.R_new' (Kd.R_new' ho0 (Kd.R_lt (tr_x HO1611.out))) (Kd.R_lt (tr_x HO1615.out))) (Kd.R_lt (tr_x HO1619.out))) (Kd.R_lt (tr_x HO1623.out))) (below_size tb_)); replace HO1611 := A_ (Kd.R_elder' (tr_x HO1611.out) (Kd.R_base ho0) hb); replace HO1615 := A_ (Kd.R_elder' (tr_x HO1615.out) (Kd.R_base ho0) hb); replace HO1619 := A_ (Kd.R_elder' (tr_x HO1619.out) (Kd.R_base ho0) hb); replace HO1623 := A_ (Kd.R_elder' (tr_x HO1623.out) (Kd.R_base ho0) hb); replace HB := A_ (below_step tb_ hb); (try clear hb); (try clear ho0)) | (refine gc_ 100 ?_; refine goesT_ (some 66) Try.func100 #[.slice Ao14 t1609.length co14] ?_; (with_reducible refine (impl_MirrorQueens.calls k _ _ t1609 t1628 t1629 _ ?side1 ?side2 A10.out).mono ?_); (case side1 => exact tc0_ (Kd.R_reads' HO1611.out).2.2); (case side2 => exact (Kd.R_reads' HO1611.out).2.1); rintro e w19 ⟨v1630, rfl, ho0, hb⟩; refine ⟨_, rfl, ?_⟩; have HO1631 := A_ (Kd.R_lower (Kd.R_new' (Kd.R_new' (Kd.R_new' (Kd.R_new' (Kd.R_new' ho0 (Kd.R_lt (tr_x HO1611.out))) (Kd.R_lt (tr_x HO1615.out))) (Kd.R_lt (tr_x HO1619.out))) (Kd.R_lt (tr_x HO1623.out))) (Kd.R_lt (tr_x HO1627.out))) (below_size tb_)); replace HO1611 := A_ (Kd.R_elder' (tr_x HO1611.out) (Kd.R_base ho0) hb); replace HO1615 := A_ (Kd.R_elder' (tr_x HO1615.out) (Kd.R_base ho0) hb); replace HO1619 := A_ (Kd.R_elder' (tr_x HO1619.out) (Kd.R_base ho0) hb); replace HO1623 := A_ (Kd.R_elder' (tr_x HO1623.out) (Kd.R_base ho0) hb); replace HO1627 := A_ (Kd.R_elder' (tr_x HO1627.out) (Kd.R_base ho0) hb); replace HB := A_ (below_step tb_ hb); (try clear hb); (try clear ho0)) | (refine gc_ 101 ?_; refine goesT_ (some 71) Try.func101 #[.slice Ao14 t1609.length co14] ?_; (with_reducible refine (spec_MirrorQueens.calls k _ _ t1609 t1632 t1633 _ ?side1 ?side2 A11.out).mono ?_); (case side1 => exact tc0_ (Kd.R_reads' HO1611.out).2.2); (case side2 => exact (Kd.R_reads' HO1611.out).2.1); rintro e w20 ⟨v1634, rfl, ho0, hb⟩; refine ⟨_, rfl, ?_⟩; have HO1635 := A_ (Kd.R_lower (Kd.R_new' (Kd.R_new' (Kd.R_new' (Kd.R_new' (Kd.R_new' (Kd.R_new' ho0 (Kd.R_lt (tr_x HO1611.out))) (Kd.R_lt (tr_x HO1615.out))) (Kd.R_lt (tr_x HO1619.out))) (Kd.R_lt (tr_x HO1623.out))) (Kd.R_lt (tr_x HO1627.out))) (Kd.R_lt (tr_x HO1631.out))) (below_size tb_)); replace HO1611 := A_ (Kd.R_elder' (tr_x HO1611.out) (Kd.R_base ho0) hb); replace HO1615 := A_ (Kd.R_elder' (tr_x HO1615.out) (Kd.R_base ho0) hb); replace HO1619 := A_ (Kd.R_elder' (tr_x HO1619.out) (Kd.R_base ho0) hb); replace HO1623 := A_ (Kd.R_elder' (tr_x HO1623.out) (Kd.R_base ho0) hb); replace HO1627 := A_ (Kd.R_elder' (tr_x HO1627.out) (Kd.R_base ho0) hb); replace HO1631 := A_ (Kd.R_elder' (tr_x HO1631.out) (Kd.R_base ho0) hb); replace HB := A_ (below_step tb_ hb); (try clear hb); (try clear ho0)))
  (try simp only [Act.put, List.setIfInBounds_toArray, List.set_cons_zero, List.set_cons_succ])
  go_cut [114] (fun v114 wc => ∃ (kq : Nat) (x114_11 : Bool), v114 = .bool x114_11 ∧ Aside0 (laws_FnQueensTurned.j0 kq l1 t1609 t1612 t1613 t1628 x114_11 = some r) ∧ Aside0 (kq ≤ k) ∧ Aside0 (Kd.R (Kd.int .i64) 3 wc w.heap.size (fun k_ => some k_ ≠ (v1614 : Value).ownBlock ∧ some k_ ≠ (v1630 : Value).ownBlock) (.slice Ao14 t1609.length co14) t1609) ∧ Aside0 (Kd.R (Kd.int .i64) 3 wc w.heap.size (fun k_ => some k_ ≠ ((.slice Ao14 t1609.length co14) : Value).ownBlock ∧ some k_ ≠ (v1630 : Value).ownBlock) v1614 t1612) ∧ Aside0 (Kd.R (Kd.int .i64) 3 wc w.heap.size (fun k_ => some k_ ≠ ((.slice Ao14 t1609.length co14) : Value).ownBlock ∧ some k_ ≠ (v1614 : Value).ownBlock) v1630 t1628) ∧ Aside0 (Below w.heap.size w wc))
  case first =>
   as_aux_lemma =>
    have H := HC12.out
    clear HC12
    by_cases c21 : (t1613 != t1617) = true
    ·
     rw [if_pos c21] at H
     exact absurd H (by simp)
    ·
     rw [if_neg c21] at H
     have c21b0 : (t1613 != t1617) = false := by simpa using c21
     (try (have c21b1 : decide (t1613 = t1617) = true := by simpa using c21))
     (try (have c21b2 : (t1613 == t1617) = true := by simpa using c21))
     clear c21
     (first | rw [c21b0] | (simp only [i64_w, i32_w]; rw [c21b0]) | skip)
     replace H := Option.bind_eq_some_iff.mp H
     obtain ⟨t1636, A220, H⟩ := H
     replace H : (if t1636 = true then (if (t1621 != t1625) = true then (none) else ((laws_kSame.f k t1620 t1624).bind fun t1637 => (if t1637 = true then (if (t1629 != t1633) = true then (none) else ((laws_kSame.f k t1628 t1632).bind fun t1638 => (if t1638 = true then (if (t1621 != t1613) = true then (none) else (laws_FnQueensTurned.j0 k l1 t1609 t1612 t1613 t1628 (t1629 != t1613))) else (none)))) else (none)))) else (none)) = some r := H
     have A22 := A_ A220
     clear A220
     by_cases c23 : t1636 = true
     ·
      subst c23
      have H1 : (if (t1621 != t1625) = true then (none) else ((laws_kSame.f k t1620 t1624).bind fun t1637 => (if t1637 = true then (if (t1629 != t1633) = true then (none) else ((laws_kSame.f k t1628 t1632).bind fun t1638 => (if t1638 = true then (if (t1621 != t1613) = true then (none) else (laws_FnQueensTurned.j0 k l1 t1609 t1612 t1613 t1628 (t1629 != t1613))) else (none)))) else (none)))) = some r := by rw [if_pos rfl] at H; exact H
      clear H
      have H := H1
      clear H1
      by_cases c24 : (t1621 != t1625) = true
      ·
       rw [if_pos c24] at H
       exact absurd H (by simp)
      ·
       rw [if_neg c24] at H
       have c24b0 : (t1621 != t1625) = false := by simpa using c24
       (try (have c24b1 : decide (t1621 = t1625) = true := by simpa using c24))
       (try (have c24b2 : (t1621 == t1625) = true := by simpa using c24))
       clear c24
       replace H := Option.bind_eq_some_iff.mp H
       obtain ⟨t1637, A250, H⟩ := H
       replace H : (if t1637 = true then (if (t1629 != t1633) = true then (none) else ((laws_kSame.f k t1628 t1632).bind fun t1638 => (if t1638 = true then (if (t1621 != t1613) = true then (none) else (laws_FnQueensTurned.j0 k l1 t1609 t1612 t1613 t1628 (t1629 != t1613))) else (none)))) else (none)) = some r := H
       have A25 := A_ A250
       clear A250
       by_cases c26 : t1637 = true
       ·
        subst c26
        have H1 : (if (t1629 != t1633) = true then (none) else ((laws_kSame.f k t1628 t1632).bind fun t1638 => (if t1638 = true then (if (t1621 != t1613) = true then (none) else (laws_FnQueensTurned.j0 k l1 t1609 t1612 t1613 t1628 (t1629 != t1613))) else (none)))) = some r := by rw [if_pos rfl] at H; exact H
        clear H
        have H := H1
        clear H1
        by_cases c27 : (t1629 != t1633) = true
        ·
         rw [if_pos c27] at H
         exact absurd H (by simp)
        ·
         rw [if_neg c27] at H
         have c27b0 : (t1629 != t1633) = false := by simpa using c27
         (try (have c27b1 : decide (t1629 = t1633) = true := by simpa using c27))
         (try (have c27b2 : (t1629 == t1633) = true := by simpa using c27))
         clear c27
         replace H := Option.bind_eq_some_iff.mp H
         obtain ⟨t1638, A280, H⟩ := H
         replace H : (if t1638 = true then (if (t1621 != t1613) = true then (none) else (laws_FnQueensTurned.j0 k l1 t1609 t1612 t1613 t1628 (t1629 != t1613))) else (none)) = some r := H
         have A28 := A_ A280
         clear A280
         by_cases c29 : t1638 = true
         ·
          subst c29
          have H1 : (if (t1621 != t1613) = true then (none) else (laws_FnQueensTurned.j0 k l1 t1609 t1612 t1613 t1628 (t1629 != t1613))) = some r := by rw [if_pos rfl] at H; exact H
          clear H
          have H := H1
          clear H1
          by_cases c30 : (t1621 != t1613) = true
          ·
           rw [if_pos c30] at H
           exact absurd H (by simp)
          ·
           rw [if_neg c30] at H
           have c30b0 : (t1621 != t1613) = false := by simpa using c30
           (try (have c30b1 : decide (t1621 = t1613) = true := by simpa using c30))
           (try (have c30b2 : (t1621 == t1613) = true := by simpa using c30))
           clear c30
           have H' := A_ H
           clear H
           obtain ⟨Ao31, co31, eo31⟩ := Kd.R_slice HO1615.out
           subst eo31
           obtain ⟨Ao32, co32, eo32⟩ := Kd.R_slice HO1619.out
           subst eo32
           go_wp2_with (first | (go_at_call 56; (with_reducible refine (laws_kSame.calls k _ _ t1612 _ _ t1616 true _ ?side1 ?side2 ?side3 ?side4 A22.out).mono ?_); (case side1 => exact tc0_ (Kd.R_reads' HO1615.out).2.2); (case side2 => exact (Kd.R_reads' HO1615.out).2.1); (case side3 => exact tc0_ (Kd.R_reads' HO1619.out).2.2); (case side4 => exact (Kd.R_reads' HO1619.out).2.1); rintro e w' ⟨rfl, ⟨nd, rfl⟩⟩; obtain ⟨Ao33, co33, eo33⟩ := Kd.R_slice HO1623.out; subst eo33; obtain ⟨Ao34, co34, eo34⟩ := Kd.R_slice HO1627.out; subst eo34) | (go_at_call 56; (with_reducible refine (laws_kSame.calls k _ _ t1620 _ _ t1624 true _ ?side1 ?side2 ?side3 ?side4 A25.out).mono ?_); (case side1 => exact tc0_ (Kd.R_reads' HO1623.out).2.2); (case side2 => exact (Kd.R_reads' HO1623.out).2.1); (case side3 => exact tc0_ (Kd.R_reads' HO1627.out).2.2); (case side4 => exact (Kd.R_reads' HO1627.out).2.1); rintro e w' ⟨rfl, ⟨nd, rfl⟩⟩; obtain ⟨Ao35, co35, eo35⟩ := Kd.R_slice HO1631.out; subst eo35; obtain ⟨Ao36, co36, eo36⟩ := Kd.R_slice HO1635.out; subst eo36) | (go_at_call 56; (with_reducible refine (laws_kSame.calls k _ _ t1628 _ _ t1632 true _ ?side1 ?side2 ?side3 ?side4 A28.out).mono ?_); (case side1 => exact tc0_ (Kd.R_reads' HO1631.out).2.2); (case side2 => exact (Kd.R_reads' HO1631.out).2.1); (case side3 => exact tc0_ (Kd.R_reads' HO1635.out).2.2); (case side4 => exact (Kd.R_reads' HO1635.out).2.1); rintro e w' ⟨rfl, ⟨nd, rfl⟩⟩))
           go_meet
           case rel => exact ⟨_, ((t1629 != t1613)), tf_, H', ⟨by first | omega | exact Nat.le_refl _⟩, ⟨by (with_reducible repeat (first | apply Kd.R_alloc | apply Kd.R_drewN | apply Kd.R_drew)); exact Kd.R_mono HO1611.out om_⟩, ⟨by (with_reducible repeat (first | apply Kd.R_alloc | apply Kd.R_drewN | apply Kd.R_drew)); exact Kd.R_mono HO1615.out om_⟩, ⟨by (with_reducible repeat (first | apply Kd.R_alloc | apply Kd.R_drewN | apply Kd.R_drew)); exact Kd.R_mono HO1631.out om_⟩, ⟨tb_⟩⟩
         ·
          replace c29 := Bool.eq_false_iff.mpr c29
          subst c29
          have H1 : (none) = some r := by rw [if_neg (show ¬ (false = true) by decide)] at H; exact H
          clear H
          have H := H1
          clear H1
          exact absurd H (by simp)
       ·
        replace c26 := Bool.eq_false_iff.mpr c26
        subst c26
        have H1 : (none) = some r := by rw [if_neg (show ¬ (false = true) by decide)] at H; exact H
        clear H
        have H := H1
        clear H1
        exact absurd H (by simp)
     ·
      replace c23 := Bool.eq_false_iff.mpr c23
      subst c23
      have H1 : (none) = some r := by rw [if_neg (show ¬ (false = true) by decide)] at H; exact H
      clear H
      have H := H1
      clear H1
      exact absurd H (by simp)
  case rest =>
   as_aux_lemma =>
    clear HC12
    try clear c1
    try clear c2
    try clear p2
    try clear c3
    try clear c4
    try clear c9
    try clear c10
    try clear c15
    try clear c21
    try clear c21b0
    try clear c21b1
    try clear c21b2
    try clear c23
    try clear c24
    try clear c24b0
    try clear c24b1
    try clear c24b2
    try clear c26
    try clear c27
    try clear c27b0
    try clear c27b1
    try clear c27b2
    try clear c29
    try clear c30
    try clear c30b0
    try clear c30b1
    try clear c30b2
    obtain ⟨kq, x114_11, rfl, HA, HJ11, HO_5, HO_6, HO_14, HB⟩ := hcut
    cases kq with
    | zero => exact absurd HA.out (by simp [laws_FnQueensTurned.j0])
    | succ kj11 =>
     have H := HA.out
     clear HA
     simp only [laws_FnQueensTurned.j0] at H
     by_cases c37 : x114_11 = true
     ·
      subst c37
      have H1 : (none) = some r := by rw [if_pos rfl] at H; exact H
      clear H
      have H := H1
      clear H1
      exact absurd H (by simp)
     ·
      replace c37 := Bool.eq_false_iff.mpr c37
      subst c37
      have H1 : (if t1613 = true then ((impl_AttacksOf.f kj11 t1609).bind fun bt1639 => (laws_FnQueensTurned.l0 kj11 l1 t1609 t1612 t1628 t1609 bt1639.1 bt1639.2 0)) else (laws_FnQueensTurned.j2 kj11 l1)) = some r := by rw [if_neg (show ¬ (false = true) by decide)] at H; exact H
      clear H
      have H := H1
      clear H1
      have HC38 := A_ H
      clear H
      go_upto_if 115 with (fail)
      go_cut [] (fun wc => ∃ (kq : Nat), Aside0 (laws_FnQueensTurned.j2 kq l1 = some r) ∧ Aside0 (kq ≤ kj11) ∧ Aside0 (Below w.heap.size w wc))
      case first =>
       as_aux_lemma =>
        have H := HC38.out
        clear HC38
        by_cases c39 : t1613 = true
        ·
         subst c39
         have H1 : ((impl_AttacksOf.f kj11 t1609).bind fun bt1639 => (laws_FnQueensTurned.l0 kj11 l1 t1609 t1612 t1628 t1609 bt1639.1 bt1639.2 0)) = some r := by rw [if_pos rfl] at H; exact H
         clear H
         have H := H1
         clear H1
         replace H := Option.bind_eq_some_iff.mp H
         obtain ⟨⟨t1639, t1640⟩, A400, H⟩ := H
         replace H : (laws_FnQueensTurned.l0 kj11 l1 t1609 t1612 t1628 t1609 t1639 t1640 0) = some r := H
         have A40 := A_ A400
         clear A400
         have H' := A_ H
         clear H
         go_wp2_with (first | (refine gc_ 79 ?_; refine goesT_ (some 119) Try.func79 #[.slice Ao14 t1609.length co14] ?_; (with_reducible refine (impl_AttacksOf.calls kj11 _ _ t1609 t1639 t1640 _ ?side1 ?side2 A40.out).mono ?_); (case side1 => exact tc0_ (Kd.R_reads' HO_5.out).2.2); (case side2 => exact (Kd.R_reads' HO_5.out).2.1); rintro e w41 ⟨v1641, rfl, ho0, hb⟩; refine ⟨_, rfl, ?_⟩; have HO1642 := A_ (Kd.S_lower (Kd.S_new' (Kd.S_new' (Kd.S_new' ho0 (Kd.R_lt (tr_x HO_5.out))) (Kd.R_lt (tr_x HO_6.out))) (Kd.R_lt (tr_x HO_14.out))) (below_size tb_)); replace HO_5 := A_ (Kd.R_below (tr_x HO_5.out) hb); replace HO_6 := A_ (Kd.R_below (tr_x HO_6.out) hb); replace HO_14 := A_ (Kd.R_below (tr_x HO_14.out) hb); replace HB := A_ (below_step tb_ hb); (try clear hb); (try clear ho0)))
         go_loopg [18, 21] kj11 (fun kq v18 v21 w' => ∃ (x18_2 : List Int) (x21_2 : Int), v21 = .int .i64 x21_2 ∧ Aside0 (laws_FnQueensTurned.l0 kq l1 t1609 t1612 t1628 x18_2 t1639 t1640 x21_2 = some r) ∧ Aside0 (kq ≤ kj11) ∧ Aside0 (Kd.R (Kd.int .i64) 3 w' w.heap.size (fun k_ => some k_ ≠ (v1614 : Value).ownBlock ∧ some k_ ≠ (v1630 : Value).ownBlock) (.slice Ao14 t1609.length co14) t1609) ∧ Aside0 (Kd.R (Kd.int .i64) 3 w' w.heap.size (fun k_ => some k_ ≠ ((.slice Ao14 t1609.length co14) : Value).ownBlock ∧ some k_ ≠ (v1630 : Value).ownBlock ∧ some k_ ≠ (v18 : Value).ownBlock) v1614 t1612) ∧ Aside0 (Kd.R (Kd.int .i64) 3 w' w.heap.size (fun k_ => some k_ ≠ ((.slice Ao14 t1609.length co14) : Value).ownBlock ∧ some k_ ≠ (v1614 : Value).ownBlock ∧ some k_ ≠ (v18 : Value).ownBlock) v1630 t1628) ∧ Aside0 (Kd.R (Kd.int .i64) 3 w' w.heap.size (fun k_ => some k_ ≠ (v1614 : Value).ownBlock ∧ some k_ ≠ (v1630 : Value).ownBlock) v18 x18_2) ∧ Aside0 (Kd.S (Kd.slice 3 (Kd.int .i64)) 22 w' w.heap.size (fun k_ => some k_ ≠ ((.slice Ao14 t1609.length co14) : Value).ownBlock ∧ some k_ ≠ (v1614 : Value).ownBlock ∧ some k_ ≠ (v1630 : Value).ownBlock ∧ some k_ ≠ (v18 : Value).ownBlock) v1641 t1639) ∧ Aside0 (Below w.heap.size w w'))
         case atStart => exact ⟨(t1609), (0), tf_, H', ⟨Nat.le_refl _⟩, ⟨tr_x HO_5.out⟩, ⟨by (with_reducible repeat (first | apply Kd.R_alloc | apply Kd.R_drewN | apply Kd.R_drew)); exact Kd.R_mono HO_6.out om_⟩, ⟨by (with_reducible repeat (first | apply Kd.R_alloc | apply Kd.R_drewN | apply Kd.R_drew)); exact Kd.R_mono HO_14.out om_⟩, ⟨tr_x HO_5.out⟩, ⟨by (with_reducible repeat (first | apply Kd.S_alloc | apply Kd.S_drewN | apply Kd.S_drew)); exact Kd.S_mono HO1642.out om_⟩, ⟨tb_⟩⟩
         case round =>
          clear H'
          try clear c1
          try clear c2
          try clear p2
          try clear c3
          try clear c4
          try clear c7
          try clear c9
          try clear c10
          try clear c15
          try clear c21
          try clear c21b0
          try clear c21b1
          try clear c21b2
          try clear c23
          try clear c24
          try clear c24b0
          try clear c24b1
          try clear c24b2
          try clear c26
          try clear c27
          try clear c27b0
          try clear c27b1
          try clear c27b2
          try clear c29
          try clear c30
          try clear c30b0
          try clear c30b1
          try clear c30b2
          try clear c37
          try clear c39
          try clear p2
          obtain ⟨x18_2, x21_2, rfl, HA, HK2, HO_5, HO_6, HO_14, HO_18, HO_19, HB⟩ := hrel
          cases gk with
          | zero => exact absurd HA.out (by simp [laws_FnQueensTurned.l0])
          | succ k2 =>
           have H := HA.out
           clear HA
           simp only [laws_FnQueensTurned.l0] at H
           by_cases c42 : x21_2 < 4
           ·
            rw [if_pos c42] at H
            have c42b0 := decide_eq_true c42
            clear c42
            (first | rw [c42b0] | (simp only [i64_w, i32_w]; rw [c42b0]) | skip)
            replace H := Option.bind_eq_some_iff.mp H
            obtain ⟨⟨t1643, t1644⟩, A430, H⟩ := H
            replace H : ((impl_LeastQueens.f k2 t1643).bind fun bt1647 => ((impl_AttacksOf.f k2 t1643).bind fun bt1651 => (if t1644 = true then (if bt1647.2 = true then ((laws_kSame.f k2 bt1647.1 t1612).bind fun t1655 => (if t1655 = true then (if bt1651.2 = true then (if (bt1651.1.length : Int) = (t1639.length : Int) then ((laws_kLess.f k2 t1643 t1612).bind fun t1656 => (if t1656 = true then (none) else (laws_FnQueensTurned.l0 k2 l1 t1609 t1612 t1628 t1643 t1639 t1640 (wrap64 (x21_2 + 1))))) else (none)) else (none)) else (none))) else (none)) else (none)))) = some r := H
            have A43 := A_ A430
            clear A430
            replace H := Option.bind_eq_some_iff.mp H
            obtain ⟨⟨t1647, t1648⟩, A440, H⟩ := H
            replace H : ((impl_AttacksOf.f k2 t1643).bind fun bt1651 => (if t1644 = true then (if t1648 = true then ((laws_kSame.f k2 t1647 t1612).bind fun t1655 => (if t1655 = true then (if bt1651.2 = true then (if (bt1651.1.length : Int) = (t1639.length : Int) then ((laws_kLess.f k2 t1643 t1612).bind fun t1656 => (if t1656 = true then (none) else (laws_FnQueensTurned.l0 k2 l1 t1609 t1612 t1628 t1643 t1639 t1640 (wrap64 (x21_2 + 1))))) else (none)) else (none)) else (none))) else (none)) else (none))) = some r := H
            have A44 := A_ A440
            clear A440
            replace H := Option.bind_eq_some_iff.mp H
            obtain ⟨⟨t1651, t1652⟩, A450, H⟩ := H
            replace H : (if t1644 = true then (if t1648 = true then ((laws_kSame.f k2 t1647 t1612).bind fun t1655 => (if t1655 = true then (if t1652 = true then (if (t1651.length : Int) = (t1639.length : Int) then ((laws_kLess.f k2 t1643 t1612).bind fun t1656 => (if t1656 = true then (none) else (laws_FnQueensTurned.l0 k2 l1 t1609 t1612 t1628 t1643 t1639 t1640 (wrap64 (x21_2 + 1))))) else (none)) else (none)) else (none))) else (none)) else (none)) = some r := H
            have A45 := A_ A450
            clear A450
            by_cases c46 : t1644 = true
            ·
             subst c46
             have H1 : (if t1648 = true then ((laws_kSame.f k2 t1647 t1612).bind fun t1655 => (if t1655 = true then (if t1652 = true then (if (t1651.length : Int) = (t1639.length : Int) then ((laws_kLess.f k2 t1643 t1612).bind fun t1656 => (if t1656 = true then (none) else (laws_FnQueensTurned.l0 k2 l1 t1609 t1612 t1628 t1643 t1639 t1640 (wrap64 (x21_2 + 1))))) else (none)) else (none)) else (none))) else (none)) = some r := by rw [if_pos rfl] at H; exact H
             clear H
             have H := H1
             clear H1
             by_cases c47 : t1648 = true
             ·
              subst c47
              have H1 : ((laws_kSame.f k2 t1647 t1612).bind fun t1655 => (if t1655 = true then (if t1652 = true then (if (t1651.length : Int) = (t1639.length : Int) then ((laws_kLess.f k2 t1643 t1612).bind fun t1656 => (if t1656 = true then (none) else (laws_FnQueensTurned.l0 k2 l1 t1609 t1612 t1628 t1643 t1639 t1640 (wrap64 (x21_2 + 1))))) else (none)) else (none)) else (none))) = some r := by rw [if_pos rfl] at H; exact H
              clear H
              have H := H1
              clear H1
              replace H := Option.bind_eq_some_iff.mp H
              obtain ⟨t1655, A480, H⟩ := H
              replace H : (if t1655 = true then (if t1652 = true then (if (t1651.length : Int) = (t1639.length : Int) then ((laws_kLess.f k2 t1643 t1612).bind fun t1656 => (if t1656 = true then (none) else (laws_FnQueensTurned.l0 k2 l1 t1609 t1612 t1628 t1643 t1639 t1640 (wrap64 (x21_2 + 1))))) else (none)) else (none)) else (none)) = some r := H
              have A48 := A_ A480
              clear A480
              by_cases c49 : t1655 = true
              ·
               subst c49
               have H1 : (if t1652 = true then (if (t1651.length : Int) = (t1639.length : Int) then ((laws_kLess.f k2 t1643 t1612).bind fun t1656 => (if t1656 = true then (none) else (laws_FnQueensTurned.l0 k2 l1 t1609 t1612 t1628 t1643 t1639 t1640 (wrap64 (x21_2 + 1))))) else (none)) else (none)) = some r := by rw [if_pos rfl] at H; exact H
               clear H
               have H := H1
               clear H1
               by_cases c50 : t1652 = true
               ·
                subst c50
                have H1 : (if (t1651.length : Int) = (t1639.length : Int) then ((laws_kLess.f k2 t1643 t1612).bind fun t1656 => (if t1656 = true then (none) else (laws_FnQueensTurned.l0 k2 l1 t1609 t1612 t1628 t1643 t1639 t1640 (wrap64 (x21_2 + 1))))) else (none)) = some r := by rw [if_pos rfl] at H; exact H
                clear H
                have H := H1
                clear H1
                by_cases c51 : (t1651.length : Int) = (t1639.length : Int)
                ·
                 rw [if_pos c51] at H
                 have c51b0 : ((t1651.length : Int) == (t1639.length : Int)) = true := beq_iff_eq.mpr c51
                 have c51b1 : ((t1651.length : Int) != (t1639.length : Int)) = false := bne_eq_false_iff_eq.mpr c51
                 have c51b2 : (t1651.length == t1639.length) = true := by first | simpa using c51 | (simp at c51 ⊢; omega)
                 clear c51
                 replace H := Option.bind_eq_some_iff.mp H
                 obtain ⟨t1656, A520, H⟩ := H
                 replace H : (if t1656 = true then (none) else (laws_FnQueensTurned.l0 k2 l1 t1609 t1612 t1628 t1643 t1639 t1640 (wrap64 (x21_2 + 1)))) = some r := H
                 have A52 := A_ A520
                 clear A520
                 by_cases c53 : t1656 = true
                 ·
                  subst c53
                  have H1 : (none) = some r := by rw [if_pos rfl] at H; exact H
                  clear H
                  have H := H1
                  clear H1
                  exact absurd H (by simp)
                 ·
                  replace c53 := Bool.eq_false_iff.mpr c53
                  subst c53
                  have H1 : (laws_FnQueensTurned.l0 k2 l1 t1609 t1612 t1628 t1643 t1639 t1640 (wrap64 (x21_2 + 1))) = some r := by rw [if_neg (show ¬ (false = true) by decide)] at H; exact H
                  clear H
                  have H := H1
                  clear H1
                  have H' := A_ H
                  clear H
                  obtain ⟨Ao54, co54, eo54⟩ := Kd.R_slice HO_18.out
                  subst eo54
                  go_wp2_with (first | (refine gc_ 98 ?_; refine goesT_ (some 128) Try.func98 #[.slice Ao54 x18_2.length co54] ?_; (with_reducible refine (impl_TurnQueens.calls k2 _ _ x18_2 t1643 true _ ?side1 ?side2 A43.out).mono ?_); (case side1 => exact tc0_ (Kd.R_reads' HO_18.out).2.2); (case side2 => exact (Kd.R_reads' HO_18.out).2.1); rintro e w55 ⟨v1645, rfl, ho0, hb⟩; refine ⟨_, rfl, ?_⟩; replace HO_19 := A_ (Kd.S_elder' (ts1_x HO_19.out) (Kd.R_base ho0) hb); have HO1646 := A_ (Kd.R_lower (Kd.R_new' (Kd.R_new' (Kd.R_new' (Kd.R_new' ho0 (Kd.R_lt (tr_x HO_5.out))) (Kd.R_lt (tr_x HO_6.out))) (Kd.R_lt (tr_x HO_14.out))) (Kd.R_lt (tr_x HO_18.out))) (below_size tb_)); replace HO_5 := A_ (Kd.R_elder' (tr_x HO_5.out) (Kd.R_base ho0) hb); replace HO_6 := A_ (Kd.R_elder' (tr_x HO_6.out) (Kd.R_base ho0) hb); replace HO_14 := A_ (Kd.R_elder' (tr_x HO_14.out) (Kd.R_base ho0) hb); replace HO_18 := A_ (Kd.R_elder' (tr_x HO_18.out) (Kd.R_base ho0) hb); replace HB := A_ (below_step tb_ hb); (try clear hb); (try clear ho0); obtain ⟨Ao56, co56, eo56⟩ := Kd.R_slice HO1646.out; subst eo56) | (refine gc_ 96 ?_; refine goesT_ (some 133) Try.func96 #[.slice Ao56 t1643.length co56] ?_; (with_reducible refine (impl_LeastQueens.calls k2 _ _ t1643 t1647 true _ ?side1 ?side2 A44.out).mono ?_); (case side1 => exact tc0_ (Kd.R_reads' HO1646.out).2.2); (case side2 => exact (Kd.R_reads' HO1646.out).2.1); rintro e w57 ⟨v1649, rfl, ho0, hb⟩; refine ⟨_, rfl, ?_⟩; replace HO_19 := A_ (Kd.S_elder' (ts1_x HO_19.out) (Kd.R_base ho0) hb); have HO1650 := A_ (Kd.R_lower (Kd.R_new' (Kd.R_new' (Kd.R_new' (Kd.R_new' (Kd.R_new' ho0 (Kd.R_lt (tr_x HO_5.out))) (Kd.R_lt (tr_x HO_6.out))) (Kd.R_lt (tr_x HO_14.out))) (Kd.R_lt (tr_x HO_18.out))) (Kd.R_lt (tr_x HO1646.out))) (below_size tb_)); replace HO_5 := A_ (Kd.R_elder' (tr_x HO_5.out) (Kd.R_base ho0) hb); replace HO_6 := A_ (Kd.R_elder' (tr_x HO_6.out) (Kd.R_base ho0) hb); replace HO_14 := A_ (Kd.R_elder' (tr_x HO_14.out) (Kd.R_base ho0) hb); replace HO_18 := A_ (Kd.R_elder' (tr_x HO_18.out) (Kd.R_base ho0) hb); replace HO1646 := A_ (Kd.R_elder' (tr_x HO1646.out) (Kd.R_base ho0) hb); replace HB := A_ (below_step tb_ hb); (try clear hb); (try clear ho0)) | (refine gc_ 79 ?_; refine goesT_ (some 138) Try.func79 #[.slice Ao56 t1643.length co56] ?_; (with_reducible refine (impl_AttacksOf.calls k2 _ _ t1643 t1651 true _ ?side1 ?side2 A45.out).mono ?_); (case side1 => exact tc0_ (Kd.R_reads' HO1646.out).2.2); (case side2 => exact (Kd.R_reads' HO1646.out).2.1); rintro e w58 ⟨v1653, rfl, ho0, hb⟩; refine ⟨_, rfl, ?_⟩; have HO1654 := A_ (Kd.S_lower (Kd.S_new' (Kd.S_new' (Kd.S_new' (Kd.S_new' (Kd.S_new' (Kd.S_new' (Kd.S_new' ho0 (Kd.R_lt (tr_x HO_5.out))) (Kd.R_lt (tr_x HO_6.out))) (Kd.R_lt (tr_x HO_14.out))) (Kd.R_lt (tr_x HO_18.out))) (Kd.S_lt (ts1_x HO_19.out))) (Kd.R_lt (tr_x HO1646.out))) (Kd.R_lt (tr_x HO1650.out))) (below_size tb_)); replace HO_5 := A_ (Kd.R_below (tr_x HO_5.out) hb); replace HO_6 := A_ (Kd.R_below (tr_x HO_6.out) hb); replace HO_14 := A_ (Kd.R_below (tr_x HO_14.out) hb); replace HO_18 := A_ (Kd.R_below (tr_x HO_18.out) hb); replace HO_19 := A_ (Kd.S_elder' (ts1_x HO_19.out) (Kd.S_base ho0) hb); replace HO1646 := A_ (Kd.R_below (tr_x HO1646.out) hb); replace HO1650 := A_ (Kd.R_below (tr_x HO1650.out) hb); replace HB := A_ (below_step tb_ hb); (try clear hb); (try clear ho0); obtain ⟨Ao59, co59, eo59⟩ := Kd.R_slice HO1650.out; subst eo59; obtain ⟨Ao60, co60, eo60⟩ := Kd.R_slice HO_6.out; subst eo60) | (go_at_call 56; (with_reducible refine (laws_kSame.calls k2 _ _ t1647 _ _ t1612 true _ ?side1 ?side2 ?side3 ?side4 A48.out).mono ?_); (case side1 => exact tc0_ (Kd.R_reads' HO1650.out).2.2); (case side2 => exact (Kd.R_reads' HO1650.out).2.1); (case side3 => exact tc0_ (Kd.R_reads' HO_6.out).2.2); (case side4 => exact (Kd.R_reads' HO_6.out).2.1); rintro e w' ⟨rfl, ⟨nd, rfl⟩⟩; obtain ⟨Ao61, co61, eo61⟩ := Kd.S_slice HO1654.out; subst eo61; obtain ⟨Ao62, co62, eo62⟩ := Kd.S_slice HO_19.out; subst eo62) | (go_at_call 75; (with_reducible refine (laws_kLess.calls k2 _ _ t1643 _ _ t1612 false _ ?side1 ?side2 ?side3 ?side4 A52.out).mono ?_); (case side1 => exact tc0_ (Kd.R_reads' HO1646.out).2.2); (case side2 => exact (Kd.R_reads' HO1646.out).2.1); (case side3 => exact tc0_ (Kd.R_reads' HO_6.out).2.2); (case side4 => exact (Kd.R_reads' HO_6.out).2.1); rintro e w' ⟨rfl, ⟨nd, rfl⟩⟩))
                  go_roundg k2
                  case measure => have := HJ11.out; have := HK2.out; omega
                  case rel => exact ⟨(t1643), (wrap64 (x21_2 + 1)), tf_, H', ⟨by have := HJ11.out; have := HK2.out; omega⟩, ⟨by (with_reducible repeat (first | apply Kd.R_alloc | apply Kd.R_drewN | apply Kd.R_drew)); exact Kd.R_mono HO_5.out om_⟩, ⟨by (with_reducible repeat (first | apply Kd.R_alloc | apply Kd.R_drewN | apply Kd.R_drew)); exact Kd.R_mono HO_6.out om_⟩, ⟨by (with_reducible repeat (first | apply Kd.R_alloc | apply Kd.R_drewN | apply Kd.R_drew)); exact Kd.R_mono HO_14.out om_⟩, ⟨by (with_reducible repeat (first | apply Kd.R_alloc | apply Kd.R_drewN | apply Kd.R_drew)); exact Kd.R_mono HO1646.out om_⟩, ⟨by (with_reducible repeat (first | apply Kd.S_alloc | apply Kd.S_drewN | apply Kd.S_drew)); exact Kd.S_mono HO_19.out om_⟩, ⟨tb_⟩⟩
                ·
                 rw [if_neg c51] at H
                 exact absurd H (by simp)
               ·
                replace c50 := Bool.eq_false_iff.mpr c50
                subst c50
                have H1 : (none) = some r := by rw [if_neg (show ¬ (false = true) by decide)] at H; exact H
                clear H
                have H := H1
                clear H1
                exact absurd H (by simp)
              ·
               replace c49 := Bool.eq_false_iff.mpr c49
               subst c49
               have H1 : (none) = some r := by rw [if_neg (show ¬ (false = true) by decide)] at H; exact H
               clear H
               have H := H1
               clear H1
               exact absurd H (by simp)
             ·
              replace c47 := Bool.eq_false_iff.mpr c47
              subst c47
              have H1 : (none) = some r := by rw [if_neg (show ¬ (false = true) by decide)] at H; exact H
              clear H
              have H := H1
              clear H1
              exact absurd H (by simp)
            ·
             replace c46 := Bool.eq_false_iff.mpr c46
             subst c46
             have H1 : (none) = some r := by rw [if_neg (show ¬ (false = true) by decide)] at H; exact H
             clear H
             have H := H1
             clear H1
             exact absurd H (by simp)
           ·
            rw [if_neg c42] at H
            have c42b0 := decide_eq_false c42
            clear c42
            (first | rw [c42b0] | (simp only [i64_w, i32_w]; rw [c42b0]) | skip)
            replace H := Option.bind_eq_some_iff.mp H
            obtain ⟨⟨t1657, t1658⟩, A630, H⟩ := H
            replace H : ((impl_LeastQueens.f k2 t1628).bind fun bt1661 => (if t1640 = true then ((laws_kSame.f k2 x18_2 t1609).bind fun t1665 => (if t1665 = true then (if t1658 = true then ((laws_kSame.f k2 t1657 t1609).bind fun t1666 => (if t1666 = true then (if bt1661.2 = true then ((laws_kSame.f k2 bt1661.1 t1612).bind fun t1667 => (if t1667 = true then (laws_FnQueensTurned.j2 k2 l1) else (none))) else (none)) else (none))) else (none)) else (none))) else (none))) = some r := H
            have A63 := A_ A630
            clear A630
            replace H := Option.bind_eq_some_iff.mp H
            obtain ⟨⟨t1661, t1662⟩, A640, H⟩ := H
            replace H : (if t1640 = true then ((laws_kSame.f k2 x18_2 t1609).bind fun t1665 => (if t1665 = true then (if t1658 = true then ((laws_kSame.f k2 t1657 t1609).bind fun t1666 => (if t1666 = true then (if t1662 = true then ((laws_kSame.f k2 t1661 t1612).bind fun t1667 => (if t1667 = true then (laws_FnQueensTurned.j2 k2 l1) else (none))) else (none)) else (none))) else (none)) else (none))) else (none)) = some r := H
            have A64 := A_ A640
            clear A640
            by_cases c65 : t1640 = true
            ·
             subst c65
             have H1 : ((laws_kSame.f k2 x18_2 t1609).bind fun t1665 => (if t1665 = true then (if t1658 = true then ((laws_kSame.f k2 t1657 t1609).bind fun t1666 => (if t1666 = true then (if t1662 = true then ((laws_kSame.f k2 t1661 t1612).bind fun t1667 => (if t1667 = true then (laws_FnQueensTurned.j2 k2 l1) else (none))) else (none)) else (none))) else (none)) else (none))) = some r := by rw [if_pos rfl] at H; exact H
             clear H
             have H := H1
             clear H1
             replace H := Option.bind_eq_some_iff.mp H
             obtain ⟨t1665, A660, H⟩ := H
             replace H : (if t1665 = true then (if t1658 = true then ((laws_kSame.f k2 t1657 t1609).bind fun t1666 => (if t1666 = true then (if t1662 = true then ((laws_kSame.f k2 t1661 t1612).bind fun t1667 => (if t1667 = true then (laws_FnQueensTurned.j2 k2 l1) else (none))) else (none)) else (none))) else (none)) else (none)) = some r := H
             have A66 := A_ A660
             clear A660
             by_cases c67 : t1665 = true
             ·
              subst c67
              have H1 : (if t1658 = true then ((laws_kSame.f k2 t1657 t1609).bind fun t1666 => (if t1666 = true then (if t1662 = true then ((laws_kSame.f k2 t1661 t1612).bind fun t1667 => (if t1667 = true then (laws_FnQueensTurned.j2 k2 l1) else (none))) else (none)) else (none))) else (none)) = some r := by rw [if_pos rfl] at H; exact H
              clear H
              have H := H1
              clear H1
              by_cases c68 : t1658 = true
              ·
               subst c68
               have H1 : ((laws_kSame.f k2 t1657 t1609).bind fun t1666 => (if t1666 = true then (if t1662 = true then ((laws_kSame.f k2 t1661 t1612).bind fun t1667 => (if t1667 = true then (laws_FnQueensTurned.j2 k2 l1) else (none))) else (none)) else (none))) = some r := by rw [if_pos rfl] at H; exact H
               clear H
               have H := H1
               clear H1
               replace H := Option.bind_eq_some_iff.mp H
               obtain ⟨t1666, A690, H⟩ := H
               replace H : (if t1666 = true then (if t1662 = true then ((laws_kSame.f k2 t1661 t1612).bind fun t1667 => (if t1667 = true then (laws_FnQueensTurned.j2 k2 l1) else (none))) else (none)) else (none)) = some r := H
               have A69 := A_ A690
               clear A690
               by_cases c70 : t1666 = true
               ·
                subst c70
                have H1 : (if t1662 = true then ((laws_kSame.f k2 t1661 t1612).bind fun t1667 => (if t1667 = true then (laws_FnQueensTurned.j2 k2 l1) else (none))) else (none)) = some r := by rw [if_pos rfl] at H; exact H
                clear H
                have H := H1
                clear H1
                by_cases c71 : t1662 = true
                ·
                 subst c71
                 have H1 : ((laws_kSame.f k2 t1661 t1612).bind fun t1667 => (if t1667 = true then (laws_FnQueensTurned.j2 k2 l1) else (none))) = some r := by rw [if_pos rfl] at H; exact H
                 clear H
                 have H := H1
                 clear H1
                 replace H := Option.bind_eq_some_iff.mp H
                 obtain ⟨t1667, A720, H⟩ := H
                 replace H : (if t1667 = true then (laws_FnQueensTurned.j2 k2 l1) else (none)) = some r := H
                 have A72 := A_ A720
                 clear A720
                 by_cases c73 : t1667 = true
                 ·
                  subst c73
                  have H1 : (laws_FnQueensTurned.j2 k2 l1) = some r := by rw [if_pos rfl] at H; exact H
                  clear H
                  have H := H1
                  clear H1
                  have H' := A_ H
                  clear H
                  obtain ⟨Ao74, co74, eo74⟩ := Kd.R_slice HO_14.out
                  subst eo74
                  go_wp2_with (first | (refine gc_ 100 ?_; refine goesT_ (some 172) Try.func100 #[.slice Ao74 t1628.length co74] ?_; (with_reducible refine (impl_MirrorQueens.calls k2 _ _ t1628 t1657 true _ ?side1 ?side2 A63.out).mono ?_); (case side1 => exact tc0_ (Kd.R_reads' HO_14.out).2.2); (case side2 => exact (Kd.R_reads' HO_14.out).2.1); rintro e w75 ⟨v1659, rfl, ho0, hb⟩; refine ⟨_, rfl, ?_⟩; replace HO_19 := A_ (Kd.S_elder' (ts1_x HO_19.out) (Kd.R_base ho0) hb); have HO1660 := A_ (Kd.R_lower (Kd.R_new' (Kd.R_new' (Kd.R_new' (Kd.R_new' ho0 (Kd.R_lt (tr_x HO_5.out))) (Kd.R_lt (tr_x HO_6.out))) (Kd.R_lt (tr_x HO_14.out))) (Kd.R_lt (tr_x HO_18.out))) (below_size tb_)); replace HO_5 := A_ (Kd.R_elder' (tr_x HO_5.out) (Kd.R_base ho0) hb); replace HO_6 := A_ (Kd.R_elder' (tr_x HO_6.out) (Kd.R_base ho0) hb); replace HO_14 := A_ (Kd.R_elder' (tr_x HO_14.out) (Kd.R_base ho0) hb); replace HO_18 := A_ (Kd.R_elder' (tr_x HO_18.out) (Kd.R_base ho0) hb); replace HB := A_ (below_step tb_ hb); (try clear hb); (try clear ho0)) | (refine gc_ 96 ?_; refine goesT_ (some 177) Try.func96 #[.slice Ao74 t1628.length co74] ?_; (with_reducible refine (impl_LeastQueens.calls k2 _ _ t1628 t1661 true _ ?side1 ?side2 A64.out).mono ?_); (case side1 => exact tc0_ (Kd.R_reads' HO_14.out).2.2); (case side2 => exact (Kd.R_reads' HO_14.out).2.1); rintro e w76 ⟨v1663, rfl, ho0, hb⟩; refine ⟨_, rfl, ?_⟩; replace HO_19 := A_ (Kd.S_elder' (ts1_x HO_19.out) (Kd.R_base ho0) hb); have HO1664 := A_ (Kd.R_lower (Kd.R_new' (Kd.R_new' (Kd.R_new' (Kd.R_new' (Kd.R_new' ho0 (Kd.R_lt (tr_x HO_5.out))) (Kd.R_lt (tr_x HO_6.out))) (Kd.R_lt (tr_x HO_14.out))) (Kd.R_lt (tr_x HO_18.out))) (Kd.R_lt (tr_x HO1660.out))) (below_size tb_)); replace HO_5 := A_ (Kd.R_elder' (tr_x HO_5.out) (Kd.R_base ho0) hb); replace HO_6 := A_ (Kd.R_elder' (tr_x HO_6.out) (Kd.R_base ho0) hb); replace HO_14 := A_ (Kd.R_elder' (tr_x HO_14.out) (Kd.R_base ho0) hb); replace HO_18 := A_ (Kd.R_elder' (tr_x HO_18.out) (Kd.R_base ho0) hb); replace HO1660 := A_ (Kd.R_elder' (tr_x HO1660.out) (Kd.R_base ho0) hb); replace HB := A_ (below_step tb_ hb); (try clear hb); (try clear ho0); obtain ⟨Ao77, co77, eo77⟩ := Kd.R_slice HO_18.out; subst eo77) | (go_at_call 56; (with_reducible refine (laws_kSame.calls k2 _ _ x18_2 _ _ t1609 true _ ?side1 ?side2 ?side3 ?side4 A66.out).mono ?_); (case side1 => exact tc0_ (Kd.R_reads' HO_18.out).2.2); (case side2 => exact (Kd.R_reads' HO_18.out).2.1); (case side3 => exact tc0_ (Kd.R_reads' HO_5.out).2.2); (case side4 => exact (Kd.R_reads' HO_5.out).2.1); rintro e w' ⟨rfl, ⟨nd, rfl⟩⟩; obtain ⟨Ao78, co78, eo78⟩ := Kd.R_slice HO1660.out; subst eo78) | (go_at_call 56; (with_reducible refine (laws_kSame.calls k2 _ _ t1657 _ _ t1609 true _ ?side1 ?side2 ?side3 ?side4 A69.out).mono ?_); (case side1 => exact tc0_ (Kd.R_reads' HO1660.out).2.2); (case side2 => exact (Kd.R_reads' HO1660.out).2.1); (case side3 => exact tc0_ (Kd.R_reads' HO_5.out).2.2); (case side4 => exact (Kd.R_reads' HO_5.out).2.1); rintro e w' ⟨rfl, ⟨nd, rfl⟩⟩; obtain ⟨Ao79, co79, eo79⟩ := Kd.R_slice HO1664.out; subst eo79; obtain ⟨Ao80, co80, eo80⟩ := Kd.R_slice HO_6.out; subst eo80) | (go_at_call 56; (with_reducible refine (laws_kSame.calls k2 _ _ t1661 _ _ t1612 true _ ?side1 ?side2 ?side3 ?side4 A72.out).mono ?_); (case side1 => exact tc0_ (Kd.R_reads' HO1664.out).2.2); (case side2 => exact (Kd.R_reads' HO1664.out).2.1); (case side3 => exact tc0_ (Kd.R_reads' HO_6.out).2.2); (case side4 => exact (Kd.R_reads' HO_6.out).2.1); rintro e w' ⟨rfl, ⟨nd, rfl⟩⟩))
                  go_meet
                  case rel => exact ⟨_, H', ⟨by have := HJ11.out; have := HK2.out; first | omega | exact Nat.le_refl _⟩, ⟨tb_⟩⟩
                 ·
                  replace c73 := Bool.eq_false_iff.mpr c73
                  subst c73
                  have H1 : (none) = some r := by rw [if_neg (show ¬ (false = true) by decide)] at H; exact H
                  clear H
                  have H := H1
                  clear H1
                  exact absurd H (by simp)
                ·
                 replace c71 := Bool.eq_false_iff.mpr c71
                 subst c71
                 have H1 : (none) = some r := by rw [if_neg (show ¬ (false = true) by decide)] at H; exact H
                 clear H
                 have H := H1
                 clear H1
                 exact absurd H (by simp)
               ·
                replace c70 := Bool.eq_false_iff.mpr c70
                subst c70
                have H1 : (none) = some r := by rw [if_neg (show ¬ (false = true) by decide)] at H; exact H
                clear H
                have H := H1
                clear H1
                exact absurd H (by simp)
              ·
               replace c68 := Bool.eq_false_iff.mpr c68
               subst c68
               have H1 : (none) = some r := by rw [if_neg (show ¬ (false = true) by decide)] at H; exact H
               clear H
               have H := H1
               clear H1
               exact absurd H (by simp)
             ·
              replace c67 := Bool.eq_false_iff.mpr c67
              subst c67
              have H1 : (none) = some r := by rw [if_neg (show ¬ (false = true) by decide)] at H; exact H
              clear H
              have H := H1
              clear H1
              exact absurd H (by simp)
            ·
             replace c65 := Bool.eq_false_iff.mpr c65
             subst c65
             have H1 : (none) = some r := by rw [if_neg (show ¬ (false = true) by decide)] at H; exact H
             clear H
             have H := H1
             clear H1
             exact absurd H (by simp)
        ·
         replace c39 := Bool.eq_false_iff.mpr c39
         subst c39
         have H1 : (laws_FnQueensTurned.j2 kj11 l1) = some r := by rw [if_neg (show ¬ (false = true) by decide)] at H; exact H
         clear H
         have H := H1
         clear H1
         have H' := A_ H
         clear H
         go_wp2
         go_meet
         case rel => exact ⟨_, H', ⟨by have := HJ11.out; first | omega | exact Nat.le_refl _⟩, ⟨tb_⟩⟩
      case rest =>
       as_aux_lemma =>
        clear HC38
        try clear c1
        try clear c2
        try clear p2
        try clear c3
        try clear c4
        try clear c5
        try clear c6
        try clear p6
        try clear c7
        try clear c9
        try clear c10
        try clear c15
        try clear c21
        try clear c21b0
        try clear c21b1
        try clear c21b2
        try clear c23
        try clear c24
        try clear c24b0
        try clear c24b1
        try clear c24b2
        try clear c26
        try clear c27
        try clear c27b0
        try clear c27b1
        try clear c27b2
        try clear c29
        try clear c30
        try clear c30b0
        try clear c30b1
        try clear c30b2
        try clear c37
        try clear c39
        try clear c42
        try clear c42b0
        try clear c46
        try clear c47
        try clear c49
        try clear c50
        try clear c51
        try clear c51b0
        try clear c51b1
        try clear c51b2
        try clear c53
        try clear p64
        try clear c65
        try clear c67
        try clear c68
        try clear c70
        try clear c71
        try clear c73
        try clear c79
        try clear p2
        obtain ⟨kq, HA, HJ37, HB⟩ := hcut
        cases kq with
        | zero => exact absurd HA.out (by simp [laws_FnQueensTurned.j2])
        | succ kj37 =>
         have H := HA.out
         clear HA
         simp only [laws_FnQueensTurned.j2] at H
         replace H := Option.bind_eq_some_iff.mp H
         obtain ⟨t1668, A810, H⟩ := H
         replace H : ((impl_CountDifferent.f kj37 t1668).bind fun bt1669 => ((spec_CountDifferent.f kj37 t1668).bind fun bt1671 => ((impl_CountQueens.f kj37 t1668).bind fun bt1673 => (if (bt1669.2 == bt1671.2) = true then (if bt1669.1 = bt1671.1 then (if (bt1673.2 == bt1669.2) = true then (if bt1669.1 ≤ bt1673.1 then (some (decide ((wrap64 (8 * bt1669.1)) ≥ bt1673.1))) else (none)) else (none)) else (none)) else (none))))) = some r := H
         have A81 := A_ A810
         clear A810
         replace H := Option.bind_eq_some_iff.mp H
         obtain ⟨⟨t1669, t1670⟩, A820, H⟩ := H
         replace H : ((spec_CountDifferent.f kj37 t1668).bind fun bt1671 => ((impl_CountQueens.f kj37 t1668).bind fun bt1673 => (if (t1670 == bt1671.2) = true then (if t1669 = bt1671.1 then (if (bt1673.2 == t1670) = true then (if t1669 ≤ bt1673.1 then (some (decide ((wrap64 (8 * t1669)) ≥ bt1673.1))) else (none)) else (none)) else (none)) else (none)))) = some r := H
         have A82 := A_ A820
         clear A820
         replace H := Option.bind_eq_some_iff.mp H
         obtain ⟨⟨t1671, t1672⟩, A830, H⟩ := H
         replace H : ((impl_CountQueens.f kj37 t1668).bind fun bt1673 => (if (t1670 == t1672) = true then (if t1669 = t1671 then (if (bt1673.2 == t1670) = true then (if t1669 ≤ bt1673.1 then (some (decide ((wrap64 (8 * t1669)) ≥ bt1673.1))) else (none)) else (none)) else (none)) else (none))) = some r := H
         have A83 := A_ A830
         clear A830
         replace H := Option.bind_eq_some_iff.mp H
         obtain ⟨⟨t1673, t1674⟩, A840, H⟩ := H
         replace H : (if (t1670 == t1672) = true then (if t1669 = t1671 then (if (t1674 == t1670) = true then (if t1669 ≤ t1673 then (some (decide ((wrap64 (8 * t1669)) ≥ t1673))) else (none)) else (none)) else (none)) else (none)) = some r := H
         have A84 := A_ A840
         clear A840
         by_cases c85 : (t1670 == t1672) = true
         ·
          rw [if_pos c85] at H
          have c85b0 : (t1670 == t1672) = true := c85
          (try (have c85b1 : decide (t1670 = t1672) = true := by simpa using c85))
          (try (have c85b2 : (t1670 == t1672) = true := by simpa using c85))
          clear c85
          by_cases c86 : t1669 = t1671
          ·
           rw [if_pos c86] at H
           have c86b0 : (t1669 == t1671) = true := beq_iff_eq.mpr c86
           have c86b1 : (t1669 != t1671) = false := bne_eq_false_iff_eq.mpr c86
           clear c86
           by_cases c87 : (t1674 == t1670) = true
           ·
            rw [if_pos c87] at H
            have c87b0 : (t1674 == t1670) = true := c87
            (try (have c87b1 : decide (t1674 = t1670) = true := by simpa using c87))
            (try (have c87b2 : (t1674 == t1670) = true := by simpa using c87))
            clear c87
            by_cases c88 : t1669 ≤ t1673
            ·
             rw [if_pos c88] at H
             have c88b0 := decide_eq_true c88
             clear c88
             obtain rfl := Option.some.inj H
             go_wp2_with (first | (refine gc_ 102 ?_; refine goesT_ (some 209) Try.func102 #[.slice A1 l1.length c1] ?_; (with_reducible refine (spec_DrawCountDifferent.calls _ _ l1 t1668 _ ?side1 ?side2 A81.out).mono ?_); (case side1 => exact tc_ HR1.out); (case side2 => exact HC1.out); rintro e w89 ⟨rfl, hb⟩; refine ⟨_, rfl, ?_⟩; replace HB := A_ (below_step tb_ hb); (try clear hb)) | (refine gc_ 103 ?_; refine goesT_ (some 212) Try.func103 #[.int .i64 t1668] ?_; (with_reducible refine (impl_CountDifferent.calls kj37 t1668 t1669 t1670 _ A82.out).mono ?_); rintro e w90 ⟨rfl, hb⟩; refine ⟨_, rfl, ?_⟩; replace HB := A_ (below_step tb_ hb); (try clear hb)) | (refine gc_ 104 ?_; refine goesT_ (some 217) Try.func104 #[.int .i64 t1668] ?_; (with_reducible refine (spec_CountDifferent.calls kj37 t1668 t1671 t1672 _ A83.out).mono ?_); rintro e w91 ⟨rfl, hb⟩; refine ⟨_, rfl, ?_⟩; replace HB := A_ (below_step tb_ hb); (try clear hb)) | (refine gc_ 70 ?_; refine goesT_ (some 222) Try.func70 #[.int .i64 t1668] ?_; (with_reducible refine (impl_CountQueens.calls kj37 t1668 t1673 t1674 _ A84.out).mono ?_); rintro e w92 ⟨rfl, hb⟩; refine ⟨_, rfl, ?_⟩; replace HB := A_ (below_step tb_ hb); (try clear hb)))
             go_ret
             exact ⟨te_, tb_⟩
            ·
             rw [if_neg c88] at H
             exact absurd H (by simp)
           ·
            rw [if_neg c87] at H
            exact absurd H (by simp)
          ·
           rw [if_neg c86] at H
           exact absurd H (by simp)
         ·
          rw [if_neg c85] at H
          exact absurd H (by simp)
  
/-- THE ONE PURE STATEMENT of laws_FnQueensTurned: yours. -/
def laws_FnQueensTurned.Pure : Prop := ∀ (l0 : List Int) (l1 : List Int), l0.length ≤ maxLen → l0.length * 1 ≤ 140737488351232 → (∀ x ∈ l0, (Lit.int .u8 x).wf = true) → l1.length ≤ maxLen → l1.length * 1 ≤ 140737488351232 → (∀ x ∈ l1, (Lit.int .u8 x).wf = true) → ∃ k, laws_FnQueensTurned.f k l0 l1 = some true
theorem laws_FnQueensTurned.walk (P : laws_FnQueensTurned.Pure) (a0 : Option Addr) (len0 cap0 : Nat) (z0 : List Int) (a1 : Option Addr) (len1 cap1 : Nat) (z1 : List Int) (w : World) (w0 : (a0 = none ∧ len0 = 0 ∧ cap0 = 0 ∧ z0 = []) ∨ ∃ x, a0 = some x ∧ len0 ≤ cap0 ∧ cap0 ≤ maxLen ∧ z0.length = cap0 ∧ (∀ i, i < z0.length → w.cell? (x.add i) = some (.int .u8 (z0.getD i 0))) ∧ ∀ n ∈ z0, (Lit.int .u8 n).wf = true) (y0 : len0 * 1 ≤ 140737488351232) (w1 : (a1 = none ∧ len1 = 0 ∧ cap1 = 0 ∧ z1 = []) ∨ ∃ x, a1 = some x ∧ len1 ≤ cap1 ∧ cap1 ≤ maxLen ∧ z1.length = cap1 ∧ (∀ i, i < z1.length → w.cell? (x.add i) = some (.int .u8 (z1.getD i 0))) ∧ ∀ n ∈ z1, (Lit.int .u8 n).wf = true) (y1 : len1 * 1 ≤ 140737488351232) :
  Calls Try.prog 15 #[.slice a0 len0 cap0, .slice a1 len1 cap1] w fun e w' => e = .returned (.bool true) ∧ Below w.heap.size w w' := by
 obtain ⟨l0, rfl, hr0, hm0, hw0, hc0⟩ := ReadsInt.ofRowC w0
 obtain ⟨l1, rfl, hr1, hm1, hw1, hc1⟩ := ReadsInt.ofRowC w1
 obtain ⟨k, h⟩ := P l0 l1 hm0 y0 hw0 hm1 y1 hw1
 refine (laws_FnQueensTurned.calls k _ _ l0 _ _ l1 true w (Kd.C_of_reads (d := (0 : Int)) (h1 := fun _ => rfl) hr0) hc0 (Kd.C_of_reads (d := (0 : Int)) (h1 := fun _ => rfl) hr1) hc1 h).mono ?_
 rintro e w' ⟨rfl, hd⟩
 exact ⟨rfl, hd⟩

end
end Go.Proofs.Ytnpacpdpgngdpaa.P
