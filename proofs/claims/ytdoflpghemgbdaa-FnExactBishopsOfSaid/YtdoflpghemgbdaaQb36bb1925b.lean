-- printed functions (wip/slim.py)
import Derived.Test.YtdoflpghemgbdaaPx0
import Derived.Test.YtdoflpghemgbdaaQe921f7f6c3
import Derived.Test.YtdoflpghemgbdaaQ06f4a11cba
import Derived.Test.YtdoflpghemgbdaaQae02657195
import Derived.Test.YtdoflpghemgbdaaQ3ccfaa7f03
import Derived.Test.YtdoflpghemgbdaaQ44da41490c
namespace Go.Proofs.Ytdoflpghemgbdaa.P
noncomputable section
set_option maxHeartbeats 8000000
set_option maxRecDepth 100000
open Go.RowKit Go.Proofs.YtdoflpghemgbdaaW.PrintWords Go.Proofs.YtdoflpghemgbdaaW.PrintLast Go.Proofs.YtdoflpghemgbdaaW.PrintMore
attribute [local go_sem] max2_int min2_int max_two min_two max_three min_three max_four min_four   -- for this text's walks alone
set_option linter.unusedVariables false
set_option linter.unusedSimpArgs false

/-! ### spec_BishopsOf: function 64 -/
mutual
def spec_BishopsOf.j0 : Nat → Int → List Int → Bool → Int → Int → List Int → Option ((List (List Int)) × Bool)
 | 0, _, _, _, _, _, _ => none
 | k + 1, x1, x2, x36, x1628000, x1628001, x1628002 => if x36 = true then (some (([] : List (List Int)), false)) else (spec_BishopsOf.l0 k x1 ([] : List (List Int)) x2 (x2.length : Int) 0 x1628000 x1628001 x1628002)
def spec_BishopsOf.l0 : Nat → Int → List (List Int) → List Int → Int → Int → Int → Int → List Int → Option ((List (List Int)) × Bool)
 | 0, _, _, _, _, _, _, _, _ => none
 | k + 1, x1, x8, x37, x38, x39, x1628000, x1628001, x1628002 => if x39 < x38 then (if 0 ≤ x39 then (if x39 < (x37.length : Int) then (if (rd x37 x39) ≥ 0 then ((spec_biCell.f k x1628000 x1628001 x1628002 x1 x39 (rd x37 x39)).bind fun bt1643 => ((spec_biSorted.f k x8 (([bt1643.1, bt1643.2.1] : List Int))).bind fun t1649 => (spec_BishopsOf.l0 k x1 t1649 x37 x38 (wrap64 (x39 + 1)) x1628000 x1628001 x1628002))) else (spec_BishopsOf.l0 k x1 x8 x37 x38 (wrap64 (x39 + 1)) x1628000 x1628001 x1628002)) else (none)) else (none)) else (some (x8, true))
end
def spec_BishopsOf.f (k : Nat) (a0_0 : Int) (a0_1 : Int) (l0_2 : List Int) (a1 : Int) (l2 : List Int) : Option ((List (List Int)) × Bool) := (spec_boGood.f k a0_0 a0_1 l0_2).bind fun t1628 => (if t1628 = true then ((spec_biColour.f a1).bind fun t1629 => (if t1629 = true then ((spec_biBoard.f k a0_0 a0_1 l0_2 a1).bind fun bt1630 => ((spec_boGood.f k bt1630.1 bt1630.2.1 bt1630.2.2).bind fun t1635 => (if t1635 = true then ((spec_biBoard.f k a0_0 a0_1 l0_2 a1).bind fun bt1636 => ((spec_roGood.f k bt1636.1 bt1636.2.1 bt1636.2.2 l2).bind fun t1641 => (spec_BishopsOf.j0 k a1 l2 (!t1641) a0_0 a0_1 l0_2))) else (spec_BishopsOf.j0 k a1 l2 true a0_0 a0_1 l0_2)))) else (spec_BishopsOf.j0 k a1 l2 true a0_0 a0_1 l0_2))) else (spec_BishopsOf.j0 k a1 l2 true a0_0 a0_1 l0_2))
theorem spec_BishopsOf.mono_l : ∀ k, (∀ y0 y1 y2 y3 y4 y5, LeO (spec_BishopsOf.j0 k y0 y1 y2 y3 y4 y5) (spec_BishopsOf.j0 (k + 1) y0 y1 y2 y3 y4 y5)) ∧ (∀ y0 y1 y2 y3 y4 y5 y6 y7, LeO (spec_BishopsOf.l0 k y0 y1 y2 y3 y4 y5 y6 y7) (spec_BishopsOf.l0 (k + 1) y0 y1 y2 y3 y4 y5 y6 y7))
 | 0 => ⟨fun _ _ _ _ _ _ r h => by simp [spec_BishopsOf.j0] at h, fun _ _ _ _ _ _ _ _ r h => by simp [spec_BishopsOf.l0] at h⟩
 | k + 1 => by
  obtain ⟨ih0, ih1⟩ := spec_BishopsOf.mono_l k
  refine ⟨?_, ?_⟩
  ·
   intro y0 y1 y2 y3 y4 y5
   unfold spec_BishopsOf.j0
   repeat' first | (with_reducible first | exact ih0 _ _ _ _ _ _ | exact ih1 _ _ _ _ _ _ _ _ | exact spec_biBoard.mono _ _ _ _ _ | exact spec_biCell.mono _ _ _ _ _ _ _ | exact spec_biSorted.mono _ _ _ | exact spec_boGood.mono _ _ _ _ | exact spec_roGood.mono _ _ _ _ _ | exact LeO.refl _ | exact LeO.none _ | refine LeO.ite ?_ ?_ | refine LeO.bind ?_ (fun _ => ?_)) | exact ih0 _ _ _ _ _ _ | exact ih1 _ _ _ _ _ _ _ _ | exact spec_biBoard.mono _ _ _ _ _ | exact spec_biCell.mono _ _ _ _ _ _ _ | exact spec_biSorted.mono _ _ _ | exact spec_boGood.mono _ _ _ _ | exact spec_roGood.mono _ _ _ _ _ | exact LeO.none _ | refine LeO.ite ?_ ?_ | refine LeO.bind ?_ (fun _ => ?_)
  ·
   intro y0 y1 y2 y3 y4 y5 y6 y7
   unfold spec_BishopsOf.l0
   repeat' first | (with_reducible first | exact ih0 _ _ _ _ _ _ | exact ih1 _ _ _ _ _ _ _ _ | exact spec_biBoard.mono _ _ _ _ _ | exact spec_biCell.mono _ _ _ _ _ _ _ | exact spec_biSorted.mono _ _ _ | exact spec_boGood.mono _ _ _ _ | exact spec_roGood.mono _ _ _ _ _ | exact LeO.refl _ | exact LeO.none _ | refine LeO.ite ?_ ?_ | refine LeO.bind ?_ (fun _ => ?_)) | exact ih0 _ _ _ _ _ _ | exact ih1 _ _ _ _ _ _ _ _ | exact spec_biBoard.mono _ _ _ _ _ | exact spec_biCell.mono _ _ _ _ _ _ _ | exact spec_biSorted.mono _ _ _ | exact spec_boGood.mono _ _ _ _ | exact spec_roGood.mono _ _ _ _ _ | exact LeO.none _ | refine LeO.ite ?_ ?_ | refine LeO.bind ?_ (fun _ => ?_)
theorem spec_BishopsOf.mono : ∀ a0 a1 a2 a3 a4 k, LeO (spec_BishopsOf.f k a0 a1 a2 a3 a4) (spec_BishopsOf.f (k + 1) a0 a1 a2 a3 a4) := by
 intro a0 a1 a2 a3 a4 k
 obtain ⟨ih0, ih1⟩ := spec_BishopsOf.mono_l k
 unfold spec_BishopsOf.f
 repeat' first | (with_reducible first | exact ih0 _ _ _ _ _ _ | exact ih1 _ _ _ _ _ _ _ _ | exact spec_biBoard.mono _ _ _ _ _ | exact spec_biCell.mono _ _ _ _ _ _ _ | exact spec_biSorted.mono _ _ _ | exact spec_boGood.mono _ _ _ _ | exact spec_roGood.mono _ _ _ _ _ | exact LeO.refl _ | exact LeO.none _ | refine LeO.ite ?_ ?_ | refine LeO.bind ?_ (fun _ => ?_)) | exact ih0 _ _ _ _ _ _ | exact ih1 _ _ _ _ _ _ _ _ | exact spec_biBoard.mono _ _ _ _ _ | exact spec_biCell.mono _ _ _ _ _ _ _ | exact spec_biSorted.mono _ _ _ | exact spec_boGood.mono _ _ _ _ | exact spec_roGood.mono _ _ _ _ _ | exact LeO.none _ | refine LeO.ite ?_ ?_ | refine LeO.bind ?_ (fun _ => ?_)
theorem spec_BishopsOf.calls (k : Nat) (a0_0 : Int) (a0_1 : Int) (A0_2 : Option Addr) (c0_2 : Nat) (l0_2 : List Int) (a1 : Int) (A2 : Option Addr) (c2 : Nat) (l2 : List Int) (r1 : List (List Int)) (r2 : Bool) (w : World) (hr0_2 : Kd.C (Kd.int .i64) w A0_2 l0_2.length l0_2) (hc0_2 : l0_2.length ≤ c0_2) (hr2 : Kd.C (Kd.int .i64) w A2 l2.length l2) (hc2 : l2.length ≤ c2) (h : spec_BishopsOf.f k a0_0 a0_1 l0_2 a1 l2 = some (r1, r2)) :
  Calls Try.prog 64 #[.agg #[.int .i64 a0_0, .int .i64 a0_1, .slice A0_2 l0_2.length c0_2], .int .i64 a1, .slice A2 l2.length c2] w fun e w' => ∃ v0_ : Value, e = .returned (.tuple #[v0_, .bool r2]) ∧ Kd.N (Kd.slice 3 (Kd.int .i64)) 24 w' w.heap.size (fun k_ => (w.heap.size ≤ k_)) v0_ r1 ∧ Below w.heap.size w w' := by
 have hu26 := Try.underlying26
 have HR0_2 := A_ hr0_2
 have HC0_2 := A_ hc0_2
 clear hr0_2 hc0_2
 have HR2 := A_ hr2
 have HC2 := A_ hc2
 clear hr2 hc2
 have HB := A_ (Below.refl w.heap.size w)
 have H : ((spec_boGood.f k a0_0 a0_1 l0_2).bind fun t1628 => (if t1628 = true then ((spec_biColour.f a1).bind fun t1629 => (if t1629 = true then ((spec_biBoard.f k a0_0 a0_1 l0_2 a1).bind fun bt1630 => ((spec_boGood.f k bt1630.1 bt1630.2.1 bt1630.2.2).bind fun t1635 => (if t1635 = true then ((spec_biBoard.f k a0_0 a0_1 l0_2 a1).bind fun bt1636 => ((spec_roGood.f k bt1636.1 bt1636.2.1 bt1636.2.2 l2).bind fun t1641 => (spec_BishopsOf.j0 k a1 l2 (!t1641) a0_0 a0_1 l0_2))) else (spec_BishopsOf.j0 k a1 l2 true a0_0 a0_1 l0_2)))) else (spec_BishopsOf.j0 k a1 l2 true a0_0 a0_1 l0_2))) else (spec_BishopsOf.j0 k a1 l2 true a0_0 a0_1 l0_2))) = some (r1, r2) := h
 clear h
 have HC4 := A_ H
 clear H
 go_enter Try.func64, Try.ntmps64
 go_upto_region 1 with (first | (refine gd_ 3 ?_; refine bx_ 3 #[.int .i64 a0_0, .int .i64 a0_1, .slice A0_2 l0_2.length c0_2] 26 ?_; intro gb1627 hg w5 hbox hb; have BK1627 := A_ (hbox); have GW1627 := A_ ((ts_ hg : w.heap.size ≤ gb1627)); have GE1627 := A_ ((ts_ hg : w.heap.size ≤ gb1627)); replace HB := A_ (below_step tb_ hb); clear hb hbox hg))
 (try simp only [Act.put, List.setIfInBounds_toArray, List.set_cons_zero, List.set_cons_succ])
 go_cut [36] (fun v36 wc => ∃ (kq : Nat) (x36_3 : Bool), v36 = .bool x36_3 ∧ Aside0 (spec_BishopsOf.j0 kq a1 l2 x36_3 a0_0 a0_1 l0_2 = some (r1, r2)) ∧ Aside0 (kq ≤ k) ∧ Aside0 (wc.heap[gb1627]? = some (.cells #[.int .i64 a0_0, .int .i64 a0_1, (.slice A0_2 l0_2.length c0_2)] 26 (0, 0))) ∧ Aside0 (Below w.heap.size w wc))
 case first =>
  have H := HC4.out
  clear HC4
  replace H := Option.bind_eq_some_iff.mp H
  obtain ⟨t1628, A60, H⟩ := H
  replace H : (if t1628 = true then ((spec_biColour.f a1).bind fun t1629 => (if t1629 = true then ((spec_biBoard.f k a0_0 a0_1 l0_2 a1).bind fun bt1630 => ((spec_boGood.f k bt1630.1 bt1630.2.1 bt1630.2.2).bind fun t1635 => (if t1635 = true then ((spec_biBoard.f k a0_0 a0_1 l0_2 a1).bind fun bt1636 => ((spec_roGood.f k bt1636.1 bt1636.2.1 bt1636.2.2 l2).bind fun t1641 => (spec_BishopsOf.j0 k a1 l2 (!t1641) a0_0 a0_1 l0_2))) else (spec_BishopsOf.j0 k a1 l2 true a0_0 a0_1 l0_2)))) else (spec_BishopsOf.j0 k a1 l2 true a0_0 a0_1 l0_2))) else (spec_BishopsOf.j0 k a1 l2 true a0_0 a0_1 l0_2)) = some (r1, r2) := H
  have A6 := A_ A60
  clear A60
  by_cases c7 : t1628 = true
  ·
   subst c7
   have H1 : ((spec_biColour.f a1).bind fun t1629 => (if t1629 = true then ((spec_biBoard.f k a0_0 a0_1 l0_2 a1).bind fun bt1630 => ((spec_boGood.f k bt1630.1 bt1630.2.1 bt1630.2.2).bind fun t1635 => (if t1635 = true then ((spec_biBoard.f k a0_0 a0_1 l0_2 a1).bind fun bt1636 => ((spec_roGood.f k bt1636.1 bt1636.2.1 bt1636.2.2 l2).bind fun t1641 => (spec_BishopsOf.j0 k a1 l2 (!t1641) a0_0 a0_1 l0_2))) else (spec_BishopsOf.j0 k a1 l2 true a0_0 a0_1 l0_2)))) else (spec_BishopsOf.j0 k a1 l2 true a0_0 a0_1 l0_2))) = some (r1, r2) := by rw [if_pos rfl] at H; exact H
   clear H
   have H := H1
   clear H1
   replace H := Option.bind_eq_some_iff.mp H
   obtain ⟨t1629, A80, H⟩ := H
   replace H : (if t1629 = true then ((spec_biBoard.f k a0_0 a0_1 l0_2 a1).bind fun bt1630 => ((spec_boGood.f k bt1630.1 bt1630.2.1 bt1630.2.2).bind fun t1635 => (if t1635 = true then ((spec_biBoard.f k a0_0 a0_1 l0_2 a1).bind fun bt1636 => ((spec_roGood.f k bt1636.1 bt1636.2.1 bt1636.2.2 l2).bind fun t1641 => (spec_BishopsOf.j0 k a1 l2 (!t1641) a0_0 a0_1 l0_2))) else (spec_BishopsOf.j0 k a1 l2 true a0_0 a0_1 l0_2)))) else (spec_BishopsOf.j0 k a1 l2 true a0_0 a0_1 l0_2)) = some (r1, r2) := H
   have A8 := A_ A80
   clear A80
   by_cases c9 : t1629 = true
   ·
    subst c9
    have H1 : ((spec_biBoard.f k a0_0 a0_1 l0_2 a1).bind fun bt1630 => ((spec_boGood.f k bt1630.1 bt1630.2.1 bt1630.2.2).bind fun t1635 => (if t1635 = true then ((spec_biBoard.f k a0_0 a0_1 l0_2 a1).bind fun bt1636 => ((spec_roGood.f k bt1636.1 bt1636.2.1 bt1636.2.2 l2).bind fun t1641 => (spec_BishopsOf.j0 k a1 l2 (!t1641) a0_0 a0_1 l0_2))) else (spec_BishopsOf.j0 k a1 l2 true a0_0 a0_1 l0_2)))) = some (r1, r2) := by rw [if_pos rfl] at H; exact H
    clear H
    have H := H1
    clear H1
    replace H := Option.bind_eq_some_iff.mp H
    obtain ⟨⟨t1630, t1631, t1632⟩, A100, H⟩ := H
    replace H : ((spec_boGood.f k t1630 t1631 t1632).bind fun t1635 => (if t1635 = true then ((spec_biBoard.f k a0_0 a0_1 l0_2 a1).bind fun bt1636 => ((spec_roGood.f k bt1636.1 bt1636.2.1 bt1636.2.2 l2).bind fun t1641 => (spec_BishopsOf.j0 k a1 l2 (!t1641) a0_0 a0_1 l0_2))) else (spec_BishopsOf.j0 k a1 l2 true a0_0 a0_1 l0_2))) = some (r1, r2) := H
    have A10 := A_ A100
    clear A100
    replace H := Option.bind_eq_some_iff.mp H
    obtain ⟨t1635, A110, H⟩ := H
    replace H : (if t1635 = true then ((spec_biBoard.f k a0_0 a0_1 l0_2 a1).bind fun bt1636 => ((spec_roGood.f k bt1636.1 bt1636.2.1 bt1636.2.2 l2).bind fun t1641 => (spec_BishopsOf.j0 k a1 l2 (!t1641) a0_0 a0_1 l0_2))) else (spec_BishopsOf.j0 k a1 l2 true a0_0 a0_1 l0_2)) = some (r1, r2) := H
    have A11 := A_ A110
    clear A110
    by_cases c12 : t1635 = true
    ·
     subst c12
     have H1 : ((spec_biBoard.f k a0_0 a0_1 l0_2 a1).bind fun bt1636 => ((spec_roGood.f k bt1636.1 bt1636.2.1 bt1636.2.2 l2).bind fun t1641 => (spec_BishopsOf.j0 k a1 l2 (!t1641) a0_0 a0_1 l0_2))) = some (r1, r2) := by rw [if_pos rfl] at H; exact H
     clear H
     have H := H1
     clear H1
     replace H := Option.bind_eq_some_iff.mp H
     obtain ⟨⟨t1636, t1637, t1638⟩, A130, H⟩ := H
     replace H : ((spec_roGood.f k t1636 t1637 t1638 l2).bind fun t1641 => (spec_BishopsOf.j0 k a1 l2 (!t1641) a0_0 a0_1 l0_2)) = some (r1, r2) := H
     have A13 := A_ A130
     clear A130
     replace H := Option.bind_eq_some_iff.mp H
     obtain ⟨t1641, A140, H⟩ := H
     replace H : (spec_BishopsOf.j0 k a1 l2 (!t1641) a0_0 a0_1 l0_2) = some (r1, r2) := H
     have A14 := A_ A140
     clear A140
     have H' := A_ H
     clear H
     obtain ⟨hcz15_0, hcz15_1, hcz15_2, hfz15_0, hfz15_1, hfz15_2⟩ := cf3_ BK1627.out
     go_wp2_with (first | (refine gc_ 79 ?_; refine goesT_ (some 15) Try.func79 #[.agg #[.int .i64 a0_0, .int .i64 a0_1, .slice A0_2 l0_2.length c0_2]] ?_; (with_reducible refine (spec_boGood.calls k a0_0 a0_1 _ _ l0_2 true _ ?side1 ?side2 A6.out).mono ?_); (case side1 => exact tc_ HR0_2.out); (case side2 => exact HC0_2.out); rintro e w16 ⟨rfl, hb⟩; refine ⟨_, rfl, ?_⟩; replace BK1627 := A_ (blk_below (g := gb1627) (o := .cells #[.int .i64 a0_0, .int .i64 a0_1, .slice A0_2 l0_2.length c0_2] 26 (0, 0)) (tk_ BK1627) hb); replace HB := A_ (below_step tb_ hb); (try clear hb)) | (go_at_call 92; (with_reducible refine (spec_biColour.calls a1 true _ A8.out).mono ?_); rintro e w' ⟨rfl, ⟨nd, rfl⟩⟩; obtain ⟨hcz17_0, hcz17_1, hcz17_2, hfz17_0, hfz17_1, hfz17_2⟩ := cf3_ BK1627.out) | (go_at_call 137; (with_reducible refine (spec_biBoard.calls k a0_0 a0_1 _ _ l0_2 a1 t1630 t1631 t1632 _ ?side1 ?side2 A10.out).mono ?_); (case side1 => repeat (first | exact (Kd.C_below HR0_2.out tb_) | (with_reducible refine Kd.C_alloc ?_ _) | (with_reducible refine Kd.C_drewN ?_ _) | (with_reducible refine Kd.C_drew ?_))); (case side2 => exact HC0_2.out); rintro e w18 ⟨v1633, rfl, ho0, hb⟩; have HO1634 := A_ (Kd.R_lower (Kd.R_newM (M := fun k_ => (w.heap.size ≤ k_)) ho0 (below_size tb_) (fun k_ h_ => h_)) (below_size tb_)); replace BK1627 := A_ (blk_below (g := gb1627) (o := .cells #[.int .i64 a0_0, .int .i64 a0_1, .slice A0_2 l0_2.length c0_2] 26 (0, 0)) (tk_ BK1627) hb); replace HB := A_ (below_step tb_ hb); (try clear hb); (try clear ho0); obtain ⟨Ao19, co19, eo19⟩ := Kd.R_slice HO1634.out; subst eo19; (try clear A10)) | (go_at_call 79; (with_reducible refine (spec_boGood.calls k t1630 t1631 _ _ t1632 true _ ?side1 ?side2 A11.out).mono ?_); (case side1 => exact tc0_ (Kd.R_reads' HO1634.out).2.2); (case side2 => exact (Kd.R_reads' HO1634.out).2.1); rintro e w20 ⟨rfl, hb⟩; replace HO1634 := A_ (Kd.R_below (tr_x HO1634.out) hb); replace BK1627 := A_ (blk_below (g := gb1627) (o := .cells #[.int .i64 a0_0, .int .i64 a0_1, .slice A0_2 l0_2.length c0_2] 26 (0, 0)) (tk_ BK1627) hb); replace HB := A_ (below_step tb_ hb); (try clear hb); obtain ⟨hcz21_0, hcz21_1, hcz21_2, hfz21_0, hfz21_1, hfz21_2⟩ := cf3_ BK1627.out) | (go_at_call 137; (with_reducible refine (spec_biBoard.calls k a0_0 a0_1 _ _ l0_2 a1 t1636 t1637 t1638 _ ?side1 ?side2 A13.out).mono ?_); (case side1 => exact tc_ HR0_2.out); (case side2 => exact HC0_2.out); rintro e w22 ⟨v1639, rfl, ho0, hb⟩; have HO1640 := A_ (Kd.R_lower (Kd.R_new' (Kd.R_newM (M := fun k_ => (w.heap.size ≤ k_)) ho0 (below_size tb_) (fun k_ h_ => h_)) (Kd.R_lt (tr_x HO1634.out))) (below_size tb_)); replace HO1634 := A_ (Kd.R_elder' (tr_x HO1634.out) (Kd.R_base ho0) hb); replace BK1627 := A_ (blk_below (g := gb1627) (o := .cells #[.int .i64 a0_0, .int .i64 a0_1, .slice A0_2 l0_2.length c0_2] 26 (0, 0)) (tk_ BK1627) hb); replace HB := A_ (below_step tb_ hb); (try clear hb); (try clear ho0); obtain ⟨Ao23, co23, eo23⟩ := Kd.R_slice HO1640.out; subst eo23) | (go_at_call 138; (with_reducible refine (spec_roGood.calls k t1636 t1637 _ _ t1638 _ _ l2 t1641 _ ?side1 ?side2 ?side3 ?side4 A14.out).mono ?_); (case side1 => exact tc0_ (Kd.R_reads' HO1640.out).2.2); (case side2 => exact (Kd.R_reads' HO1640.out).2.1); (case side3 => exact tc_ HR2.out); (case side4 => exact HC2.out); rintro e w24 ⟨rfl, hb⟩; replace HO1634 := A_ (Kd.R_below (tr_x HO1634.out) hb); replace HO1640 := A_ (Kd.R_below (tr_x HO1640.out) hb); replace BK1627 := A_ (blk_below (g := gb1627) (o := .cells #[.int .i64 a0_0, .int .i64 a0_1, .slice A0_2 l0_2.length c0_2] 26 (0, 0)) (tk_ BK1627) hb); replace HB := A_ (below_step tb_ hb); (try clear hb)))
     go_meet
     case rel => exact ⟨_, (!t1641), tf_, H', ⟨by first | omega | exact Nat.le_refl _⟩, ⟨tk_ BK1627⟩, ⟨tb_⟩⟩
    ·
     replace c12 := Bool.eq_false_iff.mpr c12
     subst c12
     have H1 : (spec_BishopsOf.j0 k a1 l2 true a0_0 a0_1 l0_2) = some (r1, r2) := by rw [if_neg (show ¬ (false = true) by decide)] at H; exact H
     clear H
     have H := H1
     clear H1
     have H' := A_ H
     clear H
     obtain ⟨hcz25_0, hcz25_1, hcz25_2, hfz25_0, hfz25_1, hfz25_2⟩ := cf3_ BK1627.out
     go_wp2_with (first | (refine gc_ 79 ?_; refine goesT_ (some 15) Try.func79 #[.agg #[.int .i64 a0_0, .int .i64 a0_1, .slice A0_2 l0_2.length c0_2]] ?_; (with_reducible refine (spec_boGood.calls k a0_0 a0_1 _ _ l0_2 true _ ?side1 ?side2 A6.out).mono ?_); (case side1 => exact tc_ HR0_2.out); (case side2 => exact HC0_2.out); rintro e w26 ⟨rfl, hb⟩; refine ⟨_, rfl, ?_⟩; replace BK1627 := A_ (blk_below (g := gb1627) (o := .cells #[.int .i64 a0_0, .int .i64 a0_1, .slice A0_2 l0_2.length c0_2] 26 (0, 0)) (tk_ BK1627) hb); replace HB := A_ (below_step tb_ hb); (try clear hb)) | (go_at_call 92; (with_reducible refine (spec_biColour.calls a1 true _ A8.out).mono ?_); rintro e w' ⟨rfl, ⟨nd, rfl⟩⟩; obtain ⟨hcz27_0, hcz27_1, hcz27_2, hfz27_0, hfz27_1, hfz27_2⟩ := cf3_ BK1627.out) | (go_at_call 137; (with_reducible refine (spec_biBoard.calls k a0_0 a0_1 _ _ l0_2 a1 t1630 t1631 t1632 _ ?side1 ?side2 A10.out).mono ?_); (case side1 => repeat (first | exact (Kd.C_below HR0_2.out tb_) | (with_reducible refine Kd.C_alloc ?_ _) | (with_reducible refine Kd.C_drewN ?_ _) | (with_reducible refine Kd.C_drew ?_))); (case side2 => exact HC0_2.out); rintro e w28 ⟨v1633, rfl, ho0, hb⟩; have HO1634 := A_ (Kd.R_lower (Kd.R_newM (M := fun k_ => (w.heap.size ≤ k_)) ho0 (below_size tb_) (fun k_ h_ => h_)) (below_size tb_)); replace BK1627 := A_ (blk_below (g := gb1627) (o := .cells #[.int .i64 a0_0, .int .i64 a0_1, .slice A0_2 l0_2.length c0_2] 26 (0, 0)) (tk_ BK1627) hb); replace HB := A_ (below_step tb_ hb); (try clear hb); (try clear ho0); obtain ⟨Ao29, co29, eo29⟩ := Kd.R_slice HO1634.out; subst eo29) | (go_at_call 79; (with_reducible refine (spec_boGood.calls k t1630 t1631 _ _ t1632 false _ ?side1 ?side2 A11.out).mono ?_); (case side1 => exact tc0_ (Kd.R_reads' HO1634.out).2.2); (case side2 => exact (Kd.R_reads' HO1634.out).2.1); rintro e w30 ⟨rfl, hb⟩; replace HO1634 := A_ (Kd.R_below (tr_x HO1634.out) hb); replace BK1627 := A_ (blk_below (g := gb1627) (o := .cells #[.int .i64 a0_0, .int .i64 a0_1, .slice A0_2 l0_2.length c0_2] 26 (0, 0)) (tk_ BK1627) hb); replace HB := A_ (below_step tb_ hb); (try clear hb)))
     go_meet
     case rel => exact ⟨_, (true), tf_, H', ⟨by first | omega | exact Nat.le_refl _⟩, ⟨tk_ BK1627⟩, ⟨tb_⟩⟩
   ·
    replace c9 := Bool.eq_false_iff.mpr c9
    subst c9
    have H1 : (spec_BishopsOf.j0 k a1 l2 true a0_0 a0_1 l0_2) = some (r1, r2) := by rw [if_neg (show ¬ (false = true) by decide)] at H; exact H
    clear H
    have H := H1
    clear H1
    have H' := A_ H
    clear H
    obtain ⟨hcz31_0, hcz31_1, hcz31_2, hfz31_0, hfz31_1, hfz31_2⟩ := cf3_ BK1627.out
    go_wp2_with (first | (refine gc_ 79 ?_; refine goesT_ (some 15) Try.func79 #[.agg #[.int .i64 a0_0, .int .i64 a0_1, .slice A0_2 l0_2.length c0_2]] ?_; (with_reducible refine (spec_boGood.calls k a0_0 a0_1 _ _ l0_2 true _ ?side1 ?side2 A6.out).mono ?_); (case side1 => exact tc_ HR0_2.out); (case side2 => exact HC0_2.out); rintro e w32 ⟨rfl, hb⟩; refine ⟨_, rfl, ?_⟩; replace BK1627 := A_ (blk_below (g := gb1627) (o := .cells #[.int .i64 a0_0, .int .i64 a0_1, .slice A0_2 l0_2.length c0_2] 26 (0, 0)) (tk_ BK1627) hb); replace HB := A_ (below_step tb_ hb); (try clear hb)) | (go_at_call 92; (with_reducible refine (spec_biColour.calls a1 false _ A8.out).mono ?_); rintro e w' ⟨rfl, ⟨nd, rfl⟩⟩))
    go_meet
    case rel => exact ⟨_, (true), tf_, H', ⟨by first | omega | exact Nat.le_refl _⟩, ⟨tk_ BK1627⟩, ⟨tb_⟩⟩
  ·
   replace c7 := Bool.eq_false_iff.mpr c7
   subst c7
   have H1 : (spec_BishopsOf.j0 k a1 l2 true a0_0 a0_1 l0_2) = some (r1, r2) := by rw [if_neg (show ¬ (false = true) by decide)] at H; exact H
   clear H
   have H := H1
   clear H1
   have H' := A_ H
   clear H
   obtain ⟨hcz33_0, hcz33_1, hcz33_2, hfz33_0, hfz33_1, hfz33_2⟩ := cf3_ BK1627.out
   go_wp2_with (first | (refine gc_ 79 ?_; refine goesT_ (some 15) Try.func79 #[.agg #[.int .i64 a0_0, .int .i64 a0_1, .slice A0_2 l0_2.length c0_2]] ?_; (with_reducible refine (spec_boGood.calls k a0_0 a0_1 _ _ l0_2 false _ ?side1 ?side2 A6.out).mono ?_); (case side1 => exact tc_ HR0_2.out); (case side2 => exact HC0_2.out); rintro e w34 ⟨rfl, hb⟩; refine ⟨_, rfl, ?_⟩; replace BK1627 := A_ (blk_below (g := gb1627) (o := .cells #[.int .i64 a0_0, .int .i64 a0_1, .slice A0_2 l0_2.length c0_2] 26 (0, 0)) (tk_ BK1627) hb); replace HB := A_ (below_step tb_ hb); (try clear hb)))
   go_meet
   case rel => exact ⟨_, (true), tf_, H', ⟨by first | omega | exact Nat.le_refl _⟩, ⟨tk_ BK1627⟩, ⟨tb_⟩⟩
 case rest =>
  clear HC4
  try clear c1
  try clear c2
  try clear p2
  try clear c6
  try clear c7
  try clear c9
  try clear c12
  try clear hcz15_0
  try clear hcz15_1
  try clear hcz15_2
  try clear hcz17_0
  try clear hcz17_1
  try clear hcz17_2
  try clear hcz21_0
  try clear hcz21_1
  try clear hcz21_2
  try clear hcz25_0
  try clear hcz25_1
  try clear hcz25_2
  try clear hcz27_0
  try clear hcz27_1
  try clear hcz27_2
  try clear hcz31_0
  try clear hcz31_1
  try clear hcz31_2
  try clear hcz33_0
  try clear hcz33_1
  try clear hcz33_2
  try clear hfz15_0
  try clear hfz15_1
  try clear hfz15_2
  try clear hfz17_0
  try clear hfz17_1
  try clear hfz17_2
  try clear hfz21_0
  try clear hfz21_1
  try clear hfz21_2
  try clear hfz25_0
  try clear hfz25_1
  try clear hfz25_2
  try clear hfz27_0
  try clear hfz27_1
  try clear hfz27_2
  try clear hfz31_0
  try clear hfz31_1
  try clear hfz31_2
  try clear hfz33_0
  try clear hfz33_1
  try clear hfz33_2
  obtain ⟨kq, x36_3, rfl, HA, HJ3, BK1627, HB⟩ := hcut
  cases kq with
  | zero => exact absurd HA.out (by simp [spec_BishopsOf.j0])
  | succ kj3 =>
   have H := HA.out
   clear HA
   simp only [spec_BishopsOf.j0] at H
   by_cases c35 : x36_3 = true
   ·
    subst c35
    have H1 : (some (([] : List (List Int)), false)) = some (r1, r2) := by rw [if_pos rfl] at H; exact H
    clear H
    have H := H1
    clear H1
    simp only [Option.some.injEq, Prod.mk.injEq] at H
    obtain ⟨rfl, rfl⟩ := H
    go_wp2
    go_ret2
    exact ⟨_, te_, by first | exact Kd.S_nil _ _ _ _ _ | exact Kd.N_nil _ _ _ _ _ | exact Kd.V_nil _ _ _ _ _ | exact Kd.Q_nil _ _ _ _ _ | exact Kd.R_nil _ _ _ _ _, tb_⟩
   ·
    replace c35 := Bool.eq_false_iff.mpr c35
    subst c35
    have H1 : (spec_BishopsOf.l0 kj3 a1 ([] : List (List Int)) l2 (l2.length : Int) 0 a0_0 a0_1 l0_2) = some (r1, r2) := by rw [if_neg (show ¬ (false = true) by decide)] at H; exact H
    clear H
    have H := H1
    clear H1
    have H' := A_ H
    clear H
    go_wp2
    go_loopg [8, 39] kj3 (fun kq v8 v39 w' => ∃ (x8_2 : List (List Int)) (x39_2 : Int), v39 = .int .i64 x39_2 ∧ Aside0 (spec_BishopsOf.l0 kq a1 x8_2 l2 (l2.length : Int) x39_2 a0_0 a0_1 l0_2 = some (r1, r2)) ∧ Aside0 (kq ≤ kj3) ∧ Aside0 (Kd.N (Kd.slice 3 (Kd.int .i64)) 24 w' w.heap.size (fun k_ => (w.heap.size ≤ k_) ∧ k_ ≠ gb1627) v8 x8_2) ∧ Aside0 (w'.heap[gb1627]? = some (.cells #[.int .i64 a0_0, .int .i64 a0_1, (.slice A0_2 l0_2.length c0_2)] 26 (0, 0))) ∧ Aside0 (Below w.heap.size w w'))
    case atStart => exact ⟨(([] : List (List Int))), (0), tf_, H', ⟨Nat.le_refl _⟩, ⟨by first | exact Kd.S_nil _ _ _ _ _ | exact Kd.N_nil _ _ _ _ _ | exact Kd.V_nil _ _ _ _ _ | exact Kd.Q_nil _ _ _ _ _ | exact Kd.R_nil _ _ _ _ _⟩, ⟨tk_ BK1627⟩, ⟨tb_⟩⟩
    case round =>
     clear H'
     try clear c1
     try clear c2
     try clear p2
     try clear c3
     try clear c6
     try clear c7
     try clear c9
     try clear c12
     try clear c35
     try clear hcz15_0
     try clear hcz15_1
     try clear hcz15_2
     try clear hcz17_0
     try clear hcz17_1
     try clear hcz17_2
     try clear hcz21_0
     try clear hcz21_1
     try clear hcz21_2
     try clear hcz25_0
     try clear hcz25_1
     try clear hcz25_2
     try clear hcz27_0
     try clear hcz27_1
     try clear hcz27_2
     try clear hcz31_0
     try clear hcz31_1
     try clear hcz31_2
     try clear hcz33_0
     try clear hcz33_1
     try clear hcz33_2
     try clear hfz15_0
     try clear hfz15_1
     try clear hfz15_2
     try clear hfz17_0
     try clear hfz17_1
     try clear hfz17_2
     try clear hfz21_0
     try clear hfz21_1
     try clear hfz21_2
     try clear hfz25_0
     try clear hfz25_1
     try clear hfz25_2
     try clear hfz27_0
     try clear hfz27_1
     try clear hfz27_2
     try clear hfz31_0
     try clear hfz31_1
     try clear hfz31_2
     try clear hfz33_0
     try clear hfz33_1
     try clear hfz33_2
     try clear p2
     obtain ⟨x8_2, x39_2, rfl, HA, HK2, HO_8, BK1627, HB⟩ := hrel
     cases gk with
     | zero => exact absurd HA.out (by simp [spec_BishopsOf.l0])
     | succ k2 =>
      have H := HA.out
      clear HA
      simp only [spec_BishopsOf.l0] at H
      by_cases c36 : x39_2 < (l2.length : Int)
      ·
       rw [if_pos c36] at H
       have c36b0 := decide_eq_true c36
       clear c36
       by_cases c37 : 0 ≤ x39_2
       ·
        rw [if_pos c37] at H
        have c37b0 := decide_eq_true c37
        clear c37
        by_cases c38 : x39_2 < (l2.length : Int)
        ·
         rw [if_pos c38] at H
         have c38b0 := decide_eq_true c38
         clear c38
         by_cases c39 : (rd l2 x39_2) ≥ 0
         ·
          rw [if_pos c39] at H
          have c39b0 := decide_eq_true c39
          clear c39
          replace H := Option.bind_eq_some_iff.mp H
          obtain ⟨⟨t1643, t1644, t1645⟩, A400, H⟩ := H
          replace H : ((spec_biSorted.f k2 x8_2 (([t1643, t1644] : List Int))).bind fun t1649 => (spec_BishopsOf.l0 k2 a1 t1649 l2 (l2.length : Int) (wrap64 (x39_2 + 1)) a0_0 a0_1 l0_2)) = some (r1, r2) := H
          have A40 := A_ A400
          clear A400
          obtain ⟨y1646, hy1646⟩ : ∃ y_ : List Int, y_ = (([t1643, t1644] : List Int)) := ⟨_, rfl⟩
          replace H : ((spec_biSorted.f k2 x8_2 y1646).bind fun t1649 => (spec_BishopsOf.l0 k2 a1 t1649 l2 (l2.length : Int) (wrap64 (x39_2 + 1)) a0_0 a0_1 l0_2)) = some (r1, r2) := ty_ hy1646 H
          have Ny1646 := A_ hy1646
          clear hy1646
          replace H := Option.bind_eq_some_iff.mp H
          obtain ⟨t1649, A410, H⟩ := H
          replace H : (spec_BishopsOf.l0 k2 a1 t1649 l2 (l2.length : Int) (wrap64 (x39_2 + 1)) a0_0 a0_1 l0_2) = some (r1, r2) := H
          have A41 := A_ A410
          clear A410
          have H' := A_ H
          clear H
          have p1642 : 0 ≤ (x39_2 : Int) := od_
          have q1642 : x39_2 < (l2.length : Int) := od_
          obtain ⟨ad1642, e1642, hx1642_0⟩ := Kd.at_int HR2.out x39_2 p1642 q1642
          cases e1642
          (try replace hx1642_0 := (HB.out.cell (World.block_lt_of_cell? w _ hx1642_0)).trans hx1642_0)
          replace p1642 := eq_true p1642
          replace q1642 := eq_true q1642
          obtain ⟨hcz42_0, hcz42_1, hcz42_2, hfz42_0, hfz42_1, hfz42_2⟩ := cf3_ BK1627.out
          go_wp2_with (first | (refine gc_ 93 ?_; refine goesT_ (some 51) Try.func93 #[.agg #[.int .i64 a0_0, .int .i64 a0_1, .slice A0_2 l0_2.length c0_2], .int .i64 a1, .int .i64 x39_2, .int .i64 (rd l2 x39_2)] ?_; (with_reducible refine (spec_biCell.calls k2 a0_0 a0_1 _ _ l0_2 a1 x39_2 (rd l2 x39_2) t1643 t1644 t1645 _ ?side1 ?side2 A40.out).mono ?_); (case side1 => exact tc_ HR0_2.out); (case side2 => exact HC0_2.out); rintro e w43 ⟨rfl, hb⟩; refine ⟨_, rfl, ?_⟩; replace HO_8 := A_ (Kd.N_below (by (with_reducible repeat (first | apply Kd.N_alloc | apply Kd.N_drewN | apply Kd.N_drew)); exact HO_8.out) hb); replace BK1627 := A_ (blk_below (g := gb1627) (o := .cells #[.int .i64 a0_0, .int .i64 a0_1, .slice A0_2 l0_2.length c0_2] 26 (0, 0)) (tk_ BK1627) hb); replace HB := A_ (below_step tb_ hb); (try clear hb)) | (refine gd_ 58 ?_; refine Kd.R_lit (Kd.int .i64) _ 3 ?hg (N := 58) ?hd (xs := ([t1643, t1644] : List Int)) (inner := [.int .i64 t1643, .int .i64 t1644]) (ok := fun _ => True) (okp := fun _ => True) ?hr ?hp (fun _ hk => hk) trivial (Below.refl _ _) (Nat.le_refl _) (by simp) ?_; (case hd => rfl); (case hg => rfl); (case hr => first | (go_simp; done) | (go_simp; rfl)); (case hp => exact (Reps.one (show Kd.M (Kd.int .i64) _ _ _ t1643 [.int .i64 t1643] from rfl) (Reps.one (show Kd.M (Kd.int .i64) _ _ _ t1644 [.int .i64 t1644] from rfl) (Reps.none _ _)))); intro v1647 w44 ho45 hb hg_ hnew_; clear hg_ hnew_; (first | rw [← Ny1646.out] at ho45 | (simp only [Int.reduceToNat] at ho45; rw [← Ny1646.out] at ho45)); replace HO_8 := A_ (Kd.N_elder' (by (with_reducible repeat (first | apply Kd.N_alloc | apply Kd.N_drewN | apply Kd.N_drew)); exact HO_8.out) (Kd.R_base ho45) hb); have HO1648 := A_ (Kd.R_lower (Kd.R_newM (M := fun k_ => (w.heap.size ≤ k_)) ho45 (below_size tb_) (fun k_ h_ => h_)) (below_size tb_)); replace BK1627 := A_ (blk_below (g := gb1627) (o := .cells #[.int .i64 a0_0, .int .i64 a0_1, .slice A0_2 l0_2.length c0_2] 26 (0, 0)) (tk_ BK1627) hb); replace HB := A_ (below_step tb_ hb); clear hb ho45; obtain ⟨Ao46, co46, eo46⟩ := Kd.N_slice HO_8.out; subst eo46; obtain ⟨Ao47, co47, eo47⟩ := Kd.R_slice HO1648.out; subst eo47) | (refine gc_ 139 ?_; refine goesT_ (some 59) Try.func139 #[.slice Ao46 x8_2.length co46, .slice Ao47 y1646.length co47] ?_; (with_reducible refine (spec_biSorted.calls k2 (fun k_ => (((w.heap.size ≤ k_) ∧ k_ ≠ gb1627) ∧ some k_ ≠ (.slice Ao47 y1646.length co47 : Value).ownBlock)) _ _ x8_2 (fun k_ => some k_ = (.slice Ao47 y1646.length co47 : Value).ownBlock) _ _ y1646 t1649 _ ?side1 ?side2 A41.out).mono ?_); (case side1 => exact Kd.N_V (HO_8.out)); (case side2 => exact Kd.R_V (Kd.R_tight rfl (Kd.R_types (Kd.R_apart' (HO1648.out) (Kd.N_typed HO_8.out) (by decide)) BK1627.out (by decide)))); rintro e w48 ⟨v1650, rfl, ho0, hb⟩; refine ⟨_, rfl, ?_⟩; have HO1651 := A_ (Kd.N_lower (Kd.N_mono (ok' := fun k_ => (w.heap.size ≤ k_) ∧ k_ ≠ gb1627) ho0 (fun k_ hk_ => ⟨Or.elim hk_ (fun hs_ => Or.elim hs_ (fun hs_ => hs_.1.1) (fun hs_ => ((Kd.R_types (Kd.R_apart' (HO1648.out) (Kd.N_typed HO_8.out) (by decide)) BK1627.out (by decide)).1 k_ hs_.symm).1.1.1)) (fun hn_ => (Nat.le_trans (below_size tb_) hn_)), Or.elim hk_ (fun hs_ => Or.elim hs_ (fun hs_ => hs_.1.2) (fun hs_ => ((Kd.R_types (Kd.R_apart' (HO1648.out) (Kd.N_typed HO_8.out) (by decide)) BK1627.out (by decide)).1 k_ hs_.symm).2)) (fun hn_ => (Kd.freshB (g := gb1627) (o := .cells #[.int .i64 a0_0, .int .i64 a0_1, .slice A0_2 l0_2.length c0_2] 26 (0, 0)) (tk_ BK1627) k_ hn_))⟩)) (below_size tb_)); replace HO_8 := A_ (Kd.N_elder' (by (with_reducible repeat (first | apply Kd.N_alloc | apply Kd.N_drewN | apply Kd.N_drew)); exact HO_8.out) (by first | exact Kd.N_base ho0 | exact Kd.S_base ho0) hb); replace HO1648 := A_ (Kd.R_below (tr_x HO1648.out) hb); replace BK1627 := A_ (blk_below (g := gb1627) (o := .cells #[.int .i64 a0_0, .int .i64 a0_1, .slice A0_2 l0_2.length c0_2] 26 (0, 0)) (tk_ BK1627) hb); replace HB := A_ (below_step tb_ hb); (try clear hb); (try clear ho0)))
          go_roundg k2
          case measure => have := HJ3.out; have := HK2.out; omega
          case rel => exact ⟨(t1649), (wrap64 (x39_2 + 1)), tf_, H', ⟨by have := HJ3.out; have := HK2.out; omega⟩, ⟨by (with_reducible repeat (first | apply Kd.N_alloc | apply Kd.N_drewN | apply Kd.N_drew)); exact HO1651.out⟩, ⟨tk_ BK1627⟩, ⟨tb_⟩⟩
         ·
          rw [if_neg c39] at H
          have c39b0 := decide_eq_false c39
          clear c39
          have H' := A_ H
          clear H
          have p1642 : 0 ≤ (x39_2 : Int) := od_
          have q1642 : x39_2 < (l2.length : Int) := od_
          obtain ⟨ad1642, e1642, hx1642_0⟩ := Kd.at_int HR2.out x39_2 p1642 q1642
          cases e1642
          (try replace hx1642_0 := (HB.out.cell (World.block_lt_of_cell? w _ hx1642_0)).trans hx1642_0)
          replace p1642 := eq_true p1642
          replace q1642 := eq_true q1642
          go_wp2
          go_roundg k2
          case measure => have := HJ3.out; have := HK2.out; omega
          case rel => exact ⟨(x8_2), (wrap64 (x39_2 + 1)), tf_, H', ⟨by have := HJ3.out; have := HK2.out; omega⟩, ⟨by (with_reducible repeat (first | apply Kd.N_alloc | apply Kd.N_drewN | apply Kd.N_drew)); exact HO_8.out⟩, ⟨tk_ BK1627⟩, ⟨tb_⟩⟩
        ·
         rw [if_neg c38] at H
         exact absurd H (by simp)
       ·
        rw [if_neg c37] at H
        exact absurd H (by simp)
      ·
       rw [if_neg c36] at H
       have c36b0 := decide_eq_false c36
       clear c36
       simp only [Option.some.injEq, Prod.mk.injEq] at H
       obtain ⟨rfl, rfl⟩ := H
       go_wp2
       go_ret2
       exact ⟨_, te_, by (with_reducible repeat (first | apply Kd.N_alloc | apply Kd.N_drewN | apply Kd.N_drew)); exact Kd.N_mono HO_8.out (fun _ hk => hk.1), tb_⟩

/-! ### laws_toIntS: function 66 -/
def laws_toIntS.l0 : Nat → List Int → List Int → Int → Option (List Int)
 | 0, _, _, _ => none
 | k + 1, x0, x3, x4 => if x4 < (x0.length : Int) then (if 0 ≤ x4 then (if x4 < (x3.length : Int) then (laws_toIntS.l0 k x0 (x3.set (x4 : Int).toNat (rd x0 x4)) (wrap64 (x4 + 1))) else (none)) else (none)) else (some x3)
def laws_toIntS.f (k : Nat) (l0 : List Int) : Option (List Int) := if 0 ≤ (l0.length : Int) then (if ((l0.length : Int) : Int).toNat ≤ 35184372088832 then (laws_toIntS.l0 k l0 (List.replicate ((l0.length : Int) : Int).toNat 0) 0) else (none)) else (none)
theorem laws_toIntS.mono_l : ∀ k, (∀ y0 y1 y2, LeO (laws_toIntS.l0 k y0 y1 y2) (laws_toIntS.l0 (k + 1) y0 y1 y2))
 | 0 => fun _ _ _ r h => by simp [laws_toIntS.l0] at h
 | k + 1 => by
  have ih0 := laws_toIntS.mono_l k
  ·
   intro y0 y1 y2
   unfold laws_toIntS.l0
   repeat' first | (with_reducible first | exact ih0 _ _ _ | exact LeO.refl _ | exact LeO.none _ | refine LeO.ite ?_ ?_ | refine LeO.bind ?_ (fun _ => ?_)) | exact ih0 _ _ _ | exact LeO.none _ | refine LeO.ite ?_ ?_ | refine LeO.bind ?_ (fun _ => ?_)
theorem laws_toIntS.mono : ∀ a0 k, LeO (laws_toIntS.f k a0) (laws_toIntS.f (k + 1) a0) := by
 intro a0 k
 have ih0 := laws_toIntS.mono_l k
 unfold laws_toIntS.f
 repeat' first | (with_reducible first | exact ih0 _ _ _ | exact LeO.refl _ | exact LeO.none _ | refine LeO.ite ?_ ?_ | refine LeO.bind ?_ (fun _ => ?_)) | exact ih0 _ _ _ | exact LeO.none _ | refine LeO.ite ?_ ?_ | refine LeO.bind ?_ (fun _ => ?_)
theorem laws_toIntS.calls (k : Nat) (A0 : Option Addr) (c0 : Nat) (l0 : List Int) (r : List Int) (w : World) (hr0 : Kd.C (Kd.int .i64) w A0 l0.length l0) (hc0 : l0.length ≤ c0) (h : laws_toIntS.f k l0 = some r) :
  Calls Try.prog 66 #[.slice A0 l0.length c0] w fun e w' => ∃ v0_ : Value, e = .returned (v0_) ∧ Kd.R (Kd.int .i64) 3 w' w.heap.size (fun _ => True) v0_ r ∧ Below w.heap.size w w' := by
 have HR0 := A_ hr0
 have HC0 := A_ hc0
 clear hr0 hc0
 have HB := A_ (Below.refl w.heap.size w)
 have H : (if 0 ≤ (l0.length : Int) then (if ((l0.length : Int) : Int).toNat ≤ 35184372088832 then (laws_toIntS.l0 k l0 (List.replicate ((l0.length : Int) : Int).toNat 0) 0) else (none)) else (none)) = some r := h
 clear h
 by_cases c2 : 0 ≤ (l0.length : Int)
 ·
  rw [if_pos c2] at H
  have c2b0 := eq_true c2
  have c2b1 := decide_eq_true c2
  clear c2
  by_cases c3 : ((l0.length : Int) : Int).toNat ≤ 35184372088832
  ·
   rw [if_pos c3] at H
   have c3b0 := eq_true c3
   have c3b1 := decide_eq_true c3
   clear c3
   obtain ⟨y1652, hy1652⟩ : ∃ y_ : List Int, y_ = (List.replicate ((l0.length : Int) : Int).toNat 0) := ⟨_, rfl⟩
   replace H : (laws_toIntS.l0 k l0 y1652 0) = some r := ty_ hy1652 H
   have Ny1652 := A_ hy1652
   clear hy1652
   have H' := A_ H
   clear H
   go_enter Try.func66, Try.ntmps66
   go_wp2_with (first | (refine gd_ 7 ?_; refine Kd.R_make (Kd.int .i64) _ 3 rfl (N := 7) rfl 24 _ _ rfl (l0.length : Int) rfl rfl Try.underlying24 (.int .i64 0) 8 info3 rfl (by decide) (by omega) 0 (ok := fun _ => True) (okp := fun _ => True) rfl (fun _ hk => hk) trivial (od_) (Nat.le_trans (Nat.mul_le_mul_right _ (od_ : (l0.length : Int).toNat ≤ 35184372088832)) (by omega)) (Below.refl _ _) (Nat.le_refl _) ?_; intro v1653 w4 ho5 hb hg_ hnew_; clear hg_ hnew_; (first | rw [← Ny1652.out] at ho5 | (simp only [Int.reduceToNat] at ho5; rw [← Ny1652.out] at ho5)); have HO1654 := A_ (Kd.R_lower ho5 (below_size tb_)); replace HB := A_ (below_step tb_ hb); clear hb ho5))
   go_loopg [4] k (fun kq v4 w' => ∃ (x3_1 : List Int) (x4_1 : Int), v4 = .int .i64 x4_1 ∧ Aside0 (laws_toIntS.l0 kq l0 x3_1 x4_1 = some r) ∧ Aside0 (kq ≤ k) ∧ Aside0 (Kd.R (Kd.int .i64) 3 w' w.heap.size (fun _ => True) v1653 x3_1) ∧ Aside0 (Below w.heap.size w w'))
   case atStart => exact ⟨(y1652), (0), tf_, H', ⟨Nat.le_refl _⟩, ⟨tr_x HO1654.out⟩, ⟨tb_⟩⟩
   case round =>
    clear H'
    try clear c2
    try clear c2b0
    try clear c2b1
    try clear p2
    try clear c3
    try clear c3b0
    try clear c3b1
    obtain ⟨x3_1, x4_1, rfl, HA, HK1, HO_3, HB⟩ := hrel
    cases gk with
    | zero => exact absurd HA.out (by simp [laws_toIntS.l0])
    | succ k1 =>
     have H := HA.out
     clear HA
     simp only [laws_toIntS.l0] at H
     by_cases c6 : x4_1 < (l0.length : Int)
     ·
      rw [if_pos c6] at H
      have c6b0 := decide_eq_true c6
      clear c6
      by_cases c7 : 0 ≤ x4_1
      ·
       rw [if_pos c7] at H
       have c7b0 := decide_eq_true c7
       clear c7
       by_cases c8 : x4_1 < (x3_1.length : Int)
       ·
        rw [if_pos c8] at H
        have c8b0 := decide_eq_true c8
        clear c8
        obtain ⟨y1656, hy1656⟩ : ∃ y_ : List Int, y_ = (x3_1.set (x4_1 : Int).toNat (rd l0 x4_1)) := ⟨_, rfl⟩
        replace H : (laws_toIntS.l0 k1 l0 y1656 (wrap64 (x4_1 + 1))) = some r := ty_ hy1656 H
        have Ny1656 := A_ hy1656
        clear hy1656
        have H' := A_ H
        clear H
        have p1655 : 0 ≤ (x4_1 : Int) := od_
        have q1655 : x4_1 < (l0.length : Int) := od_
        obtain ⟨ad1655, e1655, hx1655_0⟩ := Kd.at_int HR0.out x4_1 p1655 q1655
        cases e1655
        (try replace hx1655_0 := (HB.out.cell (World.block_lt_of_cell? w _ hx1655_0)).trans hx1655_0)
        replace p1655 := eq_true p1655
        replace q1655 := eq_true q1655
        have p9 : 0 ≤ (x4_1 : Int) := od_
        have q9 : (x4_1 : Int) < ((x3_1.length : Int) : Int) := od_
        obtain ⟨go9, co9, eo9, gb9, gl9, cl9, HG9⟩ := Kd.R_form HO_3.out (by omega)
        (first | cases eo9 | (injection eo9 with ea_ en_ ec_; (first | subst ea_ | (injection ea_ with ea_; subst ea_)); subst ec_; clear en_))
        have GB9 := A_ gb9
        have GG9 := A_ HG9
        clear gb9 gl9 HG9
        obtain ⟨hx9_0, hf9_0⟩ := Kd.R_celln 0 HO_3.out (x4_1 : Int) p9 q9
        replace p9 := eq_true p9
        replace q9 := eq_true q9
        have HP10 := Kd.R_putg HO_3.out (x4_1 : Int) (rd l0 x4_1)
        go_wp2_with (first | ((with_reducible refine gate_store (t := 3) (p := 20) rfl ?_); refine store_event (t := 3) (p := 20) (v := ?vo_w11) (w1 := (wr.setCell ⟨go9, (x4_1 : Int).toNat, none⟩ (.int .i64 (rd l0 x4_1)))) ?hg ?ho ?hn ?hr ?_; (case ho => rfl); (case hg => rfl); (case hn => rfl); (case hr => first | (go_simp; done) | (go_simp; rfl)); intro w11 hw; have hg : wr.grownBy w11 (some go9) := (by rw [hw]; exact HP10.2); have hp_ : Kd.R (Kd.int .i64) 3 w11 w.heap.size (fun _ => True) (.slice (some ⟨go9, 0, none⟩) x3_1.length co9) y1656 := (by rw [hw, Ny1656.out]; exact HP10.1); clear HP10; replace HO_3 := A_ (hp_); replace HB := A_ ((by rw [hw]; exact below_set (HB.out) GB9.out : Below w.heap.size w w11)); clear hg hw hp_))
        go_roundg k1
        case measure => have := HK1.out; omega
        case rel => exact ⟨(y1656), (wrap64 (x4_1 + 1)), tf_, H', ⟨by have := HK1.out; omega⟩, ⟨tr_x HO_3.out⟩, ⟨tb_⟩⟩
       ·
        rw [if_neg c8] at H
        exact absurd H (by simp)
      ·
       rw [if_neg c7] at H
       exact absurd H (by simp)
     ·
      rw [if_neg c6] at H
      have c6b0 := decide_eq_false c6
      clear c6
      obtain rfl := Option.some.inj H
      go_wp2
      go_ret
      exact ⟨_, te_, tr_x HO_3.out, tb_⟩
  ·
   rw [if_neg c3] at H
   exact absurd H (by simp)
 ·
  rw [if_neg c2] at H
  exact absurd H (by simp)

/-! ### laws_toBoard: function 65 -/
def laws_toBoard.f (k : Nat) (a0_0 : Int) (a0_1 : Int) (l0_2 : List Int) : Option (Int × Int × List Int) := (laws_toIntS.f k l0_2).bind fun t1660 => (some (a0_0, a0_1, t1660))
theorem laws_toBoard.mono : ∀ a0 a1 a2 k, LeO (laws_toBoard.f k a0 a1 a2) (laws_toBoard.f (k + 1) a0 a1 a2) := by
 intro a0 a1 a2 k
 unfold laws_toBoard.f
 repeat' first | (with_reducible first | exact laws_toIntS.mono _ _ | exact LeO.refl _ | exact LeO.none _ | refine LeO.ite ?_ ?_ | refine LeO.bind ?_ (fun _ => ?_)) | exact laws_toIntS.mono _ _ | exact LeO.none _ | refine LeO.ite ?_ ?_ | refine LeO.bind ?_ (fun _ => ?_)
theorem laws_toBoard.calls (k : Nat) (a0_0 : Int) (a0_1 : Int) (A0_2 : Option Addr) (c0_2 : Nat) (l0_2 : List Int) (r1 : Int) (r2 : Int) (r3 : List Int) (w : World) (hr0_2 : Kd.C (Kd.int .i64) w A0_2 l0_2.length l0_2) (hc0_2 : l0_2.length ≤ c0_2) (h : laws_toBoard.f k a0_0 a0_1 l0_2 = some (r1, r2, r3)) :
  Calls Try.prog 65 #[.agg #[.int .i64 a0_0, .int .i64 a0_1, .slice A0_2 l0_2.length c0_2]] w fun e w' => ∃ v2_ : Value, e = .returned (.agg #[.int .i64 r1, .int .i64 r2, v2_]) ∧ Kd.R (Kd.int .i64) 3 w' w.heap.size (fun _ => True) v2_ r3 ∧ Below w.heap.size w w' := by
 have hu67 := Try.underlying67
 have hu26 := Try.underlying26
 have HR0_2 := A_ hr0_2
 have HC0_2 := A_ hc0_2
 clear hr0_2 hc0_2
 have HB := A_ (Below.refl w.heap.size w)
 have H : ((laws_toIntS.f k l0_2).bind fun t1660 => (some (a0_0, a0_1, t1660))) = some (r1, r2, r3) := h
 clear h
 replace H := Option.bind_eq_some_iff.mp H
 obtain ⟨t1660, A20, H⟩ := H
 replace H : (some (a0_0, a0_1, t1660)) = some (r1, r2, r3) := H
 have A2 := A_ A20
 clear A20
 simp only [Option.some.injEq, Prod.mk.injEq] at H
 obtain ⟨rfl, rfl, rfl⟩ := H
 go_enter Try.func65, Try.ntmps65
 go_wp2_with (first | (refine gd_ 1 ?_; refine bx_ 1 #[.int .i64 a0_0, .int .i64 a0_1, .slice A0_2 l0_2.length c0_2] 67 ?_; intro gb1657 hg w3 hbox hb; have BK1657 := A_ (hbox); have GW1657 := A_ ((ts_ hg : w.heap.size ≤ gb1657)); have GE1657 := A_ ((ts_ hg : w.heap.size ≤ gb1657)); replace HB := A_ (below_step tb_ hb); clear hb hbox hg) | (refine gd_ 2 ?_; refine bx_ 2 #[.int .i64 0, .int .i64 0, .slice none 0 0] 26 ?_; intro gb1658 hg w4 hbox hb; have BK1658 := A_ (hbox); have GW1658 := A_ ((ts_ hg : w.heap.size ≤ gb1658)); have GE1658 := A_ ((ts_ hg : w.heap.size ≤ gb1658)); replace HB := A_ (below_step tb_ hb); have NB1657_1658 := A_ ((by rw [hg]; exact Nat.ne_of_lt (blk_lt (g := gb1657) (o := .cells #[.int .i64 a0_0, .int .i64 a0_1, .slice A0_2 l0_2.length c0_2] 67 (0, 0)) (tk_ BK1657)) : gb1657 ≠ gb1658)); have NB1658_1657 := A_ ((by rw [hg]; exact Nat.ne_of_gt (blk_lt (g := gb1657) (o := .cells #[.int .i64 a0_0, .int .i64 a0_1, .slice A0_2 l0_2.length c0_2] 67 (0, 0)) (tk_ BK1657)) : gb1658 ≠ gb1657)); replace BK1657 := A_ (blk_below (g := gb1657) (o := .cells #[.int .i64 a0_0, .int .i64 a0_1, .slice A0_2 l0_2.length c0_2] 67 (0, 0)) (tk_ BK1657) hb); clear hb hbox hg) | (refine gd_ 3 ?_; refine bx_ 3 #[.int .i64 0, .int .i64 0, .slice none 0 0] 26 ?_; intro gb1659 hg w5 hbox hb; have BK1659 := A_ (hbox); have GW1659 := A_ ((ts_ hg : w.heap.size ≤ gb1659)); have GE1659 := A_ ((ts_ hg : w.heap.size ≤ gb1659)); replace HB := A_ (below_step tb_ hb); have NB1657_1659 := A_ ((by rw [hg]; exact Nat.ne_of_lt (blk_lt (g := gb1657) (o := .cells #[.int .i64 a0_0, .int .i64 a0_1, .slice A0_2 l0_2.length c0_2] 67 (0, 0)) (tk_ BK1657)) : gb1657 ≠ gb1659)); have NB1659_1657 := A_ ((by rw [hg]; exact Nat.ne_of_gt (blk_lt (g := gb1657) (o := .cells #[.int .i64 a0_0, .int .i64 a0_1, .slice A0_2 l0_2.length c0_2] 67 (0, 0)) (tk_ BK1657)) : gb1659 ≠ gb1657)); replace BK1657 := A_ (blk_below (g := gb1657) (o := .cells #[.int .i64 a0_0, .int .i64 a0_1, .slice A0_2 l0_2.length c0_2] 67 (0, 0)) (tk_ BK1657) hb); have NB1658_1659 := A_ ((by rw [hg]; exact Nat.ne_of_lt (blk_lt (g := gb1658) (o := .cells #[.int .i64 0, .int .i64 0, .slice none 0 0] 26 (0, 0)) (tk_ BK1658)) : gb1658 ≠ gb1659)); have NB1659_1658 := A_ ((by rw [hg]; exact Nat.ne_of_gt (blk_lt (g := gb1658) (o := .cells #[.int .i64 0, .int .i64 0, .slice none 0 0] 26 (0, 0)) (tk_ BK1658)) : gb1659 ≠ gb1658)); replace BK1658 := A_ (blk_below (g := gb1658) (o := .cells #[.int .i64 0, .int .i64 0, .slice none 0 0] 26 (0, 0)) (tk_ BK1658) hb); clear hb hbox hg; have hnb6 := NB1657_1658.out; have hnc6 := NB1658_1657.out; have hnb7 := NB1657_1659.out; have hnc7 := NB1659_1657.out; obtain ⟨hcz8_0, hcz8_1, hcz8_2, hfz8_0, hfz8_1, hfz8_2⟩ := cf3_ BK1657.out; have hnb9 := NB1659_1658.out; have hnc9 := NB1658_1659.out; obtain ⟨hcz10_0, hcz10_1, hcz10_2, hfz10_0, hfz10_1, hfz10_2⟩ := cf3_ BK1659.out) | (refine gc_ 66 ?_; refine goesT_ (some 12) Try.func66 #[.slice A0_2 l0_2.length c0_2] ?_; (with_reducible refine (laws_toIntS.calls k _ _ l0_2 t1660 _ ?side1 ?side2 A2.out).mono ?_); (case side1 => exact Kd.C_below HR0_2.out tb_); (case side2 => exact HC0_2.out); rintro e w11 ⟨v1661, rfl, ho0, hb⟩; refine ⟨_, rfl, ?_⟩; have HO1662 := A_ (Kd.R_lower ho0 (below_size tb_)); replace BK1657 := A_ (blk_below (g := gb1657) (o := .cells #[.int .i64 a0_0, .int .i64 a0_1, .slice A0_2 l0_2.length c0_2] 67 (0, 0)) (tk_ BK1657) hb); replace BK1658 := A_ (blk_below (g := gb1658) (o := .cells #[.int .i64 0, .int .i64 0, .slice none 0 0] 26 (0, 0)) (tk_ BK1658) hb); replace BK1659 := A_ (blk_below (g := gb1659) (o := .cells #[.int .i64 a0_0, .int .i64 a0_1, .slice none 0 0] 26 (0, 0)) (by (with_reducible repeat (first | refine blk_drewN ?_ _ | refine blk_drew ?_ | refine blk_alloc ?_ _)); refine blk_put (cs := #[.int .i64 a0_0, .int .i64 0, .slice none 0 0]) ?_ 1 _ rfl; (with_reducible repeat (first | refine blk_drewN ?_ _ | refine blk_drew ?_ | refine blk_alloc ?_ _)); refine blk_put (cs := #[.int .i64 0, .int .i64 0, .slice none 0 0]) ?_ 0 _ rfl; (with_reducible repeat (first | refine blk_drewN ?_ _ | refine blk_drew ?_ | refine blk_alloc ?_ _)); exact BK1659.out) hb); replace HB := A_ (below_step tb_ hb); (try clear hb); (try clear ho0); obtain ⟨Ao12, co12, eo12⟩ := Kd.R_slice HO1662.out; subst eo12; obtain ⟨hcz13_0, hcz13_1, hcz13_2, hfz13_0, hfz13_1, hfz13_2⟩ := cf3_ BK1659.out; obtain ⟨hcz14_0, hcz14_1, hcz14_2, hfz14_0, hfz14_1, hfz14_2⟩ := cf3_ BK1658.out))
 refine bodyPost_ret (results_cell_row rfl _ _ gb1658 26 #[.int .i64 a0_0, .int .i64 a0_1, .slice Ao12 t1660.length co12] (0, 0) _ rfl (by (with_reducible repeat (first | refine blk_drewN ?_ _ | refine blk_drew ?_ | refine blk_alloc ?_ _)); refine blk_put (cs := #[.int .i64 a0_0, .int .i64 a0_1, .slice none 0 0]) ?_ 2 _ rfl; (with_reducible repeat (first | refine blk_drewN ?_ _ | refine blk_drew ?_ | refine blk_alloc ?_ _)); refine blk_put (cs := #[.int .i64 a0_0, .int .i64 0, .slice none 0 0]) ?_ 1 _ rfl; (with_reducible repeat (first | refine blk_drewN ?_ _ | refine blk_drew ?_ | refine blk_alloc ?_ _)); refine blk_put (cs := #[.int .i64 0, .int .i64 0, .slice none 0 0]) ?_ 0 _ rfl; (with_reducible repeat (first | refine blk_drewN ?_ _ | refine blk_drew ?_ | refine blk_alloc ?_ _)); refine blk_far ?_ NB1658_1659.out _; (with_reducible repeat (first | refine blk_drewN ?_ _ | refine blk_drew ?_ | refine blk_alloc ?_ _)); exact BK1658.out) Try.underlying26 rfl (by kernel_rfl)) rfl ?_
 exact ⟨_, te_, by (with_reducible repeat (first | apply Kd.R_alloc | apply Kd.R_drewN | apply Kd.R_drew)); exact Kd.R_mono (Kd.R_far (p := ⟨gb1658, 2, none⟩) (Kd.R_far (p := ⟨gb1658, 1, none⟩) (Kd.R_far (p := ⟨gb1658, 0, none⟩) (Kd.R_far (p := ⟨gb1659, 2, none⟩) (Kd.R_types (Kd.R_types HO1662.out BK1659.out (by decide)) BK1658.out (by decide)) (fun _ hk => hk.1.2) (.slice Ao12 t1660.length co12)) (fun _ hk => hk.2) (.int .i64 a0_0)) (fun _ hk => hk.2) (.int .i64 a0_1)) (fun _ hk => hk.2) (.slice Ao12 t1660.length co12)) (fun _ hk => trivial), tb_⟩

/-! ### impl_Board_isPlacement: function 140 -/
def impl_Board_isPlacement.l0 : Nat → List Int → List Int → Int → Int → Int → Int → List Int → Option (Bool)
 | 0, _, _, _, _, _, _, _ => none
 | k + 1, x1, x12, x13, x14, x1664000, x1664001, x1664002 => if x14 < x13 then (if 0 ≤ x14 then (if x14 < (x12.length : Int) then (if (rd x12 x14) = (-1) then (impl_Board_isPlacement.l0 k x1 x12 x13 (wrap64 (x14 + 1)) x1664000 x1664001 x1664002) else ((impl_Board_place.f x1664000 x1664001 x1664002 x14 (rd x12 x14)).bind fun t1665 => (if t1665 = true then ((impl_Board_has.f x1664000 x1664001 x1664002 x14 (rd x12 x14)).bind fun t1666 => (if t1666 = true then (if x14 ≤ (x1.length : Int) then ((slices_Contains_int_int.f k (x1.take (x14 : Int).toNat) (rd x12 x14)).bind fun t1671 => (if t1671 = true then (some false) else (impl_Board_isPlacement.l0 k x1 x12 x13 (wrap64 (x14 + 1)) x1664000 x1664001 x1664002))) else (none)) else (some false))) else (some false)))) else (none)) else (none)) else (some true)
def impl_Board_isPlacement.f (k : Nat) (a0_0 : Int) (a0_1 : Int) (l0_2 : List Int) (l1 : List Int) : Option (Bool) := if (l1.length : Int) = a0_0 then (impl_Board_isPlacement.l0 k l1 l1 (l1.length : Int) 0 a0_0 a0_1 l0_2) else (some false)
theorem impl_Board_isPlacement.mono_l : ∀ k, (∀ y0 y1 y2 y3 y4 y5 y6, LeO (impl_Board_isPlacement.l0 k y0 y1 y2 y3 y4 y5 y6) (impl_Board_isPlacement.l0 (k + 1) y0 y1 y2 y3 y4 y5 y6))
 | 0 => fun _ _ _ _ _ _ _ r h => by simp [impl_Board_isPlacement.l0] at h
 | k + 1 => by
  have ih0 := impl_Board_isPlacement.mono_l k
  ·
   intro y0 y1 y2 y3 y4 y5 y6
   unfold impl_Board_isPlacement.l0
   repeat' first | (with_reducible first | exact ih0 _ _ _ _ _ _ _ | exact slices_Contains_int_int.mono _ _ _ | exact LeO.refl _ | exact LeO.none _ | refine LeO.ite ?_ ?_ | refine LeO.bind ?_ (fun _ => ?_)) | exact ih0 _ _ _ _ _ _ _ | exact slices_Contains_int_int.mono _ _ _ | exact LeO.none _ | refine LeO.ite ?_ ?_ | refine LeO.bind ?_ (fun _ => ?_)
theorem impl_Board_isPlacement.mono : ∀ a0 a1 a2 a3 k, LeO (impl_Board_isPlacement.f k a0 a1 a2 a3) (impl_Board_isPlacement.f (k + 1) a0 a1 a2 a3) := by
 intro a0 a1 a2 a3 k
 have ih0 := impl_Board_isPlacement.mono_l k
 unfold impl_Board_isPlacement.f
 repeat' first | (with_reducible first | exact ih0 _ _ _ _ _ _ _ | exact slices_Contains_int_int.mono _ _ _ | exact LeO.refl _ | exact LeO.none _ | refine LeO.ite ?_ ?_ | refine LeO.bind ?_ (fun _ => ?_)) | exact ih0 _ _ _ _ _ _ _ | exact slices_Contains_int_int.mono _ _ _ | exact LeO.none _ | refine LeO.ite ?_ ?_ | refine LeO.bind ?_ (fun _ => ?_)
theorem impl_Board_isPlacement.calls (k : Nat) (a0_0 : Int) (a0_1 : Int) (A0_2 : Option Addr) (c0_2 : Nat) (l0_2 : List Int) (A1 : Option Addr) (c1 : Nat) (l1 : List Int) (r : Bool) (w : World) (hr0_2 : Kd.C (Kd.int .i64) w A0_2 l0_2.length l0_2) (hc0_2 : l0_2.length ≤ c0_2) (hr1 : Kd.C (Kd.int .i64) w A1 l1.length l1) (hc1 : l1.length ≤ c1) (h : impl_Board_isPlacement.f k a0_0 a0_1 l0_2 l1 = some r) :
  Calls Try.prog 140 #[.agg #[.int .i64 a0_0, .int .i64 a0_1, .slice A0_2 l0_2.length c0_2], .slice A1 l1.length c1] w fun e w' => e = .returned (.bool r) ∧ Below w.heap.size w w' := by
 have hu26 := Try.underlying26
 have HR0_2 := A_ hr0_2
 have HC0_2 := A_ hc0_2
 clear hr0_2 hc0_2
 have HR1 := A_ hr1
 have HC1 := A_ hc1
 clear hr1 hc1
 have HB := A_ (Below.refl w.heap.size w)
 have H : (if (l1.length : Int) = a0_0 then (impl_Board_isPlacement.l0 k l1 l1 (l1.length : Int) 0 a0_0 a0_1 l0_2) else (some false)) = some r := h
 clear h
 by_cases c3 : (l1.length : Int) = a0_0
 ·
  rw [if_pos c3] at H
  have c3b0 : ((l1.length : Int) == a0_0) = true := beq_iff_eq.mpr c3
  have c3b1 : ((l1.length : Int) != a0_0) = false := bne_eq_false_iff_eq.mpr c3
  clear c3
  have H' := A_ H
  clear H
  go_enter Try.func140, Try.ntmps140
  go_wp2_with (first | (refine gd_ 2 ?_; refine bx_ 2 #[.int .i64 a0_0, .int .i64 a0_1, .slice A0_2 l0_2.length c0_2] 26 ?_; intro gb1663 hg w4 hbox hb; have BK1663 := A_ (hbox); have GW1663 := A_ ((ts_ hg : w.heap.size ≤ gb1663)); have GE1663 := A_ ((ts_ hg : w.heap.size ≤ gb1663)); replace HB := A_ (below_step tb_ hb); clear hb hbox hg; obtain ⟨hcz5_0, hcz5_1, hcz5_2, hfz5_0, hfz5_1, hfz5_2⟩ := cf3_ BK1663.out))
  go_loopg [14] k (fun kq v14 w' => ∃ (x14_1 : Int), v14 = .int .i64 x14_1 ∧ Aside0 (impl_Board_isPlacement.l0 kq l1 l1 (l1.length : Int) x14_1 a0_0 a0_1 l0_2 = some r) ∧ Aside0 (kq ≤ k) ∧ Aside0 (w'.heap[gb1663]? = some (.cells #[.int .i64 a0_0, .int .i64 a0_1, (.slice A0_2 l0_2.length c0_2)] 26 (0, 0))) ∧ Aside0 (Below w.heap.size w w'))
  case atStart => exact ⟨(0), tf_, H', ⟨Nat.le_refl _⟩, ⟨tk_ BK1663⟩, ⟨tb_⟩⟩
  case round =>
   clear H'
   try clear c1
   try clear p2
   try clear c3
   try clear c3b0
   try clear c3b1
   try clear hcz5_0
   try clear hcz5_1
   try clear hcz5_2
   try clear hfz5_0
   try clear hfz5_1
   try clear hfz5_2
   obtain ⟨x14_1, rfl, HA, HK1, BK1663, HB⟩ := hrel
   cases gk with
   | zero => exact absurd HA.out (by simp [impl_Board_isPlacement.l0])
   | succ k1 =>
    have H := HA.out
    clear HA
    simp only [impl_Board_isPlacement.l0] at H
    by_cases c6 : x14_1 < (l1.length : Int)
    ·
     rw [if_pos c6] at H
     have c6b0 := decide_eq_true c6
     clear c6
     by_cases c7 : 0 ≤ x14_1
     ·
      rw [if_pos c7] at H
      have c7b0 := decide_eq_true c7
      clear c7
      by_cases c8 : x14_1 < (l1.length : Int)
      ·
       rw [if_pos c8] at H
       have c8b0 := decide_eq_true c8
       clear c8
       by_cases c9 : (rd l1 x14_1) = (-1)
       ·
        rw [if_pos c9] at H
        have c9b0 : ((rd l1 x14_1) == (-1)) = true := beq_iff_eq.mpr c9
        have c9b1 : ((rd l1 x14_1) != (-1)) = false := bne_eq_false_iff_eq.mpr c9
        clear c9
        have H' := A_ H
        clear H
        have p1664 : 0 ≤ (x14_1 : Int) := od_
        have q1664 : x14_1 < (l1.length : Int) := od_
        obtain ⟨ad1664, e1664, hx1664_0⟩ := Kd.at_int HR1.out x14_1 p1664 q1664
        cases e1664
        (try replace hx1664_0 := (HB.out.cell (World.block_lt_of_cell? w _ hx1664_0)).trans hx1664_0)
        replace p1664 := eq_true p1664
        replace q1664 := eq_true q1664
        go_wp2
        go_roundg k1
        case measure => have := HK1.out; omega
        case rel => exact ⟨(wrap64 (x14_1 + 1)), tf_, H', ⟨by have := HK1.out; omega⟩, ⟨tk_ BK1663⟩, ⟨tb_⟩⟩
       ·
        rw [if_neg c9] at H
        have c9b0 : ((rd l1 x14_1) == (-1)) = false := beq_eq_false_iff_ne.mpr c9
        have c9b1 : ((rd l1 x14_1) != (-1)) = true := bne_iff_ne.mpr c9
        replace H := Option.bind_eq_some_iff.mp H
        obtain ⟨t1665, A100, H⟩ := H
        replace H : (if t1665 = true then ((impl_Board_has.f a0_0 a0_1 l0_2 x14_1 (rd l1 x14_1)).bind fun t1666 => (if t1666 = true then (if x14_1 ≤ (l1.length : Int) then ((slices_Contains_int_int.f k1 (l1.take (x14_1 : Int).toNat) (rd l1 x14_1)).bind fun t1671 => (if t1671 = true then (some false) else (impl_Board_isPlacement.l0 k1 l1 l1 (l1.length : Int) (wrap64 (x14_1 + 1)) a0_0 a0_1 l0_2))) else (none)) else (some false))) else (some false)) = some r := H
        have A10 := A_ A100
        clear A100
        by_cases c11 : t1665 = true
        ·
         subst c11
         have H1 : ((impl_Board_has.f a0_0 a0_1 l0_2 x14_1 (rd l1 x14_1)).bind fun t1666 => (if t1666 = true then (if x14_1 ≤ (l1.length : Int) then ((slices_Contains_int_int.f k1 (l1.take (x14_1 : Int).toNat) (rd l1 x14_1)).bind fun t1671 => (if t1671 = true then (some false) else (impl_Board_isPlacement.l0 k1 l1 l1 (l1.length : Int) (wrap64 (x14_1 + 1)) a0_0 a0_1 l0_2))) else (none)) else (some false))) = some r := by rw [if_pos rfl] at H; exact H
         clear H
         have H := H1
         clear H1
         replace H := Option.bind_eq_some_iff.mp H
         obtain ⟨t1666, A120, H⟩ := H
         replace H : (if t1666 = true then (if x14_1 ≤ (l1.length : Int) then ((slices_Contains_int_int.f k1 (l1.take (x14_1 : Int).toNat) (rd l1 x14_1)).bind fun t1671 => (if t1671 = true then (some false) else (impl_Board_isPlacement.l0 k1 l1 l1 (l1.length : Int) (wrap64 (x14_1 + 1)) a0_0 a0_1 l0_2))) else (none)) else (some false)) = some r := H
         have A12 := A_ A120
         clear A120
         by_cases c13 : t1666 = true
         ·
          subst c13
          have H1 : (if x14_1 ≤ (l1.length : Int) then ((slices_Contains_int_int.f k1 (l1.take (x14_1 : Int).toNat) (rd l1 x14_1)).bind fun t1671 => (if t1671 = true then (some false) else (impl_Board_isPlacement.l0 k1 l1 l1 (l1.length : Int) (wrap64 (x14_1 + 1)) a0_0 a0_1 l0_2))) else (none)) = some r := by rw [if_pos rfl] at H; exact H
          clear H
          have H := H1
          clear H1
          have c14b0 := eq_true (od_ : 0 ≤ x14_1)
          by_cases c15 : x14_1 ≤ (l1.length : Int)
          ·
           rw [if_pos c15] at H
           have c15b0 := eq_true c15
           have c15b1 := decide_eq_true c15
           clear c15
           obtain ⟨y1667, hy1667⟩ : ∃ y_ : List Int, y_ = (l1.take (x14_1 : Int).toNat) := ⟨_, rfl⟩
           replace H : ((slices_Contains_int_int.f k1 y1667 (rd l1 x14_1)).bind fun t1671 => (if t1671 = true then (some false) else (impl_Board_isPlacement.l0 k1 l1 l1 (l1.length : Int) (wrap64 (x14_1 + 1)) a0_0 a0_1 l0_2))) = some r := ty_ hy1667 H
           have Ny1667 := A_ hy1667
           clear hy1667
           replace H := Option.bind_eq_some_iff.mp H
           obtain ⟨t1671, A160, H⟩ := H
           replace H : (if t1671 = true then (some false) else (impl_Board_isPlacement.l0 k1 l1 l1 (l1.length : Int) (wrap64 (x14_1 + 1)) a0_0 a0_1 l0_2)) = some r := H
           have A16 := A_ A160
           clear A160
           by_cases c17 : t1671 = true
           ·
            subst c17
            have H1 : (some false) = some r := by rw [if_pos rfl] at H; exact H
            clear H
            have H := H1
            clear H1
            obtain rfl := Option.some.inj H
            have p1664 : 0 ≤ (x14_1 : Int) := od_
            have q1664 : x14_1 < (l1.length : Int) := od_
            obtain ⟨ad1664, e1664, hx1664_0⟩ := Kd.at_int HR1.out x14_1 p1664 q1664
            cases e1664
            (try replace hx1664_0 := (HB.out.cell (World.block_lt_of_cell? w _ hx1664_0)).trans hx1664_0)
            replace p1664 := eq_true p1664
            replace q1664 := eq_true q1664
            obtain ⟨hcz18_0, hcz18_1, hcz18_2, hfz18_0, hfz18_1, hfz18_2⟩ := cf3_ BK1663.out
            go_wp2_with (first | (refine gc_ 81 ?_; refine goesT_ (some 24) Try.func81 #[.agg #[.int .i64 a0_0, .int .i64 a0_1, .slice A0_2 l0_2.length c0_2], .int .i64 x14_1, .int .i64 (rd l1 x14_1)] ?_; (with_reducible refine (impl_Board_place.calls a0_0 a0_1 _ _ l0_2 x14_1 (rd l1 x14_1) true _ ?side1 ?side2 A10.out).mono ?_); (case side1 => exact tc_ HR0_2.out); (case side2 => exact HC0_2.out); rintro e w19 ⟨rfl, hb⟩; refine ⟨_, rfl, ?_⟩; replace BK1663 := A_ (blk_below (g := gb1663) (o := .cells #[.int .i64 a0_0, .int .i64 a0_1, .slice A0_2 l0_2.length c0_2] 26 (0, 0)) (tk_ BK1663) hb); replace HB := A_ (below_step tb_ hb); (try clear hb); obtain ⟨hcz20_0, hcz20_1, hcz20_2, hfz20_0, hfz20_1, hfz20_2⟩ := cf3_ BK1663.out) | (go_at_call 119; (with_reducible refine (impl_Board_has.calls a0_0 a0_1 _ _ l0_2 x14_1 (rd l1 x14_1) true _ ?side1 ?side2 A12.out).mono ?_); (case side1 => exact tc_ HR0_2.out); (case side2 => exact HC0_2.out); rintro e w21 ⟨rfl, hb⟩; replace BK1663 := A_ (blk_below (g := gb1663) (o := .cells #[.int .i64 a0_0, .int .i64 a0_1, .slice A0_2 l0_2.length c0_2] 26 (0, 0)) (tk_ BK1663) hb); replace HB := A_ (below_step tb_ hb); (try clear hb); have q22 : (x14_1 : Int) ≤ ((l1.length : Int) : Int) := od_; obtain ⟨i022, hi022, _, hsz22, _⟩ := info_parts info3; have hroom22 : l1.length ≤ c1 := HC1.out; have hC22 : Kd.C (Kd.int .i64) _ (some ad1664) l1.length l1 := HR1.out; have hcut22 := cut_to (P := Try.prog) 24 3 .i64 Try.underlying24 hi022 (some ad1664) l1.length c1 x14_1 (od_) q22 hroom22; have hr22 := Kd.C_take (m := (x14_1 : Int).toNat) hC22 (by omega); have hy22 : y1667.length = (x14_1 : Int).toNat := (by rw [Ny1667.out, List.length_take]; omega); rw [← Ny1667.out] at hr22; rw [← hy22] at hcut22; have HR1670 := A_ hr22; have HC1670 := A_ (show y1667.length ≤ c1 from by omega); clear hr22 hC22 hroom22 hi022 hsz22; have KY22 := A_ hy22; clear hy22; replace q22 := eq_true q22) | (go_at_call 177; (with_reducible refine (slices_Contains_int_int.calls k1 _ _ y1667 (rd l1 x14_1) true _ ?side1 ?side2 A16.out).mono ?_); (case side1 => exact tc_ HR1670.out); (case side2 => exact HC1670.out); rintro e w' ⟨rfl, ⟨nd, rfl⟩⟩))
            go_ret
            exact ⟨te_, tb_⟩
           ·
            replace c17 := Bool.eq_false_iff.mpr c17
            subst c17
            have H1 : (impl_Board_isPlacement.l0 k1 l1 l1 (l1.length : Int) (wrap64 (x14_1 + 1)) a0_0 a0_1 l0_2) = some r := by rw [if_neg (show ¬ (false = true) by decide)] at H; exact H
            clear H
            have H := H1
            clear H1
            have H' := A_ H
            clear H
            have p1664 : 0 ≤ (x14_1 : Int) := od_
            have q1664 : x14_1 < (l1.length : Int) := od_
            obtain ⟨ad1664, e1664, hx1664_0⟩ := Kd.at_int HR1.out x14_1 p1664 q1664
            cases e1664
            (try replace hx1664_0 := (HB.out.cell (World.block_lt_of_cell? w _ hx1664_0)).trans hx1664_0)
            replace p1664 := eq_true p1664
            replace q1664 := eq_true q1664
            obtain ⟨hcz23_0, hcz23_1, hcz23_2, hfz23_0, hfz23_1, hfz23_2⟩ := cf3_ BK1663.out
            go_wp2_with (first | (refine gc_ 81 ?_; refine goesT_ (some 24) Try.func81 #[.agg #[.int .i64 a0_0, .int .i64 a0_1, .slice A0_2 l0_2.length c0_2], .int .i64 x14_1, .int .i64 (rd l1 x14_1)] ?_; (with_reducible refine (impl_Board_place.calls a0_0 a0_1 _ _ l0_2 x14_1 (rd l1 x14_1) true _ ?side1 ?side2 A10.out).mono ?_); (case side1 => exact tc_ HR0_2.out); (case side2 => exact HC0_2.out); rintro e w24 ⟨rfl, hb⟩; refine ⟨_, rfl, ?_⟩; replace BK1663 := A_ (blk_below (g := gb1663) (o := .cells #[.int .i64 a0_0, .int .i64 a0_1, .slice A0_2 l0_2.length c0_2] 26 (0, 0)) (tk_ BK1663) hb); replace HB := A_ (below_step tb_ hb); (try clear hb); obtain ⟨hcz25_0, hcz25_1, hcz25_2, hfz25_0, hfz25_1, hfz25_2⟩ := cf3_ BK1663.out) | (go_at_call 119; (with_reducible refine (impl_Board_has.calls a0_0 a0_1 _ _ l0_2 x14_1 (rd l1 x14_1) true _ ?side1 ?side2 A12.out).mono ?_); (case side1 => exact tc_ HR0_2.out); (case side2 => exact HC0_2.out); rintro e w26 ⟨rfl, hb⟩; replace BK1663 := A_ (blk_below (g := gb1663) (o := .cells #[.int .i64 a0_0, .int .i64 a0_1, .slice A0_2 l0_2.length c0_2] 26 (0, 0)) (tk_ BK1663) hb); replace HB := A_ (below_step tb_ hb); (try clear hb); have q27 : (x14_1 : Int) ≤ ((l1.length : Int) : Int) := od_; obtain ⟨i027, hi027, _, hsz27, _⟩ := info_parts info3; have hroom27 : l1.length ≤ c1 := HC1.out; have hC27 : Kd.C (Kd.int .i64) _ (some ad1664) l1.length l1 := HR1.out; have hcut27 := cut_to (P := Try.prog) 24 3 .i64 Try.underlying24 hi027 (some ad1664) l1.length c1 x14_1 (od_) q27 hroom27; have hr27 := Kd.C_take (m := (x14_1 : Int).toNat) hC27 (by omega); have hy27 : y1667.length = (x14_1 : Int).toNat := (by rw [Ny1667.out, List.length_take]; omega); rw [← Ny1667.out] at hr27; rw [← hy27] at hcut27; have HR1670 := A_ hr27; have HC1670 := A_ (show y1667.length ≤ c1 from by omega); clear hr27 hC27 hroom27 hi027 hsz27; have KY27 := A_ hy27; clear hy27; replace q27 := eq_true q27) | (go_at_call 177; (with_reducible refine (slices_Contains_int_int.calls k1 _ _ y1667 (rd l1 x14_1) false _ ?side1 ?side2 A16.out).mono ?_); (case side1 => exact tc_ HR1670.out); (case side2 => exact HC1670.out); rintro e w' ⟨rfl, ⟨nd, rfl⟩⟩))
            go_roundg k1
            case measure => have := HK1.out; omega
            case rel => exact ⟨(wrap64 (x14_1 + 1)), tf_, H', ⟨by have := HK1.out; omega⟩, ⟨tk_ BK1663⟩, ⟨tb_⟩⟩
          ·
           rw [if_neg c15] at H
           exact absurd H (by simp)
         ·
          replace c13 := Bool.eq_false_iff.mpr c13
          subst c13
          have H1 : (some false) = some r := by rw [if_neg (show ¬ (false = true) by decide)] at H; exact H
          clear H
          have H := H1
          clear H1
          obtain rfl := Option.some.inj H
          have p1664 : 0 ≤ (x14_1 : Int) := od_
          have q1664 : x14_1 < (l1.length : Int) := od_
          obtain ⟨ad1664, e1664, hx1664_0⟩ := Kd.at_int HR1.out x14_1 p1664 q1664
          cases e1664
          (try replace hx1664_0 := (HB.out.cell (World.block_lt_of_cell? w _ hx1664_0)).trans hx1664_0)
          replace p1664 := eq_true p1664
          replace q1664 := eq_true q1664
          obtain ⟨hcz28_0, hcz28_1, hcz28_2, hfz28_0, hfz28_1, hfz28_2⟩ := cf3_ BK1663.out
          go_wp2_with (first | (refine gc_ 81 ?_; refine goesT_ (some 24) Try.func81 #[.agg #[.int .i64 a0_0, .int .i64 a0_1, .slice A0_2 l0_2.length c0_2], .int .i64 x14_1, .int .i64 (rd l1 x14_1)] ?_; (with_reducible refine (impl_Board_place.calls a0_0 a0_1 _ _ l0_2 x14_1 (rd l1 x14_1) true _ ?side1 ?side2 A10.out).mono ?_); (case side1 => exact tc_ HR0_2.out); (case side2 => exact HC0_2.out); rintro e w29 ⟨rfl, hb⟩; refine ⟨_, rfl, ?_⟩; replace BK1663 := A_ (blk_below (g := gb1663) (o := .cells #[.int .i64 a0_0, .int .i64 a0_1, .slice A0_2 l0_2.length c0_2] 26 (0, 0)) (tk_ BK1663) hb); replace HB := A_ (below_step tb_ hb); (try clear hb); obtain ⟨hcz30_0, hcz30_1, hcz30_2, hfz30_0, hfz30_1, hfz30_2⟩ := cf3_ BK1663.out) | (go_at_call 119; (with_reducible refine (impl_Board_has.calls a0_0 a0_1 _ _ l0_2 x14_1 (rd l1 x14_1) false _ ?side1 ?side2 A12.out).mono ?_); (case side1 => exact tc_ HR0_2.out); (case side2 => exact HC0_2.out); rintro e w31 ⟨rfl, hb⟩; replace BK1663 := A_ (blk_below (g := gb1663) (o := .cells #[.int .i64 a0_0, .int .i64 a0_1, .slice A0_2 l0_2.length c0_2] 26 (0, 0)) (tk_ BK1663) hb); replace HB := A_ (below_step tb_ hb); (try clear hb)))
          go_ret
          exact ⟨te_, tb_⟩
        ·
         replace c11 := Bool.eq_false_iff.mpr c11
         subst c11
         have H1 : (some false) = some r := by rw [if_neg (show ¬ (false = true) by decide)] at H; exact H
         clear H
         have H := H1
         clear H1
         obtain rfl := Option.some.inj H
         have p1664 : 0 ≤ (x14_1 : Int) := od_
         have q1664 : x14_1 < (l1.length : Int) := od_
         obtain ⟨ad1664, e1664, hx1664_0⟩ := Kd.at_int HR1.out x14_1 p1664 q1664
         cases e1664
         (try replace hx1664_0 := (HB.out.cell (World.block_lt_of_cell? w _ hx1664_0)).trans hx1664_0)
         replace p1664 := eq_true p1664
         replace q1664 := eq_true q1664
         obtain ⟨hcz32_0, hcz32_1, hcz32_2, hfz32_0, hfz32_1, hfz32_2⟩ := cf3_ BK1663.out
         go_wp2_with (first | (refine gc_ 81 ?_; refine goesT_ (some 24) Try.func81 #[.agg #[.int .i64 a0_0, .int .i64 a0_1, .slice A0_2 l0_2.length c0_2], .int .i64 x14_1, .int .i64 (rd l1 x14_1)] ?_; (with_reducible refine (impl_Board_place.calls a0_0 a0_1 _ _ l0_2 x14_1 (rd l1 x14_1) false _ ?side1 ?side2 A10.out).mono ?_); (case side1 => exact tc_ HR0_2.out); (case side2 => exact HC0_2.out); rintro e w33 ⟨rfl, hb⟩; refine ⟨_, rfl, ?_⟩; replace BK1663 := A_ (blk_below (g := gb1663) (o := .cells #[.int .i64 a0_0, .int .i64 a0_1, .slice A0_2 l0_2.length c0_2] 26 (0, 0)) (tk_ BK1663) hb); replace HB := A_ (below_step tb_ hb); (try clear hb)))
         go_ret
         exact ⟨te_, tb_⟩
      ·
       rw [if_neg c8] at H
       exact absurd H (by simp)
     ·
      rw [if_neg c7] at H
      exact absurd H (by simp)
    ·
     rw [if_neg c6] at H
     have c6b0 := decide_eq_false c6
     clear c6
     obtain rfl := Option.some.inj H
     go_wp2
     go_ret
     exact ⟨te_, tb_⟩
 ·
  rw [if_neg c3] at H
  have c3b0 : ((l1.length : Int) == a0_0) = false := beq_eq_false_iff_ne.mpr c3
  have c3b1 : ((l1.length : Int) != a0_0) = true := bne_iff_ne.mpr c3
  obtain rfl := Option.some.inj H
  go_enter Try.func140, Try.ntmps140
  go_wp2_with (first | (refine gd_ 2 ?_; refine bx_ 2 #[.int .i64 a0_0, .int .i64 a0_1, .slice A0_2 l0_2.length c0_2] 26 ?_; intro gb1663 hg w34 hbox hb; have BK1663 := A_ (hbox); have GW1663 := A_ ((ts_ hg : w.heap.size ≤ gb1663)); have GE1663 := A_ ((ts_ hg : w.heap.size ≤ gb1663)); replace HB := A_ (below_step tb_ hb); clear hb hbox hg; obtain ⟨hcz35_0, hcz35_1, hcz35_2, hfz35_0, hfz35_1, hfz35_2⟩ := cf3_ BK1663.out))
  go_ret
  exact ⟨te_, tb_⟩

/-! ### cmp_Compare_int: function 180 -/
def cmp_Compare_int.f (a0 : Int) (a1 : Int) : Option (Int) := (cmp_isNaN_int.f a0).bind fun t1672 => ((cmp_isNaN_int.f a1).bind fun t1673 => (if t1672 = true then (if t1673 = true then (some 0) else (some (-1))) else (if t1673 = true then (some 1) else (if a0 < a1 then (some (-1)) else (if a0 > a1 then (some 1) else (some 0))))))
theorem cmp_Compare_int.calls (a0 : Int) (a1 : Int) (r : Int) (w : World) (h : cmp_Compare_int.f a0 a1 = some r) :
  Calls Try.prog 180 #[.int .i64 a0, .int .i64 a1] w fun e w' => e = .returned (.int .i64 r) ∧ Drawn0 w w' := by
 have H : ((cmp_isNaN_int.f a0).bind fun t1672 => ((cmp_isNaN_int.f a1).bind fun t1673 => (if t1672 = true then (if t1673 = true then (some 0) else (some (-1))) else (if t1673 = true then (some 1) else (if a0 < a1 then (some (-1)) else (if a0 > a1 then (some 1) else (some 0))))))) = some r := h
 clear h
 replace H := Option.bind_eq_some_iff.mp H
 obtain ⟨t1672, A30, H⟩ := H
 replace H : ((cmp_isNaN_int.f a1).bind fun t1673 => (if t1672 = true then (if t1673 = true then (some 0) else (some (-1))) else (if t1673 = true then (some 1) else (if a0 < a1 then (some (-1)) else (if a0 > a1 then (some 1) else (some 0)))))) = some r := H
 have A3 := A_ A30
 clear A30
 replace H := Option.bind_eq_some_iff.mp H
 obtain ⟨t1673, A40, H⟩ := H
 replace H : (if t1672 = true then (if t1673 = true then (some 0) else (some (-1))) else (if t1673 = true then (some 1) else (if a0 < a1 then (some (-1)) else (if a0 > a1 then (some 1) else (some 0))))) = some r := H
 have A4 := A_ A40
 clear A40
 by_cases c5 : t1672 = true
 ·
  subst c5
  have H1 : (if t1673 = true then (some 0) else (some (-1))) = some r := by rw [if_pos rfl] at H; exact H
  clear H
  have H := H1
  clear H1
  by_cases c6 : t1673 = true
  ·
   subst c6
   have H1 : (some 0) = some r := by rw [if_pos rfl] at H; exact H
   clear H
   have H := H1
   clear H1
   obtain rfl := Option.some.inj H
   go_enter Try.func180, Try.ntmps180
   go_wp2_with (first | (refine gc_ 205 ?_; refine goesT_ (some 8) Try.func205 #[.int .i64 a0] ?_; (with_reducible refine (cmp_isNaN_int.calls a0 true _ A3.out).mono ?_); rintro e w' ⟨rfl, ⟨nd, rfl⟩⟩; refine ⟨_, rfl, ?_⟩) | (refine gc_ 205 ?_; refine goesT_ (some 10) Try.func205 #[.int .i64 a1] ?_; (with_reducible refine (cmp_isNaN_int.calls a1 true _ A4.out).mono ?_); rintro e w' ⟨rfl, ⟨nd, rfl⟩⟩; refine ⟨_, rfl, ?_⟩))
   go_ret
   exact ⟨tf_, dr_⟩
  ·
   replace c6 := Bool.eq_false_iff.mpr c6
   subst c6
   have H1 : (some (-1)) = some r := by rw [if_neg (show ¬ (false = true) by decide)] at H; exact H
   clear H
   have H := H1
   clear H1
   obtain rfl := Option.some.inj H
   go_enter Try.func180, Try.ntmps180
   go_wp2_with (first | (refine gc_ 205 ?_; refine goesT_ (some 8) Try.func205 #[.int .i64 a0] ?_; (with_reducible refine (cmp_isNaN_int.calls a0 true _ A3.out).mono ?_); rintro e w' ⟨rfl, ⟨nd, rfl⟩⟩; refine ⟨_, rfl, ?_⟩) | (refine gc_ 205 ?_; refine goesT_ (some 10) Try.func205 #[.int .i64 a1] ?_; (with_reducible refine (cmp_isNaN_int.calls a1 false _ A4.out).mono ?_); rintro e w' ⟨rfl, ⟨nd, rfl⟩⟩; refine ⟨_, rfl, ?_⟩))
   go_ret
   exact ⟨tf_, dr_⟩
 ·
  replace c5 := Bool.eq_false_iff.mpr c5
  subst c5
  have H1 : (if t1673 = true then (some 1) else (if a0 < a1 then (some (-1)) else (if a0 > a1 then (some 1) else (some 0)))) = some r := by rw [if_neg (show ¬ (false = true) by decide)] at H; exact H
  clear H
  have H := H1
  clear H1
  by_cases c7 : t1673 = true
  ·
   subst c7
   have H1 : (some 1) = some r := by rw [if_pos rfl] at H; exact H
   clear H
   have H := H1
   clear H1
   obtain rfl := Option.some.inj H
   go_enter Try.func180, Try.ntmps180
   go_wp2_with (first | (refine gc_ 205 ?_; refine goesT_ (some 8) Try.func205 #[.int .i64 a0] ?_; (with_reducible refine (cmp_isNaN_int.calls a0 false _ A3.out).mono ?_); rintro e w' ⟨rfl, ⟨nd, rfl⟩⟩; refine ⟨_, rfl, ?_⟩) | (refine gc_ 205 ?_; refine goesT_ (some 10) Try.func205 #[.int .i64 a1] ?_; (with_reducible refine (cmp_isNaN_int.calls a1 true _ A4.out).mono ?_); rintro e w' ⟨rfl, ⟨nd, rfl⟩⟩; refine ⟨_, rfl, ?_⟩))
   go_ret
   exact ⟨tf_, dr_⟩
  ·
   replace c7 := Bool.eq_false_iff.mpr c7
   subst c7
   have H1 : (if a0 < a1 then (some (-1)) else (if a0 > a1 then (some 1) else (some 0))) = some r := by rw [if_neg (show ¬ (false = true) by decide)] at H; exact H
   clear H
   have H := H1
   clear H1
   by_cases c8 : a0 < a1
   ·
    rw [if_pos c8] at H
    have c8b0 := decide_eq_true c8
    clear c8
    obtain rfl := Option.some.inj H
    go_enter Try.func180, Try.ntmps180
    go_wp2_with (first | (refine gc_ 205 ?_; refine goesT_ (some 8) Try.func205 #[.int .i64 a0] ?_; (with_reducible refine (cmp_isNaN_int.calls a0 false _ A3.out).mono ?_); rintro e w' ⟨rfl, ⟨nd, rfl⟩⟩; refine ⟨_, rfl, ?_⟩) | (refine gc_ 205 ?_; refine goesT_ (some 10) Try.func205 #[.int .i64 a1] ?_; (with_reducible refine (cmp_isNaN_int.calls a1 false _ A4.out).mono ?_); rintro e w' ⟨rfl, ⟨nd, rfl⟩⟩; refine ⟨_, rfl, ?_⟩))
    go_ret
    exact ⟨tf_, dr_⟩
   ·
    rw [if_neg c8] at H
    have c8b0 := decide_eq_false c8
    clear c8
    by_cases c9 : a0 > a1
    ·
     rw [if_pos c9] at H
     have c9b0 := decide_eq_true c9
     clear c9
     obtain rfl := Option.some.inj H
     go_enter Try.func180, Try.ntmps180
     go_wp2_with (first | (refine gc_ 205 ?_; refine goesT_ (some 8) Try.func205 #[.int .i64 a0] ?_; (with_reducible refine (cmp_isNaN_int.calls a0 false _ A3.out).mono ?_); rintro e w' ⟨rfl, ⟨nd, rfl⟩⟩; refine ⟨_, rfl, ?_⟩) | (refine gc_ 205 ?_; refine goesT_ (some 10) Try.func205 #[.int .i64 a1] ?_; (with_reducible refine (cmp_isNaN_int.calls a1 false _ A4.out).mono ?_); rintro e w' ⟨rfl, ⟨nd, rfl⟩⟩; refine ⟨_, rfl, ?_⟩))
     go_ret
     exact ⟨tf_, dr_⟩
    ·
     rw [if_neg c9] at H
     have c9b0 := decide_eq_false c9
     clear c9
     obtain rfl := Option.some.inj H
     go_enter Try.func180, Try.ntmps180
     go_wp2_with (first | (refine gc_ 205 ?_; refine goesT_ (some 8) Try.func205 #[.int .i64 a0] ?_; (with_reducible refine (cmp_isNaN_int.calls a0 false _ A3.out).mono ?_); rintro e w' ⟨rfl, ⟨nd, rfl⟩⟩; refine ⟨_, rfl, ?_⟩) | (refine gc_ 205 ?_; refine goesT_ (some 10) Try.func205 #[.int .i64 a1] ?_; (with_reducible refine (cmp_isNaN_int.calls a1 false _ A4.out).mono ?_); rintro e w' ⟨rfl, ⟨nd, rfl⟩⟩; refine ⟨_, rfl, ?_⟩))
     go_ret
     exact ⟨tf_, dr_⟩

/-! ### slices_Compare_int_int: function 142 -/
def slices_Compare_int_int.l0 : Nat → List Int → List Int → List Int → Int → Int → Option (Int)
 | 0, _, _, _, _, _ => none
 | k + 1, x0, x1, x9, x10, x11 => if x11 < x10 then (if 0 ≤ x11 then (if x11 < (x9.length : Int) then (if x11 ≥ (x1.length : Int) then (some 1) else (if x11 < (x1.length : Int) then ((cmp_Compare_int.f (rd x9 x11) (rd x1 x11)).bind fun t1676 => (if t1676 = 0 then (slices_Compare_int_int.l0 k x0 x1 x9 x10 (wrap64 (x11 + 1))) else (some t1676))) else (none))) else (none)) else (none)) else (if (x0.length : Int) < (x1.length : Int) then (some (-1)) else (some 0))
def slices_Compare_int_int.f (k : Nat) (l0 : List Int) (l1 : List Int) : Option (Int) := slices_Compare_int_int.l0 k l0 l1 l0 (l0.length : Int) 0
theorem slices_Compare_int_int.mono_l : ∀ k, (∀ y0 y1 y2 y3 y4, LeO (slices_Compare_int_int.l0 k y0 y1 y2 y3 y4) (slices_Compare_int_int.l0 (k + 1) y0 y1 y2 y3 y4))
 | 0 => fun _ _ _ _ _ r h => by simp [slices_Compare_int_int.l0] at h
 | k + 1 => by
  have ih0 := slices_Compare_int_int.mono_l k
  ·
   intro y0 y1 y2 y3 y4
   unfold slices_Compare_int_int.l0
   repeat' first | (with_reducible first | exact ih0 _ _ _ _ _ | exact LeO.refl _ | exact LeO.none _ | refine LeO.ite ?_ ?_ | refine LeO.bind ?_ (fun _ => ?_)) | exact ih0 _ _ _ _ _ | exact LeO.none _ | refine LeO.ite ?_ ?_ | refine LeO.bind ?_ (fun _ => ?_)
theorem slices_Compare_int_int.mono : ∀ a0 a1 k, LeO (slices_Compare_int_int.f k a0 a1) (slices_Compare_int_int.f (k + 1) a0 a1) := by
 intro a0 a1 k
 have ih0 := slices_Compare_int_int.mono_l k
 unfold slices_Compare_int_int.f
 repeat' first | (with_reducible first | exact ih0 _ _ _ _ _ | exact LeO.refl _ | exact LeO.none _ | refine LeO.ite ?_ ?_ | refine LeO.bind ?_ (fun _ => ?_)) | exact ih0 _ _ _ _ _ | exact LeO.none _ | refine LeO.ite ?_ ?_ | refine LeO.bind ?_ (fun _ => ?_)
theorem slices_Compare_int_int.calls (k : Nat) (A0 : Option Addr) (c0 : Nat) (l0 : List Int) (A1 : Option Addr) (c1 : Nat) (l1 : List Int) (r : Int) (w : World) (hr0 : Kd.C (Kd.int .i64) w A0 l0.length l0) (hc0 : l0.length ≤ c0) (hr1 : Kd.C (Kd.int .i64) w A1 l1.length l1) (hc1 : l1.length ≤ c1) (h : slices_Compare_int_int.f k l0 l1 = some r) :
  Calls Try.prog 142 #[.slice A0 l0.length c0, .slice A1 l1.length c1] w fun e w' => e = .returned (.int .i64 r) ∧ Drawn0 w w' := by
 have HR0 := A_ hr0
 have HC0 := A_ hc0
 clear hr0 hc0
 have HR1 := A_ hr1
 have HC1 := A_ hc1
 clear hr1 hc1
 have H : (slices_Compare_int_int.l0 k l0 l1 l0 (l0.length : Int) 0) = some r := h
 clear h
 have H' := A_ H
 clear H
 go_enter Try.func142, Try.ntmps142
 go_wp2
 go_loopg [11] k (fun kq v11 w' => ∃ (x11_1 : Int), v11 = .int .i64 x11_1 ∧ Aside0 (slices_Compare_int_int.l0 kq l0 l1 l0 (l0.length : Int) x11_1 = some r) ∧ Aside0 (kq ≤ k) ∧ Drawn0 w w')
 case atStart => exact ⟨(0), tf_, H', ⟨Nat.le_refl _⟩, dr_⟩
 case round =>
  clear H'
  try clear c1
  try clear p2
  obtain ⟨x11_1, rfl, HA, HK1, ⟨m1, rfl⟩⟩ := hrel
  cases gk with
  | zero => exact absurd HA.out (by simp [slices_Compare_int_int.l0])
  | succ k1 =>
   have H := HA.out
   clear HA
   simp only [slices_Compare_int_int.l0] at H
   by_cases c3 : x11_1 < (l0.length : Int)
   ·
    rw [if_pos c3] at H
    have c3b0 := decide_eq_true c3
    clear c3
    by_cases c4 : 0 ≤ x11_1
    ·
     rw [if_pos c4] at H
     have c4b0 := decide_eq_true c4
     clear c4
     by_cases c5 : x11_1 < (l0.length : Int)
     ·
      rw [if_pos c5] at H
      have c5b0 := decide_eq_true c5
      clear c5
      by_cases c6 : x11_1 ≥ (l1.length : Int)
      ·
       rw [if_pos c6] at H
       have c6b0 := decide_eq_true c6
       clear c6
       obtain rfl := Option.some.inj H
       have p1674 : 0 ≤ (x11_1 : Int) := od_
       have q1674 : x11_1 < (l0.length : Int) := od_
       obtain ⟨ad1674, e1674, hx1674_0⟩ := Kd.at_int HR0.out x11_1 p1674 q1674
       cases e1674
       replace p1674 := eq_true p1674
       replace q1674 := eq_true q1674
       go_wp2
       go_ret
       exact ⟨tf_, dr_⟩
      ·
       rw [if_neg c6] at H
       have c6b0 := decide_eq_false c6
       clear c6
       by_cases c7 : x11_1 < (l1.length : Int)
       ·
        rw [if_pos c7] at H
        have c7b0 := decide_eq_true c7
        clear c7
        replace H := Option.bind_eq_some_iff.mp H
        obtain ⟨t1676, A80, H⟩ := H
        replace H : (if t1676 = 0 then (slices_Compare_int_int.l0 k1 l0 l1 l0 (l0.length : Int) (wrap64 (x11_1 + 1))) else (some t1676)) = some r := H
        have A8 := A_ A80
        clear A80
        by_cases c9 : t1676 = 0
        ·
         rw [if_pos c9] at H
         have c9b0 : (t1676 == 0) = true := beq_iff_eq.mpr c9
         have c9b1 : (t1676 != 0) = false := bne_eq_false_iff_eq.mpr c9
         clear c9
         have H' := A_ H
         clear H
         have p1674 : 0 ≤ (x11_1 : Int) := od_
         have q1674 : x11_1 < (l0.length : Int) := od_
         obtain ⟨ad1674, e1674, hx1674_0⟩ := Kd.at_int HR0.out x11_1 p1674 q1674
         cases e1674
         replace p1674 := eq_true p1674
         replace q1674 := eq_true q1674
         have p1675 : 0 ≤ (x11_1 : Int) := od_
         have q1675 : x11_1 < (l1.length : Int) := od_
         obtain ⟨ad1675, e1675, hx1675_0⟩ := Kd.at_int HR1.out x11_1 p1675 q1675
         cases e1675
         replace p1675 := eq_true p1675
         replace q1675 := eq_true q1675
         go_wp2_with (first | (refine gc_ 180 ?_; refine goesT_ (some 26) Try.func180 #[.int .i64 (rd l0 x11_1), .int .i64 (rd l1 x11_1)] ?_; (with_reducible refine (cmp_Compare_int.calls (rd l0 x11_1) (rd l1 x11_1) t1676 _ A8.out).mono ?_); rintro e w' ⟨rfl, ⟨nd, rfl⟩⟩; refine ⟨_, rfl, ?_⟩))
         go_roundg k1
         case measure => have := HK1.out; omega
         case rel => exact ⟨(wrap64 (x11_1 + 1)), tf_, H', ⟨by have := HK1.out; omega⟩, dr_⟩
        ·
         rw [if_neg c9] at H
         have c9b0 : (t1676 == 0) = false := beq_eq_false_iff_ne.mpr c9
         have c9b1 : (t1676 != 0) = true := bne_iff_ne.mpr c9
         obtain rfl := Option.some.inj H
         have p1674 : 0 ≤ (x11_1 : Int) := od_
         have q1674 : x11_1 < (l0.length : Int) := od_
         obtain ⟨ad1674, e1674, hx1674_0⟩ := Kd.at_int HR0.out x11_1 p1674 q1674
         cases e1674
         replace p1674 := eq_true p1674
         replace q1674 := eq_true q1674
         have p1675 : 0 ≤ (x11_1 : Int) := od_
         have q1675 : x11_1 < (l1.length : Int) := od_
         obtain ⟨ad1675, e1675, hx1675_0⟩ := Kd.at_int HR1.out x11_1 p1675 q1675
         cases e1675
         replace p1675 := eq_true p1675
         replace q1675 := eq_true q1675
         go_wp2_with (first | (refine gc_ 180 ?_; refine goesT_ (some 26) Try.func180 #[.int .i64 (rd l0 x11_1), .int .i64 (rd l1 x11_1)] ?_; (with_reducible refine (cmp_Compare_int.calls (rd l0 x11_1) (rd l1 x11_1) t1676 _ A8.out).mono ?_); rintro e w' ⟨rfl, ⟨nd, rfl⟩⟩; refine ⟨_, rfl, ?_⟩))
         go_ret
         exact ⟨tf_, dr_⟩
       ·
        rw [if_neg c7] at H
        exact absurd H (by simp)
     ·
      rw [if_neg c5] at H
      exact absurd H (by simp)
    ·
     rw [if_neg c4] at H
     exact absurd H (by simp)
   ·
    rw [if_neg c3] at H
    have c3b0 := decide_eq_false c3
    clear c3
    by_cases c10 : (l0.length : Int) < (l1.length : Int)
    ·
     rw [if_pos c10] at H
     have c10b0 := decide_eq_true c10
     have c10b1 : decide (l0.length < l1.length) = true := decide_eq_true (Int.ofNat_lt.mp c10)
     clear c10
     obtain rfl := Option.some.inj H
     go_wp2
     go_ret
     exact ⟨tf_, dr_⟩
    ·
     rw [if_neg c10] at H
     have c10b0 := decide_eq_false c10
     have c10b1 : decide (l0.length < l1.length) = false := decide_eq_false (fun h => c10 (Int.ofNat_lt.mpr h))
     clear c10
     obtain rfl := Option.some.inj H
     go_wp2
     go_ret
     exact ⟨tf_, dr_⟩

end
end Go.Proofs.Ytdoflpghemgbdaa.P
