-- printed functions (wip/slim.py)
import Derived.Test.YtnhamhpalbeflaaPx0
import Derived.Test.YtnhamhpalbeflaaQf6f8bf20c8
import Derived.Test.YtnhamhpalbeflaaQf062672348
namespace Go.Proofs.Ytnhamhpalbeflaa.P
noncomputable section
set_option maxHeartbeats 8000000
set_option maxRecDepth 100000
open Go.RowKit Go.Proofs.YtnhamhpalbeflaaW.PrintWords Go.Proofs.YtnhamhpalbeflaaW.PrintLast Go.Proofs.YtnhamhpalbeflaaW.PrintMore
attribute [local go_sem] max2_int min2_int max_two min_two max_three min_three max_four min_four   -- for this text's walks alone
set_option linter.unusedVariables false
set_option linter.unusedSimpArgs false

/-! ### laws_eqBoard: function 35 -/
def laws_eqBoard.f (k : Nat) (a0_0 : Int) (a0_1 : Int) (l0_2 : List Int) (a1_0 : Int) (a1_1 : Int) (l1_2 : List Int) : Option (Bool) := if a0_0 = a1_0 then (if a0_1 = a1_1 then ((laws_eqIntS.f k l0_2 l1_2).bind fun t887 => (if t887 = true then (some true) else (some false))) else (some false)) else (some false)
theorem laws_eqBoard.mono : ∀ a0 a1 a2 a3 a4 a5 k, LeO (laws_eqBoard.f k a0 a1 a2 a3 a4 a5) (laws_eqBoard.f (k + 1) a0 a1 a2 a3 a4 a5) := by
 intro a0 a1 a2 a3 a4 a5 k
 unfold laws_eqBoard.f
 repeat' first | (with_reducible first | exact laws_eqIntS.mono _ _ _ | exact LeO.refl _ | exact LeO.none _ | refine LeO.ite ?_ ?_ | refine LeO.bind ?_ (fun _ => ?_)) | exact laws_eqIntS.mono _ _ _ | exact LeO.none _ | refine LeO.ite ?_ ?_ | refine LeO.bind ?_ (fun _ => ?_)
theorem laws_eqBoard.calls (k : Nat) (a0_0 : Int) (a0_1 : Int) (A0_2 : Option Addr) (c0_2 : Nat) (l0_2 : List Int) (a1_0 : Int) (a1_1 : Int) (A1_2 : Option Addr) (c1_2 : Nat) (l1_2 : List Int) (r : Bool) (w : World) (hr0_2 : Kd.C (Kd.int .i64) w A0_2 l0_2.length l0_2) (hc0_2 : l0_2.length ≤ c0_2) (hr1_2 : Kd.C (Kd.int .i64) w A1_2 l1_2.length l1_2) (hc1_2 : l1_2.length ≤ c1_2) (h : laws_eqBoard.f k a0_0 a0_1 l0_2 a1_0 a1_1 l1_2 = some r) :
  Calls Try.prog 35 #[.agg #[.int .i64 a0_0, .int .i64 a0_1, .slice A0_2 l0_2.length c0_2], .agg #[.int .i64 a1_0, .int .i64 a1_1, .slice A1_2 l1_2.length c1_2]] w fun e w' => e = .returned (.bool r) ∧ Below w.heap.size w w' := by
 have hu26 := Try.underlying26
 have HR0_2 := A_ hr0_2
 have HC0_2 := A_ hc0_2
 clear hr0_2 hc0_2
 have HR1_2 := A_ hr1_2
 have HC1_2 := A_ hc1_2
 clear hr1_2 hc1_2
 have HB := A_ (Below.refl w.heap.size w)
 have H : (if a0_0 = a1_0 then (if a0_1 = a1_1 then ((laws_eqIntS.f k l0_2 l1_2).bind fun t887 => (if t887 = true then (some true) else (some false))) else (some false)) else (some false)) = some r := h
 clear h
 by_cases c3 : a0_0 = a1_0
 ·
  rw [if_pos c3] at H
  have c3b0 : (a0_0 == a1_0) = true := beq_iff_eq.mpr c3
  have c3b1 : (a0_0 != a1_0) = false := bne_eq_false_iff_eq.mpr c3
  clear c3
  by_cases c4 : a0_1 = a1_1
  ·
   rw [if_pos c4] at H
   have c4b0 : (a0_1 == a1_1) = true := beq_iff_eq.mpr c4
   have c4b1 : (a0_1 != a1_1) = false := bne_eq_false_iff_eq.mpr c4
   clear c4
   replace H := Option.bind_eq_some_iff.mp H
   obtain ⟨t887, A50, H⟩ := H
   replace H : (if t887 = true then (some true) else (some false)) = some r := H
   have A5 := A_ A50
   clear A50
   by_cases c6 : t887 = true
   ·
    subst c6
    have H1 : (some true) = some r := by rw [if_pos rfl] at H; exact H
    clear H
    have H := H1
    clear H1
    obtain rfl := Option.some.inj H
    go_enter Try.func35, Try.ntmps35
    go_wp2_with (first | (refine gd_ 2 ?_; refine bx_ 2 #[.int .i64 a0_0, .int .i64 a0_1, .slice A0_2 l0_2.length c0_2] 26 ?_; intro gb885 hg w7 hbox hb; have BK885 := A_ (hbox); have GW885 := A_ ((ts_ hg : w.heap.size ≤ gb885)); have GE885 := A_ ((ts_ hg : w.heap.size ≤ gb885)); replace HB := A_ (below_step tb_ hb); clear hb hbox hg) | (refine gd_ 3 ?_; refine bx_ 3 #[.int .i64 a1_0, .int .i64 a1_1, .slice A1_2 l1_2.length c1_2] 26 ?_; intro gb886 hg w8 hbox hb; have BK886 := A_ (hbox); have GW886 := A_ ((ts_ hg : w.heap.size ≤ gb886)); have GE886 := A_ ((ts_ hg : w.heap.size ≤ gb886)); replace HB := A_ (below_step tb_ hb); have NB885_886 := A_ ((by rw [hg]; exact Nat.ne_of_lt (blk_lt (g := gb885) (o := .cells #[.int .i64 a0_0, .int .i64 a0_1, .slice A0_2 l0_2.length c0_2] 26 (0, 0)) (tk_ BK885)) : gb885 ≠ gb886)); have NB886_885 := A_ ((by rw [hg]; exact Nat.ne_of_gt (blk_lt (g := gb885) (o := .cells #[.int .i64 a0_0, .int .i64 a0_1, .slice A0_2 l0_2.length c0_2] 26 (0, 0)) (tk_ BK885)) : gb886 ≠ gb885)); replace BK885 := A_ (blk_below (g := gb885) (o := .cells #[.int .i64 a0_0, .int .i64 a0_1, .slice A0_2 l0_2.length c0_2] 26 (0, 0)) (tk_ BK885) hb); clear hb hbox hg; have hnb9 := NB885_886.out; have hnc9 := NB886_885.out; obtain ⟨hcz10_0, hcz10_1, hcz10_2, hfz10_0, hfz10_1, hfz10_2⟩ := cf3_ BK885.out; obtain ⟨hcz11_0, hcz11_1, hcz11_2, hfz11_0, hfz11_1, hfz11_2⟩ := cf3_ BK886.out) | (refine gc_ 64 ?_; refine goesT_ (some 19) Try.func64 #[.slice A0_2 l0_2.length c0_2, .slice A1_2 l1_2.length c1_2] ?_; (with_reducible refine (laws_eqIntS.calls k _ _ l0_2 _ _ l1_2 true _ ?side1 ?side2 ?side3 ?side4 A5.out).mono ?_); (case side1 => exact tc_ HR0_2.out); (case side2 => exact HC0_2.out); (case side3 => exact tc_ HR1_2.out); (case side4 => exact HC1_2.out); rintro e w' ⟨rfl, ⟨nd, rfl⟩⟩; refine ⟨_, rfl, ?_⟩))
    go_ret
    exact ⟨te_, tb_⟩
   ·
    replace c6 := Bool.eq_false_iff.mpr c6
    subst c6
    have H1 : (some false) = some r := by rw [if_neg (show ¬ (false = true) by decide)] at H; exact H
    clear H
    have H := H1
    clear H1
    obtain rfl := Option.some.inj H
    go_enter Try.func35, Try.ntmps35
    go_wp2_with (first | (refine gd_ 2 ?_; refine bx_ 2 #[.int .i64 a0_0, .int .i64 a0_1, .slice A0_2 l0_2.length c0_2] 26 ?_; intro gb885 hg w12 hbox hb; have BK885 := A_ (hbox); have GW885 := A_ ((ts_ hg : w.heap.size ≤ gb885)); have GE885 := A_ ((ts_ hg : w.heap.size ≤ gb885)); replace HB := A_ (below_step tb_ hb); clear hb hbox hg) | (refine gd_ 3 ?_; refine bx_ 3 #[.int .i64 a1_0, .int .i64 a1_1, .slice A1_2 l1_2.length c1_2] 26 ?_; intro gb886 hg w13 hbox hb; have BK886 := A_ (hbox); have GW886 := A_ ((ts_ hg : w.heap.size ≤ gb886)); have GE886 := A_ ((ts_ hg : w.heap.size ≤ gb886)); replace HB := A_ (below_step tb_ hb); have NB885_886 := A_ ((by rw [hg]; exact Nat.ne_of_lt (blk_lt (g := gb885) (o := .cells #[.int .i64 a0_0, .int .i64 a0_1, .slice A0_2 l0_2.length c0_2] 26 (0, 0)) (tk_ BK885)) : gb885 ≠ gb886)); have NB886_885 := A_ ((by rw [hg]; exact Nat.ne_of_gt (blk_lt (g := gb885) (o := .cells #[.int .i64 a0_0, .int .i64 a0_1, .slice A0_2 l0_2.length c0_2] 26 (0, 0)) (tk_ BK885)) : gb886 ≠ gb885)); replace BK885 := A_ (blk_below (g := gb885) (o := .cells #[.int .i64 a0_0, .int .i64 a0_1, .slice A0_2 l0_2.length c0_2] 26 (0, 0)) (tk_ BK885) hb); clear hb hbox hg; have hnb14 := NB885_886.out; have hnc14 := NB886_885.out; obtain ⟨hcz15_0, hcz15_1, hcz15_2, hfz15_0, hfz15_1, hfz15_2⟩ := cf3_ BK885.out; obtain ⟨hcz16_0, hcz16_1, hcz16_2, hfz16_0, hfz16_1, hfz16_2⟩ := cf3_ BK886.out) | (refine gc_ 64 ?_; refine goesT_ (some 19) Try.func64 #[.slice A0_2 l0_2.length c0_2, .slice A1_2 l1_2.length c1_2] ?_; (with_reducible refine (laws_eqIntS.calls k _ _ l0_2 _ _ l1_2 false _ ?side1 ?side2 ?side3 ?side4 A5.out).mono ?_); (case side1 => exact tc_ HR0_2.out); (case side2 => exact HC0_2.out); (case side3 => exact tc_ HR1_2.out); (case side4 => exact HC1_2.out); rintro e w' ⟨rfl, ⟨nd, rfl⟩⟩; refine ⟨_, rfl, ?_⟩))
    go_ret
    exact ⟨te_, tb_⟩
  ·
   rw [if_neg c4] at H
   have c4b0 : (a0_1 == a1_1) = false := beq_eq_false_iff_ne.mpr c4
   have c4b1 : (a0_1 != a1_1) = true := bne_iff_ne.mpr c4
   obtain rfl := Option.some.inj H
   go_enter Try.func35, Try.ntmps35
   go_wp2_with (first | (refine gd_ 2 ?_; refine bx_ 2 #[.int .i64 a0_0, .int .i64 a0_1, .slice A0_2 l0_2.length c0_2] 26 ?_; intro gb885 hg w17 hbox hb; have BK885 := A_ (hbox); have GW885 := A_ ((ts_ hg : w.heap.size ≤ gb885)); have GE885 := A_ ((ts_ hg : w.heap.size ≤ gb885)); replace HB := A_ (below_step tb_ hb); clear hb hbox hg) | (refine gd_ 3 ?_; refine bx_ 3 #[.int .i64 a1_0, .int .i64 a1_1, .slice A1_2 l1_2.length c1_2] 26 ?_; intro gb886 hg w18 hbox hb; have BK886 := A_ (hbox); have GW886 := A_ ((ts_ hg : w.heap.size ≤ gb886)); have GE886 := A_ ((ts_ hg : w.heap.size ≤ gb886)); replace HB := A_ (below_step tb_ hb); have NB885_886 := A_ ((by rw [hg]; exact Nat.ne_of_lt (blk_lt (g := gb885) (o := .cells #[.int .i64 a0_0, .int .i64 a0_1, .slice A0_2 l0_2.length c0_2] 26 (0, 0)) (tk_ BK885)) : gb885 ≠ gb886)); have NB886_885 := A_ ((by rw [hg]; exact Nat.ne_of_gt (blk_lt (g := gb885) (o := .cells #[.int .i64 a0_0, .int .i64 a0_1, .slice A0_2 l0_2.length c0_2] 26 (0, 0)) (tk_ BK885)) : gb886 ≠ gb885)); replace BK885 := A_ (blk_below (g := gb885) (o := .cells #[.int .i64 a0_0, .int .i64 a0_1, .slice A0_2 l0_2.length c0_2] 26 (0, 0)) (tk_ BK885) hb); clear hb hbox hg; have hnb19 := NB885_886.out; have hnc19 := NB886_885.out; obtain ⟨hcz20_0, hcz20_1, hcz20_2, hfz20_0, hfz20_1, hfz20_2⟩ := cf3_ BK885.out; obtain ⟨hcz21_0, hcz21_1, hcz21_2, hfz21_0, hfz21_1, hfz21_2⟩ := cf3_ BK886.out))
   go_ret
   exact ⟨te_, tb_⟩
 ·
  rw [if_neg c3] at H
  have c3b0 : (a0_0 == a1_0) = false := beq_eq_false_iff_ne.mpr c3
  have c3b1 : (a0_0 != a1_0) = true := bne_iff_ne.mpr c3
  obtain rfl := Option.some.inj H
  go_enter Try.func35, Try.ntmps35
  go_wp2_with (first | (refine gd_ 2 ?_; refine bx_ 2 #[.int .i64 a0_0, .int .i64 a0_1, .slice A0_2 l0_2.length c0_2] 26 ?_; intro gb885 hg w22 hbox hb; have BK885 := A_ (hbox); have GW885 := A_ ((ts_ hg : w.heap.size ≤ gb885)); have GE885 := A_ ((ts_ hg : w.heap.size ≤ gb885)); replace HB := A_ (below_step tb_ hb); clear hb hbox hg) | (refine gd_ 3 ?_; refine bx_ 3 #[.int .i64 a1_0, .int .i64 a1_1, .slice A1_2 l1_2.length c1_2] 26 ?_; intro gb886 hg w23 hbox hb; have BK886 := A_ (hbox); have GW886 := A_ ((ts_ hg : w.heap.size ≤ gb886)); have GE886 := A_ ((ts_ hg : w.heap.size ≤ gb886)); replace HB := A_ (below_step tb_ hb); have NB885_886 := A_ ((by rw [hg]; exact Nat.ne_of_lt (blk_lt (g := gb885) (o := .cells #[.int .i64 a0_0, .int .i64 a0_1, .slice A0_2 l0_2.length c0_2] 26 (0, 0)) (tk_ BK885)) : gb885 ≠ gb886)); have NB886_885 := A_ ((by rw [hg]; exact Nat.ne_of_gt (blk_lt (g := gb885) (o := .cells #[.int .i64 a0_0, .int .i64 a0_1, .slice A0_2 l0_2.length c0_2] 26 (0, 0)) (tk_ BK885)) : gb886 ≠ gb885)); replace BK885 := A_ (blk_below (g := gb885) (o := .cells #[.int .i64 a0_0, .int .i64 a0_1, .slice A0_2 l0_2.length c0_2] 26 (0, 0)) (tk_ BK885) hb); clear hb hbox hg; have hnb24 := NB885_886.out; have hnc24 := NB886_885.out; obtain ⟨hcz25_0, hcz25_1, hcz25_2, hfz25_0, hfz25_1, hfz25_2⟩ := cf3_ BK885.out; obtain ⟨hcz26_0, hcz26_1, hcz26_2, hfz26_0, hfz26_1, hfz26_2⟩ := cf3_ BK886.out))
  go_ret
  exact ⟨te_, tb_⟩

/-! ### laws_FnExactCellOfColour: function 4 -/
def laws_FnExactCellOfColour.j0 : Nat → Bool → Int → Int → List Int → Int → Int → List Int → Option (Bool)
 | 0, _, _, _, _, _, _, _ => none
 | k + 1, x55, x889000, x889001, x889002, x904000, x904001, x904002 => if x55 = true then (some false) else ((laws_toBoard.f k x889000 x889001 x889002).bind fun bt907 => ((laws_eqBoard.f k x904000 x904001 x904002 bt907.1 bt907.2.1 bt907.2.2).bind fun t912 => (if t912 = true then (some true) else (some false))))
def laws_FnExactCellOfColour.f (k : Nat) (a0_0 : Int) (a0_1 : Int) (l0_2 : List Int) (a1 : Int) (a2 : Int) (a3 : Int) : Option (Bool) := (laws_szBoard.f a0_0 a0_1 l0_2 1048576).bind fun t889 => (if t889 < 0 then (some true) else ((laws_toBoard.f k a0_0 a0_1 l0_2).bind fun bt890 => ((spec_CellOfColour.f k bt890.1 bt890.2.1 bt890.2.2 a1 a2 a3).bind fun bt895 => ((laws_toBoard.f k a0_0 a0_1 l0_2).bind fun bt898 => ((impl_CellOfColour.f k bt898.1 bt898.2.1 bt898.2.2 a1 a2 a3).bind fun bt904 => (if bt904.1 = bt895.1 then (if bt904.2.1 = bt895.2.1 then (laws_FnExactCellOfColour.j0 k (bt904.2.2 != bt895.2.2) a0_0 a0_1 l0_2 bt898.1 bt898.2.1 bt898.2.2) else (laws_FnExactCellOfColour.j0 k true a0_0 a0_1 l0_2 bt898.1 bt898.2.1 bt898.2.2)) else (laws_FnExactCellOfColour.j0 k true a0_0 a0_1 l0_2 bt898.1 bt898.2.1 bt898.2.2)))))))
theorem laws_FnExactCellOfColour.mono_l : ∀ k, (∀ y0 y1 y2 y3 y4 y5 y6, LeO (laws_FnExactCellOfColour.j0 k y0 y1 y2 y3 y4 y5 y6) (laws_FnExactCellOfColour.j0 (k + 1) y0 y1 y2 y3 y4 y5 y6))
 | 0 => fun _ _ _ _ _ _ _ r h => by simp [laws_FnExactCellOfColour.j0] at h
 | k + 1 => by
  have ih0 := laws_FnExactCellOfColour.mono_l k
  ·
   intro y0 y1 y2 y3 y4 y5 y6
   unfold laws_FnExactCellOfColour.j0
   repeat' first | (with_reducible first | exact ih0 _ _ _ _ _ _ _ | exact impl_CellOfColour.mono _ _ _ _ _ _ _ | exact laws_eqBoard.mono _ _ _ _ _ _ _ | exact laws_toBoard.mono _ _ _ _ | exact spec_CellOfColour.mono _ _ _ _ _ _ _ | exact LeO.refl _ | exact LeO.none _ | refine LeO.ite ?_ ?_ | refine LeO.bind ?_ (fun _ => ?_)) | exact ih0 _ _ _ _ _ _ _ | exact impl_CellOfColour.mono _ _ _ _ _ _ _ | exact laws_eqBoard.mono _ _ _ _ _ _ _ | exact laws_toBoard.mono _ _ _ _ | exact spec_CellOfColour.mono _ _ _ _ _ _ _ | exact LeO.none _ | refine LeO.ite ?_ ?_ | refine LeO.bind ?_ (fun _ => ?_)
theorem laws_FnExactCellOfColour.mono : ∀ a0 a1 a2 a3 a4 a5 k, LeO (laws_FnExactCellOfColour.f k a0 a1 a2 a3 a4 a5) (laws_FnExactCellOfColour.f (k + 1) a0 a1 a2 a3 a4 a5) := by
 intro a0 a1 a2 a3 a4 a5 k
 have ih0 := laws_FnExactCellOfColour.mono_l k
 unfold laws_FnExactCellOfColour.f
 repeat' first | (with_reducible first | exact ih0 _ _ _ _ _ _ _ | exact impl_CellOfColour.mono _ _ _ _ _ _ _ | exact laws_eqBoard.mono _ _ _ _ _ _ _ | exact laws_toBoard.mono _ _ _ _ | exact spec_CellOfColour.mono _ _ _ _ _ _ _ | exact LeO.refl _ | exact LeO.none _ | refine LeO.ite ?_ ?_ | refine LeO.bind ?_ (fun _ => ?_)) | exact ih0 _ _ _ _ _ _ _ | exact impl_CellOfColour.mono _ _ _ _ _ _ _ | exact laws_eqBoard.mono _ _ _ _ _ _ _ | exact laws_toBoard.mono _ _ _ _ | exact spec_CellOfColour.mono _ _ _ _ _ _ _ | exact LeO.none _ | refine LeO.ite ?_ ?_ | refine LeO.bind ?_ (fun _ => ?_)
theorem laws_FnExactCellOfColour.calls (k : Nat) (a0_0 : Int) (a0_1 : Int) (A0_2 : Option Addr) (c0_2 : Nat) (l0_2 : List Int) (a1 : Int) (a2 : Int) (a3 : Int) (r : Bool) (w : World) (hr0_2 : Kd.C (Kd.int .i64) w A0_2 l0_2.length l0_2) (hc0_2 : l0_2.length ≤ c0_2) (h : laws_FnExactCellOfColour.f k a0_0 a0_1 l0_2 a1 a2 a3 = some r) :
  Calls Try.prog 4 #[.agg #[.int .i64 a0_0, .int .i64 a0_1, .slice A0_2 l0_2.length c0_2], .int .i64 a1, .int .i64 a2, .int .i64 a3] w fun e w' => e = .returned (.bool r) ∧ Below w.heap.size w w' := by
 have hu44 := Try.underlying44
 have hu26 := Try.underlying26
 have HR0_2 := A_ hr0_2
 have HC0_2 := A_ hc0_2
 clear hr0_2 hc0_2
 have HB := A_ (Below.refl w.heap.size w)
 have H : ((laws_szBoard.f a0_0 a0_1 l0_2 1048576).bind fun t889 => (if t889 < 0 then (some true) else ((laws_toBoard.f k a0_0 a0_1 l0_2).bind fun bt890 => ((spec_CellOfColour.f k bt890.1 bt890.2.1 bt890.2.2 a1 a2 a3).bind fun bt895 => ((laws_toBoard.f k a0_0 a0_1 l0_2).bind fun bt898 => ((impl_CellOfColour.f k bt898.1 bt898.2.1 bt898.2.2 a1 a2 a3).bind fun bt904 => (if bt904.1 = bt895.1 then (if bt904.2.1 = bt895.2.1 then (laws_FnExactCellOfColour.j0 k (bt904.2.2 != bt895.2.2) a0_0 a0_1 l0_2 bt898.1 bt898.2.1 bt898.2.2) else (laws_FnExactCellOfColour.j0 k true a0_0 a0_1 l0_2 bt898.1 bt898.2.1 bt898.2.2)) else (laws_FnExactCellOfColour.j0 k true a0_0 a0_1 l0_2 bt898.1 bt898.2.1 bt898.2.2)))))))) = some r := h
 clear h
 replace H := Option.bind_eq_some_iff.mp H
 obtain ⟨t889, A50, H⟩ := H
 replace H : (if t889 < 0 then (some true) else ((laws_toBoard.f k a0_0 a0_1 l0_2).bind fun bt890 => ((spec_CellOfColour.f k bt890.1 bt890.2.1 bt890.2.2 a1 a2 a3).bind fun bt895 => ((laws_toBoard.f k a0_0 a0_1 l0_2).bind fun bt898 => ((impl_CellOfColour.f k bt898.1 bt898.2.1 bt898.2.2 a1 a2 a3).bind fun bt904 => (if bt904.1 = bt895.1 then (if bt904.2.1 = bt895.2.1 then (laws_FnExactCellOfColour.j0 k (bt904.2.2 != bt895.2.2) a0_0 a0_1 l0_2 bt898.1 bt898.2.1 bt898.2.2) else (laws_FnExactCellOfColour.j0 k true a0_0 a0_1 l0_2 bt898.1 bt898.2.1 bt898.2.2)) else (laws_FnExactCellOfColour.j0 k true a0_0 a0_1 l0_2 bt898.1 bt898.2.1 bt898.2.2))))))) = some r := H
 have A5 := A_ A50
 clear A50
 by_cases c6 : t889 < 0
 ·
  rw [if_pos c6] at H
  have c6b0 := decide_eq_true c6
  clear c6
  obtain rfl := Option.some.inj H
  go_enter Try.func4, Try.ntmps4
  go_wp2_with (first | (refine gd_ 4 ?_; refine bx_ 4 #[.int .i64 a0_0, .int .i64 a0_1, .slice A0_2 l0_2.length c0_2] 44 ?_; intro gb888 hg w7 hbox hb; have BK888 := A_ (hbox); have GW888 := A_ ((ts_ hg : w.heap.size ≤ gb888)); have GE888 := A_ ((ts_ hg : w.heap.size ≤ gb888)); replace HB := A_ (below_step tb_ hb); clear hb hbox hg; obtain ⟨hcz8_0, hcz8_1, hcz8_2, hfz8_0, hfz8_1, hfz8_2⟩ := cf3_ BK888.out) | (refine gc_ 31 ?_; refine goesT_ (some 19) Try.func31 #[.agg #[.int .i64 a0_0, .int .i64 a0_1, .slice A0_2 l0_2.length c0_2], .int .i64 1048576] ?_; (with_reducible refine (laws_szBoard.calls a0_0 a0_1 _ _ l0_2 1048576 t889 _ ?side1 ?side2 A5.out).mono ?_); (case side1 => exact tc_ HR0_2.out); (case side2 => exact HC0_2.out); rintro e w9 ⟨rfl, hb⟩; refine ⟨_, rfl, ?_⟩; replace BK888 := A_ (blk_below (g := gb888) (o := .cells #[.int .i64 a0_0, .int .i64 a0_1, .slice A0_2 l0_2.length c0_2] 44 (0, 0)) (tk_ BK888) hb); replace HB := A_ (below_step tb_ hb); (try clear hb)))
  go_ret
  exact ⟨te_, tb_⟩
 ·
  rw [if_neg c6] at H
  have c6b0 := decide_eq_false c6
  clear c6
  replace H := Option.bind_eq_some_iff.mp H
  obtain ⟨⟨t890, t891, t892⟩, A100, H⟩ := H
  replace H : ((spec_CellOfColour.f k t890 t891 t892 a1 a2 a3).bind fun bt895 => ((laws_toBoard.f k a0_0 a0_1 l0_2).bind fun bt898 => ((impl_CellOfColour.f k bt898.1 bt898.2.1 bt898.2.2 a1 a2 a3).bind fun bt904 => (if bt904.1 = bt895.1 then (if bt904.2.1 = bt895.2.1 then (laws_FnExactCellOfColour.j0 k (bt904.2.2 != bt895.2.2) a0_0 a0_1 l0_2 bt898.1 bt898.2.1 bt898.2.2) else (laws_FnExactCellOfColour.j0 k true a0_0 a0_1 l0_2 bt898.1 bt898.2.1 bt898.2.2)) else (laws_FnExactCellOfColour.j0 k true a0_0 a0_1 l0_2 bt898.1 bt898.2.1 bt898.2.2))))) = some r := H
  have A10 := A_ A100
  clear A100
  replace H := Option.bind_eq_some_iff.mp H
  obtain ⟨⟨t895, t896, t897⟩, A110, H⟩ := H
  replace H : ((laws_toBoard.f k a0_0 a0_1 l0_2).bind fun bt898 => ((impl_CellOfColour.f k bt898.1 bt898.2.1 bt898.2.2 a1 a2 a3).bind fun bt904 => (if bt904.1 = t895 then (if bt904.2.1 = t896 then (laws_FnExactCellOfColour.j0 k (bt904.2.2 != t897) a0_0 a0_1 l0_2 bt898.1 bt898.2.1 bt898.2.2) else (laws_FnExactCellOfColour.j0 k true a0_0 a0_1 l0_2 bt898.1 bt898.2.1 bt898.2.2)) else (laws_FnExactCellOfColour.j0 k true a0_0 a0_1 l0_2 bt898.1 bt898.2.1 bt898.2.2)))) = some r := H
  have A11 := A_ A110
  clear A110
  replace H := Option.bind_eq_some_iff.mp H
  obtain ⟨⟨t898, t899, t900⟩, A120, H⟩ := H
  replace H : ((impl_CellOfColour.f k t898 t899 t900 a1 a2 a3).bind fun bt904 => (if bt904.1 = t895 then (if bt904.2.1 = t896 then (laws_FnExactCellOfColour.j0 k (bt904.2.2 != t897) a0_0 a0_1 l0_2 t898 t899 t900) else (laws_FnExactCellOfColour.j0 k true a0_0 a0_1 l0_2 t898 t899 t900)) else (laws_FnExactCellOfColour.j0 k true a0_0 a0_1 l0_2 t898 t899 t900))) = some r := H
  have A12 := A_ A120
  clear A120
  replace H := Option.bind_eq_some_iff.mp H
  obtain ⟨⟨t904, t905, t906⟩, A130, H⟩ := H
  replace H : (if t904 = t895 then (if t905 = t896 then (laws_FnExactCellOfColour.j0 k (t906 != t897) a0_0 a0_1 l0_2 t898 t899 t900) else (laws_FnExactCellOfColour.j0 k true a0_0 a0_1 l0_2 t898 t899 t900)) else (laws_FnExactCellOfColour.j0 k true a0_0 a0_1 l0_2 t898 t899 t900)) = some r := H
  have A13 := A_ A130
  clear A130
  have HC14 := A_ H
  clear H
  go_enter Try.func4, Try.ntmps4
  go_upto_region 8 with (first | (refine gd_ 4 ?_; refine bx_ 4 #[.int .i64 a0_0, .int .i64 a0_1, .slice A0_2 l0_2.length c0_2] 44 ?_; intro gb888 hg w15 hbox hb; have BK888 := A_ (hbox); have GW888 := A_ ((ts_ hg : w.heap.size ≤ gb888)); have GE888 := A_ ((ts_ hg : w.heap.size ≤ gb888)); replace HB := A_ (below_step tb_ hb); clear hb hbox hg; obtain ⟨hcz16_0, hcz16_1, hcz16_2, hfz16_0, hfz16_1, hfz16_2⟩ := cf3_ BK888.out) | (refine gc_ 31 ?_; refine goesT_ (some 19) Try.func31 #[.agg #[.int .i64 a0_0, .int .i64 a0_1, .slice A0_2 l0_2.length c0_2], .int .i64 1048576] ?_; (with_reducible refine (laws_szBoard.calls a0_0 a0_1 _ _ l0_2 1048576 t889 _ ?side1 ?side2 A5.out).mono ?_); (case side1 => exact tc_ HR0_2.out); (case side2 => exact HC0_2.out); rintro e w17 ⟨rfl, hb⟩; refine ⟨_, rfl, ?_⟩; replace BK888 := A_ (blk_below (g := gb888) (o := .cells #[.int .i64 a0_0, .int .i64 a0_1, .slice A0_2 l0_2.length c0_2] 44 (0, 0)) (tk_ BK888) hb); replace HB := A_ (below_step tb_ hb); (try clear hb); obtain ⟨hcz18_0, hcz18_1, hcz18_2, hfz18_0, hfz18_1, hfz18_2⟩ := cf3_ BK888.out) | (refine gc_ 33 ?_; refine goesT_ (some 24) Try.func33 #[.agg #[.int .i64 a0_0, .int .i64 a0_1, .slice A0_2 l0_2.length c0_2]] ?_; (with_reducible refine (laws_toBoard.calls k a0_0 a0_1 _ _ l0_2 t890 t891 t892 _ ?side1 ?side2 A10.out).mono ?_); (case side1 => exact tc_ HR0_2.out); (case side2 => exact HC0_2.out); rintro e w19 ⟨v893, rfl, ho0, hb⟩; refine ⟨_, rfl, ?_⟩; have HO894 := A_ (Kd.R_lower ho0 (below_size tb_)); replace BK888 := A_ (blk_below (g := gb888) (o := .cells #[.int .i64 a0_0, .int .i64 a0_1, .slice A0_2 l0_2.length c0_2] 44 (0, 0)) (tk_ BK888) hb); replace HB := A_ (below_step tb_ hb); (try clear hb); (try clear ho0); obtain ⟨Ao20, co20, eo20⟩ := Kd.R_slice HO894.out; subst eo20) | (refine gc_ 32 ?_; refine goesT_ (some 28) Try.func32 #[.agg #[.int .i64 t890, .int .i64 t891, .slice Ao20 t892.length co20], .int .i64 a1, .int .i64 a2, .int .i64 a3] ?_; (with_reducible refine (spec_CellOfColour.calls k t890 t891 _ _ t892 a1 a2 a3 t895 t896 t897 _ ?side1 ?side2 A11.out).mono ?_); (case side1 => exact tc0_ (Kd.R_reads' HO894.out).2.2); (case side2 => exact (Kd.R_reads' HO894.out).2.1); rintro e w21 ⟨rfl, hb⟩; refine ⟨_, rfl, ?_⟩; replace HO894 := A_ (Kd.R_below (tr_x HO894.out) hb); replace BK888 := A_ (blk_below (g := gb888) (o := .cells #[.int .i64 a0_0, .int .i64 a0_1, .slice A0_2 l0_2.length c0_2] 44 (0, 0)) (tk_ BK888) hb); replace HB := A_ (below_step tb_ hb); (try clear hb); obtain ⟨hcz22_0, hcz22_1, hcz22_2, hfz22_0, hfz22_1, hfz22_2⟩ := cf3_ BK888.out) | (refine gc_ 33 ?_; refine goesT_ (some 33) Try.func33 #[.agg #[.int .i64 a0_0, .int .i64 a0_1, .slice A0_2 l0_2.length c0_2]] ?_; (with_reducible refine (laws_toBoard.calls k a0_0 a0_1 _ _ l0_2 t898 t899 t900 _ ?side1 ?side2 A12.out).mono ?_); (case side1 => exact tc_ HR0_2.out); (case side2 => exact HC0_2.out); rintro e w23 ⟨v901, rfl, ho0, hb⟩; refine ⟨_, rfl, ?_⟩; have HO902 := A_ (Kd.R_lower (Kd.R_new' ho0 (Kd.R_lt (tr_x HO894.out))) (below_size tb_)); replace HO894 := A_ (Kd.R_elder' (tr_x HO894.out) (Kd.R_base ho0) hb); replace BK888 := A_ (blk_below (g := gb888) (o := .cells #[.int .i64 a0_0, .int .i64 a0_1, .slice A0_2 l0_2.length c0_2] 44 (0, 0)) (tk_ BK888) hb); replace HB := A_ (below_step tb_ hb); (try clear hb); (try clear ho0)) | (refine gd_ 13 ?_; refine bx_ 13 #[.int .i64 0, .int .i64 0, .slice none 0 0] 26 ?_; intro gb903 hg w24 hbox hb; replace HO894 := A_ (Kd.R_below (tr_x HO894.out) hb); replace HO902 := A_ (Kd.R_below (tr_x HO902.out) hb); have BK903 := A_ (hbox); have GW903 := A_ ((ts_ hg : w.heap.size ≤ gb903)); have GE903 := A_ ((ts_ hg : w.heap.size ≤ gb903)); replace HB := A_ (below_step tb_ hb); have NB888_903 := A_ ((by rw [hg]; exact Nat.ne_of_lt (blk_lt (g := gb888) (o := .cells #[.int .i64 a0_0, .int .i64 a0_1, .slice A0_2 l0_2.length c0_2] 44 (0, 0)) (tk_ BK888)) : gb888 ≠ gb903)); have NB903_888 := A_ ((by rw [hg]; exact Nat.ne_of_gt (blk_lt (g := gb888) (o := .cells #[.int .i64 a0_0, .int .i64 a0_1, .slice A0_2 l0_2.length c0_2] 44 (0, 0)) (tk_ BK888)) : gb903 ≠ gb888)); replace BK888 := A_ (blk_below (g := gb888) (o := .cells #[.int .i64 a0_0, .int .i64 a0_1, .slice A0_2 l0_2.length c0_2] 44 (0, 0)) (tk_ BK888) hb); clear hb hbox hg; have hnb25 := NB903_888.out; have hnc25 := NB888_903.out; obtain ⟨hcz26_0, hcz26_1, hcz26_2, hfz26_0, hfz26_1, hfz26_2⟩ := cf3_ BK903.out; obtain ⟨Ao27, co27, eo27⟩ := Kd.R_slice HO902.out; subst eo27) | (refine gc_ 34 ?_; refine goesT_ (some 39) Try.func34 #[.agg #[.int .i64 t898, .int .i64 t899, .slice Ao27 t900.length co27], .int .i64 a1, .int .i64 a2, .int .i64 a3] ?_; (with_reducible refine (impl_CellOfColour.calls k t898 t899 _ _ t900 a1 a2 a3 t904 t905 t906 _ ?side1 ?side2 A13.out).mono ?_); (case side1 => refine (Kd.R_reads' (e := 3) (base := w.heap.size) (ok := fun k_ => (True ∧ some k_ ≠ (.slice Ao20 t892.length co20 : Value).ownBlock)) (n := t900.length) (c := co27) ?_).2.2; exact (tr_ (h := by exact (Kd.R_mono (Kd.R_far (p := ⟨gb903, 2, none⟩) (Kd.R_far (p := ⟨gb903, 1, none⟩) (Kd.R_far (p := ⟨gb903, 0, none⟩) (Kd.R_types HO902.out BK903.out (by decide)) (fun _ hk => hk.2) (.int .i64 t898)) (fun _ hk => hk.2) (.int .i64 t899)) (fun _ hk => hk.2) (.slice Ao27 t900.length co27)) (fun _ h_ => h_.1))))); (case side2 => exact (Kd.R_reads' HO902.out).2.1); rintro e w28 ⟨rfl, hb⟩; refine ⟨_, rfl, ?_⟩; replace HO894 := A_ (Kd.R_below (tr_ (h := by exact (Kd.R_mono (Kd.R_far (p := ⟨gb903, 2, none⟩) (Kd.R_far (p := ⟨gb903, 1, none⟩) (Kd.R_far (p := ⟨gb903, 0, none⟩) (Kd.R_types HO894.out BK903.out (by decide)) (fun _ hk => hk.2) (.int .i64 t898)) (fun _ hk => hk.2) (.int .i64 t899)) (fun _ hk => hk.2) (.slice Ao27 t900.length co27)) (fun _ h_ => h_.1)))) hb); replace HO902 := A_ (Kd.R_below (tr_ (h := by exact (Kd.R_mono (Kd.R_far (p := ⟨gb903, 2, none⟩) (Kd.R_far (p := ⟨gb903, 1, none⟩) (Kd.R_far (p := ⟨gb903, 0, none⟩) (Kd.R_types HO902.out BK903.out (by decide)) (fun _ hk => hk.2) (.int .i64 t898)) (fun _ hk => hk.2) (.int .i64 t899)) (fun _ hk => hk.2) (.slice Ao27 t900.length co27)) (fun _ h_ => h_.1)))) hb); replace BK888 := A_ (blk_below (g := gb888) (o := .cells #[.int .i64 a0_0, .int .i64 a0_1, .slice A0_2 l0_2.length c0_2] 44 (0, 0)) (tk_ BK888) hb); replace BK903 := A_ (blk_below (g := gb903) (o := .cells #[.int .i64 t898, .int .i64 t899, .slice Ao27 t900.length co27] 26 (0, 0)) (by (with_reducible repeat (first | refine blk_drewN ?_ _ | refine blk_drew ?_ | refine blk_alloc ?_ _)); refine blk_put (cs := #[.int .i64 t898, .int .i64 t899, .slice none 0 0]) ?_ 2 _ rfl; (with_reducible repeat (first | refine blk_drewN ?_ _ | refine blk_drew ?_ | refine blk_alloc ?_ _)); refine blk_put (cs := #[.int .i64 t898, .int .i64 0, .slice none 0 0]) ?_ 1 _ rfl; (with_reducible repeat (first | refine blk_drewN ?_ _ | refine blk_drew ?_ | refine blk_alloc ?_ _)); refine blk_put (cs := #[.int .i64 0, .int .i64 0, .slice none 0 0]) ?_ 0 _ rfl; (with_reducible repeat (first | refine blk_drewN ?_ _ | refine blk_drew ?_ | refine blk_alloc ?_ _)); exact BK903.out) hb); replace HB := A_ (below_step tb_ hb); (try clear hb)))
  (try simp only [Act.put, List.setIfInBounds_toArray, List.set_cons_zero, List.set_cons_succ])
  go_cut [55] (fun v55 wc => ∃ (kq : Nat) (x55_13 : Bool), v55 = .bool x55_13 ∧ Aside0 (laws_FnExactCellOfColour.j0 kq x55_13 a0_0 a0_1 l0_2 t898 t899 t900 = some r) ∧ Aside0 (kq ≤ k) ∧ Aside0 (Kd.R (Kd.int .i64) 3 wc w.heap.size (fun _ => True) (.slice Ao27 t900.length co27) t900) ∧ Aside0 (wc.heap[gb888]? = some (.cells #[.int .i64 a0_0, .int .i64 a0_1, (.slice A0_2 l0_2.length c0_2)] 44 (0, 0))) ∧ Aside0 (wc.heap[gb903]? = some (.cells #[.int .i64 t898, .int .i64 t899, (.slice Ao27 t900.length co27)] 26 (0, 0))) ∧ Aside0 (Below w.heap.size w wc))
  case first =>
   have H := HC14.out
   clear HC14
   by_cases c29 : t904 = t895
   ·
    rw [if_pos c29] at H
    have c29b0 : (t904 == t895) = true := beq_iff_eq.mpr c29
    have c29b1 : (t904 != t895) = false := bne_eq_false_iff_eq.mpr c29
    clear c29
    (first | rw [c29b0] | (simp only [i64_w, i32_w]; rw [c29b0]) | skip)
    by_cases c30 : t905 = t896
    ·
     rw [if_pos c30] at H
     have c30b0 : (t905 == t896) = true := beq_iff_eq.mpr c30
     have c30b1 : (t905 != t896) = false := bne_eq_false_iff_eq.mpr c30
     clear c30
     have H' := A_ H
     clear H
     go_wp2
     go_meet
     case rel => exact ⟨_, ((t906 != t897)), tf_, H', ⟨by first | omega | exact Nat.le_refl _⟩, ⟨by (with_reducible repeat (first | apply Kd.R_alloc | apply Kd.R_drewN | apply Kd.R_drew)); exact Kd.R_mono HO902.out (fun _ hk => trivial)⟩, ⟨tk_ BK888⟩, ⟨tk_ BK903⟩, ⟨tb_⟩⟩
    ·
     rw [if_neg c30] at H
     have c30b0 : (t905 == t896) = false := beq_eq_false_iff_ne.mpr c30
     have c30b1 : (t905 != t896) = true := bne_iff_ne.mpr c30
     have H' := A_ H
     clear H
     go_wp2
     go_meet
     case rel => exact ⟨_, (true), tf_, H', ⟨by first | omega | exact Nat.le_refl _⟩, ⟨by (with_reducible repeat (first | apply Kd.R_alloc | apply Kd.R_drewN | apply Kd.R_drew)); exact Kd.R_mono HO902.out (fun _ hk => trivial)⟩, ⟨tk_ BK888⟩, ⟨tk_ BK903⟩, ⟨tb_⟩⟩
   ·
    rw [if_neg c29] at H
    have c29b0 : (t904 == t895) = false := beq_eq_false_iff_ne.mpr c29
    have c29b1 : (t904 != t895) = true := bne_iff_ne.mpr c29
    (first | rw [c29b0] | (simp only [i64_w, i32_w]; rw [c29b0]) | skip)
    have H' := A_ H
    clear H
    go_wp2
    go_meet
    case rel => exact ⟨_, (true), tf_, H', ⟨by first | omega | exact Nat.le_refl _⟩, ⟨by (with_reducible repeat (first | apply Kd.R_alloc | apply Kd.R_drewN | apply Kd.R_drew)); exact Kd.R_mono HO902.out (fun _ hk => trivial)⟩, ⟨tk_ BK888⟩, ⟨tk_ BK903⟩, ⟨tb_⟩⟩
  case rest =>
   clear HC14
   try clear c2
   try clear p2
   try clear c3
   try clear c4
   try clear c6
   try clear c6b0
   try clear c25
   try clear c29
   try clear c29b0
   try clear c29b1
   try clear c30
   try clear c30b0
   try clear c30b1
   try clear hcz16_0
   try clear hcz16_1
   try clear hcz16_2
   try clear hcz18_0
   try clear hcz18_1
   try clear hcz18_2
   try clear hcz22_0
   try clear hcz22_1
   try clear hcz22_2
   try clear hcz26_0
   try clear hcz26_1
   try clear hcz26_2
   try clear hcz8_0
   try clear hcz8_1
   try clear hcz8_2
   try clear hfz16_0
   try clear hfz16_1
   try clear hfz16_2
   try clear hfz18_0
   try clear hfz18_1
   try clear hfz18_2
   try clear hfz22_0
   try clear hfz22_1
   try clear hfz22_2
   try clear hfz26_0
   try clear hfz26_1
   try clear hfz26_2
   try clear hfz8_0
   try clear hfz8_1
   try clear hfz8_2
   obtain ⟨kq, x55_13, rfl, HA, HJ13, HO_904002, BK888, BK903, HB⟩ := hcut
   cases kq with
   | zero => exact absurd HA.out (by simp [laws_FnExactCellOfColour.j0])
   | succ kj13 =>
    have H := HA.out
    clear HA
    simp only [laws_FnExactCellOfColour.j0] at H
    by_cases c31 : x55_13 = true
    ·
     subst c31
     have H1 : (some false) = some r := by rw [if_pos rfl] at H; exact H
     clear H
     have H := H1
     clear H1
     obtain rfl := Option.some.inj H
     go_wp2
     go_ret
     exact ⟨te_, tb_⟩
    ·
     replace c31 := Bool.eq_false_iff.mpr c31
     subst c31
     have H1 : ((laws_toBoard.f kj13 a0_0 a0_1 l0_2).bind fun bt907 => ((laws_eqBoard.f kj13 t898 t899 t900 bt907.1 bt907.2.1 bt907.2.2).bind fun t912 => (if t912 = true then (some true) else (some false)))) = some r := by rw [if_neg (show ¬ (false = true) by decide)] at H; exact H
     clear H
     have H := H1
     clear H1
     replace H := Option.bind_eq_some_iff.mp H
     obtain ⟨⟨t907, t908, t909⟩, A320, H⟩ := H
     replace H : ((laws_eqBoard.f kj13 t898 t899 t900 t907 t908 t909).bind fun t912 => (if t912 = true then (some true) else (some false))) = some r := H
     have A32 := A_ A320
     clear A320
     replace H := Option.bind_eq_some_iff.mp H
     obtain ⟨t912, A330, H⟩ := H
     replace H : (if t912 = true then (some true) else (some false)) = some r := H
     have A33 := A_ A330
     clear A330
     by_cases c34 : t912 = true
     ·
      subst c34
      have H1 : (some true) = some r := by rw [if_pos rfl] at H; exact H
      clear H
      have H := H1
      clear H1
      obtain rfl := Option.some.inj H
      try go_wp2
      have n0_ := A_ (Kd.R_drew HO_904002.out)
      have n1_ := A_ (blk_drew BK888.out)
      have n2_ := A_ (blk_drew BK903.out)
      have n3_ := A_ (below_drew1 HB.out)
      clear HO_904002
      clear BK888
      clear BK903
      clear HB
      have HO_904002 := n0_
      have BK888 := n1_
      have BK903 := n2_
      have HB := n3_
      clear n0_ n1_ n2_ n3_
      refine start_ (n := 5) (S := fun w' => w'.cell? ⟨gb903, 0, none⟩ = some (.int .i64 t898) ∧ w'.cell? ⟨gb903, 1, none⟩ = some (.int .i64 t899) ∧ w'.cell? ⟨gb903, 2, none⟩ = some (.slice Ao27 t900.length co27) ∧ w'.cell? ⟨gb888, 0, none⟩ = some (.int .i64 a0_0) ∧ w'.cell? ⟨gb888, 1, none⟩ = some (.int .i64 a0_1) ∧ w'.cell? ⟨gb888, 2, none⟩ = some (.slice A0_2 l0_2.length c0_2)) (ds := []) (Fn.bl 5 0) (by kernel_rfl) rfl rfl ⟨(blk_cell BK903.out 0).trans rfl, (blk_cell BK903.out 1).trans rfl, (blk_cell BK903.out 2).trans rfl, (blk_cell BK888.out 0).trans rfl, (blk_cell BK888.out 1).trans rfl, (blk_cell BK888.out 2).trans rfl⟩ (fun hHeld => ?_)
      generalize wc.drew = w35 at HO_904002 BK888 BK903 HB hHeld ⊢
      refine take_ (i := 0) (N := some 56) (v := ?_) (a' := ?_) (Fn.bl 5 1) rfl rfl (by kernel_rfl) (fun _ _ _ h => h) (Or.inl ⟨by rfl, ?_⟩) hHeld ?_ ?_
      rotate_left
      ·
       rintro w' ⟨s0, s1, s2, s3, s4, s5⟩
       go_simp
       with_reducible rfl
      rotate_left
      ·
       simp only [Act.put, List.setIfInBounds_toArray, List.set_cons_zero, List.set_cons_succ, i64_w, i32_w]
       rfl
      refine take_ (i := 1) (N := some 57) (v := ?_) (a' := ?_) (Fn.bl 5 3) rfl rfl (by kernel_rfl) (fun _ _ _ h => h) (Or.inl ⟨by rfl, ?_⟩) hHeld ?_ ?_
      rotate_left
      ·
       rintro w' ⟨s0, s1, s2, s3, s4, s5⟩
       go_simp
       with_reducible rfl
      rotate_left
      ·
       simp only [Act.put, List.setIfInBounds_toArray, List.set_cons_zero, List.set_cons_succ, i64_w, i32_w]
       rfl
      refine one_ (i := 2) (N := some 58) (Fn.bl 5 7) rfl rfl (by kernel_rfl) (by decide) (fun K hK => ?_)
      refine goes_ Try.func33 (by kernel_rfl) rfl #[.agg #[.int .i64 a0_0, .int .i64 a0_1, .slice A0_2 l0_2.length c0_2]] (by rfl) rfl rfl ta_ ?_
      with_reducible refine (laws_toBoard.calls kj13 a0_0 a0_1 _ _ l0_2 t907 t908 t909 _ ?side1 ?side2 A32.out).mono ?_
      (case side1 => exact tc_ HR0_2.out)
      (case side2 => exact HC0_2.out)
      rintro e w36 ⟨v910, rfl, ho0, hb⟩
      refine ⟨_, rfl, ?_⟩
      have n0_ := A_ (Kd.R_elder' (tr_x HO_904002.out) (Kd.R_base ho0) hb)
      have n1_ := A_ (Kd.R_lower (Kd.R_new' ho0 (Kd.R_lt (tr_x HO_904002.out))) (below_size tb_))
      have n2_ := A_ (blk_below (g := gb888) (o := .cells #[.int .i64 a0_0, .int .i64 a0_1, .slice A0_2 l0_2.length c0_2] 44 (0, 0)) (tk_ BK888) hb)
      have n3_ := A_ (blk_below (g := gb903) (o := .cells #[.int .i64 t898, .int .i64 t899, .slice Ao27 t900.length co27] 26 (0, 0)) (tk_ BK903) hb)
      have n4_ := A_ (below_step tb_ hb)
      clear HO_904002
      clear BK888
      clear BK903
      clear HB
      have HO_904002 := n0_
      have HO911 := n1_
      have BK888 := n2_
      have BK903 := n3_
      have HB := n4_
      clear n0_ n1_ n2_ n3_ n4_
      (try clear hb)
      (try clear hb2)
      (try clear hk)
      (try clear hi)
      (try clear ho0)
      obtain ⟨Ao37, co37, eo37⟩ := Kd.R_slice HO911.out
      (first | subst eo37 | (injection eo37 with f1_ f2_ f3_; have f4_ := f1_.symm; have f5_ := f3_.symm; clear f1_ f2_ f3_; subst f4_; subst f5_))
      refine hK.out _ _ ⟨(blk_cell BK903.out 0).trans rfl, (blk_cell BK903.out 1).trans rfl, (blk_cell BK903.out 2).trans rfl, (blk_cell BK888.out 0).trans rfl, (blk_cell BK888.out 1).trans rfl, (blk_cell BK888.out 2).trans rfl⟩ (fun hHeld => ?_)
      clear hK K
      refine norm_ (a' := ?_) ?_ ?_
      rotate_left
      ·
       show Act.put _ (some 58) _ = _
       simp only [Act.put, List.setIfInBounds_toArray, List.set_cons_zero, List.set_cons_succ, i64_w, i32_w]
       rfl
      refine one_ (i := 3) (N := some 59) (Fn.bl 5 15) rfl rfl (by kernel_rfl) (by decide) (fun K hK => ?_)
      refine goes_ Try.func35 (by kernel_rfl) rfl #[.agg #[.int .i64 t898, .int .i64 t899, .slice Ao27 t900.length co27], .agg #[.int .i64 t907, .int .i64 t908, .slice Ao37 t909.length co37]] (by rfl) rfl rfl ta_ ?_
      with_reducible refine (laws_eqBoard.calls kj13 t898 t899 _ _ t900 t907 t908 _ _ t909 true _ ?side1 ?side2 ?side3 ?side4 A33.out).mono ?_
      (case side1 => exact tc0_ (Kd.R_reads' HO_904002.out).2.2)
      (case side2 => exact (Kd.R_reads' HO_904002.out).2.1)
      (case side3 => exact tc0_ (Kd.R_reads' HO911.out).2.2)
      (case side4 => exact (Kd.R_reads' HO911.out).2.1)
      rintro e w38 ⟨rfl, hb⟩
      refine ⟨_, rfl, ?_⟩
      have n0_ := A_ (Kd.R_below (tr_x HO_904002.out) hb)
      have n1_ := A_ (Kd.R_below (tr_x HO911.out) hb)
      have n2_ := A_ (blk_below (g := gb888) (o := .cells #[.int .i64 a0_0, .int .i64 a0_1, .slice A0_2 l0_2.length c0_2] 44 (0, 0)) (tk_ BK888) hb)
      have n3_ := A_ (blk_below (g := gb903) (o := .cells #[.int .i64 t898, .int .i64 t899, .slice Ao27 t900.length co27] 26 (0, 0)) (tk_ BK903) hb)
      have n4_ := A_ (below_step tb_ hb)
      clear HO_904002
      clear HO911
      clear BK888
      clear BK903
      clear HB
      have HO_904002 := n0_
      have HO911 := n1_
      have BK888 := n2_
      have BK903 := n3_
      have HB := n4_
      clear n0_ n1_ n2_ n3_ n4_
      (try clear hb)
      (try clear hb2)
      (try clear hk)
      (try clear hi)
      refine hK.out _ _ ⟨(blk_cell BK903.out 0).trans rfl, (blk_cell BK903.out 1).trans rfl, (blk_cell BK903.out 2).trans rfl, (blk_cell BK888.out 0).trans rfl, (blk_cell BK888.out 1).trans rfl, (blk_cell BK888.out 2).trans rfl⟩ (fun hHeld => ?_)
      clear hK K
      refine norm_ (a' := ?_) ?_ ?_
      rotate_left
      ·
       show Act.put _ (some 59) _ = _
       simp only [Act.put, List.setIfInBounds_toArray, List.set_cons_zero, List.set_cons_succ, i64_w, i32_w]
       rfl
      refine pk_ 4 (some 60) (Fn.bl 5 31) ?_
      refine done_ (by kernel_rfl) ?_
      try go_wp2
      go_ret
      exact ⟨te_, tb_⟩
     ·
      replace c34 := Bool.eq_false_iff.mpr c34
      subst c34
      have H1 : (some false) = some r := by rw [if_neg (show ¬ (false = true) by decide)] at H; exact H
      clear H
      have H := H1
      clear H1
      obtain rfl := Option.some.inj H
      try go_wp2
      have n0_ := A_ (Kd.R_drew HO_904002.out)
      have n1_ := A_ (blk_drew BK888.out)
      have n2_ := A_ (blk_drew BK903.out)
      have n3_ := A_ (below_drew1 HB.out)
      clear HO_904002
      clear BK888
      clear BK903
      clear HB
      have HO_904002 := n0_
      have BK888 := n1_
      have BK903 := n2_
      have HB := n3_
      clear n0_ n1_ n2_ n3_
      refine start_ (n := 5) (S := fun w' => w'.cell? ⟨gb903, 0, none⟩ = some (.int .i64 t898) ∧ w'.cell? ⟨gb903, 1, none⟩ = some (.int .i64 t899) ∧ w'.cell? ⟨gb903, 2, none⟩ = some (.slice Ao27 t900.length co27) ∧ w'.cell? ⟨gb888, 0, none⟩ = some (.int .i64 a0_0) ∧ w'.cell? ⟨gb888, 1, none⟩ = some (.int .i64 a0_1) ∧ w'.cell? ⟨gb888, 2, none⟩ = some (.slice A0_2 l0_2.length c0_2)) (ds := []) (Fn.bl 5 0) (by kernel_rfl) rfl rfl ⟨(blk_cell BK903.out 0).trans rfl, (blk_cell BK903.out 1).trans rfl, (blk_cell BK903.out 2).trans rfl, (blk_cell BK888.out 0).trans rfl, (blk_cell BK888.out 1).trans rfl, (blk_cell BK888.out 2).trans rfl⟩ (fun hHeld => ?_)
      generalize wc.drew = w39 at HO_904002 BK888 BK903 HB hHeld ⊢
      refine take_ (i := 0) (N := some 56) (v := ?_) (a' := ?_) (Fn.bl 5 1) rfl rfl (by kernel_rfl) (fun _ _ _ h => h) (Or.inl ⟨by rfl, ?_⟩) hHeld ?_ ?_
      rotate_left
      ·
       rintro w' ⟨s0, s1, s2, s3, s4, s5⟩
       go_simp
       with_reducible rfl
      rotate_left
      ·
       simp only [Act.put, List.setIfInBounds_toArray, List.set_cons_zero, List.set_cons_succ, i64_w, i32_w]
       rfl
      refine take_ (i := 1) (N := some 57) (v := ?_) (a' := ?_) (Fn.bl 5 3) rfl rfl (by kernel_rfl) (fun _ _ _ h => h) (Or.inl ⟨by rfl, ?_⟩) hHeld ?_ ?_
      rotate_left
      ·
       rintro w' ⟨s0, s1, s2, s3, s4, s5⟩
       go_simp
       with_reducible rfl
      rotate_left
      ·
       simp only [Act.put, List.setIfInBounds_toArray, List.set_cons_zero, List.set_cons_succ, i64_w, i32_w]
       rfl
      refine one_ (i := 2) (N := some 58) (Fn.bl 5 7) rfl rfl (by kernel_rfl) (by decide) (fun K hK => ?_)
      refine goes_ Try.func33 (by kernel_rfl) rfl #[.agg #[.int .i64 a0_0, .int .i64 a0_1, .slice A0_2 l0_2.length c0_2]] (by rfl) rfl rfl ta_ ?_
      with_reducible refine (laws_toBoard.calls kj13 a0_0 a0_1 _ _ l0_2 t907 t908 t909 _ ?side1 ?side2 A32.out).mono ?_
      (case side1 => exact tc_ HR0_2.out)
      (case side2 => exact HC0_2.out)
      rintro e w40 ⟨v910, rfl, ho0, hb⟩
      refine ⟨_, rfl, ?_⟩
      have n0_ := A_ (Kd.R_elder' (tr_x HO_904002.out) (Kd.R_base ho0) hb)
      have n1_ := A_ (Kd.R_lower (Kd.R_new' ho0 (Kd.R_lt (tr_x HO_904002.out))) (below_size tb_))
      have n2_ := A_ (blk_below (g := gb888) (o := .cells #[.int .i64 a0_0, .int .i64 a0_1, .slice A0_2 l0_2.length c0_2] 44 (0, 0)) (tk_ BK888) hb)
      have n3_ := A_ (blk_below (g := gb903) (o := .cells #[.int .i64 t898, .int .i64 t899, .slice Ao27 t900.length co27] 26 (0, 0)) (tk_ BK903) hb)
      have n4_ := A_ (below_step tb_ hb)
      clear HO_904002
      clear BK888
      clear BK903
      clear HB
      have HO_904002 := n0_
      have HO911 := n1_
      have BK888 := n2_
      have BK903 := n3_
      have HB := n4_
      clear n0_ n1_ n2_ n3_ n4_
      (try clear hb)
      (try clear hb2)
      (try clear hk)
      (try clear hi)
      (try clear ho0)
      obtain ⟨Ao41, co41, eo41⟩ := Kd.R_slice HO911.out
      (first | subst eo41 | (injection eo41 with f1_ f2_ f3_; have f4_ := f1_.symm; have f5_ := f3_.symm; clear f1_ f2_ f3_; subst f4_; subst f5_))
      refine hK.out _ _ ⟨(blk_cell BK903.out 0).trans rfl, (blk_cell BK903.out 1).trans rfl, (blk_cell BK903.out 2).trans rfl, (blk_cell BK888.out 0).trans rfl, (blk_cell BK888.out 1).trans rfl, (blk_cell BK888.out 2).trans rfl⟩ (fun hHeld => ?_)
      clear hK K
      refine norm_ (a' := ?_) ?_ ?_
      rotate_left
      ·
       show Act.put _ (some 58) _ = _
       simp only [Act.put, List.setIfInBounds_toArray, List.set_cons_zero, List.set_cons_succ, i64_w, i32_w]
       rfl
      refine one_ (i := 3) (N := some 59) (Fn.bl 5 15) rfl rfl (by kernel_rfl) (by decide) (fun K hK => ?_)
      refine goes_ Try.func35 (by kernel_rfl) rfl #[.agg #[.int .i64 t898, .int .i64 t899, .slice Ao27 t900.length co27], .agg #[.int .i64 t907, .int .i64 t908, .slice Ao41 t909.length co41]] (by rfl) rfl rfl ta_ ?_
      with_reducible refine (laws_eqBoard.calls kj13 t898 t899 _ _ t900 t907 t908 _ _ t909 false _ ?side1 ?side2 ?side3 ?side4 A33.out).mono ?_
      (case side1 => exact tc0_ (Kd.R_reads' HO_904002.out).2.2)
      (case side2 => exact (Kd.R_reads' HO_904002.out).2.1)
      (case side3 => exact tc0_ (Kd.R_reads' HO911.out).2.2)
      (case side4 => exact (Kd.R_reads' HO911.out).2.1)
      rintro e w42 ⟨rfl, hb⟩
      refine ⟨_, rfl, ?_⟩
      have n0_ := A_ (Kd.R_below (tr_x HO_904002.out) hb)
      have n1_ := A_ (Kd.R_below (tr_x HO911.out) hb)
      have n2_ := A_ (blk_below (g := gb888) (o := .cells #[.int .i64 a0_0, .int .i64 a0_1, .slice A0_2 l0_2.length c0_2] 44 (0, 0)) (tk_ BK888) hb)
      have n3_ := A_ (blk_below (g := gb903) (o := .cells #[.int .i64 t898, .int .i64 t899, .slice Ao27 t900.length co27] 26 (0, 0)) (tk_ BK903) hb)
      have n4_ := A_ (below_step tb_ hb)
      clear HO_904002
      clear HO911
      clear BK888
      clear BK903
      clear HB
      have HO_904002 := n0_
      have HO911 := n1_
      have BK888 := n2_
      have BK903 := n3_
      have HB := n4_
      clear n0_ n1_ n2_ n3_ n4_
      (try clear hb)
      (try clear hb2)
      (try clear hk)
      (try clear hi)
      refine hK.out _ _ ⟨(blk_cell BK903.out 0).trans rfl, (blk_cell BK903.out 1).trans rfl, (blk_cell BK903.out 2).trans rfl, (blk_cell BK888.out 0).trans rfl, (blk_cell BK888.out 1).trans rfl, (blk_cell BK888.out 2).trans rfl⟩ (fun hHeld => ?_)
      clear hK K
      refine norm_ (a' := ?_) ?_ ?_
      rotate_left
      ·
       show Act.put _ (some 59) _ = _
       simp only [Act.put, List.setIfInBounds_toArray, List.set_cons_zero, List.set_cons_succ, i64_w, i32_w]
       rfl
      refine pk_ 4 (some 60) (Fn.bl 5 31) ?_
      refine done_ (by kernel_rfl) ?_
      try go_wp2
      go_ret
      exact ⟨te_, tb_⟩

/-- THE ONE PURE STATEMENT of laws_FnExactCellOfColour: yours. -/
def laws_FnExactCellOfColour.Pure : Prop := ∀ (a0_0 : Int) (a0_1 : Int) (l0_2 : List Int) (a1 : Int) (a2 : Int) (a3 : Int), Fn.okI a0_0 → Fn.okI a0_1 → (Fn.okL Fn.okI) l0_2 → Fn.okI a1 → Fn.okI a2 → Fn.okI a3 → ∃ k, laws_FnExactCellOfColour.f k a0_0 a0_1 l0_2 a1 a2 a3 = some true

end
end Go.Proofs.Ytnhamhpalbeflaa.P
