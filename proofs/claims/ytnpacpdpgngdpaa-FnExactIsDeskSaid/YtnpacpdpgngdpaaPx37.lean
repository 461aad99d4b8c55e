-- printed by wip/hprint.py of this session (the kit's print.py, patched in memory)
import Derived.Test.YtnpacpdpgngdpaaPx0
import Derived.Test.YtnpacpdpgngdpaaPx36
namespace Go.Proofs.Ytnpacpdpgngdpaa.P
noncomputable section
set_option maxHeartbeats 8000000
set_option maxRecDepth 100000
open Go.RowKit Go.Proofs.YtnpacpdpgngdpaaW.PrintWords Go.Proofs.YtnpacpdpgngdpaaW.PrintLast Go.Proofs.YtnpacpdpgngdpaaW.PrintMore
attribute [local go_sem] max2_int min2_int max_two min_two max_three min_three max_four min_four   -- for this text's walks alone
set_option linter.unusedVariables false
set_option linter.unusedSimpArgs false

/-! ### laws_eqBoard: function 22 -/
def laws_eqBoard.f (k : Nat) (a0_0 : Int) (a0_1 : Int) (l0_2 : List Int) (a1_0 : Int) (a1_1 : Int) (l1_2 : List Int) : Option (Bool) := if a0_0 = a1_0 then (if a0_1 = a1_1 then ((laws_eqIntS.f k l0_2 l1_2).bind fun t259 => (if t259 = true then (some true) else (some false))) else (some false)) else (some false)
theorem laws_eqBoard.mono : ∀ a0 a1 a2 a3 a4 a5 k, LeO (laws_eqBoard.f k a0 a1 a2 a3 a4 a5) (laws_eqBoard.f (k + 1) a0 a1 a2 a3 a4 a5) := by
 intro a0 a1 a2 a3 a4 a5 k
 unfold laws_eqBoard.f
 repeat' first | (with_reducible first | exact laws_eqIntS.mono _ _ _ | exact LeO.refl _ | exact LeO.none _ | refine LeO.ite ?_ ?_ | refine LeO.bind ?_ (fun _ => ?_)) | exact laws_eqIntS.mono _ _ _ | exact LeO.none _ | refine LeO.ite ?_ ?_ | refine LeO.bind ?_ (fun _ => ?_)
theorem laws_eqBoard.calls (k : Nat) (a0_0 : Int) (a0_1 : Int) (A0_2 : Option Addr) (c0_2 : Nat) (l0_2 : List Int) (a1_0 : Int) (a1_1 : Int) (A1_2 : Option Addr) (c1_2 : Nat) (l1_2 : List Int) (r : Bool) (w : World) (hr0_2 : Kd.C (Kd.int .i64) w A0_2 l0_2.length l0_2) (hc0_2 : l0_2.length ≤ c0_2) (hr1_2 : Kd.C (Kd.int .i64) w A1_2 l1_2.length l1_2) (hc1_2 : l1_2.length ≤ c1_2) (h : laws_eqBoard.f k a0_0 a0_1 l0_2 a1_0 a1_1 l1_2 = some r) :
  Calls Try.prog 22 #[.agg #[.int .i64 a0_0, .int .i64 a0_1, .slice A0_2 l0_2.length c0_2], .agg #[.int .i64 a1_0, .int .i64 a1_1, .slice A1_2 l1_2.length c1_2]] w fun e w' => e = .returned (.bool r) ∧ Below w.heap.size w w' := by
 have hu28 := Try.underlying28
 have HR0_2 := A_ hr0_2
 have HC0_2 := A_ hc0_2
 clear hr0_2 hc0_2
 have HR1_2 := A_ hr1_2
 have HC1_2 := A_ hc1_2
 clear hr1_2 hc1_2
 have HB := A_ (Below.refl w.heap.size w)
 have H : (if a0_0 = a1_0 then (if a0_1 = a1_1 then ((laws_eqIntS.f k l0_2 l1_2).bind fun t259 => (if t259 = true then (some true) else (some false))) else (some false)) else (some false)) = some r := h
 clear h
 by_cases c3 : a0_0 = a1_0
 ·
  rw [if_pos c3] at H
  have c3b0 : (a0_0 == a1_0) = true := beq_iff_eq.mpr c3
  have c3b1 : (a0_0 != a1_0) = false := bne_eq_false_iff_eq.mpr c3
  clear c3
  by_cases c4 : a0_1 = a1_1
  ·
   rw [if_pos c4] at H
   have c4b0 : (a0_1 == a1_1) = true := beq_iff_eq.mpr c4
   have c4b1 : (a0_1 != a1_1) = false := bne_eq_false_iff_eq.mpr c4
   clear c4
   replace H := Option.bind_eq_some_iff.mp H
   obtain ⟨t259, A50, H⟩ := H
   replace H : (if t259 = true then (some true) else (some false)) = some r := H
   have A5 := A_ A50
   clear A50
   by_cases c6 : t259 = true
   ·
    subst c6
    have H1 : (some true) = some r := by rw [if_pos rfl] at H; exact H
    clear H
    have H := H1
    clear H1
    obtain rfl := Option.some.inj H
    go_enter Try.func22, Try.ntmps22
    go_wp2_with (first | (refine gd_ 2 ?_; refine bx_ 2 #[.int .i64 a0_0, .int .i64 a0_1, .slice A0_2 l0_2.length c0_2] 28 ?_; intro gb257 hg w7 hbox hb; have BK257 := A_ (hbox); have GW257 := A_ ((ts_ hg : w.heap.size ≤ gb257)); have GE257 := A_ ((ts_ hg : w.heap.size ≤ gb257)); replace HB := A_ (below_step tb_ hb); clear hb hbox hg) | (refine gd_ 3 ?_; refine bx_ 3 #[.int .i64 a1_0, .int .i64 a1_1, .slice A1_2 l1_2.length c1_2] 28 ?_; intro gb258 hg w8 hbox hb; have BK258 := A_ (hbox); have GW258 := A_ ((ts_ hg : w.heap.size ≤ gb258)); have GE258 := A_ ((ts_ hg : w.heap.size ≤ gb258)); replace HB := A_ (below_step tb_ hb); have NB257_258 := A_ ((by rw [hg]; exact Nat.ne_of_lt (blk_lt (g := gb257) (o := .cells #[.int .i64 a0_0, .int .i64 a0_1, .slice A0_2 l0_2.length c0_2] 28 (0, 0)) (tk_ BK257)) : gb257 ≠ gb258)); have NB258_257 := A_ ((by rw [hg]; exact Nat.ne_of_gt (blk_lt (g := gb257) (o := .cells #[.int .i64 a0_0, .int .i64 a0_1, .slice A0_2 l0_2.length c0_2] 28 (0, 0)) (tk_ BK257)) : gb258 ≠ gb257)); replace BK257 := A_ (blk_below (g := gb257) (o := .cells #[.int .i64 a0_0, .int .i64 a0_1, .slice A0_2 l0_2.length c0_2] 28 (0, 0)) (tk_ BK257) hb); clear hb hbox hg; have hnb9 := NB257_258.out; have hnc9 := NB258_257.out; obtain ⟨hcz10_0, hcz10_1, hcz10_2, hfz10_0, hfz10_1, hfz10_2⟩ := cf3_ BK257.out; obtain ⟨hcz11_0, hcz11_1, hcz11_2, hfz11_0, hfz11_1, hfz11_2⟩ := cf3_ BK258.out) | (refine gc_ 21 ?_; refine goesT_ (some 19) Try.func21 #[.slice A0_2 l0_2.length c0_2, .slice A1_2 l1_2.length c1_2] ?_; (with_reducible refine (laws_eqIntS.calls k _ _ l0_2 _ _ l1_2 true _ ?side1 ?side2 ?side3 ?side4 A5.out).mono ?_); (case side1 => exact tc_ HR0_2.out); (case side2 => exact HC0_2.out); (case side3 => exact tc_ HR1_2.out); (case side4 => exact HC1_2.out); rintro e w' ⟨rfl, ⟨nd, rfl⟩⟩; refine ⟨_, rfl, ?_⟩))
    go_ret
    exact ⟨te_, tb_⟩
   ·
    replace c6 := Bool.eq_false_iff.mpr c6
    subst c6
    have H1 : (some false) = some r := by rw [if_neg (show ¬ (false = true) by decide)] at H; exact H
    clear H
    have H := H1
    clear H1
    obtain rfl := Option.some.inj H
    go_enter Try.func22, Try.ntmps22
    go_wp2_with (first | (refine gd_ 2 ?_; refine bx_ 2 #[.int .i64 a0_0, .int .i64 a0_1, .slice A0_2 l0_2.length c0_2] 28 ?_; intro gb257 hg w12 hbox hb; have BK257 := A_ (hbox); have GW257 := A_ ((ts_ hg : w.heap.size ≤ gb257)); have GE257 := A_ ((ts_ hg : w.heap.size ≤ gb257)); replace HB := A_ (below_step tb_ hb); clear hb hbox hg) | (refine gd_ 3 ?_; refine bx_ 3 #[.int .i64 a1_0, .int .i64 a1_1, .slice A1_2 l1_2.length c1_2] 28 ?_; intro gb258 hg w13 hbox hb; have BK258 := A_ (hbox); have GW258 := A_ ((ts_ hg : w.heap.size ≤ gb258)); have GE258 := A_ ((ts_ hg : w.heap.size ≤ gb258)); replace HB := A_ (below_step tb_ hb); have NB257_258 := A_ ((by rw [hg]; exact Nat.ne_of_lt (blk_lt (g := gb257) (o := .cells #[.int .i64 a0_0, .int .i64 a0_1, .slice A0_2 l0_2.length c0_2] 28 (0, 0)) (tk_ BK257)) : gb257 ≠ gb258)); have NB258_257 := A_ ((by rw [hg]; exact Nat.ne_of_gt (blk_lt (g := gb257) (o := .cells #[.int .i64 a0_0, .int .i64 a0_1, .slice A0_2 l0_2.length c0_2] 28 (0, 0)) (tk_ BK257)) : gb258 ≠ gb257)); replace BK257 := A_ (blk_below (g := gb257) (o := .cells #[.int .i64 a0_0, .int .i64 a0_1, .slice A0_2 l0_2.length c0_2] 28 (0, 0)) (tk_ BK257) hb); clear hb hbox hg; have hnb14 := NB257_258.out; have hnc14 := NB258_257.out; obtain ⟨hcz15_0, hcz15_1, hcz15_2, hfz15_0, hfz15_1, hfz15_2⟩ := cf3_ BK257.out; obtain ⟨hcz16_0, hcz16_1, hcz16_2, hfz16_0, hfz16_1, hfz16_2⟩ := cf3_ BK258.out) | (refine gc_ 21 ?_; refine goesT_ (some 19) Try.func21 #[.slice A0_2 l0_2.length c0_2, .slice A1_2 l1_2.length c1_2] ?_; (with_reducible refine (laws_eqIntS.calls k _ _ l0_2 _ _ l1_2 false _ ?side1 ?side2 ?side3 ?side4 A5.out).mono ?_); (case side1 => exact tc_ HR0_2.out); (case side2 => exact HC0_2.out); (case side3 => exact tc_ HR1_2.out); (case side4 => exact HC1_2.out); rintro e w' ⟨rfl, ⟨nd, rfl⟩⟩; refine ⟨_, rfl, ?_⟩))
    go_ret
    exact ⟨te_, tb_⟩
  ·
   rw [if_neg c4] at H
   have c4b0 : (a0_1 == a1_1) = false := beq_eq_false_iff_ne.mpr c4
   have c4b1 : (a0_1 != a1_1) = true := bne_iff_ne.mpr c4
   obtain rfl := Option.some.inj H
   go_enter Try.func22, Try.ntmps22
   go_wp2_with (first | (refine gd_ 2 ?_; refine bx_ 2 #[.int .i64 a0_0, .int .i64 a0_1, .slice A0_2 l0_2.length c0_2] 28 ?_; intro gb257 hg w17 hbox hb; have BK257 := A_ (hbox); have GW257 := A_ ((ts_ hg : w.heap.size ≤ gb257)); have GE257 := A_ ((ts_ hg : w.heap.size ≤ gb257)); replace HB := A_ (below_step tb_ hb); clear hb hbox hg) | (refine gd_ 3 ?_; refine bx_ 3 #[.int .i64 a1_0, .int .i64 a1_1, .slice A1_2 l1_2.length c1_2] 28 ?_; intro gb258 hg w18 hbox hb; have BK258 := A_ (hbox); have GW258 := A_ ((ts_ hg : w.heap.size ≤ gb258)); have GE258 := A_ ((ts_ hg : w.heap.size ≤ gb258)); replace HB := A_ (below_step tb_ hb); have NB257_258 := A_ ((by rw [hg]; exact Nat.ne_of_lt (blk_lt (g := gb257) (o := .cells #[.int .i64 a0_0, .int .i64 a0_1, .slice A0_2 l0_2.length c0_2] 28 (0, 0)) (tk_ BK257)) : gb257 ≠ gb258)); have NB258_257 := A_ ((by rw [hg]; exact Nat.ne_of_gt (blk_lt (g := gb257) (o := .cells #[.int .i64 a0_0, .int .i64 a0_1, .slice A0_2 l0_2.length c0_2] 28 (0, 0)) (tk_ BK257)) : gb258 ≠ gb257)); replace BK257 := A_ (blk_below (g := gb257) (o := .cells #[.int .i64 a0_0, .int .i64 a0_1, .slice A0_2 l0_2.length c0_2] 28 (0, 0)) (tk_ BK257) hb); clear hb hbox hg; have hnb19 := NB257_258.out; have hnc19 := NB258_257.out; obtain ⟨hcz20_0, hcz20_1, hcz20_2, hfz20_0, hfz20_1, hfz20_2⟩ := cf3_ BK257.out; obtain ⟨hcz21_0, hcz21_1, hcz21_2, hfz21_0, hfz21_1, hfz21_2⟩ := cf3_ BK258.out))
   go_ret
   exact ⟨te_, tb_⟩
 ·
  rw [if_neg c3] at H
  have c3b0 : (a0_0 == a1_0) = false := beq_eq_false_iff_ne.mpr c3
  have c3b1 : (a0_0 != a1_0) = true := bne_iff_ne.mpr c3
  obtain rfl := Option.some.inj H
  go_enter Try.func22, Try.ntmps22
  go_wp2_with (first | (refine gd_ 2 ?_; refine bx_ 2 #[.int .i64 a0_0, .int .i64 a0_1, .slice A0_2 l0_2.length c0_2] 28 ?_; intro gb257 hg w22 hbox hb; have BK257 := A_ (hbox); have GW257 := A_ ((ts_ hg : w.heap.size ≤ gb257)); have GE257 := A_ ((ts_ hg : w.heap.size ≤ gb257)); replace HB := A_ (below_step tb_ hb); clear hb hbox hg) | (refine gd_ 3 ?_; refine bx_ 3 #[.int .i64 a1_0, .int .i64 a1_1, .slice A1_2 l1_2.length c1_2] 28 ?_; intro gb258 hg w23 hbox hb; have BK258 := A_ (hbox); have GW258 := A_ ((ts_ hg : w.heap.size ≤ gb258)); have GE258 := A_ ((ts_ hg : w.heap.size ≤ gb258)); replace HB := A_ (below_step tb_ hb); have NB257_258 := A_ ((by rw [hg]; exact Nat.ne_of_lt (blk_lt (g := gb257) (o := .cells #[.int .i64 a0_0, .int .i64 a0_1, .slice A0_2 l0_2.length c0_2] 28 (0, 0)) (tk_ BK257)) : gb257 ≠ gb258)); have NB258_257 := A_ ((by rw [hg]; exact Nat.ne_of_gt (blk_lt (g := gb257) (o := .cells #[.int .i64 a0_0, .int .i64 a0_1, .slice A0_2 l0_2.length c0_2] 28 (0, 0)) (tk_ BK257)) : gb258 ≠ gb257)); replace BK257 := A_ (blk_below (g := gb257) (o := .cells #[.int .i64 a0_0, .int .i64 a0_1, .slice A0_2 l0_2.length c0_2] 28 (0, 0)) (tk_ BK257) hb); clear hb hbox hg; have hnb24 := NB257_258.out; have hnc24 := NB258_257.out; obtain ⟨hcz25_0, hcz25_1, hcz25_2, hfz25_0, hfz25_1, hfz25_2⟩ := cf3_ BK257.out; obtain ⟨hcz26_0, hcz26_1, hcz26_2, hfz26_0, hfz26_1, hfz26_2⟩ := cf3_ BK258.out))
  go_ret
  exact ⟨te_, tb_⟩

end
end Go.Proofs.Ytnpacpdpgngdpaa.P
