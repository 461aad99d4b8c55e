-- printed by wip/hprint.py of this session (the kit's print.py, patched in memory)
import Derived.Test.YtnpacpdpgngdpaaPx0
import Derived.Test.YtnpacpdpgngdpaaPx7
import Derived.Test.YtnpacpdpgngdpaaPx8
import Derived.Test.YtnpacpdpgngdpaaPx9
import Derived.Test.YtnpacpdpgngdpaaPx11
namespace Go.Proofs.Ytnpacpdpgngdpaa.P
noncomputable section
set_option maxHeartbeats 8000000
set_option maxRecDepth 100000
open Go.RowKit Go.Proofs.YtnpacpdpgngdpaaW.PrintWords Go.Proofs.YtnpacpdpgngdpaaW.PrintLast Go.Proofs.YtnpacpdpgngdpaaW.PrintMore
attribute [local go_sem] max2_int min2_int max_two min_two max_three min_three max_four min_four   -- for this text's walks alone
set_option linter.unusedVariables false
set_option linter.unusedSimpArgs false

/-! ### impl_NumbersByCell: function 20 -/
mutual
def impl_NumbersByCell.j0 : Nat → Int → Int → Bool → Int → Int → List Int → Option (List Int × List Int × Bool)
 | 0, _, _, _, _, _, _ => none
 | k + 1, x1, x2, x28, x228000, x228001, x228002 => if x28 = true then (some (([] : List Int), ([] : List Int), false)) else ((impl_PutCell.f k x228000 x228001 x228002 x1 x2 false).bind fun bt231 => ((some (([1] : List Int) : List Int)).bind fun y238 => (if x228000 > 1 then (impl_NumbersByCell.j1 k x1 x2 y238 (decide (x228001 > 1)) x228000 x228001 x228002 bt231.1 bt231.2.1 bt231.2.2.1) else (impl_NumbersByCell.j1 k x1 x2 y238 false x228000 x228001 x228002 bt231.1 bt231.2.1 bt231.2.2.1))))
def impl_NumbersByCell.j1 : Nat → Int → Int → List Int → Bool → Int → Int → List Int → Int → Int → List Int → Option (List Int × List Int × Bool)
 | 0, _, _, _, _, _, _, _, _, _, _ => none
 | k + 1, x1, x2, x11, x44, x228000, x228001, x228002, x238000, x238001, x238002 => if x44 = true then ((impl_Board_strike.f k x228000 x228001 x228002 x1 x2).bind fun bt241 => ((impl_Board_numbers.f k bt241.1 bt241.2.1 bt241.2.2).bind fun t246 => ((impl_Board_numbers.f k x238000 x238001 x238002).bind fun t249 => (some (t249, t246, true))))) else ((impl_Board_numbers.f k x238000 x238001 x238002).bind fun t252 => (some (t252, x11, true)))
end
def impl_NumbersByCell.f (k : Nat) (a0_0 : Int) (a0_1 : Int) (l0_2 : List Int) (a1 : Int) (a2 : Int) : Option (List Int × List Int × Bool) := (impl_IsBoard.f a0_0 a0_1 l0_2).bind fun t228 => (if t228 = true then ((impl_Board_place.f a0_0 a0_1 l0_2 a1 a2).bind fun t229 => (if t229 = true then ((impl_Board_has.f a0_0 a0_1 l0_2 a1 a2).bind fun t230 => (impl_NumbersByCell.j0 k a1 a2 (!t230) a0_0 a0_1 l0_2)) else (impl_NumbersByCell.j0 k a1 a2 true a0_0 a0_1 l0_2))) else (impl_NumbersByCell.j0 k a1 a2 true a0_0 a0_1 l0_2))
theorem impl_NumbersByCell.mono_l : ∀ k, (∀ y0 y1 y2 y3 y4 y5, LeO (impl_NumbersByCell.j0 k y0 y1 y2 y3 y4 y5) (impl_NumbersByCell.j0 (k + 1) y0 y1 y2 y3 y4 y5)) ∧ (∀ y0 y1 y2 y3 y4 y5 y6 y7 y8 y9, LeO (impl_NumbersByCell.j1 k y0 y1 y2 y3 y4 y5 y6 y7 y8 y9) (impl_NumbersByCell.j1 (k + 1) y0 y1 y2 y3 y4 y5 y6 y7 y8 y9))
 | 0 => ⟨fun _ _ _ _ _ _ r h => by simp [impl_NumbersByCell.j0] at h, fun _ _ _ _ _ _ _ _ _ _ r h => by simp [impl_NumbersByCell.j1] at h⟩
 | k + 1 => by
  obtain ⟨ih0, ih1⟩ := impl_NumbersByCell.mono_l k
  refine ⟨?_, ?_⟩
  ·
   intro y0 y1 y2 y3 y4 y5
   unfold impl_NumbersByCell.j0
   repeat' first | (with_reducible first | exact ih0 _ _ _ _ _ _ | exact ih1 _ _ _ _ _ _ _ _ _ _ | exact impl_Board_numbers.mono _ _ _ _ | exact impl_Board_strike.mono _ _ _ _ _ _ | exact impl_PutCell.mono _ _ _ _ _ _ _ | exact LeO.refl _ | exact LeO.none _ | refine LeO.ite ?_ ?_ | refine LeO.bind ?_ (fun _ => ?_)) | exact ih0 _ _ _ _ _ _ | exact ih1 _ _ _ _ _ _ _ _ _ _ | exact impl_Board_numbers.mono _ _ _ _ | exact impl_Board_strike.mono _ _ _ _ _ _ | exact impl_PutCell.mono _ _ _ _ _ _ _ | exact LeO.none _ | refine LeO.ite ?_ ?_ | refine LeO.bind ?_ (fun _ => ?_)
  ·
   intro y0 y1 y2 y3 y4 y5 y6 y7 y8 y9
   unfold impl_NumbersByCell.j1
   repeat' first | (with_reducible first | exact ih0 _ _ _ _ _ _ | exact ih1 _ _ _ _ _ _ _ _ _ _ | exact impl_Board_numbers.mono _ _ _ _ | exact impl_Board_strike.mono _ _ _ _ _ _ | exact impl_PutCell.mono _ _ _ _ _ _ _ | exact LeO.refl _ | exact LeO.none _ | refine LeO.ite ?_ ?_ | refine LeO.bind ?_ (fun _ => ?_)) | exact ih0 _ _ _ _ _ _ | exact ih1 _ _ _ _ _ _ _ _ _ _ | exact impl_Board_numbers.mono _ _ _ _ | exact impl_Board_strike.mono _ _ _ _ _ _ | exact impl_PutCell.mono _ _ _ _ _ _ _ | exact LeO.none _ | refine LeO.ite ?_ ?_ | refine LeO.bind ?_ (fun _ => ?_)
theorem impl_NumbersByCell.mono : ∀ a0 a1 a2 a3 a4 k, LeO (impl_NumbersByCell.f k a0 a1 a2 a3 a4) (impl_NumbersByCell.f (k + 1) a0 a1 a2 a3 a4) := by
 intro a0 a1 a2 a3 a4 k
 obtain ⟨ih0, ih1⟩ := impl_NumbersByCell.mono_l k
 unfold impl_NumbersByCell.f
 repeat' first | (with_reducible first | exact ih0 _ _ _ _ _ _ | exact ih1 _ _ _ _ _ _ _ _ _ _ | exact impl_Board_numbers.mono _ _ _ _ | exact impl_Board_strike.mono _ _ _ _ _ _ | exact impl_PutCell.mono _ _ _ _ _ _ _ | exact LeO.refl _ | exact LeO.none _ | refine LeO.ite ?_ ?_ | refine LeO.bind ?_ (fun _ => ?_)) | exact ih0 _ _ _ _ _ _ | exact ih1 _ _ _ _ _ _ _ _ _ _ | exact impl_Board_numbers.mono _ _ _ _ | exact impl_Board_strike.mono _ _ _ _ _ _ | exact impl_PutCell.mono _ _ _ _ _ _ _ | exact LeO.none _ | refine LeO.ite ?_ ?_ | refine LeO.bind ?_ (fun _ => ?_)
theorem impl_NumbersByCell.calls (k : Nat) (a0_0 : Int) (a0_1 : Int) (A0_2 : Option Addr) (c0_2 : Nat) (l0_2 : List Int) (a1 : Int) (a2 : Int) (r1 : List Int) (r2 : List Int) (r3 : Bool) (w : World) (hr0_2 : Kd.C (Kd.int .i64) w A0_2 l0_2.length l0_2) (hc0_2 : l0_2.length ≤ c0_2) (h : impl_NumbersByCell.f k a0_0 a0_1 l0_2 a1 a2 = some (r1, r2, r3)) :
  Calls Try.prog 20 #[.agg #[.int .i64 a0_0, .int .i64 a0_1, .slice A0_2 l0_2.length c0_2], .int .i64 a1, .int .i64 a2] w fun e w' => ∃ v0_ v1_ : Value, e = .returned (.tuple #[v0_, v1_, .bool r3]) ∧ Kd.R (Kd.int .i64) 3 w' w.heap.size (fun k_ => some k_ ≠ (v1_ : Value).ownBlock) v0_ r1 ∧ Kd.R (Kd.int .i64) 3 w' w.heap.size (fun k_ => some k_ ≠ (v0_ : Value).ownBlock) v1_ r2 ∧ Below w.heap.size w w' := by
 have hu28 := Try.underlying28
 have HR0_2 := A_ hr0_2
 have HC0_2 := A_ hc0_2
 clear hr0_2 hc0_2
 have HB := A_ (Below.refl w.heap.size w)
 have H : ((impl_IsBoard.f a0_0 a0_1 l0_2).bind fun t228 => (if t228 = true then ((impl_Board_place.f a0_0 a0_1 l0_2 a1 a2).bind fun t229 => (if t229 = true then ((impl_Board_has.f a0_0 a0_1 l0_2 a1 a2).bind fun t230 => (impl_NumbersByCell.j0 k a1 a2 (!t230) a0_0 a0_1 l0_2)) else (impl_NumbersByCell.j0 k a1 a2 true a0_0 a0_1 l0_2))) else (impl_NumbersByCell.j0 k a1 a2 true a0_0 a0_1 l0_2))) = some (r1, r2, r3) := h
 clear h
 have HC4 := A_ H
 clear H
 go_enter Try.func20, Try.ntmps20
 go_upto_region 1 with (first | (refine gd_ 3 ?_; refine bx_ 3 #[.int .i64 a0_0, .int .i64 a0_1, .slice A0_2 l0_2.length c0_2] 28 ?_; intro gb227 hg w5 hbox hb; have BK227 := A_ (hbox); have GW227 := A_ ((ts_ hg : w.heap.size ≤ gb227)); have GE227 := A_ ((ts_ hg : w.heap.size ≤ gb227)); replace HB := A_ (below_step tb_ hb); clear hb hbox hg))
 (try simp only [Act.put, List.setIfInBounds_toArray, List.set_cons_zero, List.set_cons_succ])
 go_cut [28] (fun v28 wc => ∃ (kq : Nat) (x28_3 : Bool), v28 = .bool x28_3 ∧ Aside0 (impl_NumbersByCell.j0 kq a1 a2 x28_3 a0_0 a0_1 l0_2 = some (r1, r2, r3)) ∧ Aside0 (kq ≤ k) ∧ Aside0 (wc.heap[gb227]? = some (.cells #[.int .i64 a0_0, .int .i64 a0_1, (.slice A0_2 l0_2.length c0_2)] 28 (0, 0))) ∧ Aside0 (Below w.heap.size w wc))
 case first =>
  have H := HC4.out
  clear HC4
  replace H := Option.bind_eq_some_iff.mp H
  obtain ⟨t228, A60, H⟩ := H
  replace H : (if t228 = true then ((impl_Board_place.f a0_0 a0_1 l0_2 a1 a2).bind fun t229 => (if t229 = true then ((impl_Board_has.f a0_0 a0_1 l0_2 a1 a2).bind fun t230 => (impl_NumbersByCell.j0 k a1 a2 (!t230) a0_0 a0_1 l0_2)) else (impl_NumbersByCell.j0 k a1 a2 true a0_0 a0_1 l0_2))) else (impl_NumbersByCell.j0 k a1 a2 true a0_0 a0_1 l0_2)) = some (r1, r2, r3) := H
  have A6 := A_ A60
  clear A60
  by_cases c7 : t228 = true
  ·
   subst c7
   have H1 : ((impl_Board_place.f a0_0 a0_1 l0_2 a1 a2).bind fun t229 => (if t229 = true then ((impl_Board_has.f a0_0 a0_1 l0_2 a1 a2).bind fun t230 => (impl_NumbersByCell.j0 k a1 a2 (!t230) a0_0 a0_1 l0_2)) else (impl_NumbersByCell.j0 k a1 a2 true a0_0 a0_1 l0_2))) = some (r1, r2, r3) := by rw [if_pos rfl] at H; exact H
   clear H
   have H := H1
   clear H1
   replace H := Option.bind_eq_some_iff.mp H
   obtain ⟨t229, A80, H⟩ := H
   replace H : (if t229 = true then ((impl_Board_has.f a0_0 a0_1 l0_2 a1 a2).bind fun t230 => (impl_NumbersByCell.j0 k a1 a2 (!t230) a0_0 a0_1 l0_2)) else (impl_NumbersByCell.j0 k a1 a2 true a0_0 a0_1 l0_2)) = some (r1, r2, r3) := H
   have A8 := A_ A80
   clear A80
   by_cases c9 : t229 = true
   ·
    subst c9
    have H1 : ((impl_Board_has.f a0_0 a0_1 l0_2 a1 a2).bind fun t230 => (impl_NumbersByCell.j0 k a1 a2 (!t230) a0_0 a0_1 l0_2)) = some (r1, r2, r3) := by rw [if_pos rfl] at H; exact H
    clear H
    have H := H1
    clear H1
    replace H := Option.bind_eq_some_iff.mp H
    obtain ⟨t230, A100, H⟩ := H
    replace H : (impl_NumbersByCell.j0 k a1 a2 (!t230) a0_0 a0_1 l0_2) = some (r1, r2, r3) := H
    have A10 := A_ A100
    clear A100
    have H' := A_ H
    clear H
    obtain ⟨hcz11_0, hcz11_1, hcz11_2, hfz11_0, hfz11_1, hfz11_2⟩ := cf3_ BK227.out
    go_wp2_with (first | (refine gc_ 125 ?_; refine goesT_ (some 13) Try.func125 #[.agg #[.int .i64 a0_0, .int .i64 a0_1, .slice A0_2 l0_2.length c0_2]] ?_; (with_reducible refine (impl_IsBoard.calls a0_0 a0_1 _ _ l0_2 true _ ?side1 ?side2 A6.out).mono ?_); (case side1 => exact tc_ HR0_2.out); (case side2 => exact HC0_2.out); rintro e w12 ⟨rfl, hb⟩; refine ⟨_, rfl, ?_⟩; replace BK227 := A_ (blk_below (g := gb227) (o := .cells #[.int .i64 a0_0, .int .i64 a0_1, .slice A0_2 l0_2.length c0_2] 28 (0, 0)) (tk_ BK227) hb); replace HB := A_ (below_step tb_ hb); (try clear hb); obtain ⟨hcz13_0, hcz13_1, hcz13_2, hfz13_0, hfz13_1, hfz13_2⟩ := cf3_ BK227.out) | (go_at_call 126; (with_reducible refine (impl_Board_place.calls a0_0 a0_1 _ _ l0_2 a1 a2 true _ ?side1 ?side2 A8.out).mono ?_); (case side1 => exact tc_ HR0_2.out); (case side2 => exact HC0_2.out); rintro e w14 ⟨rfl, hb⟩; replace BK227 := A_ (blk_below (g := gb227) (o := .cells #[.int .i64 a0_0, .int .i64 a0_1, .slice A0_2 l0_2.length c0_2] 28 (0, 0)) (tk_ BK227) hb); replace HB := A_ (below_step tb_ hb); (try clear hb); obtain ⟨hcz15_0, hcz15_1, hcz15_2, hfz15_0, hfz15_1, hfz15_2⟩ := cf3_ BK227.out) | (go_at_call 127; (with_reducible refine (impl_Board_has.calls a0_0 a0_1 _ _ l0_2 a1 a2 t230 _ ?side1 ?side2 A10.out).mono ?_); (case side1 => exact tc_ HR0_2.out); (case side2 => exact HC0_2.out); rintro e w16 ⟨rfl, hb⟩; replace BK227 := A_ (blk_below (g := gb227) (o := .cells #[.int .i64 a0_0, .int .i64 a0_1, .slice A0_2 l0_2.length c0_2] 28 (0, 0)) (tk_ BK227) hb); replace HB := A_ (below_step tb_ hb); (try clear hb)))
    go_meet
    case rel => exact ⟨_, (!t230), tf_, H', ⟨by first | omega | exact Nat.le_refl _⟩, ⟨tk_ BK227⟩, ⟨tb_⟩⟩
   ·
    replace c9 := Bool.eq_false_iff.mpr c9
    subst c9
    have H1 : (impl_NumbersByCell.j0 k a1 a2 true a0_0 a0_1 l0_2) = some (r1, r2, r3) := by rw [if_neg (show ¬ (false = true) by decide)] at H; exact H
    clear H
    have H := H1
    clear H1
    have H' := A_ H
    clear H
    obtain ⟨hcz17_0, hcz17_1, hcz17_2, hfz17_0, hfz17_1, hfz17_2⟩ := cf3_ BK227.out
    go_wp2_with (first | (refine gc_ 125 ?_; refine goesT_ (some 13) Try.func125 #[.agg #[.int .i64 a0_0, .int .i64 a0_1, .slice A0_2 l0_2.length c0_2]] ?_; (with_reducible refine (impl_IsBoard.calls a0_0 a0_1 _ _ l0_2 true _ ?side1 ?side2 A6.out).mono ?_); (case side1 => exact tc_ HR0_2.out); (case side2 => exact HC0_2.out); rintro e w18 ⟨rfl, hb⟩; refine ⟨_, rfl, ?_⟩; replace BK227 := A_ (blk_below (g := gb227) (o := .cells #[.int .i64 a0_0, .int .i64 a0_1, .slice A0_2 l0_2.length c0_2] 28 (0, 0)) (tk_ BK227) hb); replace HB := A_ (below_step tb_ hb); (try clear hb); obtain ⟨hcz19_0, hcz19_1, hcz19_2, hfz19_0, hfz19_1, hfz19_2⟩ := cf3_ BK227.out) | (go_at_call 126; (with_reducible refine (impl_Board_place.calls a0_0 a0_1 _ _ l0_2 a1 a2 false _ ?side1 ?side2 A8.out).mono ?_); (case side1 => exact tc_ HR0_2.out); (case side2 => exact HC0_2.out); rintro e w20 ⟨rfl, hb⟩; replace BK227 := A_ (blk_below (g := gb227) (o := .cells #[.int .i64 a0_0, .int .i64 a0_1, .slice A0_2 l0_2.length c0_2] 28 (0, 0)) (tk_ BK227) hb); replace HB := A_ (below_step tb_ hb); (try clear hb)))
    go_meet
    case rel => exact ⟨_, (true), tf_, H', ⟨by first | omega | exact Nat.le_refl _⟩, ⟨tk_ BK227⟩, ⟨tb_⟩⟩
  ·
   replace c7 := Bool.eq_false_iff.mpr c7
   subst c7
   have H1 : (impl_NumbersByCell.j0 k a1 a2 true a0_0 a0_1 l0_2) = some (r1, r2, r3) := by rw [if_neg (show ¬ (false = true) by decide)] at H; exact H
   clear H
   have H := H1
   clear H1
   have H' := A_ H
   clear H
   obtain ⟨hcz21_0, hcz21_1, hcz21_2, hfz21_0, hfz21_1, hfz21_2⟩ := cf3_ BK227.out
   go_wp2_with (first | (refine gc_ 125 ?_; refine goesT_ (some 13) Try.func125 #[.agg #[.int .i64 a0_0, .int .i64 a0_1, .slice A0_2 l0_2.length c0_2]] ?_; (with_reducible refine (impl_IsBoard.calls a0_0 a0_1 _ _ l0_2 false _ ?side1 ?side2 A6.out).mono ?_); (case side1 => exact tc_ HR0_2.out); (case side2 => exact HC0_2.out); rintro e w22 ⟨rfl, hb⟩; refine ⟨_, rfl, ?_⟩; replace BK227 := A_ (blk_below (g := gb227) (o := .cells #[.int .i64 a0_0, .int .i64 a0_1, .slice A0_2 l0_2.length c0_2] 28 (0, 0)) (tk_ BK227) hb); replace HB := A_ (below_step tb_ hb); (try clear hb)))
   go_meet
   case rel => exact ⟨_, (true), tf_, H', ⟨by first | omega | exact Nat.le_refl _⟩, ⟨tk_ BK227⟩, ⟨tb_⟩⟩
 case rest =>
  clear HC4
  try clear c1
  try clear c2
  try clear p2
  try clear c7
  try clear c9
  try clear c12
  try clear c20
  try clear hcz11_0
  try clear hcz11_1
  try clear hcz11_2
  try clear hcz13_0
  try clear hcz13_1
  try clear hcz13_2
  try clear hcz15_0
  try clear hcz15_1
  try clear hcz15_2
  try clear hcz17_0
  try clear hcz17_1
  try clear hcz17_2
  try clear hcz19_0
  try clear hcz19_1
  try clear hcz19_2
  try clear hcz21_0
  try clear hcz21_1
  try clear hcz21_2
  try clear hfz11_0
  try clear hfz11_1
  try clear hfz11_2
  try clear hfz13_0
  try clear hfz13_1
  try clear hfz13_2
  try clear hfz15_0
  try clear hfz15_1
  try clear hfz15_2
  try clear hfz17_0
  try clear hfz17_1
  try clear hfz17_2
  try clear hfz19_0
  try clear hfz19_1
  try clear hfz19_2
  try clear hfz21_0
  try clear hfz21_1
  try clear hfz21_2
  obtain ⟨kq, x28_3, rfl, HA, HJ3, BK227, HB⟩ := hcut
  cases kq with
  | zero => exact absurd HA.out (by simp [impl_NumbersByCell.j0])
  | succ kj3 =>
   have H := HA.out
   clear HA
   simp only [impl_NumbersByCell.j0] at H
   by_cases c23 : x28_3 = true
   ·
    subst c23
    have H1 : (some (([] : List Int), ([] : List Int), false)) = some (r1, r2, r3) := by rw [if_pos rfl] at H; exact H
    clear H
    have H := H1
    clear H1
    simp only [Option.some.injEq, Prod.mk.injEq] at H
    obtain ⟨rfl, rfl, rfl⟩ := H
    go_wp2
    go_ret3
    exact ⟨_, _, te_, by first | exact Kd.R_nil _ _ _ _ _ | exact Kd.N_nil _ _ _ _ _ | exact Kd.V_nil _ _ _ _ _ | exact Kd.Q_nil _ _ _ _ _ | exact Kd.S_nil _ _ _ _ _, by first | exact Kd.R_nil _ _ _ _ _ | exact Kd.N_nil _ _ _ _ _ | exact Kd.V_nil _ _ _ _ _ | exact Kd.Q_nil _ _ _ _ _ | exact Kd.S_nil _ _ _ _ _, tb_⟩
   ·
    replace c23 := Bool.eq_false_iff.mpr c23
    subst c23
    have H1 : ((impl_PutCell.f kj3 a0_0 a0_1 l0_2 a1 a2 false).bind fun bt231 => ((some (([1] : List Int) : List Int)).bind fun y238 => (if a0_0 > 1 then (impl_NumbersByCell.j1 kj3 a1 a2 y238 (decide (a0_1 > 1)) a0_0 a0_1 l0_2 bt231.1 bt231.2.1 bt231.2.2.1) else (impl_NumbersByCell.j1 kj3 a1 a2 y238 false a0_0 a0_1 l0_2 bt231.1 bt231.2.1 bt231.2.2.1)))) = some (r1, r2, r3) := by rw [if_neg (show ¬ (false = true) by decide)] at H; exact H
    clear H
    have H := H1
    clear H1
    replace H := Option.bind_eq_some_iff.mp H
    obtain ⟨⟨t231, t232, t233, t236⟩, A240, H⟩ := H
    replace H : ((some (([1] : List Int) : List Int)).bind fun y238 => (if a0_0 > 1 then (impl_NumbersByCell.j1 kj3 a1 a2 y238 (decide (a0_1 > 1)) a0_0 a0_1 l0_2 t231 t232 t233) else (impl_NumbersByCell.j1 kj3 a1 a2 y238 false a0_0 a0_1 l0_2 t231 t232 t233))) = some (r1, r2, r3) := H
    have A24 := A_ A240
    clear A240
    obtain ⟨y238, hy238⟩ : ∃ y_ : List Int, y_ = (([1] : List Int)) := ⟨_, rfl⟩
    replace H : (if a0_0 > 1 then (impl_NumbersByCell.j1 kj3 a1 a2 y238 (decide (a0_1 > 1)) a0_0 a0_1 l0_2 t231 t232 t233) else (impl_NumbersByCell.j1 kj3 a1 a2 y238 false a0_0 a0_1 l0_2 t231 t232 t233)) = some (r1, r2, r3) := ty_ hy238 H
    have Ny238 := A_ hy238
    clear hy238
    have HC25 := A_ H
    clear H
    obtain ⟨hcz26_0, hcz26_1, hcz26_2, hfz26_0, hfz26_1, hfz26_2⟩ := cf3_ BK227.out
    go_upto_region 5 with (first | (refine gc_ 128 ?_; refine goesT_ (some 33) Try.func128 #[.agg #[.int .i64 a0_0, .int .i64 a0_1, .slice A0_2 l0_2.length c0_2], .int .i64 a1, .int .i64 a2, .bool false] ?_; (with_reducible refine (impl_PutCell.calls kj3 a0_0 a0_1 _ _ l0_2 a1 a2 false t231 t232 t233 t236 _ ?side1 ?side2 A24.out).mono ?_); (case side1 => exact tc_ HR0_2.out); (case side2 => exact HC0_2.out); rintro e w27 ⟨v234, rfl, ho0, hb⟩; refine ⟨_, rfl, ?_⟩; have HO235 := A_ (Kd.R_lower ho0 (below_size tb_)); replace BK227 := A_ (blk_below (g := gb227) (o := .cells #[.int .i64 a0_0, .int .i64 a0_1, .slice A0_2 l0_2.length c0_2] 28 (0, 0)) (tk_ BK227) hb); replace HB := A_ (below_step tb_ hb); (try clear hb); (try clear ho0)) | (refine gd_ 9 ?_; refine bx_ 9 #[.int .i64 0, .int .i64 0, .slice none 0 0] 28 ?_; intro gb237 hg w28 hbox hb; replace HO235 := A_ (Kd.R_below (tr_x HO235.out) hb); have BK237 := A_ (hbox); have GW237 := A_ ((ts_ hg : w.heap.size ≤ gb237)); have GE237 := A_ ((ts_ hg : w.heap.size ≤ gb237)); replace HB := A_ (below_step tb_ hb); have NB227_237 := A_ ((by rw [hg]; exact Nat.ne_of_lt (blk_lt (g := gb227) (o := .cells #[.int .i64 a0_0, .int .i64 a0_1, .slice A0_2 l0_2.length c0_2] 28 (0, 0)) (tk_ BK227)) : gb227 ≠ gb237)); have NB237_227 := A_ ((by rw [hg]; exact Nat.ne_of_gt (blk_lt (g := gb227) (o := .cells #[.int .i64 a0_0, .int .i64 a0_1, .slice A0_2 l0_2.length c0_2] 28 (0, 0)) (tk_ BK227)) : gb237 ≠ gb227)); replace BK227 := A_ (blk_below (g := gb227) (o := .cells #[.int .i64 a0_0, .int .i64 a0_1, .slice A0_2 l0_2.length c0_2] 28 (0, 0)) (tk_ BK227) hb); clear hb hbox hg; have hnb29 := NB237_227.out; have hnc29 := NB227_237.out; obtain ⟨hcz30_0, hcz30_1, hcz30_2, hfz30_0, hfz30_1, hfz30_2⟩ := cf3_ BK237.out; obtain ⟨Ao31, co31, eo31⟩ := Kd.R_slice HO235.out; subst eo31) | (refine gd_ 36 ?_; refine Kd.R_lit (Kd.int .i64) _ 3 ?hg (N := 36) ?hd (xs := ([1] : List Int)) (inner := [.int .i64 1]) (ok := fun _ => True) (okp := fun _ => True) ?hr ?hp (fun _ hk => hk) trivial (Below.refl _ _) (Nat.le_refl _) (by simp) ?_; (case hd => rfl); (case hg => rfl); (case hr => first | (go_simp; done) | (go_simp; rfl)); (case hp => exact (Reps.one (show Kd.M (Kd.int .i64) _ _ _ 1 [.int .i64 1] from rfl) (Reps.none _ _))); intro v239 w32 ho33 hb hg_ hnew_; clear hg_ hnew_; (first | rw [← Ny238.out] at ho33 | (simp only [Int.reduceToNat] at ho33; rw [← Ny238.out] at ho33)); have HO240 := A_ (Kd.R_lower (Kd.R_new' ho33 (Kd.R_lt (tr_ (h := by exact (Kd.R_mono (Kd.R_far (p := ⟨gb237, 2, none⟩) (Kd.R_far (p := ⟨gb237, 1, none⟩) (Kd.R_far (p := ⟨gb237, 0, none⟩) (Kd.R_types HO235.out BK237.out (by decide)) (fun _ hk => hk.2) (.int .i64 t231)) (fun _ hk => hk.2) (.int .i64 t232)) (fun _ hk => hk.2) (.slice Ao31 t233.length co31)) (fun _ h_ => h_.1)))))) (below_size tb_)); replace HO235 := A_ (Kd.R_elder' (tr_ (h := by exact (Kd.R_mono (Kd.R_far (p := ⟨gb237, 2, none⟩) (Kd.R_far (p := ⟨gb237, 1, none⟩) (Kd.R_far (p := ⟨gb237, 0, none⟩) (Kd.R_types HO235.out BK237.out (by decide)) (fun _ hk => hk.2) (.int .i64 t231)) (fun _ hk => hk.2) (.int .i64 t232)) (fun _ hk => hk.2) (.slice Ao31 t233.length co31)) (fun _ h_ => h_.1)))) (Kd.R_base ho33) hb); replace BK227 := A_ (blk_below (g := gb227) (o := .cells #[.int .i64 a0_0, .int .i64 a0_1, .slice A0_2 l0_2.length c0_2] 28 (0, 0)) (tk_ BK227) hb); replace BK237 := A_ (blk_below (g := gb237) (o := .cells #[.int .i64 t231, .int .i64 t232, .slice Ao31 t233.length co31] 28 (0, 0)) (by (with_reducible repeat (first | refine blk_drewN ?_ _ | refine blk_drew ?_ | refine blk_alloc ?_ _)); refine blk_put (cs := #[.int .i64 t231, .int .i64 t232, .slice none 0 0]) ?_ 2 _ rfl; (with_reducible repeat (first | refine blk_drewN ?_ _ | refine blk_drew ?_ | refine blk_alloc ?_ _)); refine blk_put (cs := #[.int .i64 t231, .int .i64 0, .slice none 0 0]) ?_ 1 _ rfl; (with_reducible repeat (first | refine blk_drewN ?_ _ | refine blk_drew ?_ | refine blk_alloc ?_ _)); refine blk_put (cs := #[.int .i64 0, .int .i64 0, .slice none 0 0]) ?_ 0 _ rfl; (with_reducible repeat (first | refine blk_drewN ?_ _ | refine blk_drew ?_ | refine blk_alloc ?_ _)); exact BK237.out) hb); replace HB := A_ (below_step tb_ hb); clear hb ho33))
    (try simp only [Act.put, List.setIfInBounds_toArray, List.set_cons_zero, List.set_cons_succ])
    go_cut [44] (fun v44 wc => ∃ (kq : Nat) (x44_24 : Bool), v44 = .bool x44_24 ∧ Aside0 (impl_NumbersByCell.j1 kq a1 a2 y238 x44_24 a0_0 a0_1 l0_2 t231 t232 t233 = some (r1, r2, r3)) ∧ Aside0 (kq ≤ kj3) ∧ Aside0 (Kd.R (Kd.int .i64) 3 wc w.heap.size (fun k_ => some k_ ≠ ((.slice Ao31 t233.length co31) : Value).ownBlock) v239 y238) ∧ Aside0 (Kd.R (Kd.int .i64) 3 wc w.heap.size (fun k_ => some k_ ≠ (v239 : Value).ownBlock) (.slice Ao31 t233.length co31) t233) ∧ Aside0 (wc.heap[gb227]? = some (.cells #[.int .i64 a0_0, .int .i64 a0_1, (.slice A0_2 l0_2.length c0_2)] 28 (0, 0))) ∧ Aside0 (wc.heap[gb237]? = some (.cells #[.int .i64 t231, .int .i64 t232, (.slice Ao31 t233.length co31)] 28 (0, 0))) ∧ Aside0 (Below w.heap.size w wc))
    case first =>
     have H := HC25.out
     clear HC25
     by_cases c34 : a0_0 > 1
     ·
      rw [if_pos c34] at H
      have c34b0 := decide_eq_true c34
      clear c34
      (first | rw [c34b0] | (simp only [i64_w, i32_w]; rw [c34b0]) | skip)
      have H' := A_ H
      clear H
      have hnb35 := NB227_237.out
      have hnc35 := NB237_227.out
      obtain ⟨hcz36_0, hcz36_1, hcz36_2, hfz36_0, hfz36_1, hfz36_2⟩ := cf3_ BK227.out
      go_wp2
      go_meet
      case rel => exact ⟨_, (decide (a0_1 > 1)), tf_, H', ⟨by have := HJ3.out; first | omega | exact Nat.le_refl _⟩, ⟨by (with_reducible repeat (first | apply Kd.R_alloc | apply Kd.R_drewN | apply Kd.R_drew)); exact Kd.R_mono HO240.out (fun _ hk => hk.2)⟩, ⟨by (with_reducible repeat (first | apply Kd.R_alloc | apply Kd.R_drewN | apply Kd.R_drew)); exact Kd.R_mono HO235.out (fun _ hk => hk.2)⟩, ⟨tk_ BK227⟩, ⟨tk_ BK237⟩, ⟨tb_⟩⟩
     ·
      rw [if_neg c34] at H
      have c34b0 := decide_eq_false c34
      clear c34
      (first | rw [c34b0] | (simp only [i64_w, i32_w]; rw [c34b0]) | skip)
      have H' := A_ H
      clear H
      have hnb37 := NB227_237.out
      have hnc37 := NB237_227.out
      obtain ⟨hcz38_0, hcz38_1, hcz38_2, hfz38_0, hfz38_1, hfz38_2⟩ := cf3_ BK227.out
      go_wp2
      go_meet
      case rel => exact ⟨_, (false), tf_, H', ⟨by have := HJ3.out; first | omega | exact Nat.le_refl _⟩, ⟨by (with_reducible repeat (first | apply Kd.R_alloc | apply Kd.R_drewN | apply Kd.R_drew)); exact Kd.R_mono HO240.out (fun _ hk => hk.2)⟩, ⟨by (with_reducible repeat (first | apply Kd.R_alloc | apply Kd.R_drewN | apply Kd.R_drew)); exact Kd.R_mono HO235.out (fun _ hk => hk.2)⟩, ⟨tk_ BK227⟩, ⟨tk_ BK237⟩, ⟨tb_⟩⟩
    case rest =>
     clear HC25
     try clear c1
     try clear c2
     try clear p2
     try clear c3
     try clear c7
     try clear c9
     try clear c12
     try clear c20
     try clear c23
     try clear c29
     try clear c34
     try clear c34b0
     try clear c35
     try clear c37
     try clear hcz11_0
     try clear hcz11_1
     try clear hcz11_2
     try clear hcz13_0
     try clear hcz13_1
     try clear hcz13_2
     try clear hcz15_0
     try clear hcz15_1
     try clear hcz15_2
     try clear hcz17_0
     try clear hcz17_1
     try clear hcz17_2
     try clear hcz19_0
     try clear hcz19_1
     try clear hcz19_2
     try clear hcz21_0
     try clear hcz21_1
     try clear hcz21_2
     try clear hcz26_0
     try clear hcz26_1
     try clear hcz26_2
     try clear hcz30_0
     try clear hcz30_1
     try clear hcz30_2
     try clear hcz36_0
     try clear hcz36_1
     try clear hcz36_2
     try clear hcz38_0
     try clear hcz38_1
     try clear hcz38_2
     try clear hfz11_0
     try clear hfz11_1
     try clear hfz11_2
     try clear hfz13_0
     try clear hfz13_1
     try clear hfz13_2
     try clear hfz15_0
     try clear hfz15_1
     try clear hfz15_2
     try clear hfz17_0
     try clear hfz17_1
     try clear hfz17_2
     try clear hfz19_0
     try clear hfz19_1
     try clear hfz19_2
     try clear hfz21_0
     try clear hfz21_1
     try clear hfz21_2
     try clear hfz26_0
     try clear hfz26_1
     try clear hfz26_2
     try clear hfz30_0
     try clear hfz30_1
     try clear hfz30_2
     try clear hfz36_0
     try clear hfz36_1
     try clear hfz36_2
     try clear hfz38_0
     try clear hfz38_1
     try clear hfz38_2
     try clear p2
     obtain ⟨kq, x44_24, rfl, HA, HJ24, HO_11, HO_238002, BK227, BK237, HB⟩ := hcut
     cases kq with
     | zero => exact absurd HA.out (by simp [impl_NumbersByCell.j1])
     | succ kj24 =>
      have H := HA.out
      clear HA
      simp only [impl_NumbersByCell.j1] at H
      by_cases c39 : x44_24 = true
      ·
       subst c39
       have H1 : ((impl_Board_strike.f kj24 a0_0 a0_1 l0_2 a1 a2).bind fun bt241 => ((impl_Board_numbers.f kj24 bt241.1 bt241.2.1 bt241.2.2).bind fun t246 => ((impl_Board_numbers.f kj24 t231 t232 t233).bind fun t249 => (some (t249, t246, true))))) = some (r1, r2, r3) := by rw [if_pos rfl] at H; exact H
       clear H
       have H := H1
       clear H1
       replace H := Option.bind_eq_some_iff.mp H
       obtain ⟨⟨t241, t242, t243⟩, A400, H⟩ := H
       replace H : ((impl_Board_numbers.f kj24 t241 t242 t243).bind fun t246 => ((impl_Board_numbers.f kj24 t231 t232 t233).bind fun t249 => (some (t249, t246, true)))) = some (r1, r2, r3) := H
       have A40 := A_ A400
       clear A400
       replace H := Option.bind_eq_some_iff.mp H
       obtain ⟨t246, A410, H⟩ := H
       replace H : ((impl_Board_numbers.f kj24 t231 t232 t233).bind fun t249 => (some (t249, t246, true))) = some (r1, r2, r3) := H
       have A41 := A_ A410
       clear A410
       replace H := Option.bind_eq_some_iff.mp H
       obtain ⟨t249, A420, H⟩ := H
       replace H : (some (t249, t246, true)) = some (r1, r2, r3) := H
       have A42 := A_ A420
       clear A420
       simp only [Option.some.injEq, Prod.mk.injEq] at H
       obtain ⟨rfl, rfl, rfl⟩ := H
       have hnb43 := NB227_237.out
       have hnc43 := NB237_227.out
       obtain ⟨hcz44_0, hcz44_1, hcz44_2, hfz44_0, hfz44_1, hfz44_2⟩ := cf3_ BK227.out
       go_wp2_with (first | (refine gc_ 129 ?_; refine goesT_ (some 48) Try.func129 #[.agg #[.int .i64 a0_0, .int .i64 a0_1, .slice A0_2 l0_2.length c0_2], .int .i64 a1, .int .i64 a2] ?_; (with_reducible refine (impl_Board_strike.calls kj24 a0_0 a0_1 _ _ l0_2 a1 a2 t241 t242 t243 _ ?side1 ?side2 A40.out).mono ?_); (case side1 => exact tc_ HR0_2.out); (case side2 => exact HC0_2.out); rintro e w45 ⟨v244, rfl, ho0, hb⟩; refine ⟨_, rfl, ?_⟩; have HO245 := A_ (Kd.R_lower (Kd.R_new' (Kd.R_new' ho0 (Kd.R_lt (tr_x HO_11.out))) (Kd.R_lt (tr_x HO_238002.out))) (below_size tb_)); replace HO_11 := A_ (Kd.R_elder' (tr_x HO_11.out) (Kd.R_base ho0) hb); replace HO_238002 := A_ (Kd.R_elder' (tr_x HO_238002.out) (Kd.R_base ho0) hb); replace BK227 := A_ (blk_below (g := gb227) (o := .cells #[.int .i64 a0_0, .int .i64 a0_1, .slice A0_2 l0_2.length c0_2] 28 (0, 0)) (tk_ BK227) hb); replace BK237 := A_ (blk_below (g := gb237) (o := .cells #[.int .i64 t231, .int .i64 t232, .slice Ao31 t233.length co31] 28 (0, 0)) (tk_ BK237) hb); replace HB := A_ (below_step tb_ hb); (try clear hb); (try clear ho0); obtain ⟨Ao46, co46, eo46⟩ := Kd.R_slice HO245.out; subst eo46) | (refine gc_ 130 ?_; refine goesT_ (some 49) Try.func130 #[.agg #[.int .i64 t241, .int .i64 t242, .slice Ao46 t243.length co46]] ?_; (with_reducible refine (impl_Board_numbers.calls kj24 t241 t242 _ _ t243 t246 _ ?side1 ?side2 A41.out).mono ?_); (case side1 => exact tc0_ (Kd.R_reads' HO245.out).2.2); (case side2 => exact (Kd.R_reads' HO245.out).2.1); rintro e w47 ⟨v247, rfl, ho0, hb⟩; refine ⟨_, rfl, ?_⟩; have HO248 := A_ (Kd.R_lower (Kd.R_new' (Kd.R_new' (Kd.R_new' ho0 (Kd.R_lt (tr_x HO_11.out))) (Kd.R_lt (tr_x HO_238002.out))) (Kd.R_lt (tr_x HO245.out))) (below_size tb_)); replace HO_11 := A_ (Kd.R_elder' (tr_x HO_11.out) (Kd.R_base ho0) hb); replace HO_238002 := A_ (Kd.R_elder' (tr_x HO_238002.out) (Kd.R_base ho0) hb); replace HO245 := A_ (Kd.R_elder' (tr_x HO245.out) (Kd.R_base ho0) hb); replace BK227 := A_ (blk_below (g := gb227) (o := .cells #[.int .i64 a0_0, .int .i64 a0_1, .slice A0_2 l0_2.length c0_2] 28 (0, 0)) (tk_ BK227) hb); replace BK237 := A_ (blk_below (g := gb237) (o := .cells #[.int .i64 t231, .int .i64 t232, .slice Ao31 t233.length co31] 28 (0, 0)) (tk_ BK237) hb); replace HB := A_ (below_step tb_ hb); (try clear hb); (try clear ho0); obtain ⟨hcz48_0, hcz48_1, hcz48_2, hfz48_0, hfz48_1, hfz48_2⟩ := cf3_ BK237.out) | (refine gc_ 130 ?_; refine goesT_ (some 51) Try.func130 #[.agg #[.int .i64 t231, .int .i64 t232, .slice Ao31 t233.length co31]] ?_; (with_reducible refine (impl_Board_numbers.calls kj24 t231 t232 _ _ t233 t249 _ ?side1 ?side2 A42.out).mono ?_); (case side1 => exact tc0_ (Kd.R_reads' HO_238002.out).2.2); (case side2 => exact (Kd.R_reads' HO_238002.out).2.1); rintro e w49 ⟨v250, rfl, ho0, hb⟩; refine ⟨_, rfl, ?_⟩; have HO251 := A_ (Kd.R_lower (Kd.R_new' (Kd.R_new' (Kd.R_new' (Kd.R_new' ho0 (Kd.R_lt (tr_x HO_11.out))) (Kd.R_lt (tr_x HO_238002.out))) (Kd.R_lt (tr_x HO245.out))) (Kd.R_lt (tr_x HO248.out))) (below_size tb_)); replace HO_11 := A_ (Kd.R_elder' (tr_x HO_11.out) (Kd.R_base ho0) hb); replace HO_238002 := A_ (Kd.R_elder' (tr_x HO_238002.out) (Kd.R_base ho0) hb); replace HO245 := A_ (Kd.R_elder' (tr_x HO245.out) (Kd.R_base ho0) hb); replace HO248 := A_ (Kd.R_elder' (tr_x HO248.out) (Kd.R_base ho0) hb); replace BK227 := A_ (blk_below (g := gb227) (o := .cells #[.int .i64 a0_0, .int .i64 a0_1, .slice A0_2 l0_2.length c0_2] 28 (0, 0)) (tk_ BK227) hb); replace BK237 := A_ (blk_below (g := gb237) (o := .cells #[.int .i64 t231, .int .i64 t232, .slice Ao31 t233.length co31] 28 (0, 0)) (tk_ BK237) hb); replace HB := A_ (below_step tb_ hb); (try clear hb); (try clear ho0)))
       go_ret3
       exact ⟨_, _, te_, by (with_reducible repeat (first | apply Kd.R_alloc | apply Kd.R_drewN | apply Kd.R_drew)); exact Kd.R_mono HO251.out (fun _ hk => hk.2), by (with_reducible repeat (first | apply Kd.R_alloc | apply Kd.R_drewN | apply Kd.R_drew)); exact Kd.R_mono HO248.out (fun _ hk => hk.2), tb_⟩
      ·
       replace c39 := Bool.eq_false_iff.mpr c39
       subst c39
       have H1 : ((impl_Board_numbers.f kj24 t231 t232 t233).bind fun t252 => (some (t252, y238, true))) = some (r1, r2, r3) := by rw [if_neg (show ¬ (false = true) by decide)] at H; exact H
       clear H
       have H := H1
       clear H1
       replace H := Option.bind_eq_some_iff.mp H
       obtain ⟨t252, A500, H⟩ := H
       replace H : (some (t252, y238, true)) = some (r1, r2, r3) := H
       have A50 := A_ A500
       clear A500
       simp only [Option.some.injEq, Prod.mk.injEq] at H
       obtain ⟨rfl, rfl, rfl⟩ := H
       have hnb51 := NB237_227.out
       have hnc51 := NB227_237.out
       obtain ⟨hcz52_0, hcz52_1, hcz52_2, hfz52_0, hfz52_1, hfz52_2⟩ := cf3_ BK237.out
       go_wp2_with (first | (refine gc_ 130 ?_; refine goesT_ (some 51) Try.func130 #[.agg #[.int .i64 t231, .int .i64 t232, .slice Ao31 t233.length co31]] ?_; (with_reducible refine (impl_Board_numbers.calls kj24 t231 t232 _ _ t233 t252 _ ?side1 ?side2 A50.out).mono ?_); (case side1 => exact tc0_ (Kd.R_reads' HO_238002.out).2.2); (case side2 => exact (Kd.R_reads' HO_238002.out).2.1); rintro e w53 ⟨v253, rfl, ho0, hb⟩; refine ⟨_, rfl, ?_⟩; have HO254 := A_ (Kd.R_lower (Kd.R_new' (Kd.R_new' ho0 (Kd.R_lt (tr_x HO_11.out))) (Kd.R_lt (tr_x HO_238002.out))) (below_size tb_)); replace HO_11 := A_ (Kd.R_elder' (tr_x HO_11.out) (Kd.R_base ho0) hb); replace HO_238002 := A_ (Kd.R_elder' (tr_x HO_238002.out) (Kd.R_base ho0) hb); replace BK227 := A_ (blk_below (g := gb227) (o := .cells #[.int .i64 a0_0, .int .i64 a0_1, .slice A0_2 l0_2.length c0_2] 28 (0, 0)) (tk_ BK227) hb); replace BK237 := A_ (blk_below (g := gb237) (o := .cells #[.int .i64 t231, .int .i64 t232, .slice Ao31 t233.length co31] 28 (0, 0)) (tk_ BK237) hb); replace HB := A_ (below_step tb_ hb); (try clear hb); (try clear ho0)))
       go_ret3
       exact ⟨_, _, te_, by (with_reducible repeat (first | apply Kd.R_alloc | apply Kd.R_drewN | apply Kd.R_drew)); exact Kd.R_mono HO254.out (fun _ hk => hk.1.2), by (with_reducible repeat (first | apply Kd.R_alloc | apply Kd.R_drewN | apply Kd.R_drew)); exact Kd.R_mono HO_11.out (fun _ hk => hk.2), tb_⟩

end
end Go.Proofs.Ytnpacpdpgngdpaa.P
