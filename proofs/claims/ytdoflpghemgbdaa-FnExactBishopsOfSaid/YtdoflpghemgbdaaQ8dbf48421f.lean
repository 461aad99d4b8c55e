-- printed functions (wip/slim.py)
import Derived.Test.YtdoflpghemgbdaaPx0
import Derived.Test.YtdoflpghemgbdaaQ06f4a11cba
namespace Go.Proofs.Ytdoflpghemgbdaa.P
noncomputable section
set_option maxHeartbeats 8000000
set_option maxRecDepth 100000
open Go.RowKit Go.Proofs.YtdoflpghemgbdaaW.PrintWords Go.Proofs.YtdoflpghemgbdaaW.PrintLast Go.Proofs.YtdoflpghemgbdaaW.PrintMore
attribute [local go_sem] max2_int min2_int max_two min_two max_three min_three max_four min_four   -- for this text's walks alone
set_option linter.unusedVariables false
set_option linter.unusedSimpArgs false

/-! ### impl_Board_coloured: function 95 -/
mutual
def impl_Board_coloured.l0 : Nat → List Int → List Int → Int → Int → Int → Int → List Int → Int → Int → List Int → Option (Int × Int × List Int × Bool)
 | 0, _, _, _, _, _, _, _, _, _, _ => none
 | k + 1, x7, x31, x32, x33, x527000, x527001, x527002, x540000, x540001, x540002 => if x33 < x32 then (if 0 ≤ x33 then (if x33 < (x31.length : Int) then (impl_Board_coloured.l1 k x7 x33 (rd x31 x33) x31 x32 x33 x7 (x7.length : Int) 0 x527000 x527001 x527002 x540000 x540001 x540002) else (none)) else (none)) else (some (x540000, x540001, x540002, true))
def impl_Board_coloured.l1 : Nat → List Int → Int → Int → List Int → Int → Int → List Int → Int → Int → Int → Int → List Int → Int → Int → List Int → Option (Int × Int × List Int × Bool)
 | 0, _, _, _, _, _, _, _, _, _, _, _, _, _, _, _ => none
 | k + 1, x7, x9, x10, x31, x32, x33, x38, x39, x40, x527000, x527001, x527002, x540000, x540001, x540002 => if x40 < x39 then (if 0 ≤ x40 then (if x40 < (x38.length : Int) then ((impl_Board_crossing.f x527000 x527001 x527002 x10 (rd x38 x40)).bind fun bt542 => (if bt542.2.2 = true then ((impl_Board_has.f x527000 x527001 x527002 bt542.1 bt542.2.1).bind fun t545 => (if t545 = true then (if 0 ≤ x9 then (if x9 < (x540002.length : Int) then (impl_Board_coloured.l1 k x7 x9 x10 x31 x32 x33 x38 x39 (wrap64 (x40 + 1)) x527000 x527001 x527002 x540000 x540001 (x540002.set (x9 : Int).toNat (Go.bits .or .i64 (rd x540002 x9) (shl .i64 1 x40)))) else (none)) else (none)) else (impl_Board_coloured.l1 k x7 x9 x10 x31 x32 x33 x38 x39 (wrap64 (x40 + 1)) x527000 x527001 x527002 x540000 x540001 x540002))) else (impl_Board_coloured.l1 k x7 x9 x10 x31 x32 x33 x38 x39 (wrap64 (x40 + 1)) x527000 x527001 x527002 x540000 x540001 x540002))) else (none)) else (none)) else (impl_Board_coloured.l0 k x7 x31 x32 (wrap64 (x33 + 1)) x527000 x527001 x527002 x540000 x540001 x540002)
end
def impl_Board_coloured.f (k : Nat) (a0_0 : Int) (a0_1 : Int) (l0_2 : List Int) (a1 : Int) : Option (Int × Int × List Int × Bool) := (impl_Board_diagonals.f k a0_0 a0_1 l0_2 a1).bind fun bt528 => (if (bt528.1.length : Int) = 0 then (some (0, 0, ([] : List Int), false)) else ((impl_newBoard.f (bt528.1.length : Int) (bt528.2.length : Int)).bind fun bt534 => (impl_Board_coloured.l0 k bt528.2 bt528.1 (bt528.1.length : Int) 0 a0_0 a0_1 l0_2 bt534.1 bt534.2.1 bt534.2.2)))
theorem impl_Board_coloured.mono_l : ∀ k, (∀ y0 y1 y2 y3 y4 y5 y6 y7 y8 y9, LeO (impl_Board_coloured.l0 k y0 y1 y2 y3 y4 y5 y6 y7 y8 y9) (impl_Board_coloured.l0 (k + 1) y0 y1 y2 y3 y4 y5 y6 y7 y8 y9)) ∧ (∀ y0 y1 y2 y3 y4 y5 y6 y7 y8 y9 y10 y11 y12 y13 y14, LeO (impl_Board_coloured.l1 k y0 y1 y2 y3 y4 y5 y6 y7 y8 y9 y10 y11 y12 y13 y14) (impl_Board_coloured.l1 (k + 1) y0 y1 y2 y3 y4 y5 y6 y7 y8 y9 y10 y11 y12 y13 y14))
 | 0 => ⟨fun _ _ _ _ _ _ _ _ _ _ r h => by simp [impl_Board_coloured.l0] at h, fun _ _ _ _ _ _ _ _ _ _ _ _ _ _ _ r h => by simp [impl_Board_coloured.l1] at h⟩
 | k + 1 => by
  obtain ⟨ih0, ih1⟩ := impl_Board_coloured.mono_l k
  refine ⟨?_, ?_⟩
  ·
   intro y0 y1 y2 y3 y4 y5 y6 y7 y8 y9
   unfold impl_Board_coloured.l0
   repeat' first | (with_reducible first | exact ih0 _ _ _ _ _ _ _ _ _ _ | exact ih1 _ _ _ _ _ _ _ _ _ _ _ _ _ _ _ | exact impl_Board_diagonals.mono _ _ _ _ _ | exact LeO.refl _ | exact LeO.none _ | refine LeO.ite ?_ ?_ | refine LeO.bind ?_ (fun _ => ?_)) | exact ih0 _ _ _ _ _ _ _ _ _ _ | exact ih1 _ _ _ _ _ _ _ _ _ _ _ _ _ _ _ | exact impl_Board_diagonals.mono _ _ _ _ _ | exact LeO.none _ | refine LeO.ite ?_ ?_ | refine LeO.bind ?_ (fun _ => ?_)
  ·
   intro y0 y1 y2 y3 y4 y5 y6 y7 y8 y9 y10 y11 y12 y13 y14
   unfold impl_Board_coloured.l1
   repeat' first | (with_reducible first | exact ih0 _ _ _ _ _ _ _ _ _ _ | exact ih1 _ _ _ _ _ _ _ _ _ _ _ _ _ _ _ | exact impl_Board_diagonals.mono _ _ _ _ _ | exact LeO.refl _ | exact LeO.none _ | refine LeO.ite ?_ ?_ | refine LeO.bind ?_ (fun _ => ?_)) | exact ih0 _ _ _ _ _ _ _ _ _ _ | exact ih1 _ _ _ _ _ _ _ _ _ _ _ _ _ _ _ | exact impl_Board_diagonals.mono _ _ _ _ _ | exact LeO.none _ | refine LeO.ite ?_ ?_ | refine LeO.bind ?_ (fun _ => ?_)
theorem impl_Board_coloured.mono : ∀ a0 a1 a2 a3 k, LeO (impl_Board_coloured.f k a0 a1 a2 a3) (impl_Board_coloured.f (k + 1) a0 a1 a2 a3) := by
 intro a0 a1 a2 a3 k
 obtain ⟨ih0, ih1⟩ := impl_Board_coloured.mono_l k
 unfold impl_Board_coloured.f
 repeat' first | (with_reducible first | exact ih0 _ _ _ _ _ _ _ _ _ _ | exact ih1 _ _ _ _ _ _ _ _ _ _ _ _ _ _ _ | exact impl_Board_diagonals.mono _ _ _ _ _ | exact LeO.refl _ | exact LeO.none _ | refine LeO.ite ?_ ?_ | refine LeO.bind ?_ (fun _ => ?_)) | exact ih0 _ _ _ _ _ _ _ _ _ _ | exact ih1 _ _ _ _ _ _ _ _ _ _ _ _ _ _ _ | exact impl_Board_diagonals.mono _ _ _ _ _ | exact LeO.none _ | refine LeO.ite ?_ ?_ | refine LeO.bind ?_ (fun _ => ?_)
def impl_Board_coloured.T13 : Bool × List (List Nat × List Nat) := (true, [([], []), ([0], [0]), ([], []), ([1, 2], [1, 2]), ([3], [3]), ([], []), ([5], [5]), ([4, 6], [4, 6]), ([1, 2, 0, 1, 2, 3, 4, 5, 6, 7], [1, 2]), ([8, 7, 0, 1, 2, 3, 4, 5, 6, 7], [7, 8])])
def impl_Board_coloured.B13 : List Nat := [0, 1, 0, 7, 15, 0, 32, 127, 255, 511]
theorem impl_Board_coloured.tab13 : rtab .any (opsOf Try.f95 13) = impl_Board_coloured.T13 := by kernel_rfl
theorem impl_Board_coloured.bits13 : waitsOk impl_Board_coloured.T13.2 impl_Board_coloured.B13 = true := by kernel_rfl
theorem impl_Board_coloured.calls (k : Nat) (a0_0 : Int) (a0_1 : Int) (A0_2 : Option Addr) (c0_2 : Nat) (l0_2 : List Int) (a1 : Int) (r1 : Int) (r2 : Int) (r3 : List Int) (r4 : Bool) (w : World) (hr0_2 : Kd.C (Kd.int .i64) w A0_2 l0_2.length l0_2) (hc0_2 : l0_2.length ≤ c0_2) (h : impl_Board_coloured.f k a0_0 a0_1 l0_2 a1 = some (r1, r2, r3, r4)) :
  Calls Try.prog 95 #[.agg #[.int .i64 a0_0, .int .i64 a0_1, .slice A0_2 l0_2.length c0_2], .int .i64 a1] w fun e w' => ∃ v2_ : Value, e = .returned (.tuple #[.agg #[.int .i64 r1, .int .i64 r2, v2_], .bool r4]) ∧ Kd.R (Kd.int .i64) 3 w' w.heap.size (fun _ => True) v2_ r3 ∧ Below w.heap.size w w' := by
 have hu26 := Try.underlying26
 have HR0_2 := A_ hr0_2
 have HC0_2 := A_ hc0_2
 clear hr0_2 hc0_2
 have HB := A_ (Below.refl w.heap.size w)
 have H : ((impl_Board_diagonals.f k a0_0 a0_1 l0_2 a1).bind fun bt528 => (if (bt528.1.length : Int) = 0 then (some (0, 0, ([] : List Int), false)) else ((impl_newBoard.f (bt528.1.length : Int) (bt528.2.length : Int)).bind fun bt534 => (impl_Board_coloured.l0 k bt528.2 bt528.1 (bt528.1.length : Int) 0 a0_0 a0_1 l0_2 bt534.1 bt534.2.1 bt534.2.2)))) = some (r1, r2, r3, r4) := h
 clear h
 replace H := Option.bind_eq_some_iff.mp H
 obtain ⟨⟨t528, t531⟩, A30, H⟩ := H
 replace H : (if (t528.length : Int) = 0 then (some (0, 0, ([] : List Int), false)) else ((impl_newBoard.f (t528.length : Int) (t531.length : Int)).bind fun bt534 => (impl_Board_coloured.l0 k t531 t528 (t528.length : Int) 0 a0_0 a0_1 l0_2 bt534.1 bt534.2.1 bt534.2.2))) = some (r1, r2, r3, r4) := H
 have A3 := A_ A30
 clear A30
 by_cases c4 : (t528.length : Int) = 0
 ·
  rw [if_pos c4] at H
  have c4b0 : ((t528.length : Int) == 0) = true := beq_iff_eq.mpr c4
  have c4b1 : ((t528.length : Int) != 0) = false := bne_eq_false_iff_eq.mpr c4
  clear c4
  simp only [Option.some.injEq, Prod.mk.injEq] at H
  obtain ⟨rfl, rfl, rfl, rfl⟩ := H
  go_enter Try.func95, Try.ntmps95
  go_wp2_with (first | (refine gd_ 2 ?_; refine bx_ 2 #[.int .i64 a0_0, .int .i64 a0_1, .slice A0_2 l0_2.length c0_2] 26 ?_; intro gb526 hg w5 hbox hb; have BK526 := A_ (hbox); have GW526 := A_ ((ts_ hg : w.heap.size ≤ gb526)); have GE526 := A_ ((ts_ hg : w.heap.size ≤ gb526)); replace HB := A_ (below_step tb_ hb); clear hb hbox hg) | (refine gd_ 4 ?_; refine bx_ 4 #[.int .i64 0, .int .i64 0, .slice none 0 0] 26 ?_; intro gb527 hg w6 hbox hb; have BK527 := A_ (hbox); have GW527 := A_ ((ts_ hg : w.heap.size ≤ gb527)); have GE527 := A_ ((ts_ hg : w.heap.size ≤ gb527)); replace HB := A_ (below_step tb_ hb); have NB526_527 := A_ ((by rw [hg]; exact Nat.ne_of_lt (blk_lt (g := gb526) (o := .cells #[.int .i64 a0_0, .int .i64 a0_1, .slice A0_2 l0_2.length c0_2] 26 (0, 0)) (tk_ BK526)) : gb526 ≠ gb527)); have NB527_526 := A_ ((by rw [hg]; exact Nat.ne_of_gt (blk_lt (g := gb526) (o := .cells #[.int .i64 a0_0, .int .i64 a0_1, .slice A0_2 l0_2.length c0_2] 26 (0, 0)) (tk_ BK526)) : gb527 ≠ gb526)); replace BK526 := A_ (blk_below (g := gb526) (o := .cells #[.int .i64 a0_0, .int .i64 a0_1, .slice A0_2 l0_2.length c0_2] 26 (0, 0)) (tk_ BK526) hb); clear hb hbox hg; have hnb7 := NB526_527.out; have hnc7 := NB527_526.out; obtain ⟨hcz8_0, hcz8_1, hcz8_2, hfz8_0, hfz8_1, hfz8_2⟩ := cf3_ BK526.out) | (refine gc_ 90 ?_; refine goesT_ (some 19) Try.func90 #[.agg #[.int .i64 a0_0, .int .i64 a0_1, .slice A0_2 l0_2.length c0_2], .int .i64 a1] ?_; (with_reducible refine (impl_Board_diagonals.calls k a0_0 a0_1 _ _ l0_2 a1 t528 t531 _ ?side1 ?side2 A3.out).mono ?_); (case side1 => exact tc_ HR0_2.out); (case side2 => exact HC0_2.out); rintro e w9 ⟨v529, v532, rfl, ho0, ho1, hb⟩; refine ⟨_, rfl, ?_⟩; have HO530 := A_ (Kd.R_lower ho0 (below_size tb_)); have HO533 := A_ (Kd.R_lower ho1 (below_size tb_)); replace BK526 := A_ (blk_below (g := gb526) (o := .cells #[.int .i64 a0_0, .int .i64 a0_1, .slice A0_2 l0_2.length c0_2] 26 (0, 0)) (tk_ BK526) hb); replace BK527 := A_ (blk_below (g := gb527) (o := .cells #[.int .i64 0, .int .i64 0, .slice none 0 0] 26 (0, 0)) (tk_ BK527) hb); replace HB := A_ (below_step tb_ hb); (try clear hb); (try clear ho0); (try clear ho1); obtain ⟨Ao10, co10, eo10⟩ := Kd.R_slice HO530.out; subst eo10; obtain ⟨hcz11_0, hcz11_1, hcz11_2, hfz11_0, hfz11_1, hfz11_2⟩ := cf3_ BK527.out))
  refine bodyPost_ret (results_ct rfl _ _ gb527 26 #[.int .i64 0, .int .i64 0, .slice none 0 0] (0, 0) _ rfl (by (with_reducible repeat (first | refine blk_drewN ?_ _ | refine blk_drew ?_ | refine blk_alloc ?_ _)); refine blk_put (cs := #[.int .i64 0, .int .i64 0, .slice none 0 0]) ?_ 2 _ rfl; (with_reducible repeat (first | refine blk_drewN ?_ _ | refine blk_drew ?_ | refine blk_alloc ?_ _)); refine blk_put (cs := #[.int .i64 0, .int .i64 0, .slice none 0 0]) ?_ 1 _ rfl; (with_reducible repeat (first | refine blk_drewN ?_ _ | refine blk_drew ?_ | refine blk_alloc ?_ _)); refine blk_put (cs := #[.int .i64 0, .int .i64 0, .slice none 0 0]) ?_ 0 _ rfl; (with_reducible repeat (first | refine blk_drewN ?_ _ | refine blk_drew ?_ | refine blk_alloc ?_ _)); exact BK527.out) Try.underlying26 rfl (by kernel_rfl)) rfl ?_
  exact ⟨_, te_, by first | exact Kd.R_nil _ _ _ _ _ | exact Kd.N_nil _ _ _ _ _ | exact Kd.V_nil _ _ _ _ _ | exact Kd.Q_nil _ _ _ _ _ | exact Kd.S_nil _ _ _ _ _, tb_⟩
 ·
  rw [if_neg c4] at H
  have c4b0 : ((t528.length : Int) == 0) = false := beq_eq_false_iff_ne.mpr c4
  have c4b1 : ((t528.length : Int) != 0) = true := bne_iff_ne.mpr c4
  have c4b2 : ¬ (t528 = []) := fun h_ => c4 (by rw [h_]; rfl)
  replace H := Option.bind_eq_some_iff.mp H
  obtain ⟨⟨t534, t535, t536⟩, A120, H⟩ := H
  replace H : (impl_Board_coloured.l0 k t531 t528 (t528.length : Int) 0 a0_0 a0_1 l0_2 t534 t535 t536) = some (r1, r2, r3, r4) := H
  have A12 := A_ A120
  clear A120
  have H' := A_ H
  clear H
  go_enter Try.func95, Try.ntmps95
  go_wp2_with (first | (refine gd_ 2 ?_; refine bx_ 2 #[.int .i64 a0_0, .int .i64 a0_1, .slice A0_2 l0_2.length c0_2] 26 ?_; intro gb526 hg w13 hbox hb; have BK526 := A_ (hbox); have GW526 := A_ ((ts_ hg : w.heap.size ≤ gb526)); have GE526 := A_ ((ts_ hg : w.heap.size ≤ gb526)); replace HB := A_ (below_step tb_ hb); clear hb hbox hg) | (refine gd_ 4 ?_; refine bx_ 4 #[.int .i64 0, .int .i64 0, .slice none 0 0] 26 ?_; intro gb527 hg w14 hbox hb; have BK527 := A_ (hbox); have GW527 := A_ ((ts_ hg : w.heap.size ≤ gb527)); have GE527 := A_ ((ts_ hg : w.heap.size ≤ gb527)); replace HB := A_ (below_step tb_ hb); have NB526_527 := A_ ((by rw [hg]; exact Nat.ne_of_lt (blk_lt (g := gb526) (o := .cells #[.int .i64 a0_0, .int .i64 a0_1, .slice A0_2 l0_2.length c0_2] 26 (0, 0)) (tk_ BK526)) : gb526 ≠ gb527)); have NB527_526 := A_ ((by rw [hg]; exact Nat.ne_of_gt (blk_lt (g := gb526) (o := .cells #[.int .i64 a0_0, .int .i64 a0_1, .slice A0_2 l0_2.length c0_2] 26 (0, 0)) (tk_ BK526)) : gb527 ≠ gb526)); replace BK526 := A_ (blk_below (g := gb526) (o := .cells #[.int .i64 a0_0, .int .i64 a0_1, .slice A0_2 l0_2.length c0_2] 26 (0, 0)) (tk_ BK526) hb); clear hb hbox hg; have hnb15 := NB526_527.out; have hnc15 := NB527_526.out; obtain ⟨hcz16_0, hcz16_1, hcz16_2, hfz16_0, hfz16_1, hfz16_2⟩ := cf3_ BK526.out) | (refine gc_ 90 ?_; refine goesT_ (some 19) Try.func90 #[.agg #[.int .i64 a0_0, .int .i64 a0_1, .slice A0_2 l0_2.length c0_2], .int .i64 a1] ?_; (with_reducible refine (impl_Board_diagonals.calls k a0_0 a0_1 _ _ l0_2 a1 t528 t531 _ ?side1 ?side2 A3.out).mono ?_); (case side1 => exact tc_ HR0_2.out); (case side2 => exact HC0_2.out); rintro e w17 ⟨v529, v532, rfl, ho0, ho1, hb⟩; refine ⟨_, rfl, ?_⟩; have HO530 := A_ (Kd.R_lower ho0 (below_size tb_)); have HO533 := A_ (Kd.R_lower ho1 (below_size tb_)); replace BK526 := A_ (blk_below (g := gb526) (o := .cells #[.int .i64 a0_0, .int .i64 a0_1, .slice A0_2 l0_2.length c0_2] 26 (0, 0)) (tk_ BK526) hb); replace BK527 := A_ (blk_below (g := gb527) (o := .cells #[.int .i64 0, .int .i64 0, .slice none 0 0] 26 (0, 0)) (tk_ BK527) hb); replace HB := A_ (below_step tb_ hb); (try clear hb); (try clear ho0); (try clear ho1); obtain ⟨Ao18, co18, eo18⟩ := Kd.R_slice HO530.out; subst eo18; obtain ⟨Ao19, co19, eo19⟩ := Kd.R_slice HO533.out; subst eo19) | (refine gc_ 157 ?_; refine goesT_ (some 30) Try.func157 #[.int .i64 (t528.length : Int), .int .i64 (t531.length : Int)] ?_; (with_reducible refine (impl_newBoard.calls (t528.length : Int) (t531.length : Int) t534 t535 t536 _ A12.out).mono ?_); rintro e w20 ⟨v537, rfl, ho0, hb⟩; refine ⟨_, rfl, ?_⟩; have HO538 := A_ (Kd.R_lower (Kd.R_new' (Kd.R_new' ho0 (Kd.R_lt (tr_x HO530.out))) (Kd.R_lt (tr_x HO533.out))) (below_size tb_)); replace HO530 := A_ (Kd.R_elder' (tr_x HO530.out) (Kd.R_base ho0) hb); replace HO533 := A_ (Kd.R_elder' (tr_x HO533.out) (Kd.R_base ho0) hb); replace BK526 := A_ (blk_below (g := gb526) (o := .cells #[.int .i64 a0_0, .int .i64 a0_1, .slice A0_2 l0_2.length c0_2] 26 (0, 0)) (tk_ BK526) hb); replace BK527 := A_ (blk_below (g := gb527) (o := .cells #[.int .i64 0, .int .i64 0, .slice none 0 0] 26 (0, 0)) (tk_ BK527) hb); replace HB := A_ (below_step tb_ hb); (try clear hb); (try clear ho0)) | (refine gd_ 8 ?_; refine bx_ 8 #[.int .i64 0, .int .i64 0, .slice none 0 0] 26 ?_; intro gb539 hg w21 hbox hb; replace HO530 := A_ (Kd.R_below (tr_x HO530.out) hb); replace HO533 := A_ (Kd.R_below (tr_x HO533.out) hb); replace HO538 := A_ (Kd.R_below (tr_x HO538.out) hb); have BK539 := A_ (hbox); have GW539 := A_ ((ts_ hg : w.heap.size ≤ gb539)); have GE539 := A_ ((ts_ hg : w.heap.size ≤ gb539)); replace HB := A_ (below_step tb_ hb); have NB526_539 := A_ ((by rw [hg]; exact Nat.ne_of_lt (blk_lt (g := gb526) (o := .cells #[.int .i64 a0_0, .int .i64 a0_1, .slice A0_2 l0_2.length c0_2] 26 (0, 0)) (tk_ BK526)) : gb526 ≠ gb539)); have NB539_526 := A_ ((by rw [hg]; exact Nat.ne_of_gt (blk_lt (g := gb526) (o := .cells #[.int .i64 a0_0, .int .i64 a0_1, .slice A0_2 l0_2.length c0_2] 26 (0, 0)) (tk_ BK526)) : gb539 ≠ gb526)); replace BK526 := A_ (blk_below (g := gb526) (o := .cells #[.int .i64 a0_0, .int .i64 a0_1, .slice A0_2 l0_2.length c0_2] 26 (0, 0)) (tk_ BK526) hb); have NB527_539 := A_ ((by rw [hg]; exact Nat.ne_of_lt (blk_lt (g := gb527) (o := .cells #[.int .i64 0, .int .i64 0, .slice none 0 0] 26 (0, 0)) (tk_ BK527)) : gb527 ≠ gb539)); have NB539_527 := A_ ((by rw [hg]; exact Nat.ne_of_gt (blk_lt (g := gb527) (o := .cells #[.int .i64 0, .int .i64 0, .slice none 0 0] 26 (0, 0)) (tk_ BK527)) : gb539 ≠ gb527)); replace BK527 := A_ (blk_below (g := gb527) (o := .cells #[.int .i64 0, .int .i64 0, .slice none 0 0] 26 (0, 0)) (tk_ BK527) hb); clear hb hbox hg; have hnb22 := NB539_526.out; have hnc22 := NB526_539.out; have hnb23 := NB539_527.out; have hnc23 := NB527_539.out; obtain ⟨hcz24_0, hcz24_1, hcz24_2, hfz24_0, hfz24_1, hfz24_2⟩ := cf3_ BK539.out; obtain ⟨Ao25, co25, eo25⟩ := Kd.R_slice HO538.out; subst eo25))
  go_loopg [33] k (fun kq v33 w' => ∃ (x7_1 : List Int) (x31_1 : List Int) (x33_1 : Int) (x540002_1 : List Int) (u540002 : Value), v33 = .int .i64 x33_1 ∧ Aside0 (impl_Board_coloured.l0 kq x7_1 x31_1 (t528.length : Int) x33_1 a0_0 a0_1 l0_2 t534 t535 x540002_1 = some (r1, r2, r3, r4)) ∧ Aside0 (kq ≤ k) ∧ Aside0 (Kd.R (Kd.int .i64) 3 w' w.heap.size (fun k_ => some k_ ≠ ((.slice Ao18 t528.length co18) : Value).ownBlock ∧ some k_ ≠ (u540002 : Value).ownBlock) (.slice Ao19 t531.length co19) x7_1) ∧ Aside0 (Kd.R (Kd.int .i64) 3 w' w.heap.size (fun k_ => some k_ ≠ ((.slice Ao19 t531.length co19) : Value).ownBlock ∧ some k_ ≠ (u540002 : Value).ownBlock) (.slice Ao18 t528.length co18) x31_1) ∧ Aside0 (Kd.R (Kd.int .i64) 3 w' w.heap.size (fun k_ => some k_ ≠ ((.slice Ao19 t531.length co19) : Value).ownBlock ∧ some k_ ≠ ((.slice Ao18 t528.length co18) : Value).ownBlock) u540002 x540002_1) ∧ Aside0 (w'.heap[gb526]? = some (.cells #[.int .i64 a0_0, .int .i64 a0_1, (.slice A0_2 l0_2.length c0_2)] 26 (0, 0))) ∧ Aside0 (w'.heap[gb527]? = some (.cells #[.int .i64 0, .int .i64 0, (.slice none 0 0)] 26 (0, 0))) ∧ Aside0 (w'.heap[gb539]? = some (.cells #[.int .i64 t534, .int .i64 t535, u540002] 26 (0, 0))) ∧ Aside0 (Below w.heap.size w w'))
  case atStart => exact ⟨(t531), (t528), (0), (t536), (.slice Ao25 t536.length co25), tf_, H', ⟨Nat.le_refl _⟩, ⟨by (with_reducible repeat (first | apply Kd.R_alloc | apply Kd.R_drewN | apply Kd.R_drew)); exact Kd.R_mono (Kd.R_far (p := ⟨gb539, 2, none⟩) (Kd.R_far (p := ⟨gb539, 1, none⟩) (Kd.R_far (p := ⟨gb539, 0, none⟩) (Kd.R_types HO533.out BK539.out (by decide)) (fun _ hk => hk.2) (.int .i64 t534)) (fun _ hk => hk.2) (.int .i64 t535)) (fun _ hk => hk.2) (.slice Ao25 t536.length co25)) om_⟩, ⟨by (with_reducible repeat (first | apply Kd.R_alloc | apply Kd.R_drewN | apply Kd.R_drew)); exact Kd.R_mono (Kd.R_far (p := ⟨gb539, 2, none⟩) (Kd.R_far (p := ⟨gb539, 1, none⟩) (Kd.R_far (p := ⟨gb539, 0, none⟩) (Kd.R_types HO530.out BK539.out (by decide)) (fun _ hk => hk.2) (.int .i64 t534)) (fun _ hk => hk.2) (.int .i64 t535)) (fun _ hk => hk.2) (.slice Ao25 t536.length co25)) om_⟩, ⟨by (with_reducible repeat (first | apply Kd.R_alloc | apply Kd.R_drewN | apply Kd.R_drew)); exact Kd.R_mono (Kd.R_far (p := ⟨gb539, 2, none⟩) (Kd.R_far (p := ⟨gb539, 1, none⟩) (Kd.R_far (p := ⟨gb539, 0, none⟩) (Kd.R_types HO538.out BK539.out (by decide)) (fun _ hk => hk.2) (.int .i64 t534)) (fun _ hk => hk.2) (.int .i64 t535)) (fun _ hk => hk.2) (.slice Ao25 t536.length co25)) om_⟩, ⟨tk_ BK526⟩, ⟨tk_ BK527⟩, ⟨by (with_reducible repeat (first | refine blk_drewN ?_ _ | refine blk_drew ?_ | refine blk_alloc ?_ _)); refine blk_put (cs := #[.int .i64 t534, .int .i64 t535, .slice none 0 0]) ?_ 2 _ rfl; (with_reducible repeat (first | refine blk_drewN ?_ _ | refine blk_drew ?_ | refine blk_alloc ?_ _)); refine blk_put (cs := #[.int .i64 t534, .int .i64 0, .slice none 0 0]) ?_ 1 _ rfl; (with_reducible repeat (first | refine blk_drewN ?_ _ | refine blk_drew ?_ | refine blk_alloc ?_ _)); refine blk_put (cs := #[.int .i64 0, .int .i64 0, .slice none 0 0]) ?_ 0 _ rfl; (with_reducible repeat (first | refine blk_drewN ?_ _ | refine blk_drew ?_ | refine blk_alloc ?_ _)); exact BK539.out⟩, ⟨tb_⟩⟩
  case round =>
   clear H'
   try clear c1
   try clear c2
   try clear p2
   try clear c4
   try clear c4b0
   try clear c4b1
   try clear c4b2
   try clear c7
   try clear c9
   try clear c15
   try clear c22
   try clear c23
   try clear hcz11_0
   try clear hcz11_1
   try clear hcz11_2
   try clear hcz16_0
   try clear hcz16_1
   try clear hcz16_2
   try clear hcz24_0
   try clear hcz24_1
   try clear hcz24_2
   try clear hcz8_0
   try clear hcz8_1
   try clear hcz8_2
   try clear hfz11_0
   try clear hfz11_1
   try clear hfz11_2
   try clear hfz16_0
   try clear hfz16_1
   try clear hfz16_2
   try clear hfz24_0
   try clear hfz24_1
   try clear hfz24_2
   try clear hfz8_0
   try clear hfz8_1
   try clear hfz8_2
   obtain ⟨x7_1, x31_1, x33_1, x540002_1, u540002, rfl, HA, HK1, HO_7, HO_31, HO_540002, BK526, BK527, BK539, HB⟩ := hrel
   have hl7_1 := (Kd.R_reads' HO_7.out).1
   rw [hl7_1] at HO_7
   (try simp only [hl7_1])
   (try simp only [hl7_1] at BK526)
   (try simp only [hl7_1] at BK527)
   (try simp only [hl7_1] at BK539)
   (try simp only [hl7_1] at HO_31)
   (try simp only [hl7_1] at HO_540002)
   have hl31_1 := (Kd.R_reads' HO_31.out).1
   rw [hl31_1] at HO_31
   (try simp only [hl31_1])
   (try simp only [hl31_1] at BK526)
   (try simp only [hl31_1] at BK527)
   (try simp only [hl31_1] at BK539)
   (try simp only [hl31_1] at HO_7)
   (try simp only [hl31_1] at HO_540002)
   cases gk with
   | zero => exact absurd HA.out (by simp [impl_Board_coloured.l0])
   | succ k1 =>
    have H := HA.out
    clear HA
    simp only [impl_Board_coloured.l0] at H
    by_cases c26 : x33_1 < (t528.length : Int)
    ·
     rw [if_pos c26] at H
     have c26b0 := decide_eq_true c26
     (try (have c26b7 := c26b0; rw [hl7_1] at c26b7))
     (try (have c26b7 := c26b0; rw [hl31_1] at c26b7))
     (try (have c26b8 := c26b0; simp only [hl7_1, hl31_1] at c26b8))
     clear c26
     by_cases c27 : 0 ≤ x33_1
     ·
      rw [if_pos c27] at H
      have c27b0 := decide_eq_true c27
      clear c27
      by_cases c28 : x33_1 < (x31_1.length : Int)
      ·
       rw [if_pos c28] at H
       have c28b0 := decide_eq_true c28
       (try (have c28b7 := c28b0; rw [hl7_1] at c28b7))
       (try (have c28b7 := c28b0; rw [hl31_1] at c28b7))
       (try (have c28b8 := c28b0; simp only [hl7_1, hl31_1] at c28b8))
       clear c28
       have H' := A_ H
       clear H
       have p540 : 0 ≤ (x33_1 : Int) := od_
       have q540 : x33_1 < (x31_1.length : Int) := od_
       obtain ⟨ad540, e540, hx540_0⟩ := Kd.at_int (Kd.R_reads' HO_31.out).2.2 x33_1 p540 q540
       cases e540
       replace p540 := eq_true p540
       replace q540 := eq_true q540
       go_wp2
       go_loopg [40] k1 (fun kq v40 w' => ∃ (x7_2 : List Int) (x31_2 : List Int) (x38_2 : List Int) (x40_2 : Int) (x540002_2 : List Int) (u540002 : Value), v40 = .int .i64 x40_2 ∧ Aside0 (impl_Board_coloured.l1 kq x7_2 x33_1 (rd x31_1 x33_1) x31_2 (t528.length : Int) x33_1 x38_2 (x7_1.length : Int) x40_2 a0_0 a0_1 l0_2 t534 t535 x540002_2 = some (r1, r2, r3, r4)) ∧ Aside0 (kq ≤ k1) ∧ Aside0 (Kd.R (Kd.int .i64) 3 w' w.heap.size (fun k_ => some k_ ≠ ((.slice (some ad540) x31_1.length co18) : Value).ownBlock ∧ some k_ ≠ (u540002 : Value).ownBlock) (.slice Ao19 x7_1.length co19) x7_2) ∧ Aside0 (Kd.R (Kd.int .i64) 3 w' w.heap.size (fun k_ => some k_ ≠ ((.slice Ao19 x7_1.length co19) : Value).ownBlock ∧ some k_ ≠ ((.slice Ao19 x7_1.length co19) : Value).ownBlock ∧ some k_ ≠ (u540002 : Value).ownBlock) (.slice (some ad540) x31_1.length co18) x31_2) ∧ Aside0 (Kd.R (Kd.int .i64) 3 w' w.heap.size (fun k_ => some k_ ≠ ((.slice (some ad540) x31_1.length co18) : Value).ownBlock ∧ some k_ ≠ (u540002 : Value).ownBlock) (.slice Ao19 x7_1.length co19) x38_2) ∧ Aside0 (Kd.R (Kd.int .i64) 3 w' w.heap.size (fun k_ => some k_ ≠ ((.slice Ao19 x7_1.length co19) : Value).ownBlock ∧ some k_ ≠ ((.slice (some ad540) x31_1.length co18) : Value).ownBlock ∧ some k_ ≠ ((.slice Ao19 x7_1.length co19) : Value).ownBlock) u540002 x540002_2) ∧ Aside0 (w'.heap[gb526]? = some (.cells #[.int .i64 a0_0, .int .i64 a0_1, (.slice A0_2 l0_2.length c0_2)] 26 (0, 0))) ∧ Aside0 (w'.heap[gb527]? = some (.cells #[.int .i64 0, .int .i64 0, (.slice none 0 0)] 26 (0, 0))) ∧ Aside0 (w'.heap[gb539]? = some (.cells #[.int .i64 t534, .int .i64 t535, u540002] 26 (0, 0))) ∧ Aside0 (Below w.heap.size w w'))
       case atStart => exact ⟨(x7_1), (x31_1), (x7_1), (0), (x540002_1), (u540002), tf_, H', ⟨Nat.le_refl _⟩, ⟨by (try simp only [hl7_1]); (try simp only [hl31_1]); (with_reducible repeat (first | apply Kd.R_alloc | apply Kd.R_drewN | apply Kd.R_drew)); exact HO_7.out⟩, ⟨by (try simp only [hl7_1]); (try simp only [hl31_1]); (with_reducible repeat (first | apply Kd.R_alloc | apply Kd.R_drewN | apply Kd.R_drew)); exact Kd.R_mono HO_31.out om_⟩, ⟨by (try simp only [hl7_1]); (try simp only [hl31_1]); (with_reducible repeat (first | apply Kd.R_alloc | apply Kd.R_drewN | apply Kd.R_drew)); exact HO_7.out⟩, ⟨by (try simp only [hl7_1]); (try simp only [hl31_1]); (with_reducible repeat (first | apply Kd.R_alloc | apply Kd.R_drewN | apply Kd.R_drew)); exact Kd.R_mono HO_540002.out om_⟩, ⟨by (try simp only [hl7_1]); (try simp only [hl31_1]); (with_reducible repeat (first | refine blk_drewN ?_ _ | refine blk_drew ?_ | refine blk_alloc ?_ _)); exact BK526.out⟩, ⟨by (try simp only [hl7_1]); (try simp only [hl31_1]); (with_reducible repeat (first | refine blk_drewN ?_ _ | refine blk_drew ?_ | refine blk_alloc ?_ _)); exact BK527.out⟩, ⟨by (try simp only [hl7_1]); (try simp only [hl31_1]); (with_reducible repeat (first | refine blk_drewN ?_ _ | refine blk_drew ?_ | refine blk_alloc ?_ _)); exact BK539.out⟩, ⟨tb_⟩⟩
       case round =>
        clear H'
        try clear c1
        try clear c2
        try clear p2
        try clear c4
        try clear c4b0
        try clear c4b1
        try clear c4b2
        try clear p5
        try clear q5
        try clear hx5
        try clear c7
        try clear c9
        try clear c15
        try clear c22
        try clear c23
        try clear c26
        try clear c26b0
        try clear c27
        try clear c27b0
        try clear c28
        try clear c28b0
        try clear hcz11_0
        try clear hcz11_1
        try clear hcz11_2
        try clear hcz16_0
        try clear hcz16_1
        try clear hcz16_2
        try clear hcz24_0
        try clear hcz24_1
        try clear hcz24_2
        try clear hcz8_0
        try clear hcz8_1
        try clear hcz8_2
        try clear hfz11_0
        try clear hfz11_1
        try clear hfz11_2
        try clear hfz16_0
        try clear hfz16_1
        try clear hfz16_2
        try clear hfz24_0
        try clear hfz24_1
        try clear hfz24_2
        try clear hfz8_0
        try clear hfz8_1
        try clear hfz8_2
        try clear hx540_0
        try clear p2
        try clear p540
        try clear q540
        obtain ⟨x7_2, x31_2, x38_2, x40_2, x540002_2, u540002, rfl, HA, HK2, HO_7, HO_31, HO_38, HO_540002, BK526, BK527, BK539, HB⟩ := hrel
        have hl7_2 := (Kd.R_reads' HO_7.out).1
        rw [hl7_2] at HO_7
        (try simp only [hl7_2])
        (try simp only [hl7_2] at BK526)
        (try simp only [hl7_2] at BK527)
        (try simp only [hl7_2] at BK539)
        (try simp only [hl7_2] at HO_31)
        (try simp only [hl7_2] at HO_38)
        (try simp only [hl7_2] at HO_540002)
        have hl31_2 := (Kd.R_reads' HO_31.out).1
        rw [hl31_2] at HO_31
        (try simp only [hl31_2])
        (try simp only [hl31_2] at BK526)
        (try simp only [hl31_2] at BK527)
        (try simp only [hl31_2] at BK539)
        (try simp only [hl31_2] at HO_7)
        (try simp only [hl31_2] at HO_38)
        (try simp only [hl31_2] at HO_540002)
        have hl38_2 := (Kd.R_reads' HO_38.out).1
        rw [hl38_2] at HO_38
        (try simp only [hl38_2])
        (try simp only [hl38_2] at BK526)
        (try simp only [hl38_2] at BK527)
        (try simp only [hl38_2] at BK539)
        (try simp only [hl38_2] at HO_7)
        (try simp only [hl38_2] at HO_31)
        (try simp only [hl38_2] at HO_540002)
        cases gk with
        | zero => exact absurd HA.out (by simp [impl_Board_coloured.l1])
        | succ k2 =>
         have H := HA.out
         clear HA
         simp only [impl_Board_coloured.l1] at H
         by_cases c29 : x40_2 < (x7_1.length : Int)
         ·
          rw [if_pos c29] at H
          have c29b0 := decide_eq_true c29
          (try (have c29b7 := c29b0; rw [hl7_2] at c29b7))
          (try (have c29b7 := c29b0; rw [hl31_2] at c29b7))
          (try (have c29b7 := c29b0; rw [hl38_2] at c29b7))
          (try (have c29b8 := c29b0; simp only [hl7_1, hl31_1] at c29b8))
          (try (have c29b8 := c29b0; simp only [hl7_1, hl31_1, hl7_2] at c29b8))
          (try (have c29b8 := c29b0; simp only [hl7_1, hl31_1, hl7_2, hl31_2] at c29b8))
          (try (have c29b8 := c29b0; simp only [hl7_1, hl31_1, hl7_2, hl31_2, hl38_2] at c29b8))
          clear c29
          by_cases c30 : 0 ≤ x40_2
          ·
           rw [if_pos c30] at H
           have c30b0 := decide_eq_true c30
           clear c30
           by_cases c31 : x40_2 < (x38_2.length : Int)
           ·
            rw [if_pos c31] at H
            have c31b0 := decide_eq_true c31
            (try (have c31b7 := c31b0; rw [hl7_2] at c31b7))
            (try (have c31b7 := c31b0; rw [hl31_2] at c31b7))
            (try (have c31b7 := c31b0; rw [hl38_2] at c31b7))
            (try (have c31b8 := c31b0; simp only [hl7_1, hl31_1] at c31b8))
            (try (have c31b8 := c31b0; simp only [hl7_1, hl31_1, hl7_2] at c31b8))
            (try (have c31b8 := c31b0; simp only [hl7_1, hl31_1, hl7_2, hl31_2] at c31b8))
            (try (have c31b8 := c31b0; simp only [hl7_1, hl31_1, hl7_2, hl31_2, hl38_2] at c31b8))
            clear c31
            replace H := Option.bind_eq_some_iff.mp H
            obtain ⟨⟨t542, t543, t544⟩, A320, H⟩ := H
            replace H : (if t544 = true then ((impl_Board_has.f a0_0 a0_1 l0_2 t542 t543).bind fun t545 => (if t545 = true then (if 0 ≤ x33_1 then (if x33_1 < (x540002_2.length : Int) then (impl_Board_coloured.l1 k2 x7_2 x33_1 (rd x31_1 x33_1) x31_2 (t528.length : Int) x33_1 x38_2 (x7_1.length : Int) (wrap64 (x40_2 + 1)) a0_0 a0_1 l0_2 t534 t535 (x540002_2.set (x33_1 : Int).toNat (Go.bits .or .i64 (rd x540002_2 x33_1) (shl .i64 1 x40_2)))) else (none)) else (none)) else (impl_Board_coloured.l1 k2 x7_2 x33_1 (rd x31_1 x33_1) x31_2 (t528.length : Int) x33_1 x38_2 (x7_1.length : Int) (wrap64 (x40_2 + 1)) a0_0 a0_1 l0_2 t534 t535 x540002_2))) else (impl_Board_coloured.l1 k2 x7_2 x33_1 (rd x31_1 x33_1) x31_2 (t528.length : Int) x33_1 x38_2 (x7_1.length : Int) (wrap64 (x40_2 + 1)) a0_0 a0_1 l0_2 t534 t535 x540002_2)) = some (r1, r2, r3, r4) := H
            have A32 := A_ A320
            clear A320
            by_cases c33 : t544 = true
            ·
             subst c33
             have H1 : ((impl_Board_has.f a0_0 a0_1 l0_2 t542 t543).bind fun t545 => (if t545 = true then (if 0 ≤ x33_1 then (if x33_1 < (x540002_2.length : Int) then (impl_Board_coloured.l1 k2 x7_2 x33_1 (rd x31_1 x33_1) x31_2 (t528.length : Int) x33_1 x38_2 (x7_1.length : Int) (wrap64 (x40_2 + 1)) a0_0 a0_1 l0_2 t534 t535 (x540002_2.set (x33_1 : Int).toNat (Go.bits .or .i64 (rd x540002_2 x33_1) (shl .i64 1 x40_2)))) else (none)) else (none)) else (impl_Board_coloured.l1 k2 x7_2 x33_1 (rd x31_1 x33_1) x31_2 (t528.length : Int) x33_1 x38_2 (x7_1.length : Int) (wrap64 (x40_2 + 1)) a0_0 a0_1 l0_2 t534 t535 x540002_2))) = some (r1, r2, r3, r4) := by rw [if_pos rfl] at H; exact H
             clear H
             have H := H1
             clear H1
             replace H := Option.bind_eq_some_iff.mp H
             obtain ⟨t545, A340, H⟩ := H
             replace H : (if t545 = true then (if 0 ≤ x33_1 then (if x33_1 < (x540002_2.length : Int) then (impl_Board_coloured.l1 k2 x7_2 x33_1 (rd x31_1 x33_1) x31_2 (t528.length : Int) x33_1 x38_2 (x7_1.length : Int) (wrap64 (x40_2 + 1)) a0_0 a0_1 l0_2 t534 t535 (x540002_2.set (x33_1 : Int).toNat (Go.bits .or .i64 (rd x540002_2 x33_1) (shl .i64 1 x40_2)))) else (none)) else (none)) else (impl_Board_coloured.l1 k2 x7_2 x33_1 (rd x31_1 x33_1) x31_2 (t528.length : Int) x33_1 x38_2 (x7_1.length : Int) (wrap64 (x40_2 + 1)) a0_0 a0_1 l0_2 t534 t535 x540002_2)) = some (r1, r2, r3, r4) := H
             have A34 := A_ A340
             clear A340
             by_cases c35 : t545 = true
             ·
              subst c35
              have H1 : (if 0 ≤ x33_1 then (if x33_1 < (x540002_2.length : Int) then (impl_Board_coloured.l1 k2 x7_2 x33_1 (rd x31_1 x33_1) x31_2 (t528.length : Int) x33_1 x38_2 (x7_1.length : Int) (wrap64 (x40_2 + 1)) a0_0 a0_1 l0_2 t534 t535 (x540002_2.set (x33_1 : Int).toNat (Go.bits .or .i64 (rd x540002_2 x33_1) (shl .i64 1 x40_2)))) else (none)) else (none)) = some (r1, r2, r3, r4) := by rw [if_pos rfl] at H; exact H
              clear H
              have H := H1
              clear H1
              by_cases c36 : 0 ≤ x33_1
              ·
               rw [if_pos c36] at H
               have c36b0 := decide_eq_true c36
               clear c36
               by_cases c37 : x33_1 < (x540002_2.length : Int)
               ·
                rw [if_pos c37] at H
                have c37b0 := decide_eq_true c37
                (try (have c37b7 := c37b0; rw [hl7_2] at c37b7))
                (try (have c37b7 := c37b0; rw [hl31_2] at c37b7))
                (try (have c37b7 := c37b0; rw [hl38_2] at c37b7))
                (try (have c37b8 := c37b0; simp only [hl7_1, hl31_1] at c37b8))
                (try (have c37b8 := c37b0; simp only [hl7_1, hl31_1, hl7_2] at c37b8))
                (try (have c37b8 := c37b0; simp only [hl7_1, hl31_1, hl7_2, hl31_2] at c37b8))
                (try (have c37b8 := c37b0; simp only [hl7_1, hl31_1, hl7_2, hl31_2, hl38_2] at c37b8))
                clear c37
                have c38b0 := eq_true (od_ : 0 ≤ x40_2)
                obtain ⟨ji39, hji39⟩ : ∃ j_ : Int, (shl .i64 1 x40_2) = j_ := ⟨_, rfl⟩
                replace H : (impl_Board_coloured.l1 k2 x7_2 x33_1 (rd x31_1 x33_1) x31_2 (t528.length : Int) x33_1 x38_2 (x7_1.length : Int) (wrap64 (x40_2 + 1)) a0_0 a0_1 l0_2 t534 t535 (x540002_2.set (x33_1 : Int).toNat (Go.bits .or .i64 (rd x540002_2 x33_1) (ji39)))) = some (r1, r2, r3, r4) := by first | (rw [hji39] at H; exact H) | (simp only [hji39] at H ⊢; exact H)
                (try rw [hji39] at A32)
                (try rw [hji39] at A34)
                have hji39_ : (IntKind.i64.wrap (1 * 2 ^ min x40_2.toNat 64)) = ji39 := hji39
                have hji39z : x40_2 ≤ 64 → (IntKind.i64.wrap (1 * 2 ^ x40_2.toNat)) = ji39 := shl_small hji39
                have hji39u : (IntKind.i64.wrap (2 ^ min x40_2.toNat 64)) = ji39 := by have h_ := hji39_; rw [Int.one_mul] at h_; exact h_
                have hji39v : x40_2 ≤ 64 → (IntKind.i64.wrap (2 ^ x40_2.toNat)) = ji39 := fun hle_ => by have h_ := hji39z hle_; rw [Int.one_mul] at h_; exact h_
                have hji39y : (wrap64 (1 * 2 ^ min x40_2.toNat 64)) = ji39 := (i64_w _).symm.trans hji39_
                have hji39x : x40_2 ≤ 64 → (wrap64 (1 * 2 ^ x40_2.toNat)) = ji39 := fun h_ => (i64_w _).symm.trans (hji39z h_)
                obtain ⟨y547, hy547⟩ : ∃ y_ : List Int, y_ = (x540002_2.set (x33_1 : Int).toNat (Go.bits .or .i64 (rd x540002_2 x33_1) (ji39))) := ⟨_, rfl⟩
                replace H : (impl_Board_coloured.l1 k2 x7_2 x33_1 (rd x31_1 x33_1) x31_2 (t528.length : Int) x33_1 x38_2 (x7_1.length : Int) (wrap64 (x40_2 + 1)) a0_0 a0_1 l0_2 t534 t535 y547) = some (r1, r2, r3, r4) := ty_ hy547 H
                have Ny547 := A_ hy547
                clear hy547
                have H' := A_ H
                clear H
                have p541 : 0 ≤ (x40_2 : Int) := od_
                have q541 : x40_2 < (x38_2.length : Int) := od_
                obtain ⟨ad541, e541, hx541_0⟩ := Kd.at_int (Kd.R_reads' HO_38.out).2.2 x40_2 p541 q541
                cases e541
                replace p541 := eq_true p541
                replace q541 := eq_true q541
                have hnb41 := NB526_527.out
                have hnc41 := NB527_526.out
                have hnb42 := NB526_539.out
                have hnc42 := NB539_526.out
                obtain ⟨hcz43_0, hcz43_1, hcz43_2, hfz43_0, hfz43_1, hfz43_2⟩ := cf3_ BK526.out
                try go_wp2_with (first | (refine gc_ 91 ?_; refine goesT_ (some 49) Try.func91 #[.agg #[.int .i64 a0_0, .int .i64 a0_1, .slice A0_2 l0_2.length c0_2], .int .i64 (rd x31_1 x33_1), .int .i64 (rd x38_2 x40_2)] ?_; (with_reducible refine (impl_Board_crossing.calls a0_0 a0_1 _ _ l0_2 (rd x31_1 x33_1) (rd x38_2 x40_2) t542 t543 true _ ?side1 ?side2 A32.out).mono ?_); (case side1 => exact tc_ HR0_2.out); (case side2 => exact HC0_2.out); rintro e w44 ⟨rfl, hb⟩; refine ⟨_, rfl, ?_⟩; replace HO_7 := A_ (Kd.R_below (tr_x HO_7.out) hb); replace HO_31 := A_ (Kd.R_below (tr_x HO_31.out) hb); replace HO_38 := A_ (Kd.R_below (tr_x HO_38.out) hb); replace HO_540002 := A_ (Kd.R_below (tr_x HO_540002.out) hb); replace BK526 := A_ (blk_below (g := gb526) (o := .cells #[.int .i64 a0_0, .int .i64 a0_1, .slice A0_2 l0_2.length c0_2] 26 (0, 0)) (tk_ BK526) hb); replace BK527 := A_ (blk_below (g := gb527) (o := .cells #[.int .i64 0, .int .i64 0, .slice none 0 0] 26 (0, 0)) (tk_ BK527) hb); replace BK539 := A_ (blk_below (g := gb539) (o := .cells #[.int .i64 t534, .int .i64 t535, u540002] 26 (0, 0)) (tk_ BK539) hb); replace HB := A_ (below_step tb_ hb); (try clear hb); obtain ⟨hcz45_0, hcz45_1, hcz45_2, hfz45_0, hfz45_1, hfz45_2⟩ := cf3_ BK526.out) | (go_at_call 119; (with_reducible refine (impl_Board_has.calls a0_0 a0_1 _ _ l0_2 t542 t543 true _ ?side1 ?side2 A34.out).mono ?_); (case side1 => exact tc_ HR0_2.out); (case side2 => exact HC0_2.out); rintro e w46 ⟨rfl, hb⟩; replace HO_7 := A_ (Kd.R_below (tr_x HO_7.out) hb); replace HO_31 := A_ (Kd.R_below (tr_x HO_31.out) hb); replace HO_38 := A_ (Kd.R_below (tr_x HO_38.out) hb); replace HO_540002 := A_ (Kd.R_below (tr_x HO_540002.out) hb); replace BK526 := A_ (blk_below (g := gb526) (o := .cells #[.int .i64 a0_0, .int .i64 a0_1, .slice A0_2 l0_2.length c0_2] 26 (0, 0)) (tk_ BK526) hb); replace BK527 := A_ (blk_below (g := gb527) (o := .cells #[.int .i64 0, .int .i64 0, .slice none 0 0] 26 (0, 0)) (tk_ BK527) hb); replace BK539 := A_ (blk_below (g := gb539) (o := .cells #[.int .i64 t534, .int .i64 t535, u540002] 26 (0, 0)) (tk_ BK539) hb); replace HB := A_ (below_step tb_ hb); (try clear hb)))
                have n0_ := A_ (Kd.R_drew HO_7.out)
                have n1_ := A_ (Kd.R_drew HO_31.out)
                have n2_ := A_ (Kd.R_drew HO_38.out)
                have n3_ := A_ (Kd.R_drew HO_540002.out)
                have n4_ := A_ (blk_drew BK526.out)
                have n5_ := A_ (blk_drew BK527.out)
                have n6_ := A_ (blk_drew BK539.out)
                have n7_ := A_ (below_drew1 HB.out)
                clear HO_7
                clear HO_31
                clear HO_38
                clear HO_540002
                clear BK526
                clear BK527
                clear BK539
                clear HB
                have HO_7 := n0_
                have HO_31 := n1_
                have HO_38 := n2_
                have HO_540002 := n3_
                have BK526 := n4_
                have BK527 := n5_
                have BK539 := n6_
                have HB := n7_
                clear n0_ n1_ n2_ n3_ n4_ n5_ n6_ n7_
                obtain ⟨Ao48, co48, eo48⟩ := Kd.R_slice HO_540002.out
                (first | subst eo48 | (injection eo48 with f1_ f2_ f3_; have f4_ := f1_.symm; have f5_ := f3_.symm; clear f1_ f2_ f3_; subst f4_; subst f5_))
                have p546 : 0 ≤ (x33_1 : Int) := od_
                have q546 : x33_1 < (x540002_2.length : Int) := od_
                obtain ⟨ad546, e546, hx546_0⟩ := Kd.at_int (Kd.R_reads' HO_540002.out).2.2 x33_1 p546 q546
                cases e546
                replace p546 := eq_true p546
                replace q546 := eq_true q546
                have p40 : 0 ≤ (x33_1 : Int) := od_
                have q40 : (x33_1 : Int) < ((x540002_2.length : Int) : Int) := od_
                obtain ⟨go40, co40, eo40, gb40, gl40, cl40, HG40⟩ := Kd.R_form HO_540002.out (by omega)
                (first | cases eo40 | (injection eo40 with ea_ en_ ec_; (first | subst ea_ | (injection ea_ with ea_; subst ea_)); subst ec_; clear en_))
                have GB40 := A_ gb40
                have GG40 := A_ HG40
                clear gb40 gl40 HG40
                (first | simp only [add_plain] at hx546_0 | skip)
                obtain ⟨hx40_0, hf40_0⟩ := Kd.R_celln 0 HO_540002.out (x33_1 : Int) p40 q40
                replace p40 := eq_true p40
                replace q40 := eq_true q40
                have HP49 := Kd.R_putn HO_540002.out (x33_1 : Int) (Go.bits .or .i64 (rd x540002_2 x33_1) (ji39))
                rw [← Ny547.out] at HP49
                have HQ49 := A_ HP49
                clear HP49
                refine start_ (n := 10) (S := fun w' => w'.cell? ⟨gb539, 0, none⟩ = some (.int .i64 t534) ∧ w'.cell? ⟨gb539, 1, none⟩ = some (.int .i64 t535) ∧ w'.cell? ⟨gb539, 2, none⟩ = some (.slice (some ⟨go40, 0, none⟩) x540002_2.length co48) ∧ w'.cell? ⟨go40, (x33_1).toNat, none⟩ = some (.int .i64 (rd x540002_2 x33_1))) (ds := [9]) (Fn.bl 10 0) (by kernel_rfl) rfl rfl ⟨(blk_cell BK539.out 0).trans rfl, (blk_cell BK539.out 1).trans rfl, (blk_cell BK539.out 2).trans rfl, hx546_0⟩ (fun hHeld => ?_); refine with_tabW impl_Board_coloured.tab13 impl_Board_coloured.bits13 (fun HT_ HW_ => ?_)
                generalize w46.drew = w47 at HO_7 HO_31 HO_38 HO_540002 BK526 BK527 BK539 HB GG40 HQ49 hf40_0 hx40_0 hx546_0 hHeld ⊢
                refine pq_ 0 (some 60) (Fn.bl 10 1) HT_.out ?_
                refine pq_ 2 (some 62) (Fn.bl 10 5) HT_.out ?_
                refine pq_ 5 (some 65) (Fn.bl 10 37) HT_.out ?_
                refine pq_ 6 (some 66) (Fn.bl 10 101) HT_.out ?_
                refine tq_ 1 (some 61) (Fn.bl 10 103) HT_.out HW_.out hHeld ?_ (hy0 := by rintro w' ⟨s0, s1, s2, s3⟩; go_simp; with_reducible rfl)
                refine pq_ 3 (some 63) (Fn.bl 10 111) HT_.out ?_
                refine tq_ 4 (some 64) (Fn.bl 10 127) HT_.out HW_.out hHeld ?_ (hy0 := by rintro w' ⟨s0, s1, s2, s3⟩; go_simp; with_reducible rfl)
                refine pq_ 7 (some 67) (Fn.bl 10 255) HT_.out ?_
                refine pq_ 8 (some 68) (Fn.bl 10 511) HT_.out ?_
                refine last_ (i := 9) (N := none) (Fn.bl 10 1023) rfl rfl (one_of HT_.out (by kernel_rfl)) (by decide) (fun K hK => ?_)
                refine skip_ (w1 := ?_) (by rfl) rfl ?_ ?_
                rotate_left
                ·
                 go_simp
                 rfl
                refine hK.out _ _ ?_
                clear hK K
                refine done_ (done_of HT_.out (by kernel_rfl)) ?_
                try go_wp2
                (try simp only [← hl7_2, ← hl31_2, ← hl38_2])
                go_roundg k2
                case measure => have := HK1.out; have := HK2.out; omega
                case rel => exact ⟨(x7_2), (x31_2), (x38_2), (wrap64 (x40_2 + 1)), (y547), (.slice (some ⟨go40, 0, none⟩) x540002_2.length co48), tf_, H', ⟨by have := HK1.out; have := HK2.out; omega⟩, ⟨by (try simp only [hl7_1]); (try simp only [hl31_1]); (try simp only [hl7_2]); (try simp only [hl31_2]); (try simp only [hl38_2]); (with_reducible repeat (first | apply Kd.R_alloc | apply Kd.R_drewN | apply Kd.R_drew)); exact Kd.R_mono (Kd.R_far (p := ⟨go40, (x33_1 : Int).toNat, none⟩) (Kd.R_mono HO_7.out (fun k_ hk => (⟨hk, fun e_ => hk.2 (by rw [e_]; rfl)⟩ : _ ∧ k_ ≠ go40))) (fun _ hk => hk.2) (.int .i64 (Go.bits .or .i64 (rd x540002_2 x33_1) (ji39)))) om_⟩, ⟨by (try simp only [hl7_1]); (try simp only [hl31_1]); (try simp only [hl7_2]); (try simp only [hl31_2]); (try simp only [hl38_2]); (with_reducible repeat (first | apply Kd.R_alloc | apply Kd.R_drewN | apply Kd.R_drew)); exact Kd.R_mono (Kd.R_far (p := ⟨go40, (x33_1 : Int).toNat, none⟩) (Kd.R_mono HO_31.out (fun k_ hk => (⟨hk, fun e_ => hk.2.2 (by rw [e_]; rfl)⟩ : _ ∧ k_ ≠ go40))) (fun _ hk => hk.2) (.int .i64 (Go.bits .or .i64 (rd x540002_2 x33_1) (ji39)))) om_⟩, ⟨by (try simp only [hl7_1]); (try simp only [hl31_1]); (try simp only [hl7_2]); (try simp only [hl31_2]); (try simp only [hl38_2]); (with_reducible repeat (first | apply Kd.R_alloc | apply Kd.R_drewN | apply Kd.R_drew)); exact Kd.R_mono (Kd.R_far (p := ⟨go40, (x33_1 : Int).toNat, none⟩) (Kd.R_mono HO_38.out (fun k_ hk => (⟨hk, fun e_ => hk.2 (by rw [e_]; rfl)⟩ : _ ∧ k_ ≠ go40))) (fun _ hk => hk.2) (.int .i64 (Go.bits .or .i64 (rd x540002_2 x33_1) (ji39)))) om_⟩, ⟨by (try simp only [hl7_1]); (try simp only [hl31_1]); (try simp only [hl7_2]); (try simp only [hl31_2]); (try simp only [hl38_2]); (with_reducible repeat (first | apply Kd.R_alloc | apply Kd.R_drewN | apply Kd.R_drew)); exact HQ49.out⟩, ⟨by (try simp only [hl7_1]); (try simp only [hl31_1]); (try simp only [hl7_2]); (try simp only [hl31_2]); (try simp only [hl38_2]); (with_reducible repeat (first | refine blk_drewN ?_ _ | refine blk_drew ?_ | refine blk_alloc ?_ _)); refine blk_far ?_ (by have h_ := Kd.R_ne HO_540002.out BK526.out (by decide); intro e_; exact h_ (by rw [e_]; rfl)) _; (with_reducible repeat (first | refine blk_drewN ?_ _ | refine blk_drew ?_ | refine blk_alloc ?_ _)); exact BK526.out⟩, ⟨by (try simp only [hl7_1]); (try simp only [hl31_1]); (try simp only [hl7_2]); (try simp only [hl31_2]); (try simp only [hl38_2]); (with_reducible repeat (first | refine blk_drewN ?_ _ | refine blk_drew ?_ | refine blk_alloc ?_ _)); refine blk_far ?_ (by have h_ := Kd.R_ne HO_540002.out BK527.out (by decide); intro e_; exact h_ (by rw [e_]; rfl)) _; (with_reducible repeat (first | refine blk_drewN ?_ _ | refine blk_drew ?_ | refine blk_alloc ?_ _)); exact BK527.out⟩, ⟨by (try simp only [hl7_1]); (try simp only [hl31_1]); (try simp only [hl7_2]); (try simp only [hl31_2]); (try simp only [hl38_2]); (with_reducible repeat (first | refine blk_drewN ?_ _ | refine blk_drew ?_ | refine blk_alloc ?_ _)); refine blk_far ?_ (by have h_ := Kd.R_ne HO_540002.out BK539.out (by decide); intro e_; exact h_ (by rw [e_]; rfl)) _; (with_reducible repeat (first | refine blk_drewN ?_ _ | refine blk_drew ?_ | refine blk_alloc ?_ _)); exact BK539.out⟩, ⟨tb_⟩⟩
               ·
                rw [if_neg c37] at H
                exact absurd H (by simp)
              ·
               rw [if_neg c36] at H
               exact absurd H (by simp)
             ·
              replace c35 := Bool.eq_false_iff.mpr c35
              subst c35
              have H1 : (impl_Board_coloured.l1 k2 x7_2 x33_1 (rd x31_1 x33_1) x31_2 (t528.length : Int) x33_1 x38_2 (x7_1.length : Int) (wrap64 (x40_2 + 1)) a0_0 a0_1 l0_2 t534 t535 x540002_2) = some (r1, r2, r3, r4) := by rw [if_neg (show ¬ (false = true) by decide)] at H; exact H
              clear H
              have H := H1
              clear H1
              have H' := A_ H
              clear H
              have p541 : 0 ≤ (x40_2 : Int) := od_
              have q541 : x40_2 < (x38_2.length : Int) := od_
              obtain ⟨ad541, e541, hx541_0⟩ := Kd.at_int (Kd.R_reads' HO_38.out).2.2 x40_2 p541 q541
              cases e541
              replace p541 := eq_true p541
              replace q541 := eq_true q541
              have hnb50 := NB526_527.out
              have hnc50 := NB527_526.out
              have hnb51 := NB526_539.out
              have hnc51 := NB539_526.out
              obtain ⟨hcz52_0, hcz52_1, hcz52_2, hfz52_0, hfz52_1, hfz52_2⟩ := cf3_ BK526.out
              go_wp2_with (first | (refine gc_ 91 ?_; refine goesT_ (some 49) Try.func91 #[.agg #[.int .i64 a0_0, .int .i64 a0_1, .slice A0_2 l0_2.length c0_2], .int .i64 (rd x31_1 x33_1), .int .i64 (rd x38_2 x40_2)] ?_; (with_reducible refine (impl_Board_crossing.calls a0_0 a0_1 _ _ l0_2 (rd x31_1 x33_1) (rd x38_2 x40_2) t542 t543 true _ ?side1 ?side2 A32.out).mono ?_); (case side1 => exact tc_ HR0_2.out); (case side2 => exact HC0_2.out); rintro e w53 ⟨rfl, hb⟩; refine ⟨_, rfl, ?_⟩; replace HO_7 := A_ (Kd.R_below (tr_x HO_7.out) hb); replace HO_31 := A_ (Kd.R_below (tr_x HO_31.out) hb); replace HO_38 := A_ (Kd.R_below (tr_x HO_38.out) hb); replace HO_540002 := A_ (Kd.R_below (tr_x HO_540002.out) hb); replace BK526 := A_ (blk_below (g := gb526) (o := .cells #[.int .i64 a0_0, .int .i64 a0_1, .slice A0_2 l0_2.length c0_2] 26 (0, 0)) (tk_ BK526) hb); replace BK527 := A_ (blk_below (g := gb527) (o := .cells #[.int .i64 0, .int .i64 0, .slice none 0 0] 26 (0, 0)) (tk_ BK527) hb); replace BK539 := A_ (blk_below (g := gb539) (o := .cells #[.int .i64 t534, .int .i64 t535, u540002] 26 (0, 0)) (tk_ BK539) hb); replace HB := A_ (below_step tb_ hb); (try clear hb); obtain ⟨hcz54_0, hcz54_1, hcz54_2, hfz54_0, hfz54_1, hfz54_2⟩ := cf3_ BK526.out) | (go_at_call 119; (with_reducible refine (impl_Board_has.calls a0_0 a0_1 _ _ l0_2 t542 t543 false _ ?side1 ?side2 A34.out).mono ?_); (case side1 => exact tc_ HR0_2.out); (case side2 => exact HC0_2.out); rintro e w55 ⟨rfl, hb⟩; replace HO_7 := A_ (Kd.R_below (tr_x HO_7.out) hb); replace HO_31 := A_ (Kd.R_below (tr_x HO_31.out) hb); replace HO_38 := A_ (Kd.R_below (tr_x HO_38.out) hb); replace HO_540002 := A_ (Kd.R_below (tr_x HO_540002.out) hb); replace BK526 := A_ (blk_below (g := gb526) (o := .cells #[.int .i64 a0_0, .int .i64 a0_1, .slice A0_2 l0_2.length c0_2] 26 (0, 0)) (tk_ BK526) hb); replace BK527 := A_ (blk_below (g := gb527) (o := .cells #[.int .i64 0, .int .i64 0, .slice none 0 0] 26 (0, 0)) (tk_ BK527) hb); replace BK539 := A_ (blk_below (g := gb539) (o := .cells #[.int .i64 t534, .int .i64 t535, u540002] 26 (0, 0)) (tk_ BK539) hb); replace HB := A_ (below_step tb_ hb); (try clear hb)))
              (try simp only [← hl7_2, ← hl31_2, ← hl38_2])
              go_roundg k2
              case measure => have := HK1.out; have := HK2.out; omega
              case rel => exact ⟨(x7_2), (x31_2), (x38_2), (wrap64 (x40_2 + 1)), (x540002_2), (u540002), tf_, H', ⟨by have := HK1.out; have := HK2.out; omega⟩, ⟨by (try simp only [hl7_1]); (try simp only [hl31_1]); (try simp only [hl7_2]); (try simp only [hl31_2]); (try simp only [hl38_2]); (with_reducible repeat (first | apply Kd.R_alloc | apply Kd.R_drewN | apply Kd.R_drew)); exact HO_7.out⟩, ⟨by (try simp only [hl7_1]); (try simp only [hl31_1]); (try simp only [hl7_2]); (try simp only [hl31_2]); (try simp only [hl38_2]); (with_reducible repeat (first | apply Kd.R_alloc | apply Kd.R_drewN | apply Kd.R_drew)); exact HO_31.out⟩, ⟨by (try simp only [hl7_1]); (try simp only [hl31_1]); (try simp only [hl7_2]); (try simp only [hl31_2]); (try simp only [hl38_2]); (with_reducible repeat (first | apply Kd.R_alloc | apply Kd.R_drewN | apply Kd.R_drew)); exact HO_38.out⟩, ⟨by (try simp only [hl7_1]); (try simp only [hl31_1]); (try simp only [hl7_2]); (try simp only [hl31_2]); (try simp only [hl38_2]); (with_reducible repeat (first | apply Kd.R_alloc | apply Kd.R_drewN | apply Kd.R_drew)); exact HO_540002.out⟩, ⟨by (try simp only [hl7_1]); (try simp only [hl31_1]); (try simp only [hl7_2]); (try simp only [hl31_2]); (try simp only [hl38_2]); (with_reducible repeat (first | refine blk_drewN ?_ _ | refine blk_drew ?_ | refine blk_alloc ?_ _)); exact BK526.out⟩, ⟨by (try simp only [hl7_1]); (try simp only [hl31_1]); (try simp only [hl7_2]); (try simp only [hl31_2]); (try simp only [hl38_2]); (with_reducible repeat (first | refine blk_drewN ?_ _ | refine blk_drew ?_ | refine blk_alloc ?_ _)); exact BK527.out⟩, ⟨by (try simp only [hl7_1]); (try simp only [hl31_1]); (try simp only [hl7_2]); (try simp only [hl31_2]); (try simp only [hl38_2]); (with_reducible repeat (first | refine blk_drewN ?_ _ | refine blk_drew ?_ | refine blk_alloc ?_ _)); exact BK539.out⟩, ⟨tb_⟩⟩
            ·
             replace c33 := Bool.eq_false_iff.mpr c33
             subst c33
             have H1 : (impl_Board_coloured.l1 k2 x7_2 x33_1 (rd x31_1 x33_1) x31_2 (t528.length : Int) x33_1 x38_2 (x7_1.length : Int) (wrap64 (x40_2 + 1)) a0_0 a0_1 l0_2 t534 t535 x540002_2) = some (r1, r2, r3, r4) := by rw [if_neg (show ¬ (false = true) by decide)] at H; exact H
             clear H
             have H := H1
             clear H1
             have H' := A_ H
             clear H
             have p541 : 0 ≤ (x40_2 : Int) := od_
             have q541 : x40_2 < (x38_2.length : Int) := od_
             obtain ⟨ad541, e541, hx541_0⟩ := Kd.at_int (Kd.R_reads' HO_38.out).2.2 x40_2 p541 q541
             cases e541
             replace p541 := eq_true p541
             replace q541 := eq_true q541
             have hnb56 := NB526_527.out
             have hnc56 := NB527_526.out
             have hnb57 := NB526_539.out
             have hnc57 := NB539_526.out
             obtain ⟨hcz58_0, hcz58_1, hcz58_2, hfz58_0, hfz58_1, hfz58_2⟩ := cf3_ BK526.out
             go_wp2_with (first | (refine gc_ 91 ?_; refine goesT_ (some 49) Try.func91 #[.agg #[.int .i64 a0_0, .int .i64 a0_1, .slice A0_2 l0_2.length c0_2], .int .i64 (rd x31_1 x33_1), .int .i64 (rd x38_2 x40_2)] ?_; (with_reducible refine (impl_Board_crossing.calls a0_0 a0_1 _ _ l0_2 (rd x31_1 x33_1) (rd x38_2 x40_2) t542 t543 false _ ?side1 ?side2 A32.out).mono ?_); (case side1 => exact tc_ HR0_2.out); (case side2 => exact HC0_2.out); rintro e w59 ⟨rfl, hb⟩; refine ⟨_, rfl, ?_⟩; replace HO_7 := A_ (Kd.R_below (tr_x HO_7.out) hb); replace HO_31 := A_ (Kd.R_below (tr_x HO_31.out) hb); replace HO_38 := A_ (Kd.R_below (tr_x HO_38.out) hb); replace HO_540002 := A_ (Kd.R_below (tr_x HO_540002.out) hb); replace BK526 := A_ (blk_below (g := gb526) (o := .cells #[.int .i64 a0_0, .int .i64 a0_1, .slice A0_2 l0_2.length c0_2] 26 (0, 0)) (tk_ BK526) hb); replace BK527 := A_ (blk_below (g := gb527) (o := .cells #[.int .i64 0, .int .i64 0, .slice none 0 0] 26 (0, 0)) (tk_ BK527) hb); replace BK539 := A_ (blk_below (g := gb539) (o := .cells #[.int .i64 t534, .int .i64 t535, u540002] 26 (0, 0)) (tk_ BK539) hb); replace HB := A_ (below_step tb_ hb); (try clear hb)))
             (try simp only [← hl7_2, ← hl31_2, ← hl38_2])
             go_roundg k2
             case measure => have := HK1.out; have := HK2.out; omega
             case rel => exact ⟨(x7_2), (x31_2), (x38_2), (wrap64 (x40_2 + 1)), (x540002_2), (u540002), tf_, H', ⟨by have := HK1.out; have := HK2.out; omega⟩, ⟨by (try simp only [hl7_1]); (try simp only [hl31_1]); (try simp only [hl7_2]); (try simp only [hl31_2]); (try simp only [hl38_2]); (with_reducible repeat (first | apply Kd.R_alloc | apply Kd.R_drewN | apply Kd.R_drew)); exact HO_7.out⟩, ⟨by (try simp only [hl7_1]); (try simp only [hl31_1]); (try simp only [hl7_2]); (try simp only [hl31_2]); (try simp only [hl38_2]); (with_reducible repeat (first | apply Kd.R_alloc | apply Kd.R_drewN | apply Kd.R_drew)); exact HO_31.out⟩, ⟨by (try simp only [hl7_1]); (try simp only [hl31_1]); (try simp only [hl7_2]); (try simp only [hl31_2]); (try simp only [hl38_2]); (with_reducible repeat (first | apply Kd.R_alloc | apply Kd.R_drewN | apply Kd.R_drew)); exact HO_38.out⟩, ⟨by (try simp only [hl7_1]); (try simp only [hl31_1]); (try simp only [hl7_2]); (try simp only [hl31_2]); (try simp only [hl38_2]); (with_reducible repeat (first | apply Kd.R_alloc | apply Kd.R_drewN | apply Kd.R_drew)); exact HO_540002.out⟩, ⟨by (try simp only [hl7_1]); (try simp only [hl31_1]); (try simp only [hl7_2]); (try simp only [hl31_2]); (try simp only [hl38_2]); (with_reducible repeat (first | refine blk_drewN ?_ _ | refine blk_drew ?_ | refine blk_alloc ?_ _)); exact BK526.out⟩, ⟨by (try simp only [hl7_1]); (try simp only [hl31_1]); (try simp only [hl7_2]); (try simp only [hl31_2]); (try simp only [hl38_2]); (with_reducible repeat (first | refine blk_drewN ?_ _ | refine blk_drew ?_ | refine blk_alloc ?_ _)); exact BK527.out⟩, ⟨by (try simp only [hl7_1]); (try simp only [hl31_1]); (try simp only [hl7_2]); (try simp only [hl31_2]); (try simp only [hl38_2]); (with_reducible repeat (first | refine blk_drewN ?_ _ | refine blk_drew ?_ | refine blk_alloc ?_ _)); exact BK539.out⟩, ⟨tb_⟩⟩
           ·
            rw [if_neg c31] at H
            exact absurd H (by simp)
          ·
           rw [if_neg c30] at H
           exact absurd H (by simp)
         ·
          rw [if_neg c29] at H
          have c29b0 := decide_eq_false c29
          (try (have c29b7 := c29b0; rw [hl7_2] at c29b7))
          (try (have c29b7 := c29b0; rw [hl31_2] at c29b7))
          (try (have c29b7 := c29b0; rw [hl38_2] at c29b7))
          (try (have c29b8 := c29b0; simp only [hl7_1, hl31_1] at c29b8))
          (try (have c29b8 := c29b0; simp only [hl7_1, hl31_1, hl7_2] at c29b8))
          (try (have c29b8 := c29b0; simp only [hl7_1, hl31_1, hl7_2, hl31_2] at c29b8))
          (try (have c29b8 := c29b0; simp only [hl7_1, hl31_1, hl7_2, hl31_2, hl38_2] at c29b8))
          clear c29
          have H' := A_ H
          clear H
          go_wp2
          (try simp only [← hl7_1, ← hl31_1, ← hl7_2, ← hl31_2, ← hl38_2])
          go_roundg k2
          case measure => have := HK1.out; have := HK2.out; omega
          case rel => exact ⟨(x7_2), (x31_2), (wrap64 (x33_1 + 1)), (x540002_2), (u540002), tf_, H', ⟨by have := HK1.out; have := HK2.out; omega⟩, ⟨by (try simp only [hl7_1]); (try simp only [hl31_1]); (try simp only [hl7_2]); (try simp only [hl31_2]); (try simp only [hl38_2]); (with_reducible repeat (first | apply Kd.R_alloc | apply Kd.R_drewN | apply Kd.R_drew)); exact HO_7.out⟩, ⟨by (try simp only [hl7_1]); (try simp only [hl31_1]); (try simp only [hl7_2]); (try simp only [hl31_2]); (try simp only [hl38_2]); (with_reducible repeat (first | apply Kd.R_alloc | apply Kd.R_drewN | apply Kd.R_drew)); exact Kd.R_mono HO_31.out om_⟩, ⟨by (try simp only [hl7_1]); (try simp only [hl31_1]); (try simp only [hl7_2]); (try simp only [hl31_2]); (try simp only [hl38_2]); (with_reducible repeat (first | apply Kd.R_alloc | apply Kd.R_drewN | apply Kd.R_drew)); exact Kd.R_mono HO_540002.out om_⟩, ⟨by (try simp only [hl7_1]); (try simp only [hl31_1]); (try simp only [hl7_2]); (try simp only [hl31_2]); (try simp only [hl38_2]); (with_reducible repeat (first | refine blk_drewN ?_ _ | refine blk_drew ?_ | refine blk_alloc ?_ _)); exact BK526.out⟩, ⟨by (try simp only [hl7_1]); (try simp only [hl31_1]); (try simp only [hl7_2]); (try simp only [hl31_2]); (try simp only [hl38_2]); (with_reducible repeat (first | refine blk_drewN ?_ _ | refine blk_drew ?_ | refine blk_alloc ?_ _)); exact BK527.out⟩, ⟨by (try simp only [hl7_1]); (try simp only [hl31_1]); (try simp only [hl7_2]); (try simp only [hl31_2]); (try simp only [hl38_2]); (with_reducible repeat (first | refine blk_drewN ?_ _ | refine blk_drew ?_ | refine blk_alloc ?_ _)); exact BK539.out⟩, ⟨tb_⟩⟩
      ·
       rw [if_neg c28] at H
       exact absurd H (by simp)
     ·
      rw [if_neg c27] at H
      exact absurd H (by simp)
    ·
     rw [if_neg c26] at H
     have c26b0 := decide_eq_false c26
     (try (have c26b7 := c26b0; rw [hl7_2] at c26b7))
     (try (have c26b7 := c26b0; rw [hl31_2] at c26b7))
     (try (have c26b7 := c26b0; rw [hl38_2] at c26b7))
     (try (have c26b8 := c26b0; simp only [hl7_1, hl31_1] at c26b8))
     (try (have c26b8 := c26b0; simp only [hl7_1, hl31_1, hl7_2] at c26b8))
     (try (have c26b8 := c26b0; simp only [hl7_1, hl31_1, hl7_2, hl31_2] at c26b8))
     (try (have c26b8 := c26b0; simp only [hl7_1, hl31_1, hl7_2, hl31_2, hl38_2] at c26b8))
     clear c26
     simp only [Option.some.injEq, Prod.mk.injEq] at H
     obtain ⟨rfl, rfl, rfl, rfl⟩ := H
     have hnb60 := NB539_526.out
     have hnc60 := NB526_539.out
     have hnb61 := NB539_527.out
     have hnc61 := NB527_539.out
     obtain ⟨hcz62_0, hcz62_1, hcz62_2, hfz62_0, hfz62_1, hfz62_2⟩ := cf3_ BK539.out
     have hnb63 := NB527_526.out
     have hnc63 := NB526_527.out
     obtain ⟨hcz64_0, hcz64_1, hcz64_2, hfz64_0, hfz64_1, hfz64_2⟩ := cf3_ BK527.out
     obtain ⟨Ao65, co65, eo65⟩ := Kd.R_slice HO_540002.out
     subst eo65
     go_wp2
     refine bodyPost_ret (results_ct rfl _ _ gb527 26 #[.int .i64 t534, .int .i64 t535, .slice Ao65 x540002_1.length co65] (0, 0) _ rfl (by (with_reducible repeat (first | refine blk_drewN ?_ _ | refine blk_drew ?_ | refine blk_alloc ?_ _)); refine blk_put (cs := #[.int .i64 t534, .int .i64 t535, .slice none 0 0]) ?_ 2 _ rfl; (with_reducible repeat (first | refine blk_drewN ?_ _ | refine blk_drew ?_ | refine blk_alloc ?_ _)); refine blk_put (cs := #[.int .i64 t534, .int .i64 0, .slice none 0 0]) ?_ 1 _ rfl; (with_reducible repeat (first | refine blk_drewN ?_ _ | refine blk_drew ?_ | refine blk_alloc ?_ _)); refine blk_put (cs := #[.int .i64 0, .int .i64 0, .slice none 0 0]) ?_ 0 _ rfl; (with_reducible repeat (first | refine blk_drewN ?_ _ | refine blk_drew ?_ | refine blk_alloc ?_ _)); exact BK527.out) Try.underlying26 rfl (by kernel_rfl)) rfl ?_
     exact ⟨_, te_, by (with_reducible repeat (first | apply Kd.R_alloc | apply Kd.R_drewN | apply Kd.R_drew)); exact Kd.R_mono (Kd.R_far (p := ⟨gb527, 2, none⟩) (Kd.R_far (p := ⟨gb527, 1, none⟩) (Kd.R_far (p := ⟨gb527, 0, none⟩) (Kd.R_types HO_540002.out BK527.out (by decide)) (fun _ hk => hk.2) (.int .i64 t534)) (fun _ hk => hk.2) (.int .i64 t535)) (fun _ hk => hk.2) (.slice Ao65 x540002_1.length co65)) (fun _ hk => trivial), tb_⟩

end
end Go.Proofs.Ytdoflpghemgbdaa.P
