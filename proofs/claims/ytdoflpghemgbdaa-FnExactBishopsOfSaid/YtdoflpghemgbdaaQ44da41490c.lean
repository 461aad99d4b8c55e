-- printed functions (wip/slim.py)
import Derived.Test.YtdoflpghemgbdaaPx0
import Derived.Test.YtdoflpghemgbdaaQae02657195
import Derived.Test.YtdoflpghemgbdaaQ3ccfaa7f03
namespace Go.Proofs.Ytdoflpghemgbdaa.P
noncomputable section
set_option maxHeartbeats 8000000
set_option maxRecDepth 100000
open Go.RowKit Go.Proofs.YtdoflpghemgbdaaW.PrintWords Go.Proofs.YtdoflpghemgbdaaW.PrintLast Go.Proofs.YtdoflpghemgbdaaW.PrintMore
attribute [local go_sem] max2_int min2_int max_two min_two max_three min_three max_four min_four   -- for this text's walks alone
set_option linter.unusedVariables false
set_option linter.unusedSimpArgs false

/-! ### spec_biBoard: function 137 -/
def spec_biBoard.l0 : Nat → Int → List Int → List Int → List (List Int) → Int → Int → Int → Int → List Int → Int → Int → List Int → Option (Int × Int × List Int)
 | 0, _, _, _, _, _, _, _, _, _, _, _, _ => none
 | k + 1, x1, x5, x6, x24, x25, x26, x1515000, x1515001, x1515002, x1528000, x1528001, x1528002 => if x26 < x25 then (if 0 ≤ x26 then (if x26 < (x24.length : Int) then (if 0 < ((rd_L2 x24 x26).length : Int) then (if 1 < ((rd_L2 x24 x26).length : Int) then (if (Int.tmod (wrap64 ((rd (rd_L2 x24 x26) 0) + (rd (rd_L2 x24 x26) 1))) 2) = x1 then ((spec_biDiagonals.f x1515000 x1515001 x1515002 (rd (rd_L2 x24 x26) 0) (rd (rd_L2 x24 x26) 1)).bind fun bt1536 => ((spec_biPlace.f k x5 bt1536.1).bind fun t1538 => (if 0 ≤ t1538 then (if t1538 < (x1528002.length : Int) then ((spec_biPlace.f k x6 bt1536.2).bind fun t1540 => (if 0 ≤ t1540 then (spec_biBoard.l0 k x1 x5 x6 x24 x25 (wrap64 (x26 + 1)) x1515000 x1515001 x1515002 x1528000 x1528001 (x1528002.set (t1538 : Int).toNat (wrap64 ((rd x1528002 t1538) + (shl .i64 1 t1540))))) else (none))) else (none)) else (none)))) else (spec_biBoard.l0 k x1 x5 x6 x24 x25 (wrap64 (x26 + 1)) x1515000 x1515001 x1515002 x1528000 x1528001 x1528002)) else (none)) else (none)) else (none)) else (none)) else (some (x1528000, x1528001, x1528002))
def spec_biBoard.f (k : Nat) (a0_0 : Int) (a0_1 : Int) (l0_2 : List Int) (a1 : Int) : Option (Int × Int × List Int) := (spec_biLines.f k a0_0 a0_1 l0_2 a1).bind fun bt1516 => ((spec_boEmpty.f (bt1516.1.length : Int) (bt1516.2.length : Int)).bind fun bt1522 => ((spec_boCells.f k a0_0 a0_1 l0_2).bind fun t1528 => (spec_biBoard.l0 k a1 bt1516.1 bt1516.2 t1528 (t1528.length : Int) 0 a0_0 a0_1 l0_2 bt1522.1 bt1522.2.1 bt1522.2.2)))
theorem spec_biBoard.mono_l : ∀ k, (∀ y0 y1 y2 y3 y4 y5 y6 y7 y8 y9 y10 y11, LeO (spec_biBoard.l0 k y0 y1 y2 y3 y4 y5 y6 y7 y8 y9 y10 y11) (spec_biBoard.l0 (k + 1) y0 y1 y2 y3 y4 y5 y6 y7 y8 y9 y10 y11))
 | 0 => fun _ _ _ _ _ _ _ _ _ _ _ _ r h => by simp [spec_biBoard.l0] at h
 | k + 1 => by
  have ih0 := spec_biBoard.mono_l k
  ·
   intro y0 y1 y2 y3 y4 y5 y6 y7 y8 y9 y10 y11
   unfold spec_biBoard.l0
   repeat' first | (with_reducible first | exact ih0 _ _ _ _ _ _ _ _ _ _ _ _ | exact spec_biLines.mono _ _ _ _ _ | exact spec_biPlace.mono _ _ _ | exact spec_boCells.mono _ _ _ _ | exact LeO.refl _ | exact LeO.none _ | refine LeO.ite ?_ ?_ | refine LeO.bind ?_ (fun _ => ?_)) | exact ih0 _ _ _ _ _ _ _ _ _ _ _ _ | exact spec_biLines.mono _ _ _ _ _ | exact spec_biPlace.mono _ _ _ | exact spec_boCells.mono _ _ _ _ | exact LeO.none _ | refine LeO.ite ?_ ?_ | refine LeO.bind ?_ (fun _ => ?_)
theorem spec_biBoard.mono : ∀ a0 a1 a2 a3 k, LeO (spec_biBoard.f k a0 a1 a2 a3) (spec_biBoard.f (k + 1) a0 a1 a2 a3) := by
 intro a0 a1 a2 a3 k
 have ih0 := spec_biBoard.mono_l k
 unfold spec_biBoard.f
 repeat' first | (with_reducible first | exact ih0 _ _ _ _ _ _ _ _ _ _ _ _ | exact spec_biLines.mono _ _ _ _ _ | exact spec_biPlace.mono _ _ _ | exact spec_boCells.mono _ _ _ _ | exact LeO.refl _ | exact LeO.none _ | refine LeO.ite ?_ ?_ | refine LeO.bind ?_ (fun _ => ?_)) | exact ih0 _ _ _ _ _ _ _ _ _ _ _ _ | exact spec_biLines.mono _ _ _ _ _ | exact spec_biPlace.mono _ _ _ | exact spec_boCells.mono _ _ _ _ | exact LeO.none _ | refine LeO.ite ?_ ?_ | refine LeO.bind ?_ (fun _ => ?_)
def spec_biBoard.T6 : Bool × List (List Nat × List Nat) := (true, [([], []), ([0], [0]), ([1], [1]), ([], []), ([3], [3]), ([4], [4]), ([2, 5], [2, 5]), ([6], [6]), ([], []), ([7, 8], [7, 8])])
def spec_biBoard.B6 : List Nat := [0, 1, 3, 0, 8, 24, 63, 127, 0, 511]
theorem spec_biBoard.tab6 : rtab .any (opsOf Try.f137 6) = spec_biBoard.T6 := by kernel_rfl
theorem spec_biBoard.bits6 : waitsOk spec_biBoard.T6.2 spec_biBoard.B6 = true := by kernel_rfl
def spec_biBoard.T7 : Bool × List (List Nat × List Nat) := (true, [([], []), ([], []), ([1], [1]), ([2], [2]), ([], []), ([4], [4]), ([5], [5]), ([0, 3, 6], [0, 3, 6]), ([7], [7]), ([8], [8]), ([8], [8]), ([9, 7, 0, 1, 2, 3, 4, 5, 6, 7, 8, 9], [9]), ([10, 11, 0, 1, 2, 3, 4, 5, 6, 7, 8, 9, 10, 11], [10])])
def spec_biBoard.B7 : List Nat := [0, 0, 2, 6, 0, 16, 48, 127, 255, 511, 511, 1023, 4095]
theorem spec_biBoard.tab7 : rtab .any (opsOf Try.f137 7) = spec_biBoard.T7 := by kernel_rfl
theorem spec_biBoard.bits7 : waitsOk spec_biBoard.T7.2 spec_biBoard.B7 = true := by kernel_rfl
def spec_biBoard.T8 : Bool × List (List Nat × List Nat) := (true, [([], []), ([0], [0]), ([], []), ([], []), ([2, 3], [2, 3]), ([1, 4], [1, 4]), ([5], [5]), ([], []), ([], []), ([7, 8, 4], [7, 8]), ([9], [9]), ([6, 10], [6, 10]), ([1, 4, 0, 1, 2, 3, 4, 5, 6, 7, 8, 9, 10, 11], [1, 4]), ([12, 11, 9, 0, 1, 2, 3, 4, 5, 6, 7, 8, 9, 10, 11], [11, 12])])
def spec_biBoard.B8 : List Nat := [0, 1, 0, 0, 12, 31, 63, 0, 0, 412, 924, 2047, 4095, 8191]
theorem spec_biBoard.tab8 : rtab .any (opsOf Try.f137 8) = spec_biBoard.T8 := by kernel_rfl
theorem spec_biBoard.bits8 : waitsOk spec_biBoard.T8.2 spec_biBoard.B8 = true := by kernel_rfl
theorem spec_biBoard.calls (k : Nat) (a0_0 : Int) (a0_1 : Int) (A0_2 : Option Addr) (c0_2 : Nat) (l0_2 : List Int) (a1 : Int) (r1 : Int) (r2 : Int) (r3 : List Int) (w : World) (hr0_2 : Kd.C (Kd.int .i64) w A0_2 l0_2.length l0_2) (hc0_2 : l0_2.length ≤ c0_2) (h : spec_biBoard.f k a0_0 a0_1 l0_2 a1 = some (r1, r2, r3)) :
  Calls Try.prog 137 #[.agg #[.int .i64 a0_0, .int .i64 a0_1, .slice A0_2 l0_2.length c0_2], .int .i64 a1] w fun e w' => ∃ v2_ : Value, e = .returned (.agg #[.int .i64 r1, .int .i64 r2, v2_]) ∧ Kd.R (Kd.int .i64) 3 w' w.heap.size (fun _ => True) v2_ r3 ∧ Below w.heap.size w w' := by
 have hu26 := Try.underlying26
 have HR0_2 := A_ hr0_2
 have HC0_2 := A_ hc0_2
 clear hr0_2 hc0_2
 have HB := A_ (Below.refl w.heap.size w)
 have H : ((spec_biLines.f k a0_0 a0_1 l0_2 a1).bind fun bt1516 => ((spec_boEmpty.f (bt1516.1.length : Int) (bt1516.2.length : Int)).bind fun bt1522 => ((spec_boCells.f k a0_0 a0_1 l0_2).bind fun t1528 => (spec_biBoard.l0 k a1 bt1516.1 bt1516.2 t1528 (t1528.length : Int) 0 a0_0 a0_1 l0_2 bt1522.1 bt1522.2.1 bt1522.2.2)))) = some (r1, r2, r3) := h
 clear h
 replace H := Option.bind_eq_some_iff.mp H
 obtain ⟨⟨t1516, t1519⟩, A30, H⟩ := H
 replace H : ((spec_boEmpty.f (t1516.length : Int) (t1519.length : Int)).bind fun bt1522 => ((spec_boCells.f k a0_0 a0_1 l0_2).bind fun t1528 => (spec_biBoard.l0 k a1 t1516 t1519 t1528 (t1528.length : Int) 0 a0_0 a0_1 l0_2 bt1522.1 bt1522.2.1 bt1522.2.2))) = some (r1, r2, r3) := H
 have A3 := A_ A30
 clear A30
 replace H := Option.bind_eq_some_iff.mp H
 obtain ⟨⟨t1522, t1523, t1524⟩, A40, H⟩ := H
 replace H : ((spec_boCells.f k a0_0 a0_1 l0_2).bind fun t1528 => (spec_biBoard.l0 k a1 t1516 t1519 t1528 (t1528.length : Int) 0 a0_0 a0_1 l0_2 t1522 t1523 t1524)) = some (r1, r2, r3) := H
 have A4 := A_ A40
 clear A40
 replace H := Option.bind_eq_some_iff.mp H
 obtain ⟨t1528, A50, H⟩ := H
 replace H : (spec_biBoard.l0 k a1 t1516 t1519 t1528 (t1528.length : Int) 0 a0_0 a0_1 l0_2 t1522 t1523 t1524) = some (r1, r2, r3) := H
 have A5 := A_ A50
 clear A50
 have H' := A_ H
 clear H
 go_enter Try.func137, Try.ntmps137
 go_wp2_with (first | (refine gd_ 2 ?_; refine bx_ 2 #[.int .i64 a0_0, .int .i64 a0_1, .slice A0_2 l0_2.length c0_2] 26 ?_; intro gb1514 hg w6 hbox hb; have BK1514 := A_ (hbox); have GW1514 := A_ ((ts_ hg : w.heap.size ≤ gb1514)); have GE1514 := A_ ((ts_ hg : w.heap.size ≤ gb1514)); replace HB := A_ (below_step tb_ hb); clear hb hbox hg) | (refine gd_ 4 ?_; refine bx_ 4 #[.int .i64 0, .int .i64 0, .slice none 0 0] 26 ?_; intro gb1515 hg w7 hbox hb; have BK1515 := A_ (hbox); have GW1515 := A_ ((ts_ hg : w.heap.size ≤ gb1515)); have GE1515 := A_ ((ts_ hg : w.heap.size ≤ gb1515)); replace HB := A_ (below_step tb_ hb); have NB1514_1515 := A_ ((by rw [hg]; exact Nat.ne_of_lt (blk_lt (g := gb1514) (o := .cells #[.int .i64 a0_0, .int .i64 a0_1, .slice A0_2 l0_2.length c0_2] 26 (0, 0)) (tk_ BK1514)) : gb1514 ≠ gb1515)); have NB1515_1514 := A_ ((by rw [hg]; exact Nat.ne_of_gt (blk_lt (g := gb1514) (o := .cells #[.int .i64 a0_0, .int .i64 a0_1, .slice A0_2 l0_2.length c0_2] 26 (0, 0)) (tk_ BK1514)) : gb1515 ≠ gb1514)); replace BK1514 := A_ (blk_below (g := gb1514) (o := .cells #[.int .i64 a0_0, .int .i64 a0_1, .slice A0_2 l0_2.length c0_2] 26 (0, 0)) (tk_ BK1514) hb); clear hb hbox hg; have hnb8 := NB1514_1515.out; have hnc8 := NB1515_1514.out; obtain ⟨hcz9_0, hcz9_1, hcz9_2, hfz9_0, hfz9_1, hfz9_2⟩ := cf3_ BK1514.out) | (refine gc_ 156 ?_; refine goesT_ (some 15) Try.func156 #[.agg #[.int .i64 a0_0, .int .i64 a0_1, .slice A0_2 l0_2.length c0_2], .int .i64 a1] ?_; (with_reducible refine (spec_biLines.calls k a0_0 a0_1 _ _ l0_2 a1 t1516 t1519 _ ?side1 ?side2 A3.out).mono ?_); (case side1 => exact tc_ HR0_2.out); (case side2 => exact HC0_2.out); rintro e w10 ⟨v1517, v1520, rfl, ho0, ho1, hb⟩; refine ⟨_, rfl, ?_⟩; have HO1518 := A_ (Kd.R_lower ho0 (below_size tb_)); have HO1521 := A_ (Kd.R_lower ho1 (below_size tb_)); replace BK1514 := A_ (blk_below (g := gb1514) (o := .cells #[.int .i64 a0_0, .int .i64 a0_1, .slice A0_2 l0_2.length c0_2] 26 (0, 0)) (tk_ BK1514) hb); replace BK1515 := A_ (blk_below (g := gb1515) (o := .cells #[.int .i64 0, .int .i64 0, .slice none 0 0] 26 (0, 0)) (tk_ BK1515) hb); replace HB := A_ (below_step tb_ hb); (try clear hb); (try clear ho0); (try clear ho1); obtain ⟨Ao11, co11, eo11⟩ := Kd.R_slice HO1518.out; subst eo11; obtain ⟨Ao12, co12, eo12⟩ := Kd.R_slice HO1521.out; subst eo12) | (refine gc_ 174 ?_; refine goesT_ (some 22) Try.func174 #[.int .i64 (t1516.length : Int), .int .i64 (t1519.length : Int)] ?_; (with_reducible refine (spec_boEmpty.calls (t1516.length : Int) (t1519.length : Int) t1522 t1523 t1524 _ A4.out).mono ?_); rintro e w13 ⟨v1525, rfl, ho0, hb⟩; refine ⟨_, rfl, ?_⟩; have HO1526 := A_ (Kd.R_lower (Kd.R_new' (Kd.R_new' ho0 (Kd.R_lt (tr_x HO1518.out))) (Kd.R_lt (tr_x HO1521.out))) (below_size tb_)); replace HO1518 := A_ (Kd.R_elder' (tr_x HO1518.out) (Kd.R_base ho0) hb); replace HO1521 := A_ (Kd.R_elder' (tr_x HO1521.out) (Kd.R_base ho0) hb); replace BK1514 := A_ (blk_below (g := gb1514) (o := .cells #[.int .i64 a0_0, .int .i64 a0_1, .slice A0_2 l0_2.length c0_2] 26 (0, 0)) (tk_ BK1514) hb); replace BK1515 := A_ (blk_below (g := gb1515) (o := .cells #[.int .i64 0, .int .i64 0, .slice none 0 0] 26 (0, 0)) (tk_ BK1515) hb); replace HB := A_ (below_step tb_ hb); (try clear hb); (try clear ho0)) | (refine gd_ 7 ?_; refine bx_ 7 #[.int .i64 0, .int .i64 0, .slice none 0 0] 26 ?_; intro gb1527 hg w14 hbox hb; replace HO1518 := A_ (Kd.R_below (tr_x HO1518.out) hb); replace HO1521 := A_ (Kd.R_below (tr_x HO1521.out) hb); replace HO1526 := A_ (Kd.R_below (tr_x HO1526.out) hb); have BK1527 := A_ (hbox); have GW1527 := A_ ((ts_ hg : w.heap.size ≤ gb1527)); have GE1527 := A_ ((ts_ hg : w.heap.size ≤ gb1527)); replace HB := A_ (below_step tb_ hb); have NB1514_1527 := A_ ((by rw [hg]; exact Nat.ne_of_lt (blk_lt (g := gb1514) (o := .cells #[.int .i64 a0_0, .int .i64 a0_1, .slice A0_2 l0_2.length c0_2] 26 (0, 0)) (tk_ BK1514)) : gb1514 ≠ gb1527)); have NB1527_1514 := A_ ((by rw [hg]; exact Nat.ne_of_gt (blk_lt (g := gb1514) (o := .cells #[.int .i64 a0_0, .int .i64 a0_1, .slice A0_2 l0_2.length c0_2] 26 (0, 0)) (tk_ BK1514)) : gb1527 ≠ gb1514)); replace BK1514 := A_ (blk_below (g := gb1514) (o := .cells #[.int .i64 a0_0, .int .i64 a0_1, .slice A0_2 l0_2.length c0_2] 26 (0, 0)) (tk_ BK1514) hb); have NB1515_1527 := A_ ((by rw [hg]; exact Nat.ne_of_lt (blk_lt (g := gb1515) (o := .cells #[.int .i64 0, .int .i64 0, .slice none 0 0] 26 (0, 0)) (tk_ BK1515)) : gb1515 ≠ gb1527)); have NB1527_1515 := A_ ((by rw [hg]; exact Nat.ne_of_gt (blk_lt (g := gb1515) (o := .cells #[.int .i64 0, .int .i64 0, .slice none 0 0] 26 (0, 0)) (tk_ BK1515)) : gb1527 ≠ gb1515)); replace BK1515 := A_ (blk_below (g := gb1515) (o := .cells #[.int .i64 0, .int .i64 0, .slice none 0 0] 26 (0, 0)) (tk_ BK1515) hb); clear hb hbox hg; have hnb15 := NB1527_1514.out; have hnc15 := NB1514_1527.out; have hnb16 := NB1527_1515.out; have hnc16 := NB1515_1527.out; obtain ⟨hcz17_0, hcz17_1, hcz17_2, hfz17_0, hfz17_1, hfz17_2⟩ := cf3_ BK1527.out; obtain ⟨Ao18, co18, eo18⟩ := Kd.R_slice HO1526.out; subst eo18; obtain ⟨hcz19_0, hcz19_1, hcz19_2, hfz19_0, hfz19_1, hfz19_2⟩ := cf3_ BK1514.out) | (refine gc_ 117 ?_; refine goesT_ (some 24) Try.func117 #[.agg #[.int .i64 a0_0, .int .i64 a0_1, .slice A0_2 l0_2.length c0_2]] ?_; (with_reducible refine (spec_boCells.calls k a0_0 a0_1 _ _ l0_2 t1528 _ ?side1 ?side2 A5.out).mono ?_); (case side1 => exact Kd.C_below HR0_2.out tb_); (case side2 => exact HC0_2.out); rintro e w20 ⟨v1529, rfl, ho0, hb⟩; refine ⟨_, rfl, ?_⟩; have HO1530 := A_ (Kd.S_lower (Kd.S_new' (Kd.S_new' (Kd.S_new' ho0 (Kd.R_lt (tr_ (h := by exact (Kd.R_mono (Kd.R_far (p := ⟨gb1527, 2, none⟩) (Kd.R_far (p := ⟨gb1527, 1, none⟩) (Kd.R_far (p := ⟨gb1527, 0, none⟩) (Kd.R_types HO1518.out BK1527.out (by decide)) (fun _ hk => hk.2) (.int .i64 t1522)) (fun _ hk => hk.2) (.int .i64 t1523)) (fun _ hk => hk.2) (.slice Ao18 t1524.length co18)) (fun _ h_ => h_.1)))))) (Kd.R_lt (tr_ (h := by exact (Kd.R_mono (Kd.R_far (p := ⟨gb1527, 2, none⟩) (Kd.R_far (p := ⟨gb1527, 1, none⟩) (Kd.R_far (p := ⟨gb1527, 0, none⟩) (Kd.R_types HO1521.out BK1527.out (by decide)) (fun _ hk => hk.2) (.int .i64 t1522)) (fun _ hk => hk.2) (.int .i64 t1523)) (fun _ hk => hk.2) (.slice Ao18 t1524.length co18)) (fun _ h_ => h_.1)))))) (Kd.R_lt (tr_ (h := by exact (Kd.R_mono (Kd.R_far (p := ⟨gb1527, 2, none⟩) (Kd.R_far (p := ⟨gb1527, 1, none⟩) (Kd.R_far (p := ⟨gb1527, 0, none⟩) (Kd.R_types HO1526.out BK1527.out (by decide)) (fun _ hk => hk.2) (.int .i64 t1522)) (fun _ hk => hk.2) (.int .i64 t1523)) (fun _ hk => hk.2) (.slice Ao18 t1524.length co18)) (fun _ h_ => h_.1)))))) (below_size tb_)); replace HO1518 := A_ (Kd.R_below (tr_ (h := by exact (Kd.R_mono (Kd.R_far (p := ⟨gb1527, 2, none⟩) (Kd.R_far (p := ⟨gb1527, 1, none⟩) (Kd.R_far (p := ⟨gb1527, 0, none⟩) (Kd.R_types HO1518.out BK1527.out (by decide)) (fun _ hk => hk.2) (.int .i64 t1522)) (fun _ hk => hk.2) (.int .i64 t1523)) (fun _ hk => hk.2) (.slice Ao18 t1524.length co18)) (fun _ h_ => h_.1)))) hb); replace HO1521 := A_ (Kd.R_below (tr_ (h := by exact (Kd.R_mono (Kd.R_far (p := ⟨gb1527, 2, none⟩) (Kd.R_far (p := ⟨gb1527, 1, none⟩) (Kd.R_far (p := ⟨gb1527, 0, none⟩) (Kd.R_types HO1521.out BK1527.out (by decide)) (fun _ hk => hk.2) (.int .i64 t1522)) (fun _ hk => hk.2) (.int .i64 t1523)) (fun _ hk => hk.2) (.slice Ao18 t1524.length co18)) (fun _ h_ => h_.1)))) hb); replace HO1526 := A_ (Kd.R_below (tr_ (h := by exact (Kd.R_mono (Kd.R_far (p := ⟨gb1527, 2, none⟩) (Kd.R_far (p := ⟨gb1527, 1, none⟩) (Kd.R_far (p := ⟨gb1527, 0, none⟩) (Kd.R_types HO1526.out BK1527.out (by decide)) (fun _ hk => hk.2) (.int .i64 t1522)) (fun _ hk => hk.2) (.int .i64 t1523)) (fun _ hk => hk.2) (.slice Ao18 t1524.length co18)) (fun _ h_ => h_.1)))) hb); replace BK1514 := A_ (blk_below (g := gb1514) (o := .cells #[.int .i64 a0_0, .int .i64 a0_1, .slice A0_2 l0_2.length c0_2] 26 (0, 0)) (tk_ BK1514) hb); replace BK1515 := A_ (blk_below (g := gb1515) (o := .cells #[.int .i64 0, .int .i64 0, .slice none 0 0] 26 (0, 0)) (tk_ BK1515) hb); replace BK1527 := A_ (blk_below (g := gb1527) (o := .cells #[.int .i64 t1522, .int .i64 t1523, .slice Ao18 t1524.length co18] 26 (0, 0)) (by (with_reducible repeat (first | refine blk_drewN ?_ _ | refine blk_drew ?_ | refine blk_alloc ?_ _)); refine blk_put (cs := #[.int .i64 t1522, .int .i64 t1523, .slice none 0 0]) ?_ 2 _ rfl; (with_reducible repeat (first | refine blk_drewN ?_ _ | refine blk_drew ?_ | refine blk_alloc ?_ _)); refine blk_put (cs := #[.int .i64 t1522, .int .i64 0, .slice none 0 0]) ?_ 1 _ rfl; (with_reducible repeat (first | refine blk_drewN ?_ _ | refine blk_drew ?_ | refine blk_alloc ?_ _)); refine blk_put (cs := #[.int .i64 0, .int .i64 0, .slice none 0 0]) ?_ 0 _ rfl; (with_reducible repeat (first | refine blk_drewN ?_ _ | refine blk_drew ?_ | refine blk_alloc ?_ _)); exact BK1527.out) hb); replace HB := A_ (below_step tb_ hb); (try clear hb); (try clear ho0); obtain ⟨Ao21, co21, eo21⟩ := Kd.S_slice HO1530.out; subst eo21))
 go_loopg [26] k (fun kq v26 w' => ∃ (x5_1 : List Int) (x6_1 : List Int) (x26_1 : Int) (x1528002_1 : List Int) (u1528002 : Value), v26 = .int .i64 x26_1 ∧ Aside0 (spec_biBoard.l0 kq a1 x5_1 x6_1 t1528 (t1528.length : Int) x26_1 a0_0 a0_1 l0_2 t1522 t1523 x1528002_1 = some (r1, r2, r3)) ∧ Aside0 (kq ≤ k) ∧ Aside0 (Kd.R (Kd.int .i64) 3 w' w.heap.size (fun k_ => some k_ ≠ ((.slice Ao12 t1519.length co12) : Value).ownBlock ∧ some k_ ≠ (u1528002 : Value).ownBlock) (.slice Ao11 t1516.length co11) x5_1) ∧ Aside0 (Kd.R (Kd.int .i64) 3 w' w.heap.size (fun k_ => some k_ ≠ ((.slice Ao11 t1516.length co11) : Value).ownBlock ∧ some k_ ≠ (u1528002 : Value).ownBlock) (.slice Ao12 t1519.length co12) x6_1) ∧ Aside0 (Kd.S (Kd.slice 3 (Kd.int .i64)) 24 w' w.heap.size (fun k_ => some k_ ≠ ((.slice Ao11 t1516.length co11) : Value).ownBlock ∧ some k_ ≠ ((.slice Ao12 t1519.length co12) : Value).ownBlock ∧ some k_ ≠ (u1528002 : Value).ownBlock) (.slice Ao21 t1528.length co21) t1528) ∧ Aside0 (Kd.R (Kd.int .i64) 3 w' w.heap.size (fun k_ => some k_ ≠ ((.slice Ao11 t1516.length co11) : Value).ownBlock ∧ some k_ ≠ ((.slice Ao12 t1519.length co12) : Value).ownBlock) u1528002 x1528002_1) ∧ Aside0 (w'.heap[gb1514]? = some (.cells #[.int .i64 a0_0, .int .i64 a0_1, (.slice A0_2 l0_2.length c0_2)] 26 (0, 0))) ∧ Aside0 (w'.heap[gb1515]? = some (.cells #[.int .i64 0, .int .i64 0, (.slice none 0 0)] 26 (0, 0))) ∧ Aside0 (w'.heap[gb1527]? = some (.cells #[.int .i64 t1522, .int .i64 t1523, u1528002] 26 (0, 0))) ∧ Aside0 (Below w.heap.size w w'))
 case atStart => exact ⟨(t1516), (t1519), (0), (t1524), (.slice Ao18 t1524.length co18), tf_, H', ⟨Nat.le_refl _⟩, ⟨tr_x HO1518.out⟩, ⟨tr_x HO1521.out⟩, ⟨by (with_reducible repeat (first | apply Kd.S_alloc | apply Kd.S_drewN | apply Kd.S_drew)); exact Kd.S_mono HO1530.out om_⟩, ⟨by (with_reducible repeat (first | apply Kd.R_alloc | apply Kd.R_drewN | apply Kd.R_drew)); exact Kd.R_mono HO1526.out om_⟩, ⟨tk_ BK1514⟩, ⟨tk_ BK1515⟩, ⟨tk_ BK1527⟩, ⟨tb_⟩⟩
 case round =>
  clear H'
  try clear c1
  try clear p2
  try clear c8
  try clear c11
  try clear c13
  try clear c15
  try clear c16
  try clear c17
  try clear hcz17_0
  try clear hcz17_1
  try clear hcz17_2
  try clear hcz19_0
  try clear hcz19_1
  try clear hcz19_2
  try clear hcz9_0
  try clear hcz9_1
  try clear hcz9_2
  try clear hfz17_0
  try clear hfz17_1
  try clear hfz17_2
  try clear hfz19_0
  try clear hfz19_1
  try clear hfz19_2
  try clear hfz9_0
  try clear hfz9_1
  try clear hfz9_2
  obtain ⟨x5_1, x6_1, x26_1, x1528002_1, u1528002, rfl, HA, HK1, HO_5, HO_6, HO_24, HO_1528002, BK1514, BK1515, BK1527, HB⟩ := hrel
  have hl5_1 := (Kd.R_reads' HO_5.out).1
  rw [hl5_1] at HO_5
  (try simp only [hl5_1])
  (try simp only [hl5_1] at BK1514)
  (try simp only [hl5_1] at BK1515)
  (try simp only [hl5_1] at BK1527)
  (try simp only [hl5_1] at HO_6)
  (try simp only [hl5_1] at HO_24)
  (try simp only [hl5_1] at HO_1528002)
  have hl6_1 := (Kd.R_reads' HO_6.out).1
  rw [hl6_1] at HO_6
  (try simp only [hl6_1])
  (try simp only [hl6_1] at BK1514)
  (try simp only [hl6_1] at BK1515)
  (try simp only [hl6_1] at BK1527)
  (try simp only [hl6_1] at HO_5)
  (try simp only [hl6_1] at HO_24)
  (try simp only [hl6_1] at HO_1528002)
  cases gk with
  | zero => exact absurd HA.out (by simp [spec_biBoard.l0])
  | succ k1 =>
   have H := HA.out
   clear HA
   simp only [spec_biBoard.l0] at H
   by_cases c22 : x26_1 < (t1528.length : Int)
   ·
    rw [if_pos c22] at H
    have c22b0 := decide_eq_true c22
    (try (have c22b7 := c22b0; rw [hl5_1] at c22b7))
    (try (have c22b7 := c22b0; rw [hl6_1] at c22b7))
    (try (have c22b8 := c22b0; simp only [hl5_1, hl6_1] at c22b8))
    clear c22
    by_cases c23 : 0 ≤ x26_1
    ·
     rw [if_pos c23] at H
     have c23b0 := decide_eq_true c23
     clear c23
     by_cases c24 : x26_1 < (t1528.length : Int)
     ·
      rw [if_pos c24] at H
      have c24b0 := decide_eq_true c24
      (try (have c24b7 := c24b0; rw [hl5_1] at c24b7))
      (try (have c24b7 := c24b0; rw [hl6_1] at c24b7))
      (try (have c24b8 := c24b0; simp only [hl5_1, hl6_1] at c24b8))
      clear c24
      by_cases c25 : 0 < ((rd_L2 t1528 x26_1).length : Int)
      ·
       rw [if_pos c25] at H
       have c25b0 := decide_eq_true c25
       (try (have c25b7 := c25b0; rw [hl5_1] at c25b7))
       (try (have c25b7 := c25b0; rw [hl6_1] at c25b7))
       (try (have c25b8 := c25b0; simp only [hl5_1, hl6_1] at c25b8))
       have c25b1 : decide (0 < (rd_L2 t1528 x26_1).length) = true := decide_eq_true (by omega)
       clear c25
       by_cases c26 : 1 < ((rd_L2 t1528 x26_1).length : Int)
       ·
        rw [if_pos c26] at H
        have c26b0 := decide_eq_true c26
        (try (have c26b7 := c26b0; rw [hl5_1] at c26b7))
        (try (have c26b7 := c26b0; rw [hl6_1] at c26b7))
        (try (have c26b8 := c26b0; simp only [hl5_1, hl6_1] at c26b8))
        have c26b1 : decide (1 < (rd_L2 t1528 x26_1).length) = true := decide_eq_true (by omega)
        clear c26
        by_cases c27 : (Int.tmod (wrap64 ((rd (rd_L2 t1528 x26_1) 0) + (rd (rd_L2 t1528 x26_1) 1))) 2) = a1
        ·
         rw [if_pos c27] at H
         have c27b0 : ((Int.tmod (wrap64 ((rd (rd_L2 t1528 x26_1) 0) + (rd (rd_L2 t1528 x26_1) 1))) 2) == a1) = true := beq_iff_eq.mpr c27
         have c27b1 : ((Int.tmod (wrap64 ((rd (rd_L2 t1528 x26_1) 0) + (rd (rd_L2 t1528 x26_1) 1))) 2) != a1) = false := bne_eq_false_iff_eq.mpr c27
         clear c27
         replace H := Option.bind_eq_some_iff.mp H
         obtain ⟨⟨t1536, t1537⟩, A280, H⟩ := H
         replace H : ((spec_biPlace.f k1 x5_1 t1536).bind fun t1538 => (if 0 ≤ t1538 then (if t1538 < (x1528002_1.length : Int) then ((spec_biPlace.f k1 x6_1 t1537).bind fun t1540 => (if 0 ≤ t1540 then (spec_biBoard.l0 k1 a1 x5_1 x6_1 t1528 (t1528.length : Int) (wrap64 (x26_1 + 1)) a0_0 a0_1 l0_2 t1522 t1523 (x1528002_1.set (t1538 : Int).toNat (wrap64 ((rd x1528002_1 t1538) + (shl .i64 1 t1540))))) else (none))) else (none)) else (none))) = some (r1, r2, r3) := H
         have A28 := A_ A280
         clear A280
         replace H := Option.bind_eq_some_iff.mp H
         obtain ⟨t1538, A290, H⟩ := H
         replace H : (if 0 ≤ t1538 then (if t1538 < (x1528002_1.length : Int) then ((spec_biPlace.f k1 x6_1 t1537).bind fun t1540 => (if 0 ≤ t1540 then (spec_biBoard.l0 k1 a1 x5_1 x6_1 t1528 (t1528.length : Int) (wrap64 (x26_1 + 1)) a0_0 a0_1 l0_2 t1522 t1523 (x1528002_1.set (t1538 : Int).toNat (wrap64 ((rd x1528002_1 t1538) + (shl .i64 1 t1540))))) else (none))) else (none)) else (none)) = some (r1, r2, r3) := H
         have A29 := A_ A290
         clear A290
         by_cases c30 : 0 ≤ t1538
         ·
          rw [if_pos c30] at H
          have c30b0 := decide_eq_true c30
          clear c30
          by_cases c31 : t1538 < (x1528002_1.length : Int)
          ·
           rw [if_pos c31] at H
           have c31b0 := decide_eq_true c31
           (try (have c31b7 := c31b0; rw [hl5_1] at c31b7))
           (try (have c31b7 := c31b0; rw [hl6_1] at c31b7))
           (try (have c31b8 := c31b0; simp only [hl5_1, hl6_1] at c31b8))
           clear c31
           replace H := Option.bind_eq_some_iff.mp H
           obtain ⟨t1540, A320, H⟩ := H
           replace H : (if 0 ≤ t1540 then (spec_biBoard.l0 k1 a1 x5_1 x6_1 t1528 (t1528.length : Int) (wrap64 (x26_1 + 1)) a0_0 a0_1 l0_2 t1522 t1523 (x1528002_1.set (t1538 : Int).toNat (wrap64 ((rd x1528002_1 t1538) + (shl .i64 1 t1540))))) else (none)) = some (r1, r2, r3) := H
           have A32 := A_ A320
           clear A320
           by_cases c33 : 0 ≤ t1540
           ·
            rw [if_pos c33] at H
            have c33b0 := eq_true c33
            have c33b1 := decide_eq_true c33
            clear c33
            obtain ⟨ji34, hji34⟩ : ∃ j_ : Int, (shl .i64 1 t1540) = j_ := ⟨_, rfl⟩
            replace H : (spec_biBoard.l0 k1 a1 x5_1 x6_1 t1528 (t1528.length : Int) (wrap64 (x26_1 + 1)) a0_0 a0_1 l0_2 t1522 t1523 (x1528002_1.set (t1538 : Int).toNat (wrap64 ((rd x1528002_1 t1538) + (ji34))))) = some (r1, r2, r3) := by first | (rw [hji34] at H; exact H) | (simp only [hji34] at H ⊢; exact H)
            (try rw [hji34] at A28)
            (try rw [hji34] at A29)
            (try rw [hji34] at A32)
            have hji34_ : (IntKind.i64.wrap (1 * 2 ^ min t1540.toNat 64)) = ji34 := hji34
            have hji34z : t1540 ≤ 64 → (IntKind.i64.wrap (1 * 2 ^ t1540.toNat)) = ji34 := shl_small hji34
            have hji34u : (IntKind.i64.wrap (2 ^ min t1540.toNat 64)) = ji34 := by have h_ := hji34_; rw [Int.one_mul] at h_; exact h_
            have hji34v : t1540 ≤ 64 → (IntKind.i64.wrap (2 ^ t1540.toNat)) = ji34 := fun hle_ => by have h_ := hji34z hle_; rw [Int.one_mul] at h_; exact h_
            have hji34y : (wrap64 (1 * 2 ^ min t1540.toNat 64)) = ji34 := (i64_w _).symm.trans hji34_
            have hji34x : t1540 ≤ 64 → (wrap64 (1 * 2 ^ t1540.toNat)) = ji34 := fun h_ => (i64_w _).symm.trans (hji34z h_)
            obtain ⟨y1541, hy1541⟩ : ∃ y_ : List Int, y_ = (x1528002_1.set (t1538 : Int).toNat (wrap64 ((rd x1528002_1 t1538) + (ji34)))) := ⟨_, rfl⟩
            replace H : (spec_biBoard.l0 k1 a1 x5_1 x6_1 t1528 (t1528.length : Int) (wrap64 (x26_1 + 1)) a0_0 a0_1 l0_2 t1522 t1523 y1541) = some (r1, r2, r3) := ty_ hy1541 H
            have Ny1541 := A_ hy1541
            clear hy1541
            have H' := A_ H
            clear H
            have p1531 : 0 ≤ (x26_1 : Int) := od_
            have q1531 : x26_1 < (t1528.length : Int) := od_
            obtain ⟨ad1531, A1531_0, c1531_0, e1531, hx1531_0, hl1531_0, hi1531_0⟩ := at_L2 (Kd.S_reads' HO_24.out).2.2 x26_1 p1531 q1531
            cases e1531
            obtain ⟨ce1531, hce1531, hMe1531, hcc1531⟩ := Kd.S_get HO_24.out [] x26_1 p1531 (by first | exact q1531 | exact od_ | (have e_ := (Kd.S_reads' HO_24.out).1; omega))
            obtain ⟨ve1531_0, rfl, ge1531_0⟩ := hMe1531
            have hv1531_0 := hcc1531 0 _ rfl
            rw [Nat.add_zero, show ((Kd.slice 3 (Kd.int .i64))).sz = 1 from rfl, Nat.mul_one] at hv1531_0
            replace hv1531_0 := Option.some.inj (hv1531_0.symm.trans hx1531_0)
            rw [hv1531_0] at ge1531_0
            have HL1531_0 := A_ (show Kd.R (Kd.int .i64) 3 _ _ _ _ (rd_L2 t1528 x26_1) from ge1531_0)
            clear hv1531_0 ge1531_0
            clear hcc1531 hce1531
            have HR1531_0 := A_ hi1531_0
            have HC1531_0 := A_ hl1531_0
            clear hi1531_0 hl1531_0
            replace p1531 := eq_true p1531
            replace q1531 := eq_true q1531
            try go_wp2
            have n0_ := A_ (Kd.R_drew HO_5.out)
            have n1_ := A_ (Kd.R_drew HO_6.out)
            have n2_ := A_ (Kd.S_drew HO_24.out)
            have n3_ := A_ (Kd.R_drew HO_1528002.out)
            have n4_ := A_ (Kd.R_drew HL1531_0.out)
            have n5_ := A_ (blk_drew BK1514.out)
            have n6_ := A_ (blk_drew BK1515.out)
            have n7_ := A_ (blk_drew BK1527.out)
            have n8_ := A_ (Kd.C_drew HR1531_0.out)
            have n9_ := A_ (below_drew1 HB.out)
            clear HO_5
            clear HO_6
            clear HO_24
            clear HO_1528002
            clear HL1531_0
            clear BK1514
            clear BK1515
            clear BK1527
            clear HR1531_0
            clear HB
            have HO_5 := n0_
            have HO_6 := n1_
            have HO_24 := n2_
            have HO_1528002 := n3_
            have HL1531_0 := n4_
            have BK1514 := n5_
            have BK1515 := n6_
            have BK1527 := n7_
            have HR1531_0 := n8_
            have HB := n9_
            clear n0_ n1_ n2_ n3_ n4_ n5_ n6_ n7_ n8_ n9_
            have p1532 : 0 ≤ (0 : Int) := (by omega)
            have q1532 : 0 < ((rd_L2 t1528 x26_1).length : Int) := od_
            obtain ⟨ad1532, e1532, hx1532_0⟩ := Kd.at_int (by repeat (first | (with_reducible exact HR1531_0.out) | (with_reducible refine Kd.C_alloc ?_ _) | (with_reducible refine Kd.C_drewN ?_ _) | (with_reducible refine Kd.C_drew ?_) | exact HR1531_0.out)) 0 p1532 q1532
            cases e1532
            have qi1532 : (0 < (rd_L2 t1528 x26_1).length) = True := eq_true (by omega)
            (try rw [show ((0 : Int)).toNat = 0 from rfl] at hx1532_0)
            (try rw [Addr.add_zero'] at hx1532_0)
            replace p1532 := eq_true p1532
            replace q1532 := eq_true q1532
            have p1533 : 0 ≤ (1 : Int) := (by omega)
            have q1533 : 1 < ((rd_L2 t1528 x26_1).length : Int) := od_
            obtain ⟨ad1533, e1533, hx1533_0⟩ := Kd.at_int (by repeat (first | (with_reducible exact HR1531_0.out) | (with_reducible refine Kd.C_alloc ?_ _) | (with_reducible refine Kd.C_drewN ?_ _) | (with_reducible refine Kd.C_drew ?_) | exact HR1531_0.out)) 1 p1533 q1533
            obtain rfl : ad1532 = ad1533 := (by injection e1533)
            (try simp only [show (1 : Int).toNat = 1 from rfl, Nat.reduceMul, Nat.reduceEqDiff, Go.Addr.add, ↓reduceIte] at hx1533_0)
            have qi1533 : (1 < (rd_L2 t1528 x26_1).length) = True := eq_true (by omega)
            (try rw [show ((1 : Int)).toNat = 1 from rfl] at hx1533_0)
            replace p1533 := eq_true p1533
            replace q1533 := eq_true q1533
            refine start_ (n := 10) (S := fun w' => w'.cell? ad1532 = some (.int .i64 (rd (rd_L2 t1528 x26_1) 0)) ∧ w'.cell? ⟨ad1532.block, ad1532.off + 1, none⟩ = some (.int .i64 (rd (rd_L2 t1528 x26_1) 1))) (ds := []) (Fn.bl 10 0) (by kernel_rfl) rfl rfl ⟨hx1532_0, hx1533_0⟩ (fun hHeld => ?_); refine with_tabW spec_biBoard.tab6 spec_biBoard.bits6 (fun HT_ HW_ => ?_)
            generalize wr.drew = w36 at HO_5 HO_6 HO_24 HO_1528002 HL1531_0 BK1514 BK1515 BK1527 HR1531_0 HB hx1532_0 hx1533_0 hHeld ⊢
            refine pq_ 0 (some 30) (Fn.bl 10 1) HT_.out ?_
            refine pq_ 1 (some 31) (Fn.bl 10 3) HT_.out ?_
            refine pq_ 3 (some 33) (Fn.bl 10 11) HT_.out ?_
            refine pq_ 4 (some 34) (Fn.bl 10 27) HT_.out ?_
            refine pq_ 8 (some 38) (Fn.bl 10 283) HT_.out ?_
            refine tq_ 2 (some 32) (Fn.bl 10 287) HT_.out HW_.out hHeld ?_ (hy0 := by rintro w' ⟨s0, s1⟩; go_simp; with_reducible rfl)
            refine tq_ 5 (some 35) (Fn.bl 10 319) HT_.out HW_.out hHeld ?_ (hy0 := by rintro w' ⟨s0, s1⟩; go_simp; with_reducible rfl)
            refine pq_ 6 (some 36) (Fn.bl 10 383) HT_.out ?_
            refine pq_ 7 (some 37) (Fn.bl 10 511) HT_.out ?_
            refine pq_ 9 (some 39) (Fn.bl 10 1023) HT_.out ?_
            refine done_ (done_of HT_.out (by kernel_rfl)) ?_
            try go_wp2
            have n0_ := A_ (Kd.R_drew HO_5.out)
            have n1_ := A_ (Kd.R_drew HO_6.out)
            have n2_ := A_ (Kd.S_drew HO_24.out)
            have n3_ := A_ (Kd.R_drew HO_1528002.out)
            have n4_ := A_ (Kd.R_drew HL1531_0.out)
            have n5_ := A_ (blk_drew BK1514.out)
            have n6_ := A_ (blk_drew BK1515.out)
            have n7_ := A_ (blk_drew BK1527.out)
            have n8_ := A_ (Kd.C_drew HR1531_0.out)
            have n9_ := A_ (below_drew1 HB.out)
            clear HO_5
            clear HO_6
            clear HO_24
            clear HO_1528002
            clear HL1531_0
            clear BK1514
            clear BK1515
            clear BK1527
            clear HR1531_0
            clear HB
            have HO_5 := n0_
            have HO_6 := n1_
            have HO_24 := n2_
            have HO_1528002 := n3_
            have HL1531_0 := n4_
            have BK1514 := n5_
            have BK1515 := n6_
            have BK1527 := n7_
            have HR1531_0 := n8_
            have HB := n9_
            clear n0_ n1_ n2_ n3_ n4_ n5_ n6_ n7_ n8_ n9_
            have p1534 : 0 ≤ (0 : Int) := (by omega)
            have q1534 : 0 < ((rd_L2 t1528 x26_1).length : Int) := od_
            obtain ⟨ad1534, e1534, hx1534_0⟩ := Kd.at_int (by repeat (first | (with_reducible exact HR1531_0.out) | (with_reducible refine Kd.C_alloc ?_ _) | (with_reducible refine Kd.C_drewN ?_ _) | (with_reducible refine Kd.C_drew ?_) | exact HR1531_0.out)) 0 p1534 q1534
            obtain rfl : ad1532 = ad1534 := (by injection e1534)
            have qi1534 : (0 < (rd_L2 t1528 x26_1).length) = True := eq_true (by omega)
            (try rw [show ((0 : Int)).toNat = 0 from rfl] at hx1534_0)
            (try rw [Addr.add_zero'] at hx1534_0)
            replace p1534 := eq_true p1534
            replace q1534 := eq_true q1534
            have p1535 : 0 ≤ (1 : Int) := (by omega)
            have q1535 : 1 < ((rd_L2 t1528 x26_1).length : Int) := od_
            obtain ⟨ad1535, e1535, hx1535_0⟩ := Kd.at_int (by repeat (first | (with_reducible exact HR1531_0.out) | (with_reducible refine Kd.C_alloc ?_ _) | (with_reducible refine Kd.C_drewN ?_ _) | (with_reducible refine Kd.C_drew ?_) | exact HR1531_0.out)) 1 p1535 q1535
            obtain rfl : ad1532 = ad1535 := (by injection e1535)
            (try simp only [show (1 : Int).toNat = 1 from rfl, Nat.reduceMul, Nat.reduceEqDiff, Go.Addr.add, ↓reduceIte] at hx1535_0)
            have qi1535 : (1 < (rd_L2 t1528 x26_1).length) = True := eq_true (by omega)
            (try rw [show ((1 : Int)).toNat = 1 from rfl] at hx1535_0)
            replace p1535 := eq_true p1535
            replace q1535 := eq_true q1535
            refine start_ (n := 13) (S := fun w' => w'.cell? ⟨gb1514, 0, none⟩ = some (.int .i64 a0_0) ∧ w'.cell? ⟨gb1514, 1, none⟩ = some (.int .i64 a0_1) ∧ w'.cell? ⟨gb1514, 2, none⟩ = some (.slice A0_2 l0_2.length c0_2) ∧ w'.cell? ad1532 = some (.int .i64 (rd (rd_L2 t1528 x26_1) 0)) ∧ w'.cell? ⟨ad1532.block, ad1532.off + 1, none⟩ = some (.int .i64 (rd (rd_L2 t1528 x26_1) 1))) (ds := []) (Fn.bl 13 0) (by kernel_rfl) rfl rfl ⟨(blk_cell BK1514.out 0).trans rfl, (blk_cell BK1514.out 1).trans rfl, (blk_cell BK1514.out 2).trans rfl, hx1534_0, hx1535_0⟩ (fun hHeld => ?_); refine with_tabW spec_biBoard.tab7 spec_biBoard.bits7 (fun HT_ HW_ => ?_)
            generalize w36.drew = w37 at HO_5 HO_6 HO_24 HO_1528002 HL1531_0 BK1514 BK1515 BK1527 HR1531_0 HB hx1534_0 hx1535_0 hHeld ⊢
            refine pq_ 1 (some 42) (Fn.bl 13 2) HT_.out ?_
            refine pq_ 2 (some 43) (Fn.bl 13 6) HT_.out ?_
            refine pq_ 4 (some 45) (Fn.bl 13 22) HT_.out ?_
            refine pq_ 5 (some 46) (Fn.bl 13 54) HT_.out ?_
            refine tq_ 0 (some 41) (Fn.bl 13 55) HT_.out HW_.out hHeld ?_ (hy0 := by rintro w' ⟨s0, s1, s2, s3, s4⟩; go_simp; with_reducible rfl)
            refine tq_ 3 (some 44) (Fn.bl 13 63) HT_.out HW_.out hHeld ?_ (hy0 := by rintro w' ⟨s0, s1, s2, s3, s4⟩; go_simp; with_reducible rfl)
            refine tq_ 6 (some 47) (Fn.bl 13 127) HT_.out HW_.out hHeld ?_ (hy0 := by rintro w' ⟨s0, s1, s2, s3, s4⟩; go_simp; with_reducible rfl)
            refine one_ (i := 7) (N := some 48) (Fn.bl 13 255) rfl rfl (one_of HT_.out (by kernel_rfl)) (by decide) (fun K hK => ?_)
            refine goes_ Try.func86 (by kernel_rfl) rfl #[.agg #[.int .i64 a0_0, .int .i64 a0_1, .slice A0_2 l0_2.length c0_2], .int .i64 (rd (rd_L2 t1528 x26_1) 0), .int .i64 (rd (rd_L2 t1528 x26_1) 1)] (by rfl) rfl rfl ta_ ?_
            with_reducible refine (spec_biDiagonals.calls a0_0 a0_1 _ _ l0_2 (rd (rd_L2 t1528 x26_1) 0) (rd (rd_L2 t1528 x26_1) 1) t1536 t1537 _ ?side1 ?side2 A28.out).mono ?_
            (case side1 => exact tc_ HR0_2.out)
            (case side2 => exact HC0_2.out)
            rintro e w38 ⟨rfl, hb⟩
            have HS3_ := (hb.cell (World.block_lt_of_cell? _ _ (hHeld.2.2.2.1))).trans (hHeld.2.2.2.1)
            have HS4_ := (hb.cell (World.block_lt_of_cell? _ _ (hHeld.2.2.2.2))).trans (hHeld.2.2.2.2)
            refine ⟨_, rfl, ?_⟩
            have n0_ := A_ (Kd.R_below (tr_x HO_5.out) hb)
            have n1_ := A_ (Kd.R_below (tr_x HO_6.out) hb)
            have n2_ := A_ (Kd.S_below (ts1_x HO_24.out) hb)
            have n3_ := A_ (Kd.R_below (tr_x HO_1528002.out) hb)
            have n4_ := A_ (Kd.R_below (tr_x HL1531_0.out) hb)
            have n5_ := A_ (blk_below (g := gb1514) (o := .cells #[.int .i64 a0_0, .int .i64 a0_1, .slice A0_2 l0_2.length c0_2] 26 (0, 0)) (tk_ BK1514) hb)
            have n6_ := A_ (blk_below (g := gb1515) (o := .cells #[.int .i64 0, .int .i64 0, .slice none 0 0] 26 (0, 0)) (tk_ BK1515) hb)
            have n7_ := A_ (blk_below (g := gb1527) (o := .cells #[.int .i64 t1522, .int .i64 t1523, u1528002] 26 (0, 0)) (tk_ BK1527) hb)
            have n8_ := A_ (Kd.C_below (by repeat (first | (with_reducible exact HR1531_0.out) | (with_reducible refine Kd.C_alloc ?_ _) | (with_reducible refine Kd.C_drewN ?_ _) | (with_reducible refine Kd.C_drew ?_) | exact HR1531_0.out)) hb)
            have n9_ := A_ (below_step tb_ hb)
            clear HO_5
            clear HO_6
            clear HO_24
            clear HO_1528002
            clear HL1531_0
            clear BK1514
            clear BK1515
            clear BK1527
            clear HR1531_0
            clear HB
            have HO_5 := n0_
            have HO_6 := n1_
            have HO_24 := n2_
            have HO_1528002 := n3_
            have HL1531_0 := n4_
            have BK1514 := n5_
            have BK1515 := n6_
            have BK1527 := n7_
            have HR1531_0 := n8_
            have HB := n9_
            clear n0_ n1_ n2_ n3_ n4_ n5_ n6_ n7_ n8_ n9_
            (try clear hb)
            (try clear hb2)
            (try clear hk)
            (try clear hi)
            refine hK.out _ _ ⟨(blk_cell BK1514.out 0).trans rfl, (blk_cell BK1514.out 1).trans rfl, (blk_cell BK1514.out 2).trans rfl, HS3_, HS4_⟩ (fun hHeld => ?_)
            clear hK K
            refine norm_ (a' := ?_) ?_ ?_
            rotate_left
            ·
             show Act.put _ (some 48) _ = _
             simp only [Act.put, List.setIfInBounds_toArray, List.set_cons_zero, List.set_cons_succ, i64_w, i32_w]
             rfl
            refine pq_ 8 (some 40) (Fn.bl 13 511) HT_.out ?_
            refine pq_ 9 (some 49) (Fn.bl 13 1023) HT_.out ?_
            refine pq_ 10 (some 50) (Fn.bl 13 2047) HT_.out ?_
            refine pq_ 11 (some 10) (Fn.bl 13 4095) HT_.out ?_
            refine pq_ 12 (some 11) (Fn.bl 13 8191) HT_.out ?_
            refine done_ (done_of HT_.out (by kernel_rfl)) ?_
            try go_wp2
            have n0_ := A_ (Kd.R_drew HO_5.out)
            have n1_ := A_ (Kd.R_drew HO_6.out)
            have n2_ := A_ (Kd.S_drew HO_24.out)
            have n3_ := A_ (Kd.R_drew HO_1528002.out)
            have n4_ := A_ (Kd.R_drew HL1531_0.out)
            have n5_ := A_ (blk_drew BK1514.out)
            have n6_ := A_ (blk_drew BK1515.out)
            have n7_ := A_ (blk_drew BK1527.out)
            have n8_ := A_ (Kd.C_drew HR1531_0.out)
            have n9_ := A_ (below_drew1 HB.out)
            clear HO_5
            clear HO_6
            clear HO_24
            clear HO_1528002
            clear HL1531_0
            clear BK1514
            clear BK1515
            clear BK1527
            clear HR1531_0
            clear HB
            have HO_5 := n0_
            have HO_6 := n1_
            have HO_24 := n2_
            have HO_1528002 := n3_
            have HL1531_0 := n4_
            have BK1514 := n5_
            have BK1515 := n6_
            have BK1527 := n7_
            have HR1531_0 := n8_
            have HB := n9_
            clear n0_ n1_ n2_ n3_ n4_ n5_ n6_ n7_ n8_ n9_
            have p1539 : 0 ≤ (t1538 : Int) := od_
            have q1539 : t1538 < (x1528002_1.length : Int) := od_
            obtain ⟨Au1528002, cu1528002, eu1528002⟩ := Kd.R_slice HO_1528002.out
            subst eu1528002
            obtain ⟨ad1539, e1539, hx1539_0⟩ := Kd.at_int (Kd.R_reads' HO_1528002.out).2.2 t1538 p1539 q1539
            cases e1539
            replace p1539 := eq_true p1539
            replace q1539 := eq_true q1539
            refine start_ (n := 14) (S := fun w' => w'.cell? ⟨gb1527, 0, none⟩ = some (.int .i64 t1522) ∧ w'.cell? ⟨gb1527, 1, none⟩ = some (.int .i64 t1523) ∧ w'.cell? ⟨gb1527, 2, none⟩ = some (.slice (some ad1539) x1528002_1.length cu1528002) ∧ w'.cell? (ad1539.add (t1538).toNat) = some (.int .i64 (rd x1528002_1 t1538))) (ds := [13]) (Fn.bl 14 0) (by kernel_rfl) rfl rfl ⟨(blk_cell BK1527.out 0).trans rfl, (blk_cell BK1527.out 1).trans rfl, (blk_cell BK1527.out 2).trans rfl, hx1539_0⟩ (fun hHeld => ?_); refine with_tabW spec_biBoard.tab8 spec_biBoard.bits8 (fun HT_ HW_ => ?_)
            generalize w38.drew = w39 at HO_5 HO_6 HO_24 HO_1528002 HL1531_0 BK1514 BK1515 BK1527 HR1531_0 HB hx1539_0 hHeld ⊢
            refine pq_ 0 (some 51) (Fn.bl 14 1) HT_.out ?_
            refine pq_ 2 (some 53) (Fn.bl 14 5) HT_.out ?_
            refine pq_ 3 (some 54) (Fn.bl 14 13) HT_.out ?_
            refine pq_ 7 (some 58) (Fn.bl 14 141) HT_.out ?_
            refine pq_ 8 (some 59) (Fn.bl 14 397) HT_.out ?_
            refine tq_ 1 (some 52) (Fn.bl 14 399) HT_.out HW_.out hHeld ?_ (hy0 := by rintro w' ⟨s0, s1, s2, s3⟩; go_simp; with_reducible rfl)
            refine one_ (i := 4) (N := some 55) (Fn.bl 14 415) rfl rfl (one_of HT_.out (by kernel_rfl)) (by decide) (fun K hK => ?_)
            refine goes_ Try.func175 (by kernel_rfl) rfl #[.slice Ao11 x5_1.length co11, .int .i64 t1536] (by rfl) rfl rfl ta_ ?_
            with_reducible refine (spec_biPlace.calls k1 _ _ x5_1 t1536 t1538 _ ?side1 ?side2 A29.out).mono ?_
            (case side1 => exact tc0_ (Kd.R_reads' HO_5.out).2.2)
            (case side2 => exact (Kd.R_reads' HO_5.out).2.1)
            rintro e w' ⟨rfl, ⟨nd, rfl⟩⟩
            refine ⟨_, rfl, ?_⟩
            obtain ⟨Ao40, co40, eo40⟩ := Kd.R_slice HO_1528002.out
            (first | subst eo40 | (injection eo40 with f1_ f2_ f3_; have f4_ := f1_.symm; have f5_ := f3_.symm; clear f1_ f2_ f3_; subst f4_; subst f5_))
            refine hK.out _ _ ⟨(blk_cell BK1527.out 0).trans rfl, (blk_cell BK1527.out 1).trans rfl, (blk_cell BK1527.out 2).trans rfl, hHeld.2.2.2⟩ (fun hHeld => ?_)
            clear hK K
            refine norm_ (a' := ?_) ?_ ?_
            rotate_left
            ·
             show Act.put _ (some 55) _ = _
             simp only [Act.put, List.setIfInBounds_toArray, List.set_cons_zero, List.set_cons_succ, i64_w, i32_w]
             rfl
            refine pq_ 5 (some 56) (Fn.bl 14 447) HT_.out ?_
            refine tq_ 6 (some 57) (Fn.bl 14 511) HT_.out HW_.out hHeld ?_ (hy0 := by rintro w' ⟨s0, s1, s2, s3⟩; go_simp; with_reducible rfl)
            refine one_ (i := 9) (N := some 60) (Fn.bl 14 1023) rfl rfl (one_of HT_.out (by kernel_rfl)) (by decide) (fun K hK => ?_)
            refine goes_ Try.func175 (by kernel_rfl) rfl #[.slice Ao12 x6_1.length co12, .int .i64 t1537] (by rfl) rfl rfl ta_ ?_
            with_reducible refine (spec_biPlace.calls k1 _ _ x6_1 t1537 t1540 _ ?side1 ?side2 A32.out).mono ?_
            (case side1 => exact tc0_ (Kd.R_reads' HO_6.out).2.2)
            (case side2 => exact (Kd.R_reads' HO_6.out).2.1)
            rintro e w' ⟨rfl, ⟨nd, rfl⟩⟩
            refine ⟨_, rfl, ?_⟩
            have p35 : 0 ≤ (t1538 : Int) := od_
            have q35 : (t1538 : Int) < ((x1528002_1.length : Int) : Int) := od_
            obtain ⟨go35, co35, eo35, gb35, gl35, cl35, HG35⟩ := Kd.R_form HO_1528002.out (by omega)
            (first | cases eo35 | (injection eo35 with ea_ en_ ec_; (first | subst ea_ | (injection ea_ with ea_; subst ea_)); subst ec_; clear en_))
            have GB35 := A_ gb35
            have GG35 := A_ HG35
            clear gb35 gl35 HG35
            (first | simp only [add_plain] at hx1539_0 | skip)
            obtain ⟨hx35_0, hf35_0⟩ := Kd.R_celln 0 HO_1528002.out (t1538 : Int) p35 q35
            replace p35 := eq_true p35
            replace q35 := eq_true q35
            have HP41 := Kd.R_putn HO_1528002.out (t1538 : Int) (wrap64 ((rd x1528002_1 t1538) + (ji34)))
            rw [← Ny1541.out] at HP41
            have HQ41 := A_ HP41
            clear HP41
            refine hK.out _ _ ⟨(blk_cell BK1527.out 0).trans rfl, (blk_cell BK1527.out 1).trans rfl, (blk_cell BK1527.out 2).trans rfl, hHeld.2.2.2⟩ (fun hHeld => ?_)
            clear hK K
            refine norm_ (a' := ?_) ?_ ?_
            rotate_left
            ·
             show Act.put _ (some 60) _ = _
             simp only [Act.put, List.setIfInBounds_toArray, List.set_cons_zero, List.set_cons_succ, i64_w, i32_w]
             rfl
            refine pq_ 10 (some 61) (Fn.bl 14 2047) HT_.out ?_
            refine pq_ 11 (some 62) (Fn.bl 14 4095) HT_.out ?_
            refine pq_ 12 (some 63) (Fn.bl 14 8191) HT_.out ?_
            refine last_ (i := 13) (N := none) (Fn.bl 14 16383) rfl rfl (one_of HT_.out (by kernel_rfl)) (by decide) (fun K hK => ?_)
            refine skip_ (w1 := ?_) (by rfl) rfl ?_ ?_
            rotate_left
            ·
             go_simp
             rfl
            refine hK.out _ _ ?_
            clear hK K
            refine done_ (done_of HT_.out (by kernel_rfl)) ?_
            try go_wp2
            (try simp only [← hl5_1, ← hl6_1])
            go_roundg k1
            case measure => have := HK1.out; omega
            case rel => exact ⟨(x5_1), (x6_1), (wrap64 (x26_1 + 1)), (y1541), (.slice (some ⟨go35, 0, none⟩) x1528002_1.length co40), tf_, H', ⟨by have := HK1.out; omega⟩, ⟨by (try simp only [hl5_1]); (try simp only [hl6_1]); (with_reducible repeat (first | apply Kd.R_alloc | apply Kd.R_drewN | apply Kd.R_drew)); exact Kd.R_mono (Kd.R_far (p := ⟨go35, (t1538 : Int).toNat, none⟩) (Kd.R_mono HO_5.out (fun k_ hk => (⟨hk, fun e_ => hk.2 (by rw [e_]; rfl)⟩ : _ ∧ k_ ≠ go35))) (fun _ hk => hk.2) (.int .i64 (wrap64 ((rd x1528002_1 t1538) + (ji34))))) om_⟩, ⟨by (try simp only [hl5_1]); (try simp only [hl6_1]); (with_reducible repeat (first | apply Kd.R_alloc | apply Kd.R_drewN | apply Kd.R_drew)); exact Kd.R_mono (Kd.R_far (p := ⟨go35, (t1538 : Int).toNat, none⟩) (Kd.R_mono HO_6.out (fun k_ hk => (⟨hk, fun e_ => hk.2 (by rw [e_]; rfl)⟩ : _ ∧ k_ ≠ go35))) (fun _ hk => hk.2) (.int .i64 (wrap64 ((rd x1528002_1 t1538) + (ji34))))) om_⟩, ⟨by (try simp only [hl5_1]); (try simp only [hl6_1]); (with_reducible repeat (first | apply Kd.S_alloc | apply Kd.S_drewN | apply Kd.S_drew)); exact Kd.S_mono (Kd.S_far (p := ⟨go35, (t1538 : Int).toNat, none⟩) (Kd.S_mono HO_24.out (fun k_ hk => (⟨hk, fun e_ => hk.2.2 (by rw [e_]; rfl)⟩ : _ ∧ k_ ≠ go35))) (fun _ hk => hk.2) (.int .i64 (wrap64 ((rd x1528002_1 t1538) + (ji34))))) om_⟩, ⟨by (try simp only [hl5_1]); (try simp only [hl6_1]); (with_reducible repeat (first | apply Kd.R_alloc | apply Kd.R_drewN | apply Kd.R_drew)); exact HQ41.out⟩, ⟨by (try simp only [hl5_1]); (try simp only [hl6_1]); (with_reducible repeat (first | refine blk_drewN ?_ _ | refine blk_drew ?_ | refine blk_alloc ?_ _)); refine blk_far ?_ (by have h_ := Kd.R_ne HO_1528002.out BK1514.out (by decide); intro e_; exact h_ (by rw [e_]; rfl)) _; (with_reducible repeat (first | refine blk_drewN ?_ _ | refine blk_drew ?_ | refine blk_alloc ?_ _)); exact BK1514.out⟩, ⟨by (try simp only [hl5_1]); (try simp only [hl6_1]); (with_reducible repeat (first | refine blk_drewN ?_ _ | refine blk_drew ?_ | refine blk_alloc ?_ _)); refine blk_far ?_ (by have h_ := Kd.R_ne HO_1528002.out BK1515.out (by decide); intro e_; exact h_ (by rw [e_]; rfl)) _; (with_reducible repeat (first | refine blk_drewN ?_ _ | refine blk_drew ?_ | refine blk_alloc ?_ _)); exact BK1515.out⟩, ⟨by (try simp only [hl5_1]); (try simp only [hl6_1]); (with_reducible repeat (first | refine blk_drewN ?_ _ | refine blk_drew ?_ | refine blk_alloc ?_ _)); refine blk_far ?_ (by have h_ := Kd.R_ne HO_1528002.out BK1527.out (by decide); intro e_; exact h_ (by rw [e_]; rfl)) _; (with_reducible repeat (first | refine blk_drewN ?_ _ | refine blk_drew ?_ | refine blk_alloc ?_ _)); exact BK1527.out⟩, ⟨tb_⟩⟩
           ·
            rw [if_neg c33] at H
            exact absurd H (by simp)
          ·
           rw [if_neg c31] at H
           exact absurd H (by simp)
         ·
          rw [if_neg c30] at H
          exact absurd H (by simp)
        ·
         rw [if_neg c27] at H
         have c27b0 : ((Int.tmod (wrap64 ((rd (rd_L2 t1528 x26_1) 0) + (rd (rd_L2 t1528 x26_1) 1))) 2) == a1) = false := beq_eq_false_iff_ne.mpr c27
         have c27b1 : ((Int.tmod (wrap64 ((rd (rd_L2 t1528 x26_1) 0) + (rd (rd_L2 t1528 x26_1) 1))) 2) != a1) = true := bne_iff_ne.mpr c27
         have H' := A_ H
         clear H
         have p1531 : 0 ≤ (x26_1 : Int) := od_
         have q1531 : x26_1 < (t1528.length : Int) := od_
         obtain ⟨ad1531, A1531_0, c1531_0, e1531, hx1531_0, hl1531_0, hi1531_0⟩ := at_L2 (Kd.S_reads' HO_24.out).2.2 x26_1 p1531 q1531
         cases e1531
         obtain ⟨ce1531, hce1531, hMe1531, hcc1531⟩ := Kd.S_get HO_24.out [] x26_1 p1531 (by first | exact q1531 | exact od_ | (have e_ := (Kd.S_reads' HO_24.out).1; omega))
         obtain ⟨ve1531_0, rfl, ge1531_0⟩ := hMe1531
         have hv1531_0 := hcc1531 0 _ rfl
         rw [Nat.add_zero, show ((Kd.slice 3 (Kd.int .i64))).sz = 1 from rfl, Nat.mul_one] at hv1531_0
         replace hv1531_0 := Option.some.inj (hv1531_0.symm.trans hx1531_0)
         rw [hv1531_0] at ge1531_0
         have HL1531_0 := A_ (show Kd.R (Kd.int .i64) 3 _ _ _ _ (rd_L2 t1528 x26_1) from ge1531_0)
         clear hv1531_0 ge1531_0
         clear hcc1531 hce1531
         have HR1531_0 := A_ hi1531_0
         have HC1531_0 := A_ hl1531_0
         clear hi1531_0 hl1531_0
         replace p1531 := eq_true p1531
         replace q1531 := eq_true q1531
         try go_wp2
         have n0_ := A_ (Kd.R_drew HO_5.out)
         have n1_ := A_ (Kd.R_drew HO_6.out)
         have n2_ := A_ (Kd.S_drew HO_24.out)
         have n3_ := A_ (Kd.R_drew HO_1528002.out)
         have n4_ := A_ (Kd.R_drew HL1531_0.out)
         have n5_ := A_ (blk_drew BK1514.out)
         have n6_ := A_ (blk_drew BK1515.out)
         have n7_ := A_ (blk_drew BK1527.out)
         have n8_ := A_ (Kd.C_drew HR1531_0.out)
         have n9_ := A_ (below_drew1 HB.out)
         clear HO_5
         clear HO_6
         clear HO_24
         clear HO_1528002
         clear HL1531_0
         clear BK1514
         clear BK1515
         clear BK1527
         clear HR1531_0
         clear HB
         have HO_5 := n0_
         have HO_6 := n1_
         have HO_24 := n2_
         have HO_1528002 := n3_
         have HL1531_0 := n4_
         have BK1514 := n5_
         have BK1515 := n6_
         have BK1527 := n7_
         have HR1531_0 := n8_
         have HB := n9_
         clear n0_ n1_ n2_ n3_ n4_ n5_ n6_ n7_ n8_ n9_
         have p1532 : 0 ≤ (0 : Int) := (by omega)
         have q1532 : 0 < ((rd_L2 t1528 x26_1).length : Int) := od_
         obtain ⟨ad1532, e1532, hx1532_0⟩ := Kd.at_int (by repeat (first | (with_reducible exact HR1531_0.out) | (with_reducible refine Kd.C_alloc ?_ _) | (with_reducible refine Kd.C_drewN ?_ _) | (with_reducible refine Kd.C_drew ?_) | exact HR1531_0.out)) 0 p1532 q1532
         cases e1532
         have qi1532 : (0 < (rd_L2 t1528 x26_1).length) = True := eq_true (by omega)
         (try rw [show ((0 : Int)).toNat = 0 from rfl] at hx1532_0)
         (try rw [Addr.add_zero'] at hx1532_0)
         replace p1532 := eq_true p1532
         replace q1532 := eq_true q1532
         have p1533 : 0 ≤ (1 : Int) := (by omega)
         have q1533 : 1 < ((rd_L2 t1528 x26_1).length : Int) := od_
         obtain ⟨ad1533, e1533, hx1533_0⟩ := Kd.at_int (by repeat (first | (with_reducible exact HR1531_0.out) | (with_reducible refine Kd.C_alloc ?_ _) | (with_reducible refine Kd.C_drewN ?_ _) | (with_reducible refine Kd.C_drew ?_) | exact HR1531_0.out)) 1 p1533 q1533
         obtain rfl : ad1532 = ad1533 := (by injection e1533)
         (try simp only [show (1 : Int).toNat = 1 from rfl, Nat.reduceMul, Nat.reduceEqDiff, Go.Addr.add, ↓reduceIte] at hx1533_0)
         have qi1533 : (1 < (rd_L2 t1528 x26_1).length) = True := eq_true (by omega)
         (try rw [show ((1 : Int)).toNat = 1 from rfl] at hx1533_0)
         replace p1533 := eq_true p1533
         replace q1533 := eq_true q1533
         refine start_ (n := 10) (S := fun w' => w'.cell? ad1532 = some (.int .i64 (rd (rd_L2 t1528 x26_1) 0)) ∧ w'.cell? ⟨ad1532.block, ad1532.off + 1, none⟩ = some (.int .i64 (rd (rd_L2 t1528 x26_1) 1))) (ds := []) (Fn.bl 10 0) (by kernel_rfl) rfl rfl ⟨hx1532_0, hx1533_0⟩ (fun hHeld => ?_); refine with_tabW spec_biBoard.tab6 spec_biBoard.bits6 (fun HT_ HW_ => ?_)
         generalize wr.drew = w42 at HO_5 HO_6 HO_24 HO_1528002 HL1531_0 BK1514 BK1515 BK1527 HR1531_0 HB hx1532_0 hx1533_0 hHeld ⊢
         refine pq_ 0 (some 30) (Fn.bl 10 1) HT_.out ?_
         refine pq_ 1 (some 31) (Fn.bl 10 3) HT_.out ?_
         refine pq_ 3 (some 33) (Fn.bl 10 11) HT_.out ?_
         refine pq_ 4 (some 34) (Fn.bl 10 27) HT_.out ?_
         refine pq_ 8 (some 38) (Fn.bl 10 283) HT_.out ?_
         refine tq_ 2 (some 32) (Fn.bl 10 287) HT_.out HW_.out hHeld ?_ (hy0 := by rintro w' ⟨s0, s1⟩; go_simp; with_reducible rfl)
         refine tq_ 5 (some 35) (Fn.bl 10 319) HT_.out HW_.out hHeld ?_ (hy0 := by rintro w' ⟨s0, s1⟩; go_simp; with_reducible rfl)
         refine pq_ 6 (some 36) (Fn.bl 10 383) HT_.out ?_
         refine pq_ 7 (some 37) (Fn.bl 10 511) HT_.out ?_
         refine pq_ 9 (some 39) (Fn.bl 10 1023) HT_.out ?_
         refine done_ (done_of HT_.out (by kernel_rfl)) ?_
         try go_wp2
         (try simp only [← hl5_1, ← hl6_1])
         go_roundg k1
         case measure => have := HK1.out; omega
         case rel => exact ⟨(x5_1), (x6_1), (wrap64 (x26_1 + 1)), (x1528002_1), (u1528002), tf_, H', ⟨by have := HK1.out; omega⟩, ⟨by (try simp only [hl5_1]); (try simp only [hl6_1]); (with_reducible repeat (first | apply Kd.R_alloc | apply Kd.R_drewN | apply Kd.R_drew)); exact HO_5.out⟩, ⟨by (try simp only [hl5_1]); (try simp only [hl6_1]); (with_reducible repeat (first | apply Kd.R_alloc | apply Kd.R_drewN | apply Kd.R_drew)); exact HO_6.out⟩, ⟨by (try simp only [hl5_1]); (try simp only [hl6_1]); (with_reducible repeat (first | apply Kd.S_alloc | apply Kd.S_drewN | apply Kd.S_drew)); exact HO_24.out⟩, ⟨by (try simp only [hl5_1]); (try simp only [hl6_1]); (with_reducible repeat (first | apply Kd.R_alloc | apply Kd.R_drewN | apply Kd.R_drew)); exact HO_1528002.out⟩, ⟨by (try simp only [hl5_1]); (try simp only [hl6_1]); (with_reducible repeat (first | refine blk_drewN ?_ _ | refine blk_drew ?_ | refine blk_alloc ?_ _)); exact BK1514.out⟩, ⟨by (try simp only [hl5_1]); (try simp only [hl6_1]); (with_reducible repeat (first | refine blk_drewN ?_ _ | refine blk_drew ?_ | refine blk_alloc ?_ _)); exact BK1515.out⟩, ⟨by (try simp only [hl5_1]); (try simp only [hl6_1]); (with_reducible repeat (first | refine blk_drewN ?_ _ | refine blk_drew ?_ | refine blk_alloc ?_ _)); exact BK1527.out⟩, ⟨tb_⟩⟩
       ·
        rw [if_neg c26] at H
        exact absurd H (by simp)
      ·
       rw [if_neg c25] at H
       exact absurd H (by simp)
     ·
      rw [if_neg c24] at H
      exact absurd H (by simp)
    ·
     rw [if_neg c23] at H
     exact absurd H (by simp)
   ·
    rw [if_neg c22] at H
    have c22b0 := decide_eq_false c22
    (try (have c22b7 := c22b0; rw [hl5_1] at c22b7))
    (try (have c22b7 := c22b0; rw [hl6_1] at c22b7))
    (try (have c22b8 := c22b0; simp only [hl5_1, hl6_1] at c22b8))
    clear c22
    simp only [Option.some.injEq, Prod.mk.injEq] at H
    obtain ⟨rfl, rfl, rfl⟩ := H
    have hnb43 := NB1527_1514.out
    have hnc43 := NB1514_1527.out
    have hnb44 := NB1527_1515.out
    have hnc44 := NB1515_1527.out
    obtain ⟨hcz45_0, hcz45_1, hcz45_2, hfz45_0, hfz45_1, hfz45_2⟩ := cf3_ BK1527.out
    have hnb46 := NB1515_1514.out
    have hnc46 := NB1514_1515.out
    obtain ⟨hcz47_0, hcz47_1, hcz47_2, hfz47_0, hfz47_1, hfz47_2⟩ := cf3_ BK1515.out
    obtain ⟨Ao48, co48, eo48⟩ := Kd.R_slice HO_1528002.out
    subst eo48
    go_wp2
    refine bodyPost_ret (results_cell_row rfl _ _ gb1515 26 #[.int .i64 t1522, .int .i64 t1523, .slice Ao48 x1528002_1.length co48] (0, 0) _ rfl (by (with_reducible repeat (first | refine blk_drewN ?_ _ | refine blk_drew ?_ | refine blk_alloc ?_ _)); refine blk_put (cs := #[.int .i64 t1522, .int .i64 t1523, .slice none 0 0]) ?_ 2 _ rfl; (with_reducible repeat (first | refine blk_drewN ?_ _ | refine blk_drew ?_ | refine blk_alloc ?_ _)); refine blk_put (cs := #[.int .i64 t1522, .int .i64 0, .slice none 0 0]) ?_ 1 _ rfl; (with_reducible repeat (first | refine blk_drewN ?_ _ | refine blk_drew ?_ | refine blk_alloc ?_ _)); refine blk_put (cs := #[.int .i64 0, .int .i64 0, .slice none 0 0]) ?_ 0 _ rfl; (with_reducible repeat (first | refine blk_drewN ?_ _ | refine blk_drew ?_ | refine blk_alloc ?_ _)); exact BK1515.out) Try.underlying26 rfl (by kernel_rfl)) rfl ?_
    exact ⟨_, te_, by (with_reducible repeat (first | apply Kd.R_alloc | apply Kd.R_drewN | apply Kd.R_drew)); exact Kd.R_mono (Kd.R_far (p := ⟨gb1515, 2, none⟩) (Kd.R_far (p := ⟨gb1515, 1, none⟩) (Kd.R_far (p := ⟨gb1515, 0, none⟩) (Kd.R_types HO_1528002.out BK1515.out (by decide)) (fun _ hk => hk.2) (.int .i64 t1522)) (fun _ hk => hk.2) (.int .i64 t1523)) (fun _ hk => hk.2) (.slice Ao48 x1528002_1.length co48)) (fun _ hk => trivial), tb_⟩

/-! ### spec_l1Has: function 176 -/
def spec_l1Has.l0 : Nat → Int → List Int → Int → Int → Option (Bool)
 | 0, _, _, _, _ => none
 | k + 1, x1, x7, x8, x9 => if x9 < x8 then (if 0 ≤ x9 then (if x9 < (x7.length : Int) then (if (rd x7 x9) = x1 then (some true) else (spec_l1Has.l0 k x1 x7 x8 (wrap64 (x9 + 1)))) else (none)) else (none)) else (some false)
def spec_l1Has.f (k : Nat) (l0 : List Int) (a1 : Int) : Option (Bool) := spec_l1Has.l0 k a1 l0 (l0.length : Int) 0
theorem spec_l1Has.mono_l : ∀ k, (∀ y0 y1 y2 y3, LeO (spec_l1Has.l0 k y0 y1 y2 y3) (spec_l1Has.l0 (k + 1) y0 y1 y2 y3))
 | 0 => fun _ _ _ _ r h => by simp [spec_l1Has.l0] at h
 | k + 1 => by
  have ih0 := spec_l1Has.mono_l k
  ·
   intro y0 y1 y2 y3
   unfold spec_l1Has.l0
   repeat' first | (with_reducible first | exact ih0 _ _ _ _ | exact LeO.refl _ | exact LeO.none _ | refine LeO.ite ?_ ?_ | refine LeO.bind ?_ (fun _ => ?_)) | exact ih0 _ _ _ _ | exact LeO.none _ | refine LeO.ite ?_ ?_ | refine LeO.bind ?_ (fun _ => ?_)
theorem spec_l1Has.mono : ∀ a0 a1 k, LeO (spec_l1Has.f k a0 a1) (spec_l1Has.f (k + 1) a0 a1) := by
 intro a0 a1 k
 have ih0 := spec_l1Has.mono_l k
 unfold spec_l1Has.f
 repeat' first | (with_reducible first | exact ih0 _ _ _ _ | exact LeO.refl _ | exact LeO.none _ | refine LeO.ite ?_ ?_ | refine LeO.bind ?_ (fun _ => ?_)) | exact ih0 _ _ _ _ | exact LeO.none _ | refine LeO.ite ?_ ?_ | refine LeO.bind ?_ (fun _ => ?_)
theorem spec_l1Has.calls (k : Nat) (A0 : Option Addr) (c0 : Nat) (l0 : List Int) (a1 : Int) (r : Bool) (w : World) (hr0 : Kd.C (Kd.int .i64) w A0 l0.length l0) (hc0 : l0.length ≤ c0) (h : spec_l1Has.f k l0 a1 = some r) :
  Calls Try.prog 176 #[.slice A0 l0.length c0, .int .i64 a1] w fun e w' => e = .returned (.bool r) ∧ Drawn0 w w' := by
 have HR0 := A_ hr0
 have HC0 := A_ hc0
 clear hr0 hc0
 have H : (spec_l1Has.l0 k a1 l0 (l0.length : Int) 0) = some r := h
 clear h
 have H' := A_ H
 clear H
 go_enter Try.func176, Try.ntmps176
 go_wp2
 go_loopg [9] k (fun kq v9 w' => ∃ (x9_1 : Int), v9 = .int .i64 x9_1 ∧ Aside0 (spec_l1Has.l0 kq a1 l0 (l0.length : Int) x9_1 = some r) ∧ Aside0 (kq ≤ k) ∧ Drawn0 w w')
 case atStart => exact ⟨(0), tf_, H', ⟨Nat.le_refl _⟩, dr_⟩
 case round =>
  clear H'
  try clear c1
  try clear p2
  obtain ⟨x9_1, rfl, HA, HK1, ⟨m1, rfl⟩⟩ := hrel
  cases gk with
  | zero => exact absurd HA.out (by simp [spec_l1Has.l0])
  | succ k1 =>
   have H := HA.out
   clear HA
   simp only [spec_l1Has.l0] at H
   by_cases c3 : x9_1 < (l0.length : Int)
   ·
    rw [if_pos c3] at H
    have c3b0 := decide_eq_true c3
    clear c3
    by_cases c4 : 0 ≤ x9_1
    ·
     rw [if_pos c4] at H
     have c4b0 := decide_eq_true c4
     clear c4
     by_cases c5 : x9_1 < (l0.length : Int)
     ·
      rw [if_pos c5] at H
      have c5b0 := decide_eq_true c5
      clear c5
      by_cases c6 : (rd l0 x9_1) = a1
      ·
       rw [if_pos c6] at H
       have c6b0 : ((rd l0 x9_1) == a1) = true := beq_iff_eq.mpr c6
       have c6b1 : ((rd l0 x9_1) != a1) = false := bne_eq_false_iff_eq.mpr c6
       clear c6
       obtain rfl := Option.some.inj H
       have p1542 : 0 ≤ (x9_1 : Int) := od_
       have q1542 : x9_1 < (l0.length : Int) := od_
       obtain ⟨ad1542, e1542, hx1542_0⟩ := Kd.at_int HR0.out x9_1 p1542 q1542
       cases e1542
       replace p1542 := eq_true p1542
       replace q1542 := eq_true q1542
       go_wp2
       go_ret
       exact ⟨tf_, dr_⟩
      ·
       rw [if_neg c6] at H
       have c6b0 : ((rd l0 x9_1) == a1) = false := beq_eq_false_iff_ne.mpr c6
       have c6b1 : ((rd l0 x9_1) != a1) = true := bne_iff_ne.mpr c6
       have H' := A_ H
       clear H
       have p1542 : 0 ≤ (x9_1 : Int) := od_
       have q1542 : x9_1 < (l0.length : Int) := od_
       obtain ⟨ad1542, e1542, hx1542_0⟩ := Kd.at_int HR0.out x9_1 p1542 q1542
       cases e1542
       replace p1542 := eq_true p1542
       replace q1542 := eq_true q1542
       go_wp2
       go_roundg k1
       case measure => have := HK1.out; omega
       case rel => exact ⟨(wrap64 (x9_1 + 1)), tf_, H', ⟨by have := HK1.out; omega⟩, dr_⟩
     ·
      rw [if_neg c5] at H
      exact absurd H (by simp)
    ·
     rw [if_neg c4] at H
     exact absurd H (by simp)
   ·
    rw [if_neg c3] at H
    have c3b0 := decide_eq_false c3
    clear c3
    obtain rfl := Option.some.inj H
    go_wp2
    go_ret
    exact ⟨tf_, dr_⟩

/-! ### spec_roGood: function 138 -/
def spec_roGood.l0 : Nat → List Int → List Int → Int → Int → Int → Int → List Int → Option (Bool)
 | 0, _, _, _, _, _, _, _ => none
 | k + 1, x1, x12, x13, x14, x1544000, x1544001, x1544002 => if x14 < x13 then (if 0 ≤ x14 then (if x14 < (x12.length : Int) then (if (rd x12 x14) = (-1) then (spec_roGood.l0 k x1 x12 x13 (wrap64 (x14 + 1)) x1544000 x1544001 x1544002) else ((spec_l1In.f (rd x12 x14) 0 (wrap64 (x1544001 - 1))).bind fun t1545 => (if t1545 = true then ((spec_boHas.f x1544000 x1544001 x1544002 x14 (rd x12 x14)).bind fun t1546 => (if t1546 = true then (if x14 ≤ (x1.length : Int) then ((spec_l1Has.f k (x1.take (x14 : Int).toNat) (rd x12 x14)).bind fun t1551 => (if t1551 = true then (some false) else (spec_roGood.l0 k x1 x12 x13 (wrap64 (x14 + 1)) x1544000 x1544001 x1544002))) else (none)) else (some false))) else (some false)))) else (none)) else (none)) else (some true)
def spec_roGood.f (k : Nat) (a0_0 : Int) (a0_1 : Int) (l0_2 : List Int) (l1 : List Int) : Option (Bool) := if (l1.length : Int) = a0_0 then (spec_roGood.l0 k l1 l1 (l1.length : Int) 0 a0_0 a0_1 l0_2) else (some false)
theorem spec_roGood.mono_l : ∀ k, (∀ y0 y1 y2 y3 y4 y5 y6, LeO (spec_roGood.l0 k y0 y1 y2 y3 y4 y5 y6) (spec_roGood.l0 (k + 1) y0 y1 y2 y3 y4 y5 y6))
 | 0 => fun _ _ _ _ _ _ _ r h => by simp [spec_roGood.l0] at h
 | k + 1 => by
  have ih0 := spec_roGood.mono_l k
  ·
   intro y0 y1 y2 y3 y4 y5 y6
   unfold spec_roGood.l0
   repeat' first | (with_reducible first | exact ih0 _ _ _ _ _ _ _ | exact spec_l1Has.mono _ _ _ | exact LeO.refl _ | exact LeO.none _ | refine LeO.ite ?_ ?_ | refine LeO.bind ?_ (fun _ => ?_)) | exact ih0 _ _ _ _ _ _ _ | exact spec_l1Has.mono _ _ _ | exact LeO.none _ | refine LeO.ite ?_ ?_ | refine LeO.bind ?_ (fun _ => ?_)
theorem spec_roGood.mono : ∀ a0 a1 a2 a3 k, LeO (spec_roGood.f k a0 a1 a2 a3) (spec_roGood.f (k + 1) a0 a1 a2 a3) := by
 intro a0 a1 a2 a3 k
 have ih0 := spec_roGood.mono_l k
 unfold spec_roGood.f
 repeat' first | (with_reducible first | exact ih0 _ _ _ _ _ _ _ | exact spec_l1Has.mono _ _ _ | exact LeO.refl _ | exact LeO.none _ | refine LeO.ite ?_ ?_ | refine LeO.bind ?_ (fun _ => ?_)) | exact ih0 _ _ _ _ _ _ _ | exact spec_l1Has.mono _ _ _ | exact LeO.none _ | refine LeO.ite ?_ ?_ | refine LeO.bind ?_ (fun _ => ?_)
theorem spec_roGood.calls (k : Nat) (a0_0 : Int) (a0_1 : Int) (A0_2 : Option Addr) (c0_2 : Nat) (l0_2 : List Int) (A1 : Option Addr) (c1 : Nat) (l1 : List Int) (r : Bool) (w : World) (hr0_2 : Kd.C (Kd.int .i64) w A0_2 l0_2.length l0_2) (hc0_2 : l0_2.length ≤ c0_2) (hr1 : Kd.C (Kd.int .i64) w A1 l1.length l1) (hc1 : l1.length ≤ c1) (h : spec_roGood.f k a0_0 a0_1 l0_2 l1 = some r) :
  Calls Try.prog 138 #[.agg #[.int .i64 a0_0, .int .i64 a0_1, .slice A0_2 l0_2.length c0_2], .slice A1 l1.length c1] w fun e w' => e = .returned (.bool r) ∧ Below w.heap.size w w' := by
 have hu26 := Try.underlying26
 have HR0_2 := A_ hr0_2
 have HC0_2 := A_ hc0_2
 clear hr0_2 hc0_2
 have HR1 := A_ hr1
 have HC1 := A_ hc1
 clear hr1 hc1
 have HB := A_ (Below.refl w.heap.size w)
 have H : (if (l1.length : Int) = a0_0 then (spec_roGood.l0 k l1 l1 (l1.length : Int) 0 a0_0 a0_1 l0_2) else (some false)) = some r := h
 clear h
 by_cases c3 : (l1.length : Int) = a0_0
 ·
  rw [if_pos c3] at H
  have c3b0 : ((l1.length : Int) == a0_0) = true := beq_iff_eq.mpr c3
  have c3b1 : ((l1.length : Int) != a0_0) = false := bne_eq_false_iff_eq.mpr c3
  clear c3
  have H' := A_ H
  clear H
  go_enter Try.func138, Try.ntmps138
  go_wp2_with (first | (refine gd_ 2 ?_; refine bx_ 2 #[.int .i64 a0_0, .int .i64 a0_1, .slice A0_2 l0_2.length c0_2] 26 ?_; intro gb1543 hg w4 hbox hb; have BK1543 := A_ (hbox); have GW1543 := A_ ((ts_ hg : w.heap.size ≤ gb1543)); have GE1543 := A_ ((ts_ hg : w.heap.size ≤ gb1543)); replace HB := A_ (below_step tb_ hb); clear hb hbox hg; obtain ⟨hcz5_0, hcz5_1, hcz5_2, hfz5_0, hfz5_1, hfz5_2⟩ := cf3_ BK1543.out))
  go_loopg [14] k (fun kq v14 w' => ∃ (x14_1 : Int), v14 = .int .i64 x14_1 ∧ Aside0 (spec_roGood.l0 kq l1 l1 (l1.length : Int) x14_1 a0_0 a0_1 l0_2 = some r) ∧ Aside0 (kq ≤ k) ∧ Aside0 (w'.heap[gb1543]? = some (.cells #[.int .i64 a0_0, .int .i64 a0_1, (.slice A0_2 l0_2.length c0_2)] 26 (0, 0))) ∧ Aside0 (Below w.heap.size w w'))
  case atStart => exact ⟨(0), tf_, H', ⟨Nat.le_refl _⟩, ⟨tk_ BK1543⟩, ⟨tb_⟩⟩
  case round =>
   clear H'
   try clear c1
   try clear p2
   try clear c3
   try clear c3b0
   try clear c3b1
   try clear hcz5_0
   try clear hcz5_1
   try clear hcz5_2
   try clear hfz5_0
   try clear hfz5_1
   try clear hfz5_2
   obtain ⟨x14_1, rfl, HA, HK1, BK1543, HB⟩ := hrel
   cases gk with
   | zero => exact absurd HA.out (by simp [spec_roGood.l0])
   | succ k1 =>
    have H := HA.out
    clear HA
    simp only [spec_roGood.l0] at H
    by_cases c6 : x14_1 < (l1.length : Int)
    ·
     rw [if_pos c6] at H
     have c6b0 := decide_eq_true c6
     clear c6
     by_cases c7 : 0 ≤ x14_1
     ·
      rw [if_pos c7] at H
      have c7b0 := decide_eq_true c7
      clear c7
      by_cases c8 : x14_1 < (l1.length : Int)
      ·
       rw [if_pos c8] at H
       have c8b0 := decide_eq_true c8
       clear c8
       by_cases c9 : (rd l1 x14_1) = (-1)
       ·
        rw [if_pos c9] at H
        have c9b0 : ((rd l1 x14_1) == (-1)) = true := beq_iff_eq.mpr c9
        have c9b1 : ((rd l1 x14_1) != (-1)) = false := bne_eq_false_iff_eq.mpr c9
        clear c9
        have H' := A_ H
        clear H
        have p1544 : 0 ≤ (x14_1 : Int) := od_
        have q1544 : x14_1 < (l1.length : Int) := od_
        obtain ⟨ad1544, e1544, hx1544_0⟩ := Kd.at_int HR1.out x14_1 p1544 q1544
        cases e1544
        (try replace hx1544_0 := (HB.out.cell (World.block_lt_of_cell? w _ hx1544_0)).trans hx1544_0)
        replace p1544 := eq_true p1544
        replace q1544 := eq_true q1544
        go_wp2
        go_roundg k1
        case measure => have := HK1.out; omega
        case rel => exact ⟨(wrap64 (x14_1 + 1)), tf_, H', ⟨by have := HK1.out; omega⟩, ⟨tk_ BK1543⟩, ⟨tb_⟩⟩
       ·
        rw [if_neg c9] at H
        have c9b0 : ((rd l1 x14_1) == (-1)) = false := beq_eq_false_iff_ne.mpr c9
        have c9b1 : ((rd l1 x14_1) != (-1)) = true := bne_iff_ne.mpr c9
        replace H := Option.bind_eq_some_iff.mp H
        obtain ⟨t1545, A100, H⟩ := H
        replace H : (if t1545 = true then ((spec_boHas.f a0_0 a0_1 l0_2 x14_1 (rd l1 x14_1)).bind fun t1546 => (if t1546 = true then (if x14_1 ≤ (l1.length : Int) then ((spec_l1Has.f k1 (l1.take (x14_1 : Int).toNat) (rd l1 x14_1)).bind fun t1551 => (if t1551 = true then (some false) else (spec_roGood.l0 k1 l1 l1 (l1.length : Int) (wrap64 (x14_1 + 1)) a0_0 a0_1 l0_2))) else (none)) else (some false))) else (some false)) = some r := H
        have A10 := A_ A100
        clear A100
        by_cases c11 : t1545 = true
        ·
         subst c11
         have H1 : ((spec_boHas.f a0_0 a0_1 l0_2 x14_1 (rd l1 x14_1)).bind fun t1546 => (if t1546 = true then (if x14_1 ≤ (l1.length : Int) then ((spec_l1Has.f k1 (l1.take (x14_1 : Int).toNat) (rd l1 x14_1)).bind fun t1551 => (if t1551 = true then (some false) else (spec_roGood.l0 k1 l1 l1 (l1.length : Int) (wrap64 (x14_1 + 1)) a0_0 a0_1 l0_2))) else (none)) else (some false))) = some r := by rw [if_pos rfl] at H; exact H
         clear H
         have H := H1
         clear H1
         replace H := Option.bind_eq_some_iff.mp H
         obtain ⟨t1546, A120, H⟩ := H
         replace H : (if t1546 = true then (if x14_1 ≤ (l1.length : Int) then ((spec_l1Has.f k1 (l1.take (x14_1 : Int).toNat) (rd l1 x14_1)).bind fun t1551 => (if t1551 = true then (some false) else (spec_roGood.l0 k1 l1 l1 (l1.length : Int) (wrap64 (x14_1 + 1)) a0_0 a0_1 l0_2))) else (none)) else (some false)) = some r := H
         have A12 := A_ A120
         clear A120
         by_cases c13 : t1546 = true
         ·
          subst c13
          have H1 : (if x14_1 ≤ (l1.length : Int) then ((spec_l1Has.f k1 (l1.take (x14_1 : Int).toNat) (rd l1 x14_1)).bind fun t1551 => (if t1551 = true then (some false) else (spec_roGood.l0 k1 l1 l1 (l1.length : Int) (wrap64 (x14_1 + 1)) a0_0 a0_1 l0_2))) else (none)) = some r := by rw [if_pos rfl] at H; exact H
          clear H
          have H := H1
          clear H1
          have c14b0 := eq_true (od_ : 0 ≤ x14_1)
          by_cases c15 : x14_1 ≤ (l1.length : Int)
          ·
           rw [if_pos c15] at H
           have c15b0 := eq_true c15
           have c15b1 := decide_eq_true c15
           clear c15
           obtain ⟨y1547, hy1547⟩ : ∃ y_ : List Int, y_ = (l1.take (x14_1 : Int).toNat) := ⟨_, rfl⟩
           replace H : ((spec_l1Has.f k1 y1547 (rd l1 x14_1)).bind fun t1551 => (if t1551 = true then (some false) else (spec_roGood.l0 k1 l1 l1 (l1.length : Int) (wrap64 (x14_1 + 1)) a0_0 a0_1 l0_2))) = some r := ty_ hy1547 H
           have Ny1547 := A_ hy1547
           clear hy1547
           replace H := Option.bind_eq_some_iff.mp H
           obtain ⟨t1551, A160, H⟩ := H
           replace H : (if t1551 = true then (some false) else (spec_roGood.l0 k1 l1 l1 (l1.length : Int) (wrap64 (x14_1 + 1)) a0_0 a0_1 l0_2)) = some r := H
           have A16 := A_ A160
           clear A160
           by_cases c17 : t1551 = true
           ·
            subst c17
            have H1 : (some false) = some r := by rw [if_pos rfl] at H; exact H
            clear H
            have H := H1
            clear H1
            obtain rfl := Option.some.inj H
            have p1544 : 0 ≤ (x14_1 : Int) := od_
            have q1544 : x14_1 < (l1.length : Int) := od_
            obtain ⟨ad1544, e1544, hx1544_0⟩ := Kd.at_int HR1.out x14_1 p1544 q1544
            cases e1544
            (try replace hx1544_0 := (HB.out.cell (World.block_lt_of_cell? w _ hx1544_0)).trans hx1544_0)
            replace p1544 := eq_true p1544
            replace q1544 := eq_true q1544
            obtain ⟨hcz18_0, hcz18_1, hcz18_2, hfz18_0, hfz18_1, hfz18_2⟩ := cf3_ BK1543.out
            go_wp2_with (first | (refine gc_ 105 ?_; refine goesT_ (some 25) Try.func105 #[.int .i64 (rd l1 x14_1), .int .i64 0, .int .i64 (wrap64 (a0_1 - 1))] ?_; (with_reducible refine (spec_l1In.calls (rd l1 x14_1) 0 (wrap64 (a0_1 - 1)) true _ A10.out).mono ?_); rintro e w' ⟨rfl, ⟨nd, rfl⟩⟩; refine ⟨_, rfl, ?_⟩) | (go_at_call 121; (with_reducible refine (spec_boHas.calls a0_0 a0_1 _ _ l0_2 x14_1 (rd l1 x14_1) true _ ?side1 ?side2 A12.out).mono ?_); (case side1 => repeat (first | exact (Kd.C_below HR0_2.out tb_) | (with_reducible refine Kd.C_alloc ?_ _) | (with_reducible refine Kd.C_drewN ?_ _) | (with_reducible refine Kd.C_drew ?_))); (case side2 => exact HC0_2.out); rintro e w19 ⟨rfl, hb⟩; replace BK1543 := A_ (blk_below (g := gb1543) (o := .cells #[.int .i64 a0_0, .int .i64 a0_1, .slice A0_2 l0_2.length c0_2] 26 (0, 0)) (tk_ BK1543) hb); replace HB := A_ (below_step tb_ hb); (try clear hb); have q20 : (x14_1 : Int) ≤ ((l1.length : Int) : Int) := od_; obtain ⟨i020, hi020, _, hsz20, _⟩ := info_parts info3; have hroom20 : l1.length ≤ c1 := HC1.out; have hC20 : Kd.C (Kd.int .i64) _ (some ad1544) l1.length l1 := HR1.out; have hcut20 := cut_to (P := Try.prog) 24 3 .i64 Try.underlying24 hi020 (some ad1544) l1.length c1 x14_1 (od_) q20 hroom20; have hr20 := Kd.C_take (m := (x14_1 : Int).toNat) hC20 (by omega); have hy20 : y1547.length = (x14_1 : Int).toNat := (by rw [Ny1547.out, List.length_take]; omega); rw [← Ny1547.out] at hr20; rw [← hy20] at hcut20; have HR1550 := A_ hr20; have HC1550 := A_ (show y1547.length ≤ c1 from by omega); clear hr20 hC20 hroom20 hi020 hsz20; have KY20 := A_ hy20; clear hy20; replace q20 := eq_true q20) | (go_at_call 176; (with_reducible refine (spec_l1Has.calls k1 _ _ y1547 (rd l1 x14_1) true _ ?side1 ?side2 A16.out).mono ?_); (case side1 => exact tc_ HR1550.out); (case side2 => exact HC1550.out); rintro e w' ⟨rfl, ⟨nd, rfl⟩⟩))
            go_ret
            exact ⟨te_, tb_⟩
           ·
            replace c17 := Bool.eq_false_iff.mpr c17
            subst c17
            have H1 : (spec_roGood.l0 k1 l1 l1 (l1.length : Int) (wrap64 (x14_1 + 1)) a0_0 a0_1 l0_2) = some r := by rw [if_neg (show ¬ (false = true) by decide)] at H; exact H
            clear H
            have H := H1
            clear H1
            have H' := A_ H
            clear H
            have p1544 : 0 ≤ (x14_1 : Int) := od_
            have q1544 : x14_1 < (l1.length : Int) := od_
            obtain ⟨ad1544, e1544, hx1544_0⟩ := Kd.at_int HR1.out x14_1 p1544 q1544
            cases e1544
            (try replace hx1544_0 := (HB.out.cell (World.block_lt_of_cell? w _ hx1544_0)).trans hx1544_0)
            replace p1544 := eq_true p1544
            replace q1544 := eq_true q1544
            obtain ⟨hcz21_0, hcz21_1, hcz21_2, hfz21_0, hfz21_1, hfz21_2⟩ := cf3_ BK1543.out
            go_wp2_with (first | (refine gc_ 105 ?_; refine goesT_ (some 25) Try.func105 #[.int .i64 (rd l1 x14_1), .int .i64 0, .int .i64 (wrap64 (a0_1 - 1))] ?_; (with_reducible refine (spec_l1In.calls (rd l1 x14_1) 0 (wrap64 (a0_1 - 1)) true _ A10.out).mono ?_); rintro e w' ⟨rfl, ⟨nd, rfl⟩⟩; refine ⟨_, rfl, ?_⟩) | (go_at_call 121; (with_reducible refine (spec_boHas.calls a0_0 a0_1 _ _ l0_2 x14_1 (rd l1 x14_1) true _ ?side1 ?side2 A12.out).mono ?_); (case side1 => repeat (first | exact (Kd.C_below HR0_2.out tb_) | (with_reducible refine Kd.C_alloc ?_ _) | (with_reducible refine Kd.C_drewN ?_ _) | (with_reducible refine Kd.C_drew ?_))); (case side2 => exact HC0_2.out); rintro e w22 ⟨rfl, hb⟩; replace BK1543 := A_ (blk_below (g := gb1543) (o := .cells #[.int .i64 a0_0, .int .i64 a0_1, .slice A0_2 l0_2.length c0_2] 26 (0, 0)) (tk_ BK1543) hb); replace HB := A_ (below_step tb_ hb); (try clear hb); have q23 : (x14_1 : Int) ≤ ((l1.length : Int) : Int) := od_; obtain ⟨i023, hi023, _, hsz23, _⟩ := info_parts info3; have hroom23 : l1.length ≤ c1 := HC1.out; have hC23 : Kd.C (Kd.int .i64) _ (some ad1544) l1.length l1 := HR1.out; have hcut23 := cut_to (P := Try.prog) 24 3 .i64 Try.underlying24 hi023 (some ad1544) l1.length c1 x14_1 (od_) q23 hroom23; have hr23 := Kd.C_take (m := (x14_1 : Int).toNat) hC23 (by omega); have hy23 : y1547.length = (x14_1 : Int).toNat := (by rw [Ny1547.out, List.length_take]; omega); rw [← Ny1547.out] at hr23; rw [← hy23] at hcut23; have HR1550 := A_ hr23; have HC1550 := A_ (show y1547.length ≤ c1 from by omega); clear hr23 hC23 hroom23 hi023 hsz23; have KY23 := A_ hy23; clear hy23; replace q23 := eq_true q23) | (go_at_call 176; (with_reducible refine (spec_l1Has.calls k1 _ _ y1547 (rd l1 x14_1) false _ ?side1 ?side2 A16.out).mono ?_); (case side1 => exact tc_ HR1550.out); (case side2 => exact HC1550.out); rintro e w' ⟨rfl, ⟨nd, rfl⟩⟩))
            go_roundg k1
            case measure => have := HK1.out; omega
            case rel => exact ⟨(wrap64 (x14_1 + 1)), tf_, H', ⟨by have := HK1.out; omega⟩, ⟨tk_ BK1543⟩, ⟨tb_⟩⟩
          ·
           rw [if_neg c15] at H
           exact absurd H (by simp)
         ·
          replace c13 := Bool.eq_false_iff.mpr c13
          subst c13
          have H1 : (some false) = some r := by rw [if_neg (show ¬ (false = true) by decide)] at H; exact H
          clear H
          have H := H1
          clear H1
          obtain rfl := Option.some.inj H
          have p1544 : 0 ≤ (x14_1 : Int) := od_
          have q1544 : x14_1 < (l1.length : Int) := od_
          obtain ⟨ad1544, e1544, hx1544_0⟩ := Kd.at_int HR1.out x14_1 p1544 q1544
          cases e1544
          (try replace hx1544_0 := (HB.out.cell (World.block_lt_of_cell? w _ hx1544_0)).trans hx1544_0)
          replace p1544 := eq_true p1544
          replace q1544 := eq_true q1544
          obtain ⟨hcz24_0, hcz24_1, hcz24_2, hfz24_0, hfz24_1, hfz24_2⟩ := cf3_ BK1543.out
          go_wp2_with (first | (refine gc_ 105 ?_; refine goesT_ (some 25) Try.func105 #[.int .i64 (rd l1 x14_1), .int .i64 0, .int .i64 (wrap64 (a0_1 - 1))] ?_; (with_reducible refine (spec_l1In.calls (rd l1 x14_1) 0 (wrap64 (a0_1 - 1)) true _ A10.out).mono ?_); rintro e w' ⟨rfl, ⟨nd, rfl⟩⟩; refine ⟨_, rfl, ?_⟩) | (go_at_call 121; (with_reducible refine (spec_boHas.calls a0_0 a0_1 _ _ l0_2 x14_1 (rd l1 x14_1) false _ ?side1 ?side2 A12.out).mono ?_); (case side1 => repeat (first | exact (Kd.C_below HR0_2.out tb_) | (with_reducible refine Kd.C_alloc ?_ _) | (with_reducible refine Kd.C_drewN ?_ _) | (with_reducible refine Kd.C_drew ?_))); (case side2 => exact HC0_2.out); rintro e w25 ⟨rfl, hb⟩; replace BK1543 := A_ (blk_below (g := gb1543) (o := .cells #[.int .i64 a0_0, .int .i64 a0_1, .slice A0_2 l0_2.length c0_2] 26 (0, 0)) (tk_ BK1543) hb); replace HB := A_ (below_step tb_ hb); (try clear hb)))
          go_ret
          exact ⟨te_, tb_⟩
        ·
         replace c11 := Bool.eq_false_iff.mpr c11
         subst c11
         have H1 : (some false) = some r := by rw [if_neg (show ¬ (false = true) by decide)] at H; exact H
         clear H
         have H := H1
         clear H1
         obtain rfl := Option.some.inj H
         have p1544 : 0 ≤ (x14_1 : Int) := od_
         have q1544 : x14_1 < (l1.length : Int) := od_
         obtain ⟨ad1544, e1544, hx1544_0⟩ := Kd.at_int HR1.out x14_1 p1544 q1544
         cases e1544
         (try replace hx1544_0 := (HB.out.cell (World.block_lt_of_cell? w _ hx1544_0)).trans hx1544_0)
         replace p1544 := eq_true p1544
         replace q1544 := eq_true q1544
         obtain ⟨hcz26_0, hcz26_1, hcz26_2, hfz26_0, hfz26_1, hfz26_2⟩ := cf3_ BK1543.out
         go_wp2_with (first | (refine gc_ 105 ?_; refine goesT_ (some 25) Try.func105 #[.int .i64 (rd l1 x14_1), .int .i64 0, .int .i64 (wrap64 (a0_1 - 1))] ?_; (with_reducible refine (spec_l1In.calls (rd l1 x14_1) 0 (wrap64 (a0_1 - 1)) false _ A10.out).mono ?_); rintro e w' ⟨rfl, ⟨nd, rfl⟩⟩; refine ⟨_, rfl, ?_⟩))
         go_ret
         exact ⟨te_, tb_⟩
      ·
       rw [if_neg c8] at H
       exact absurd H (by simp)
     ·
      rw [if_neg c7] at H
      exact absurd H (by simp)
    ·
     rw [if_neg c6] at H
     have c6b0 := decide_eq_false c6
     clear c6
     obtain rfl := Option.some.inj H
     go_wp2
     go_ret
     exact ⟨te_, tb_⟩
 ·
  rw [if_neg c3] at H
  have c3b0 : ((l1.length : Int) == a0_0) = false := beq_eq_false_iff_ne.mpr c3
  have c3b1 : ((l1.length : Int) != a0_0) = true := bne_iff_ne.mpr c3
  obtain rfl := Option.some.inj H
  go_enter Try.func138, Try.ntmps138
  go_wp2_with (first | (refine gd_ 2 ?_; refine bx_ 2 #[.int .i64 a0_0, .int .i64 a0_1, .slice A0_2 l0_2.length c0_2] 26 ?_; intro gb1543 hg w27 hbox hb; have BK1543 := A_ (hbox); have GW1543 := A_ ((ts_ hg : w.heap.size ≤ gb1543)); have GE1543 := A_ ((ts_ hg : w.heap.size ≤ gb1543)); replace HB := A_ (below_step tb_ hb); clear hb hbox hg; obtain ⟨hcz28_0, hcz28_1, hcz28_2, hfz28_0, hfz28_1, hfz28_2⟩ := cf3_ BK1543.out))
  go_ret
  exact ⟨te_, tb_⟩

end
end Go.Proofs.Ytdoflpghemgbdaa.P
