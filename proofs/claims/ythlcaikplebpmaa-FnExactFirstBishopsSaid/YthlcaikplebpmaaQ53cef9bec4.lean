-- printed functions (wip/slim.py)
import Derived.Test.YthlcaikplebpmaaPx0
import Derived.Test.YthlcaikplebpmaaQ5d21c5e0d1
import Derived.Test.YthlcaikplebpmaaQb269d509c4
namespace Go.Proofs.Ythlcaikplebpmaa.P
noncomputable section
set_option maxHeartbeats 8000000
set_option maxRecDepth 100000
open Go.RowKit Go.Proofs.YthlcaikplebpmaaW.PrintWords Go.Proofs.YthlcaikplebpmaaW.PrintLast Go.Proofs.YthlcaikplebpmaaW.PrintMore
attribute [local go_sem] max2_int min2_int max_two min_two max_three min_three max_four min_four   -- for this text's walks alone
set_option linter.unusedVariables false
set_option linter.unusedSimpArgs false

/-! ### spec_biBoard: function 92 -/
def spec_biBoard.l0 : Nat → Int → List Int → List Int → List (List Int) → Int → Int → Int → Int → List Int → Int → Int → List Int → Option (Int × Int × List Int)
 | 0, _, _, _, _, _, _, _, _, _, _, _, _ => none
 | k + 1, x1, x5, x6, x24, x25, x26, x179000, x179001, x179002, x192000, x192001, x192002 => if x26 < x25 then (if 0 ≤ x26 then (if x26 < (x24.length : Int) then (if 0 < ((rd_L1 x24 x26).length : Int) then (if 1 < ((rd_L1 x24 x26).length : Int) then (if (Int.tmod (wrap64 ((rd (rd_L1 x24 x26) 0) + (rd (rd_L1 x24 x26) 1))) 2) = x1 then ((spec_biDiagonals.f x179000 x179001 x179002 (rd (rd_L1 x24 x26) 0) (rd (rd_L1 x24 x26) 1)).bind fun bt200 => ((spec_biPlace.f k x5 bt200.1).bind fun t202 => (if 0 ≤ t202 then (if t202 < (x192002.length : Int) then ((spec_biPlace.f k x6 bt200.2).bind fun t204 => (if 0 ≤ t204 then (spec_biBoard.l0 k x1 x5 x6 x24 x25 (wrap64 (x26 + 1)) x179000 x179001 x179002 x192000 x192001 (x192002.set (t202 : Int).toNat (wrap64 ((rd x192002 t202) + (shl .i64 1 t204))))) else (none))) else (none)) else (none)))) else (spec_biBoard.l0 k x1 x5 x6 x24 x25 (wrap64 (x26 + 1)) x179000 x179001 x179002 x192000 x192001 x192002)) else (none)) else (none)) else (none)) else (none)) else (some (x192000, x192001, x192002))
def spec_biBoard.f (k : Nat) (a0_0 : Int) (a0_1 : Int) (l0_2 : List Int) (a1 : Int) : Option (Int × Int × List Int) := (spec_biLines.f k a0_0 a0_1 l0_2 a1).bind fun bt180 => ((spec_boEmpty.f (bt180.1.length : Int) (bt180.2.length : Int)).bind fun bt186 => ((spec_boCells.f k a0_0 a0_1 l0_2).bind fun t192 => (spec_biBoard.l0 k a1 bt180.1 bt180.2 t192 (t192.length : Int) 0 a0_0 a0_1 l0_2 bt186.1 bt186.2.1 bt186.2.2)))
theorem spec_biBoard.mono_l : ∀ k, (∀ y0 y1 y2 y3 y4 y5 y6 y7 y8 y9 y10 y11, LeO (spec_biBoard.l0 k y0 y1 y2 y3 y4 y5 y6 y7 y8 y9 y10 y11) (spec_biBoard.l0 (k + 1) y0 y1 y2 y3 y4 y5 y6 y7 y8 y9 y10 y11))
 | 0 => fun _ _ _ _ _ _ _ _ _ _ _ _ r h => by simp [spec_biBoard.l0] at h
 | k + 1 => by
  have ih0 := spec_biBoard.mono_l k
  ·
   intro y0 y1 y2 y3 y4 y5 y6 y7 y8 y9 y10 y11
   unfold spec_biBoard.l0
   repeat' first | (with_reducible first | exact ih0 _ _ _ _ _ _ _ _ _ _ _ _ | exact spec_biLines.mono _ _ _ _ _ | exact spec_biPlace.mono _ _ _ | exact spec_boCells.mono _ _ _ _ | exact LeO.refl _ | exact LeO.none _ | refine LeO.ite ?_ ?_ | refine LeO.bind ?_ (fun _ => ?_)) | exact ih0 _ _ _ _ _ _ _ _ _ _ _ _ | exact spec_biLines.mono _ _ _ _ _ | exact spec_biPlace.mono _ _ _ | exact spec_boCells.mono _ _ _ _ | exact LeO.none _ | refine LeO.ite ?_ ?_ | refine LeO.bind ?_ (fun _ => ?_)
theorem spec_biBoard.mono : ∀ a0 a1 a2 a3 k, LeO (spec_biBoard.f k a0 a1 a2 a3) (spec_biBoard.f (k + 1) a0 a1 a2 a3) := by
 intro a0 a1 a2 a3 k
 have ih0 := spec_biBoard.mono_l k
 unfold spec_biBoard.f
 repeat' first | (with_reducible first | exact ih0 _ _ _ _ _ _ _ _ _ _ _ _ | exact spec_biLines.mono _ _ _ _ _ | exact spec_biPlace.mono _ _ _ | exact spec_boCells.mono _ _ _ _ | exact LeO.refl _ | exact LeO.none _ | refine LeO.ite ?_ ?_ | refine LeO.bind ?_ (fun _ => ?_)) | exact ih0 _ _ _ _ _ _ _ _ _ _ _ _ | exact spec_biLines.mono _ _ _ _ _ | exact spec_biPlace.mono _ _ _ | exact spec_boCells.mono _ _ _ _ | exact LeO.none _ | refine LeO.ite ?_ ?_ | refine LeO.bind ?_ (fun _ => ?_)
def spec_biBoard.T6 : Bool × List (List Nat × List Nat) := (true, [([], []), ([0], [0]), ([1], [1]), ([], []), ([3], [3]), ([4], [4]), ([2, 5], [2, 5]), ([6], [6]), ([], []), ([7, 8], [7, 8])])
def spec_biBoard.B6 : List Nat := [0, 1, 3, 0, 8, 24, 63, 127, 0, 511]
theorem spec_biBoard.tab6 : rtab .any (opsOf Try.f92 6) = spec_biBoard.T6 := by kernel_rfl
theorem spec_biBoard.bits6 : waitsOk spec_biBoard.T6.2 spec_biBoard.B6 = true := by kernel_rfl
def spec_biBoard.T7 : Bool × List (List Nat × List Nat) := (true, [([], []), ([], []), ([1], [1]), ([2], [2]), ([], []), ([4], [4]), ([5], [5]), ([0, 3, 6], [0, 3, 6]), ([7], [7]), ([8], [8]), ([8], [8]), ([9, 7, 0, 1, 2, 3, 4, 5, 6, 7, 8, 9], [9]), ([10, 11, 0, 1, 2, 3, 4, 5, 6, 7, 8, 9, 10, 11], [10])])
def spec_biBoard.B7 : List Nat := [0, 0, 2, 6, 0, 16, 48, 127, 255, 511, 511, 1023, 4095]
theorem spec_biBoard.tab7 : rtab .any (opsOf Try.f92 7) = spec_biBoard.T7 := by kernel_rfl
theorem spec_biBoard.bits7 : waitsOk spec_biBoard.T7.2 spec_biBoard.B7 = true := by kernel_rfl
def spec_biBoard.T8 : Bool × List (List Nat × List Nat) := (true, [([], []), ([0], [0]), ([], []), ([], []), ([2, 3], [2, 3]), ([1, 4], [1, 4]), ([5], [5]), ([], []), ([], []), ([7, 8, 4], [7, 8]), ([9], [9]), ([6, 10], [6, 10]), ([1, 4, 0, 1, 2, 3, 4, 5, 6, 7, 8, 9, 10, 11], [1, 4]), ([12, 11, 9, 0, 1, 2, 3, 4, 5, 6, 7, 8, 9, 10, 11], [11, 12])])
def spec_biBoard.B8 : List Nat := [0, 1, 0, 0, 12, 31, 63, 0, 0, 412, 924, 2047, 4095, 8191]
theorem spec_biBoard.tab8 : rtab .any (opsOf Try.f92 8) = spec_biBoard.T8 := by kernel_rfl
theorem spec_biBoard.bits8 : waitsOk spec_biBoard.T8.2 spec_biBoard.B8 = true := by kernel_rfl
theorem spec_biBoard.calls (k : Nat) (a0_0 : Int) (a0_1 : Int) (A0_2 : Option Addr) (c0_2 : Nat) (l0_2 : List Int) (a1 : Int) (r1 : Int) (r2 : Int) (r3 : List Int) (w : World) (hr0_2 : Kd.C (Kd.int .i64) w A0_2 l0_2.length l0_2) (hc0_2 : l0_2.length ≤ c0_2) (h : spec_biBoard.f k a0_0 a0_1 l0_2 a1 = some (r1, r2, r3)) :
  Calls Try.prog 92 #[.agg #[.int .i64 a0_0, .int .i64 a0_1, .slice A0_2 l0_2.length c0_2], .int .i64 a1] w fun e w' => ∃ v2_ : Value, e = .returned (.agg #[.int .i64 r1, .int .i64 r2, v2_]) ∧ Kd.R (Kd.int .i64) 3 w' w.heap.size (fun _ => True) v2_ r3 ∧ Below w.heap.size w w' := by
 have hu26 := Try.underlying26
 have HR0_2 := A_ hr0_2
 have HC0_2 := A_ hc0_2
 clear hr0_2 hc0_2
 have HB := A_ (Below.refl w.heap.size w)
 have H : ((spec_biLines.f k a0_0 a0_1 l0_2 a1).bind fun bt180 => ((spec_boEmpty.f (bt180.1.length : Int) (bt180.2.length : Int)).bind fun bt186 => ((spec_boCells.f k a0_0 a0_1 l0_2).bind fun t192 => (spec_biBoard.l0 k a1 bt180.1 bt180.2 t192 (t192.length : Int) 0 a0_0 a0_1 l0_2 bt186.1 bt186.2.1 bt186.2.2)))) = some (r1, r2, r3) := h
 clear h
 replace H := Option.bind_eq_some_iff.mp H
 obtain ⟨⟨t180, t183⟩, A30, H⟩ := H
 replace H : ((spec_boEmpty.f (t180.length : Int) (t183.length : Int)).bind fun bt186 => ((spec_boCells.f k a0_0 a0_1 l0_2).bind fun t192 => (spec_biBoard.l0 k a1 t180 t183 t192 (t192.length : Int) 0 a0_0 a0_1 l0_2 bt186.1 bt186.2.1 bt186.2.2))) = some (r1, r2, r3) := H
 have A3 := A_ A30
 clear A30
 replace H := Option.bind_eq_some_iff.mp H
 obtain ⟨⟨t186, t187, t188⟩, A40, H⟩ := H
 replace H : ((spec_boCells.f k a0_0 a0_1 l0_2).bind fun t192 => (spec_biBoard.l0 k a1 t180 t183 t192 (t192.length : Int) 0 a0_0 a0_1 l0_2 t186 t187 t188)) = some (r1, r2, r3) := H
 have A4 := A_ A40
 clear A40
 replace H := Option.bind_eq_some_iff.mp H
 obtain ⟨t192, A50, H⟩ := H
 replace H : (spec_biBoard.l0 k a1 t180 t183 t192 (t192.length : Int) 0 a0_0 a0_1 l0_2 t186 t187 t188) = some (r1, r2, r3) := H
 have A5 := A_ A50
 clear A50
 have H' := A_ H
 clear H
 go_enter Try.func92, Try.ntmps92
 go_wp2_with (first | (refine gd_ 2 ?_; refine bx_ 2 #[.int .i64 a0_0, .int .i64 a0_1, .slice A0_2 l0_2.length c0_2] 26 ?_; intro gb178 hg w6 hbox hb; have BK178 := A_ (hbox); have GW178 := A_ ((ts_ hg : w.heap.size ≤ gb178)); have GE178 := A_ ((ts_ hg : w.heap.size ≤ gb178)); replace HB := A_ (below_step tb_ hb); clear hb hbox hg) | (refine gd_ 4 ?_; refine bx_ 4 #[.int .i64 0, .int .i64 0, .slice none 0 0] 26 ?_; intro gb179 hg w7 hbox hb; have BK179 := A_ (hbox); have GW179 := A_ ((ts_ hg : w.heap.size ≤ gb179)); have GE179 := A_ ((ts_ hg : w.heap.size ≤ gb179)); replace HB := A_ (below_step tb_ hb); have NB178_179 := A_ ((by rw [hg]; exact Nat.ne_of_lt (blk_lt (g := gb178) (o := .cells #[.int .i64 a0_0, .int .i64 a0_1, .slice A0_2 l0_2.length c0_2] 26 (0, 0)) (tk_ BK178)) : gb178 ≠ gb179)); have NB179_178 := A_ ((by rw [hg]; exact Nat.ne_of_gt (blk_lt (g := gb178) (o := .cells #[.int .i64 a0_0, .int .i64 a0_1, .slice A0_2 l0_2.length c0_2] 26 (0, 0)) (tk_ BK178)) : gb179 ≠ gb178)); replace BK178 := A_ (blk_below (g := gb178) (o := .cells #[.int .i64 a0_0, .int .i64 a0_1, .slice A0_2 l0_2.length c0_2] 26 (0, 0)) (tk_ BK178) hb); clear hb hbox hg; have hnb8 := NB178_179.out; have hnc8 := NB179_178.out; obtain ⟨hcz9_0, hcz9_1, hcz9_2, hfz9_0, hfz9_1, hfz9_2⟩ := cf3_ BK178.out) | (refine gc_ 169 ?_; refine goesT_ (some 15) Try.func169 #[.agg #[.int .i64 a0_0, .int .i64 a0_1, .slice A0_2 l0_2.length c0_2], .int .i64 a1] ?_; (with_reducible refine (spec_biLines.calls k a0_0 a0_1 _ _ l0_2 a1 t180 t183 _ ?side1 ?side2 A3.out).mono ?_); (case side1 => exact tc_ HR0_2.out); (case side2 => exact HC0_2.out); rintro e w10 ⟨v181, v184, rfl, ho0, ho1, hb⟩; refine ⟨_, rfl, ?_⟩; have HO182 := A_ (Kd.R_lower ho0 (below_size tb_)); have HO185 := A_ (Kd.R_lower ho1 (below_size tb_)); replace BK178 := A_ (blk_below (g := gb178) (o := .cells #[.int .i64 a0_0, .int .i64 a0_1, .slice A0_2 l0_2.length c0_2] 26 (0, 0)) (tk_ BK178) hb); replace BK179 := A_ (blk_below (g := gb179) (o := .cells #[.int .i64 0, .int .i64 0, .slice none 0 0] 26 (0, 0)) (tk_ BK179) hb); replace HB := A_ (below_step tb_ hb); (try clear hb); (try clear ho0); (try clear ho1); obtain ⟨Ao11, co11, eo11⟩ := Kd.R_slice HO182.out; subst eo11; obtain ⟨Ao12, co12, eo12⟩ := Kd.R_slice HO185.out; subst eo12) | (refine gc_ 170 ?_; refine goesT_ (some 22) Try.func170 #[.int .i64 (t180.length : Int), .int .i64 (t183.length : Int)] ?_; (with_reducible refine (spec_boEmpty.calls (t180.length : Int) (t183.length : Int) t186 t187 t188 _ A4.out).mono ?_); rintro e w13 ⟨v189, rfl, ho0, hb⟩; refine ⟨_, rfl, ?_⟩; have HO190 := A_ (Kd.R_lower (Kd.R_new' (Kd.R_new' ho0 (Kd.R_lt (tr_x HO182.out))) (Kd.R_lt (tr_x HO185.out))) (below_size tb_)); replace HO182 := A_ (Kd.R_elder' (tr_x HO182.out) (Kd.R_base ho0) hb); replace HO185 := A_ (Kd.R_elder' (tr_x HO185.out) (Kd.R_base ho0) hb); replace BK178 := A_ (blk_below (g := gb178) (o := .cells #[.int .i64 a0_0, .int .i64 a0_1, .slice A0_2 l0_2.length c0_2] 26 (0, 0)) (tk_ BK178) hb); replace BK179 := A_ (blk_below (g := gb179) (o := .cells #[.int .i64 0, .int .i64 0, .slice none 0 0] 26 (0, 0)) (tk_ BK179) hb); replace HB := A_ (below_step tb_ hb); (try clear hb); (try clear ho0)) | (refine gd_ 7 ?_; refine bx_ 7 #[.int .i64 0, .int .i64 0, .slice none 0 0] 26 ?_; intro gb191 hg w14 hbox hb; replace HO182 := A_ (Kd.R_below (tr_x HO182.out) hb); replace HO185 := A_ (Kd.R_below (tr_x HO185.out) hb); replace HO190 := A_ (Kd.R_below (tr_x HO190.out) hb); have BK191 := A_ (hbox); have GW191 := A_ ((ts_ hg : w.heap.size ≤ gb191)); have GE191 := A_ ((ts_ hg : w.heap.size ≤ gb191)); replace HB := A_ (below_step tb_ hb); have NB178_191 := A_ ((by rw [hg]; exact Nat.ne_of_lt (blk_lt (g := gb178) (o := .cells #[.int .i64 a0_0, .int .i64 a0_1, .slice A0_2 l0_2.length c0_2] 26 (0, 0)) (tk_ BK178)) : gb178 ≠ gb191)); have NB191_178 := A_ ((by rw [hg]; exact Nat.ne_of_gt (blk_lt (g := gb178) (o := .cells #[.int .i64 a0_0, .int .i64 a0_1, .slice A0_2 l0_2.length c0_2] 26 (0, 0)) (tk_ BK178)) : gb191 ≠ gb178)); replace BK178 := A_ (blk_below (g := gb178) (o := .cells #[.int .i64 a0_0, .int .i64 a0_1, .slice A0_2 l0_2.length c0_2] 26 (0, 0)) (tk_ BK178) hb); have NB179_191 := A_ ((by rw [hg]; exact Nat.ne_of_lt (blk_lt (g := gb179) (o := .cells #[.int .i64 0, .int .i64 0, .slice none 0 0] 26 (0, 0)) (tk_ BK179)) : gb179 ≠ gb191)); have NB191_179 := A_ ((by rw [hg]; exact Nat.ne_of_gt (blk_lt (g := gb179) (o := .cells #[.int .i64 0, .int .i64 0, .slice none 0 0] 26 (0, 0)) (tk_ BK179)) : gb191 ≠ gb179)); replace BK179 := A_ (blk_below (g := gb179) (o := .cells #[.int .i64 0, .int .i64 0, .slice none 0 0] 26 (0, 0)) (tk_ BK179) hb); clear hb hbox hg; have hnb15 := NB191_178.out; have hnc15 := NB178_191.out; have hnb16 := NB191_179.out; have hnc16 := NB179_191.out; obtain ⟨hcz17_0, hcz17_1, hcz17_2, hfz17_0, hfz17_1, hfz17_2⟩ := cf3_ BK191.out; obtain ⟨Ao18, co18, eo18⟩ := Kd.R_slice HO190.out; subst eo18; obtain ⟨hcz19_0, hcz19_1, hcz19_2, hfz19_0, hfz19_1, hfz19_2⟩ := cf3_ BK178.out) | (refine gc_ 106 ?_; refine goesT_ (some 24) Try.func106 #[.agg #[.int .i64 a0_0, .int .i64 a0_1, .slice A0_2 l0_2.length c0_2]] ?_; (with_reducible refine (spec_boCells.calls k a0_0 a0_1 _ _ l0_2 t192 _ ?side1 ?side2 A5.out).mono ?_); (case side1 => exact Kd.C_below HR0_2.out tb_); (case side2 => exact HC0_2.out); rintro e w20 ⟨v193, rfl, ho0, hb⟩; refine ⟨_, rfl, ?_⟩; have HO194 := A_ (Kd.S_lower (Kd.S_new' (Kd.S_new' (Kd.S_new' ho0 (Kd.R_lt (tr_ (h := by exact (Kd.R_mono (Kd.R_far (p := ⟨gb191, 2, none⟩) (Kd.R_far (p := ⟨gb191, 1, none⟩) (Kd.R_far (p := ⟨gb191, 0, none⟩) (Kd.R_types HO182.out BK191.out (by decide)) (fun _ hk => hk.2) (.int .i64 t186)) (fun _ hk => hk.2) (.int .i64 t187)) (fun _ hk => hk.2) (.slice Ao18 t188.length co18)) (fun _ h_ => h_.1)))))) (Kd.R_lt (tr_ (h := by exact (Kd.R_mono (Kd.R_far (p := ⟨gb191, 2, none⟩) (Kd.R_far (p := ⟨gb191, 1, none⟩) (Kd.R_far (p := ⟨gb191, 0, none⟩) (Kd.R_types HO185.out BK191.out (by decide)) (fun _ hk => hk.2) (.int .i64 t186)) (fun _ hk => hk.2) (.int .i64 t187)) (fun _ hk => hk.2) (.slice Ao18 t188.length co18)) (fun _ h_ => h_.1)))))) (Kd.R_lt (tr_ (h := by exact (Kd.R_mono (Kd.R_far (p := ⟨gb191, 2, none⟩) (Kd.R_far (p := ⟨gb191, 1, none⟩) (Kd.R_far (p := ⟨gb191, 0, none⟩) (Kd.R_types HO190.out BK191.out (by decide)) (fun _ hk => hk.2) (.int .i64 t186)) (fun _ hk => hk.2) (.int .i64 t187)) (fun _ hk => hk.2) (.slice Ao18 t188.length co18)) (fun _ h_ => h_.1)))))) (below_size tb_)); replace HO182 := A_ (Kd.R_below (tr_ (h := by exact (Kd.R_mono (Kd.R_far (p := ⟨gb191, 2, none⟩) (Kd.R_far (p := ⟨gb191, 1, none⟩) (Kd.R_far (p := ⟨gb191, 0, none⟩) (Kd.R_types HO182.out BK191.out (by decide)) (fun _ hk => hk.2) (.int .i64 t186)) (fun _ hk => hk.2) (.int .i64 t187)) (fun _ hk => hk.2) (.slice Ao18 t188.length co18)) (fun _ h_ => h_.1)))) hb); replace HO185 := A_ (Kd.R_below (tr_ (h := by exact (Kd.R_mono (Kd.R_far (p := ⟨gb191, 2, none⟩) (Kd.R_far (p := ⟨gb191, 1, none⟩) (Kd.R_far (p := ⟨gb191, 0, none⟩) (Kd.R_types HO185.out BK191.out (by decide)) (fun _ hk => hk.2) (.int .i64 t186)) (fun _ hk => hk.2) (.int .i64 t187)) (fun _ hk => hk.2) (.slice Ao18 t188.length co18)) (fun _ h_ => h_.1)))) hb); replace HO190 := A_ (Kd.R_below (tr_ (h := by exact (Kd.R_mono (Kd.R_far (p := ⟨gb191, 2, none⟩) (Kd.R_far (p := ⟨gb191, 1, none⟩) (Kd.R_far (p := ⟨gb191, 0, none⟩) (Kd.R_types HO190.out BK191.out (by decide)) (fun _ hk => hk.2) (.int .i64 t186)) (fun _ hk => hk.2) (.int .i64 t187)) (fun _ hk => hk.2) (.slice Ao18 t188.length co18)) (fun _ h_ => h_.1)))) hb); replace BK178 := A_ (blk_below (g := gb178) (o := .cells #[.int .i64 a0_0, .int .i64 a0_1, .slice A0_2 l0_2.length c0_2] 26 (0, 0)) (tk_ BK178) hb); replace BK179 := A_ (blk_below (g := gb179) (o := .cells #[.int .i64 0, .int .i64 0, .slice none 0 0] 26 (0, 0)) (tk_ BK179) hb); replace BK191 := A_ (blk_below (g := gb191) (o := .cells #[.int .i64 t186, .int .i64 t187, .slice Ao18 t188.length co18] 26 (0, 0)) (by (with_reducible repeat (first | refine blk_drewN ?_ _ | refine blk_drew ?_ | refine blk_alloc ?_ _)); refine blk_put (cs := #[.int .i64 t186, .int .i64 t187, .slice none 0 0]) ?_ 2 _ rfl; (with_reducible repeat (first | refine blk_drewN ?_ _ | refine blk_drew ?_ | refine blk_alloc ?_ _)); refine blk_put (cs := #[.int .i64 t186, .int .i64 0, .slice none 0 0]) ?_ 1 _ rfl; (with_reducible repeat (first | refine blk_drewN ?_ _ | refine blk_drew ?_ | refine blk_alloc ?_ _)); refine blk_put (cs := #[.int .i64 0, .int .i64 0, .slice none 0 0]) ?_ 0 _ rfl; (with_reducible repeat (first | refine blk_drewN ?_ _ | refine blk_drew ?_ | refine blk_alloc ?_ _)); exact BK191.out) hb); replace HB := A_ (below_step tb_ hb); (try clear hb); (try clear ho0); obtain ⟨Ao21, co21, eo21⟩ := Kd.S_slice HO194.out; subst eo21))
 go_loopg [26] k (fun kq v26 w' => ∃ (x5_1 : List Int) (x6_1 : List Int) (x26_1 : Int) (x192002_1 : List Int) (u192002 : Value), v26 = .int .i64 x26_1 ∧ Aside0 (spec_biBoard.l0 kq a1 x5_1 x6_1 t192 (t192.length : Int) x26_1 a0_0 a0_1 l0_2 t186 t187 x192002_1 = some (r1, r2, r3)) ∧ Aside0 (kq ≤ k) ∧ Aside0 (Kd.R (Kd.int .i64) 3 w' w.heap.size (fun k_ => some k_ ≠ ((.slice Ao12 t183.length co12) : Value).ownBlock ∧ some k_ ≠ (u192002 : Value).ownBlock) (.slice Ao11 t180.length co11) x5_1) ∧ Aside0 (Kd.R (Kd.int .i64) 3 w' w.heap.size (fun k_ => some k_ ≠ ((.slice Ao11 t180.length co11) : Value).ownBlock ∧ some k_ ≠ (u192002 : Value).ownBlock) (.slice Ao12 t183.length co12) x6_1) ∧ Aside0 (Kd.S (Kd.slice 3 (Kd.int .i64)) 22 w' w.heap.size (fun k_ => some k_ ≠ ((.slice Ao11 t180.length co11) : Value).ownBlock ∧ some k_ ≠ ((.slice Ao12 t183.length co12) : Value).ownBlock ∧ some k_ ≠ (u192002 : Value).ownBlock) (.slice Ao21 t192.length co21) t192) ∧ Aside0 (Kd.R (Kd.int .i64) 3 w' w.heap.size (fun k_ => some k_ ≠ ((.slice Ao11 t180.length co11) : Value).ownBlock ∧ some k_ ≠ ((.slice Ao12 t183.length co12) : Value).ownBlock) u192002 x192002_1) ∧ Aside0 (w'.heap[gb178]? = some (.cells #[.int .i64 a0_0, .int .i64 a0_1, (.slice A0_2 l0_2.length c0_2)] 26 (0, 0))) ∧ Aside0 (w'.heap[gb179]? = some (.cells #[.int .i64 0, .int .i64 0, (.slice none 0 0)] 26 (0, 0))) ∧ Aside0 (w'.heap[gb191]? = some (.cells #[.int .i64 t186, .int .i64 t187, u192002] 26 (0, 0))) ∧ Aside0 (Below w.heap.size w w'))
 case atStart => exact ⟨(t180), (t183), (0), (t188), (.slice Ao18 t188.length co18), tf_, H', ⟨Nat.le_refl _⟩, ⟨tr_x HO182.out⟩, ⟨tr_x HO185.out⟩, ⟨by (with_reducible repeat (first | apply Kd.S_alloc | apply Kd.S_drewN | apply Kd.S_drew)); exact Kd.S_mono HO194.out om_⟩, ⟨by (with_reducible repeat (first | apply Kd.R_alloc | apply Kd.R_drewN | apply Kd.R_drew)); exact Kd.R_mono HO190.out om_⟩, ⟨tk_ BK178⟩, ⟨tk_ BK179⟩, ⟨tk_ BK191⟩, ⟨tb_⟩⟩
 case round =>
  clear H'
  try clear c1
  try clear p2
  try clear c8
  try clear c9
  try clear c10
  try clear c15
  try clear c16
  try clear c17
  try clear hcz17_0
  try clear hcz17_1
  try clear hcz17_2
  try clear hcz19_0
  try clear hcz19_1
  try clear hcz19_2
  try clear hcz9_0
  try clear hcz9_1
  try clear hcz9_2
  try clear hfz17_0
  try clear hfz17_1
  try clear hfz17_2
  try clear hfz19_0
  try clear hfz19_1
  try clear hfz19_2
  try clear hfz9_0
  try clear hfz9_1
  try clear hfz9_2
  obtain ⟨x5_1, x6_1, x26_1, x192002_1, u192002, rfl, HA, HK1, HO_5, HO_6, HO_24, HO_192002, BK178, BK179, BK191, HB⟩ := hrel
  have hl5_1 := (Kd.R_reads' HO_5.out).1
  rw [hl5_1] at HO_5
  (try simp only [hl5_1])
  (try simp only [hl5_1] at BK178)
  (try simp only [hl5_1] at BK179)
  (try simp only [hl5_1] at BK191)
  (try simp only [hl5_1] at HO_6)
  (try simp only [hl5_1] at HO_24)
  (try simp only [hl5_1] at HO_192002)
  have hl6_1 := (Kd.R_reads' HO_6.out).1
  rw [hl6_1] at HO_6
  (try simp only [hl6_1])
  (try simp only [hl6_1] at BK178)
  (try simp only [hl6_1] at BK179)
  (try simp only [hl6_1] at BK191)
  (try simp only [hl6_1] at HO_5)
  (try simp only [hl6_1] at HO_24)
  (try simp only [hl6_1] at HO_192002)
  cases gk with
  | zero => exact absurd HA.out (by simp [spec_biBoard.l0])
  | succ k1 =>
   have H := HA.out
   clear HA
   simp only [spec_biBoard.l0] at H
   by_cases c22 : x26_1 < (t192.length : Int)
   ·
    rw [if_pos c22] at H
    have c22b0 := decide_eq_true c22
    (try (have c22b7 := c22b0; rw [hl5_1] at c22b7))
    (try (have c22b7 := c22b0; rw [hl6_1] at c22b7))
    (try (have c22b8 := c22b0; simp only [hl5_1, hl6_1] at c22b8))
    clear c22
    by_cases c23 : 0 ≤ x26_1
    ·
     rw [if_pos c23] at H
     have c23b0 := decide_eq_true c23
     clear c23
     by_cases c24 : x26_1 < (t192.length : Int)
     ·
      rw [if_pos c24] at H
      have c24b0 := decide_eq_true c24
      (try (have c24b7 := c24b0; rw [hl5_1] at c24b7))
      (try (have c24b7 := c24b0; rw [hl6_1] at c24b7))
      (try (have c24b8 := c24b0; simp only [hl5_1, hl6_1] at c24b8))
      clear c24
      by_cases c25 : 0 < ((rd_L1 t192 x26_1).length : Int)
      ·
       rw [if_pos c25] at H
       have c25b0 := decide_eq_true c25
       (try (have c25b7 := c25b0; rw [hl5_1] at c25b7))
       (try (have c25b7 := c25b0; rw [hl6_1] at c25b7))
       (try (have c25b8 := c25b0; simp only [hl5_1, hl6_1] at c25b8))
       have c25b1 : decide (0 < (rd_L1 t192 x26_1).length) = true := decide_eq_true (by omega)
       clear c25
       by_cases c26 : 1 < ((rd_L1 t192 x26_1).length : Int)
       ·
        rw [if_pos c26] at H
        have c26b0 := decide_eq_true c26
        (try (have c26b7 := c26b0; rw [hl5_1] at c26b7))
        (try (have c26b7 := c26b0; rw [hl6_1] at c26b7))
        (try (have c26b8 := c26b0; simp only [hl5_1, hl6_1] at c26b8))
        have c26b1 : decide (1 < (rd_L1 t192 x26_1).length) = true := decide_eq_true (by omega)
        clear c26
        by_cases c27 : (Int.tmod (wrap64 ((rd (rd_L1 t192 x26_1) 0) + (rd (rd_L1 t192 x26_1) 1))) 2) = a1
        ·
         rw [if_pos c27] at H
         have c27b0 : ((Int.tmod (wrap64 ((rd (rd_L1 t192 x26_1) 0) + (rd (rd_L1 t192 x26_1) 1))) 2) == a1) = true := beq_iff_eq.mpr c27
         have c27b1 : ((Int.tmod (wrap64 ((rd (rd_L1 t192 x26_1) 0) + (rd (rd_L1 t192 x26_1) 1))) 2) != a1) = false := bne_eq_false_iff_eq.mpr c27
         clear c27
         replace H := Option.bind_eq_some_iff.mp H
         obtain ⟨⟨t200, t201⟩, A280, H⟩ := H
         replace H : ((spec_biPlace.f k1 x5_1 t200).bind fun t202 => (if 0 ≤ t202 then (if t202 < (x192002_1.length : Int) then ((spec_biPlace.f k1 x6_1 t201).bind fun t204 => (if 0 ≤ t204 then (spec_biBoard.l0 k1 a1 x5_1 x6_1 t192 (t192.length : Int) (wrap64 (x26_1 + 1)) a0_0 a0_1 l0_2 t186 t187 (x192002_1.set (t202 : Int).toNat (wrap64 ((rd x192002_1 t202) + (shl .i64 1 t204))))) else (none))) else (none)) else (none))) = some (r1, r2, r3) := H
         have A28 := A_ A280
         clear A280
         replace H := Option.bind_eq_some_iff.mp H
         obtain ⟨t202, A290, H⟩ := H
         replace H : (if 0 ≤ t202 then (if t202 < (x192002_1.length : Int) then ((spec_biPlace.f k1 x6_1 t201).bind fun t204 => (if 0 ≤ t204 then (spec_biBoard.l0 k1 a1 x5_1 x6_1 t192 (t192.length : Int) (wrap64 (x26_1 + 1)) a0_0 a0_1 l0_2 t186 t187 (x192002_1.set (t202 : Int).toNat (wrap64 ((rd x192002_1 t202) + (shl .i64 1 t204))))) else (none))) else (none)) else (none)) = some (r1, r2, r3) := H
         have A29 := A_ A290
         clear A290
         by_cases c30 : 0 ≤ t202
         ·
          rw [if_pos c30] at H
          have c30b0 := decide_eq_true c30
          clear c30
          by_cases c31 : t202 < (x192002_1.length : Int)
          ·
           rw [if_pos c31] at H
           have c31b0 := decide_eq_true c31
           (try (have c31b7 := c31b0; rw [hl5_1] at c31b7))
           (try (have c31b7 := c31b0; rw [hl6_1] at c31b7))
           (try (have c31b8 := c31b0; simp only [hl5_1, hl6_1] at c31b8))
           clear c31
           replace H := Option.bind_eq_some_iff.mp H
           obtain ⟨t204, A320, H⟩ := H
           replace H : (if 0 ≤ t204 then (spec_biBoard.l0 k1 a1 x5_1 x6_1 t192 (t192.length : Int) (wrap64 (x26_1 + 1)) a0_0 a0_1 l0_2 t186 t187 (x192002_1.set (t202 : Int).toNat (wrap64 ((rd x192002_1 t202) + (shl .i64 1 t204))))) else (none)) = some (r1, r2, r3) := H
           have A32 := A_ A320
           clear A320
           by_cases c33 : 0 ≤ t204
           ·
            rw [if_pos c33] at H
            have c33b0 := eq_true c33
            have c33b1 := decide_eq_true c33
            clear c33
            obtain ⟨ji34, hji34⟩ : ∃ j_ : Int, (shl .i64 1 t204) = j_ := ⟨_, rfl⟩
            replace H : (spec_biBoard.l0 k1 a1 x5_1 x6_1 t192 (t192.length : Int) (wrap64 (x26_1 + 1)) a0_0 a0_1 l0_2 t186 t187 (x192002_1.set (t202 : Int).toNat (wrap64 ((rd x192002_1 t202) + (ji34))))) = some (r1, r2, r3) := by first | (rw [hji34] at H; exact H) | (simp only [hji34] at H ⊢; exact H)
            (try rw [hji34] at A28)
            (try rw [hji34] at A29)
            (try rw [hji34] at A32)
            have hji34_ : (IntKind.i64.wrap (1 * 2 ^ min t204.toNat 64)) = ji34 := hji34
            have hji34z : t204 ≤ 64 → (IntKind.i64.wrap (1 * 2 ^ t204.toNat)) = ji34 := shl_small hji34
            have hji34u : (IntKind.i64.wrap (2 ^ min t204.toNat 64)) = ji34 := by have h_ := hji34_; rw [Int.one_mul] at h_; exact h_
            have hji34v : t204 ≤ 64 → (IntKind.i64.wrap (2 ^ t204.toNat)) = ji34 := fun hle_ => by have h_ := hji34z hle_; rw [Int.one_mul] at h_; exact h_
            have hji34y : (wrap64 (1 * 2 ^ min t204.toNat 64)) = ji34 := (i64_w _).symm.trans hji34_
            have hji34x : t204 ≤ 64 → (wrap64 (1 * 2 ^ t204.toNat)) = ji34 := fun h_ => (i64_w _).symm.trans (hji34z h_)
            obtain ⟨y205, hy205⟩ : ∃ y_ : List Int, y_ = (x192002_1.set (t202 : Int).toNat (wrap64 ((rd x192002_1 t202) + (ji34)))) := ⟨_, rfl⟩
            replace H : (spec_biBoard.l0 k1 a1 x5_1 x6_1 t192 (t192.length : Int) (wrap64 (x26_1 + 1)) a0_0 a0_1 l0_2 t186 t187 y205) = some (r1, r2, r3) := ty_ hy205 H
            have Ny205 := A_ hy205
            clear hy205
            have H' := A_ H
            clear H
            have p195 : 0 ≤ (x26_1 : Int) := od_
            have q195 : x26_1 < (t192.length : Int) := od_
            obtain ⟨ad195, A195_0, c195_0, e195, hx195_0, hl195_0, hi195_0⟩ := at_L1 (Kd.S_reads' HO_24.out).2.2 x26_1 p195 q195
            cases e195
            obtain ⟨ce195, hce195, hMe195, hcc195⟩ := Kd.S_get HO_24.out [] x26_1 p195 (by first | exact q195 | exact od_ | (have e_ := (Kd.S_reads' HO_24.out).1; omega))
            obtain ⟨ve195_0, rfl, ge195_0⟩ := hMe195
            have hv195_0 := hcc195 0 _ rfl
            rw [Nat.add_zero, show ((Kd.slice 3 (Kd.int .i64))).sz = 1 from rfl, Nat.mul_one] at hv195_0
            replace hv195_0 := Option.some.inj (hv195_0.symm.trans hx195_0)
            rw [hv195_0] at ge195_0
            have HL195_0 := A_ (show Kd.R (Kd.int .i64) 3 _ _ _ _ (rd_L1 t192 x26_1) from ge195_0)
            clear hv195_0 ge195_0
            clear hcc195 hce195
            have HR195_0 := A_ hi195_0
            have HC195_0 := A_ hl195_0
            clear hi195_0 hl195_0
            replace p195 := eq_true p195
            replace q195 := eq_true q195
            try go_wp2
            have n0_ := A_ (Kd.R_drew HO_5.out)
            have n1_ := A_ (Kd.R_drew HO_6.out)
            have n2_ := A_ (Kd.S_drew HO_24.out)
            have n3_ := A_ (Kd.R_drew HO_192002.out)
            have n4_ := A_ (Kd.R_drew HL195_0.out)
            have n5_ := A_ (blk_drew BK178.out)
            have n6_ := A_ (blk_drew BK179.out)
            have n7_ := A_ (blk_drew BK191.out)
            have n8_ := A_ (Kd.C_drew HR195_0.out)
            have n9_ := A_ (below_drew1 HB.out)
            clear HO_5
            clear HO_6
            clear HO_24
            clear HO_192002
            clear HL195_0
            clear BK178
            clear BK179
            clear BK191
            clear HR195_0
            clear HB
            have HO_5 := n0_
            have HO_6 := n1_
            have HO_24 := n2_
            have HO_192002 := n3_
            have HL195_0 := n4_
            have BK178 := n5_
            have BK179 := n6_
            have BK191 := n7_
            have HR195_0 := n8_
            have HB := n9_
            clear n0_ n1_ n2_ n3_ n4_ n5_ n6_ n7_ n8_ n9_
            have p196 : 0 ≤ (0 : Int) := (by omega)
            have q196 : 0 < ((rd_L1 t192 x26_1).length : Int) := od_
            obtain ⟨ad196, e196, hx196_0⟩ := Kd.at_int (by repeat (first | (with_reducible exact HR195_0.out) | (with_reducible refine Kd.C_alloc ?_ _) | (with_reducible refine Kd.C_drewN ?_ _) | (with_reducible refine Kd.C_drew ?_) | exact HR195_0.out)) 0 p196 q196
            cases e196
            have qi196 : (0 < (rd_L1 t192 x26_1).length) = True := eq_true (by omega)
            (try rw [show ((0 : Int)).toNat = 0 from rfl] at hx196_0)
            (try rw [Addr.add_zero'] at hx196_0)
            replace p196 := eq_true p196
            replace q196 := eq_true q196
            have p197 : 0 ≤ (1 : Int) := (by omega)
            have q197 : 1 < ((rd_L1 t192 x26_1).length : Int) := od_
            obtain ⟨ad197, e197, hx197_0⟩ := Kd.at_int (by repeat (first | (with_reducible exact HR195_0.out) | (with_reducible refine Kd.C_alloc ?_ _) | (with_reducible refine Kd.C_drewN ?_ _) | (with_reducible refine Kd.C_drew ?_) | exact HR195_0.out)) 1 p197 q197
            obtain rfl : ad196 = ad197 := (by injection e197)
            (try simp only [show (1 : Int).toNat = 1 from rfl, Nat.reduceMul, Nat.reduceEqDiff, Go.Addr.add, ↓reduceIte] at hx197_0)
            have qi197 : (1 < (rd_L1 t192 x26_1).length) = True := eq_true (by omega)
            (try rw [show ((1 : Int)).toNat = 1 from rfl] at hx197_0)
            replace p197 := eq_true p197
            replace q197 := eq_true q197
            refine start_ (n := 10) (S := fun w' => w'.cell? ad196 = some (.int .i64 (rd (rd_L1 t192 x26_1) 0)) ∧ w'.cell? ⟨ad196.block, ad196.off + 1, none⟩ = some (.int .i64 (rd (rd_L1 t192 x26_1) 1))) (ds := []) (Fn.bl 10 0) (by kernel_rfl) rfl rfl ⟨hx196_0, hx197_0⟩ (fun hHeld => ?_); refine with_tabW spec_biBoard.tab6 spec_biBoard.bits6 (fun HT_ HW_ => ?_)
            generalize wr.drew = w36 at HO_5 HO_6 HO_24 HO_192002 HL195_0 BK178 BK179 BK191 HR195_0 HB hx196_0 hx197_0 hHeld ⊢
            refine pq_ 0 (some 30) (Fn.bl 10 1) HT_.out ?_
            refine pq_ 1 (some 31) (Fn.bl 10 3) HT_.out ?_
            refine pq_ 3 (some 33) (Fn.bl 10 11) HT_.out ?_
            refine pq_ 4 (some 34) (Fn.bl 10 27) HT_.out ?_
            refine pq_ 8 (some 38) (Fn.bl 10 283) HT_.out ?_
            refine tq_ 2 (some 32) (Fn.bl 10 287) HT_.out HW_.out hHeld ?_ (hy0 := by rintro w' ⟨s0, s1⟩; go_simp; with_reducible rfl)
            refine tq_ 5 (some 35) (Fn.bl 10 319) HT_.out HW_.out hHeld ?_ (hy0 := by rintro w' ⟨s0, s1⟩; go_simp; with_reducible rfl)
            refine pq_ 6 (some 36) (Fn.bl 10 383) HT_.out ?_
            refine pq_ 7 (some 37) (Fn.bl 10 511) HT_.out ?_
            refine pq_ 9 (some 39) (Fn.bl 10 1023) HT_.out ?_
            refine done_ (done_of HT_.out (by kernel_rfl)) ?_
            try go_wp2
            have n0_ := A_ (Kd.R_drew HO_5.out)
            have n1_ := A_ (Kd.R_drew HO_6.out)
            have n2_ := A_ (Kd.S_drew HO_24.out)
            have n3_ := A_ (Kd.R_drew HO_192002.out)
            have n4_ := A_ (Kd.R_drew HL195_0.out)
            have n5_ := A_ (blk_drew BK178.out)
            have n6_ := A_ (blk_drew BK179.out)
            have n7_ := A_ (blk_drew BK191.out)
            have n8_ := A_ (Kd.C_drew HR195_0.out)
            have n9_ := A_ (below_drew1 HB.out)
            clear HO_5
            clear HO_6
            clear HO_24
            clear HO_192002
            clear HL195_0
            clear BK178
            clear BK179
            clear BK191
            clear HR195_0
            clear HB
            have HO_5 := n0_
            have HO_6 := n1_
            have HO_24 := n2_
            have HO_192002 := n3_
            have HL195_0 := n4_
            have BK178 := n5_
            have BK179 := n6_
            have BK191 := n7_
            have HR195_0 := n8_
            have HB := n9_
            clear n0_ n1_ n2_ n3_ n4_ n5_ n6_ n7_ n8_ n9_
            have p198 : 0 ≤ (0 : Int) := (by omega)
            have q198 : 0 < ((rd_L1 t192 x26_1).length : Int) := od_
            obtain ⟨ad198, e198, hx198_0⟩ := Kd.at_int (by repeat (first | (with_reducible exact HR195_0.out) | (with_reducible refine Kd.C_alloc ?_ _) | (with_reducible refine Kd.C_drewN ?_ _) | (with_reducible refine Kd.C_drew ?_) | exact HR195_0.out)) 0 p198 q198
            obtain rfl : ad196 = ad198 := (by injection e198)
            have qi198 : (0 < (rd_L1 t192 x26_1).length) = True := eq_true (by omega)
            (try rw [show ((0 : Int)).toNat = 0 from rfl] at hx198_0)
            (try rw [Addr.add_zero'] at hx198_0)
            replace p198 := eq_true p198
            replace q198 := eq_true q198
            have p199 : 0 ≤ (1 : Int) := (by omega)
            have q199 : 1 < ((rd_L1 t192 x26_1).length : Int) := od_
            obtain ⟨ad199, e199, hx199_0⟩ := Kd.at_int (by repeat (first | (with_reducible exact HR195_0.out) | (with_reducible refine Kd.C_alloc ?_ _) | (with_reducible refine Kd.C_drewN ?_ _) | (with_reducible refine Kd.C_drew ?_) | exact HR195_0.out)) 1 p199 q199
            obtain rfl : ad196 = ad199 := (by injection e199)
            (try simp only [show (1 : Int).toNat = 1 from rfl, Nat.reduceMul, Nat.reduceEqDiff, Go.Addr.add, ↓reduceIte] at hx199_0)
            have qi199 : (1 < (rd_L1 t192 x26_1).length) = True := eq_true (by omega)
            (try rw [show ((1 : Int)).toNat = 1 from rfl] at hx199_0)
            replace p199 := eq_true p199
            replace q199 := eq_true q199
            refine start_ (n := 13) (S := fun w' => w'.cell? ⟨gb178, 0, none⟩ = some (.int .i64 a0_0) ∧ w'.cell? ⟨gb178, 1, none⟩ = some (.int .i64 a0_1) ∧ w'.cell? ⟨gb178, 2, none⟩ = some (.slice A0_2 l0_2.length c0_2) ∧ w'.cell? ad196 = some (.int .i64 (rd (rd_L1 t192 x26_1) 0)) ∧ w'.cell? ⟨ad196.block, ad196.off + 1, none⟩ = some (.int .i64 (rd (rd_L1 t192 x26_1) 1))) (ds := []) (Fn.bl 13 0) (by kernel_rfl) rfl rfl ⟨(blk_cell BK178.out 0).trans rfl, (blk_cell BK178.out 1).trans rfl, (blk_cell BK178.out 2).trans rfl, hx198_0, hx199_0⟩ (fun hHeld => ?_); refine with_tabW spec_biBoard.tab7 spec_biBoard.bits7 (fun HT_ HW_ => ?_)
            generalize w36.drew = w37 at HO_5 HO_6 HO_24 HO_192002 HL195_0 BK178 BK179 BK191 HR195_0 HB hx198_0 hx199_0 hHeld ⊢
            refine pq_ 1 (some 42) (Fn.bl 13 2) HT_.out ?_
            refine pq_ 2 (some 43) (Fn.bl 13 6) HT_.out ?_
            refine pq_ 4 (some 45) (Fn.bl 13 22) HT_.out ?_
            refine pq_ 5 (some 46) (Fn.bl 13 54) HT_.out ?_
            refine tq_ 0 (some 41) (Fn.bl 13 55) HT_.out HW_.out hHeld ?_ (hy0 := by rintro w' ⟨s0, s1, s2, s3, s4⟩; go_simp; with_reducible rfl)
            refine tq_ 3 (some 44) (Fn.bl 13 63) HT_.out HW_.out hHeld ?_ (hy0 := by rintro w' ⟨s0, s1, s2, s3, s4⟩; go_simp; with_reducible rfl)
            refine tq_ 6 (some 47) (Fn.bl 13 127) HT_.out HW_.out hHeld ?_ (hy0 := by rintro w' ⟨s0, s1, s2, s3, s4⟩; go_simp; with_reducible rfl)
            refine one_ (i := 7) (N := some 48) (Fn.bl 13 255) rfl rfl (one_of HT_.out (by kernel_rfl)) (by decide) (fun K hK => ?_)
            refine goes_ Try.func162 (by kernel_rfl) rfl #[.agg #[.int .i64 a0_0, .int .i64 a0_1, .slice A0_2 l0_2.length c0_2], .int .i64 (rd (rd_L1 t192 x26_1) 0), .int .i64 (rd (rd_L1 t192 x26_1) 1)] (by rfl) rfl rfl ta_ ?_
            with_reducible refine (spec_biDiagonals.calls a0_0 a0_1 _ _ l0_2 (rd (rd_L1 t192 x26_1) 0) (rd (rd_L1 t192 x26_1) 1) t200 t201 _ ?side1 ?side2 A28.out).mono ?_
            (case side1 => exact tc_ HR0_2.out)
            (case side2 => exact HC0_2.out)
            rintro e w38 ⟨rfl, hb⟩
            have HS3_ := (hb.cell (World.block_lt_of_cell? _ _ (hHeld.2.2.2.1))).trans (hHeld.2.2.2.1)
            have HS4_ := (hb.cell (World.block_lt_of_cell? _ _ (hHeld.2.2.2.2))).trans (hHeld.2.2.2.2)
            refine ⟨_, rfl, ?_⟩
            have n0_ := A_ (Kd.R_below (tr_x HO_5.out) hb)
            have n1_ := A_ (Kd.R_below (tr_x HO_6.out) hb)
            have n2_ := A_ (Kd.S_below (ts1_x HO_24.out) hb)
            have n3_ := A_ (Kd.R_below (tr_x HO_192002.out) hb)
            have n4_ := A_ (Kd.R_below (tr_x HL195_0.out) hb)
            have n5_ := A_ (blk_below (g := gb178) (o := .cells #[.int .i64 a0_0, .int .i64 a0_1, .slice A0_2 l0_2.length c0_2] 26 (0, 0)) (tk_ BK178) hb)
            have n6_ := A_ (blk_below (g := gb179) (o := .cells #[.int .i64 0, .int .i64 0, .slice none 0 0] 26 (0, 0)) (tk_ BK179) hb)
            have n7_ := A_ (blk_below (g := gb191) (o := .cells #[.int .i64 t186, .int .i64 t187, u192002] 26 (0, 0)) (tk_ BK191) hb)
            have n8_ := A_ (Kd.C_below (by repeat (first | (with_reducible exact HR195_0.out) | (with_reducible refine Kd.C_alloc ?_ _) | (with_reducible refine Kd.C_drewN ?_ _) | (with_reducible refine Kd.C_drew ?_) | exact HR195_0.out)) hb)
            have n9_ := A_ (below_step tb_ hb)
            clear HO_5
            clear HO_6
            clear HO_24
            clear HO_192002
            clear HL195_0
            clear BK178
            clear BK179
            clear BK191
            clear HR195_0
            clear HB
            have HO_5 := n0_
            have HO_6 := n1_
            have HO_24 := n2_
            have HO_192002 := n3_
            have HL195_0 := n4_
            have BK178 := n5_
            have BK179 := n6_
            have BK191 := n7_
            have HR195_0 := n8_
            have HB := n9_
            clear n0_ n1_ n2_ n3_ n4_ n5_ n6_ n7_ n8_ n9_
            (try clear hb)
            (try clear hb2)
            (try clear hk)
            (try clear hi)
            refine hK.out _ _ ⟨(blk_cell BK178.out 0).trans rfl, (blk_cell BK178.out 1).trans rfl, (blk_cell BK178.out 2).trans rfl, HS3_, HS4_⟩ (fun hHeld => ?_)
            clear hK K
            refine norm_ (a' := ?_) ?_ ?_
            rotate_left
            ·
             show Act.put _ (some 48) _ = _
             simp only [Act.put, List.setIfInBounds_toArray, List.set_cons_zero, List.set_cons_succ, i64_w, i32_w]
             rfl
            refine pq_ 8 (some 40) (Fn.bl 13 511) HT_.out ?_
            refine pq_ 9 (some 49) (Fn.bl 13 1023) HT_.out ?_
            refine pq_ 10 (some 50) (Fn.bl 13 2047) HT_.out ?_
            refine pq_ 11 (some 10) (Fn.bl 13 4095) HT_.out ?_
            refine pq_ 12 (some 11) (Fn.bl 13 8191) HT_.out ?_
            refine done_ (done_of HT_.out (by kernel_rfl)) ?_
            try go_wp2
            have n0_ := A_ (Kd.R_drew HO_5.out)
            have n1_ := A_ (Kd.R_drew HO_6.out)
            have n2_ := A_ (Kd.S_drew HO_24.out)
            have n3_ := A_ (Kd.R_drew HO_192002.out)
            have n4_ := A_ (Kd.R_drew HL195_0.out)
            have n5_ := A_ (blk_drew BK178.out)
            have n6_ := A_ (blk_drew BK179.out)
            have n7_ := A_ (blk_drew BK191.out)
            have n8_ := A_ (Kd.C_drew HR195_0.out)
            have n9_ := A_ (below_drew1 HB.out)
            clear HO_5
            clear HO_6
            clear HO_24
            clear HO_192002
            clear HL195_0
            clear BK178
            clear BK179
            clear BK191
            clear HR195_0
            clear HB
            have HO_5 := n0_
            have HO_6 := n1_
            have HO_24 := n2_
            have HO_192002 := n3_
            have HL195_0 := n4_
            have BK178 := n5_
            have BK179 := n6_
            have BK191 := n7_
            have HR195_0 := n8_
            have HB := n9_
            clear n0_ n1_ n2_ n3_ n4_ n5_ n6_ n7_ n8_ n9_
            have p203 : 0 ≤ (t202 : Int) := od_
            have q203 : t202 < (x192002_1.length : Int) := od_
            obtain ⟨Au192002, cu192002, eu192002⟩ := Kd.R_slice HO_192002.out
            subst eu192002
            obtain ⟨ad203, e203, hx203_0⟩ := Kd.at_int (Kd.R_reads' HO_192002.out).2.2 t202 p203 q203
            cases e203
            replace p203 := eq_true p203
            replace q203 := eq_true q203
            refine start_ (n := 14) (S := fun w' => w'.cell? ⟨gb191, 0, none⟩ = some (.int .i64 t186) ∧ w'.cell? ⟨gb191, 1, none⟩ = some (.int .i64 t187) ∧ w'.cell? ⟨gb191, 2, none⟩ = some (.slice (some ad203) x192002_1.length cu192002) ∧ w'.cell? (ad203.add (t202).toNat) = some (.int .i64 (rd x192002_1 t202))) (ds := [13]) (Fn.bl 14 0) (by kernel_rfl) rfl rfl ⟨(blk_cell BK191.out 0).trans rfl, (blk_cell BK191.out 1).trans rfl, (blk_cell BK191.out 2).trans rfl, hx203_0⟩ (fun hHeld => ?_); refine with_tabW spec_biBoard.tab8 spec_biBoard.bits8 (fun HT_ HW_ => ?_)
            generalize w38.drew = w39 at HO_5 HO_6 HO_24 HO_192002 HL195_0 BK178 BK179 BK191 HR195_0 HB hx203_0 hHeld ⊢
            refine pq_ 0 (some 51) (Fn.bl 14 1) HT_.out ?_
            refine pq_ 2 (some 53) (Fn.bl 14 5) HT_.out ?_
            refine pq_ 3 (some 54) (Fn.bl 14 13) HT_.out ?_
            refine pq_ 7 (some 58) (Fn.bl 14 141) HT_.out ?_
            refine pq_ 8 (some 59) (Fn.bl 14 397) HT_.out ?_
            refine tq_ 1 (some 52) (Fn.bl 14 399) HT_.out HW_.out hHeld ?_ (hy0 := by rintro w' ⟨s0, s1, s2, s3⟩; go_simp; with_reducible rfl)
            refine one_ (i := 4) (N := some 55) (Fn.bl 14 415) rfl rfl (one_of HT_.out (by kernel_rfl)) (by decide) (fun K hK => ?_)
            refine goes_ Try.func171 (by kernel_rfl) rfl #[.slice Ao11 x5_1.length co11, .int .i64 t200] (by rfl) rfl rfl ta_ ?_
            with_reducible refine (spec_biPlace.calls k1 _ _ x5_1 t200 t202 _ ?side1 ?side2 A29.out).mono ?_
            (case side1 => exact tc0_ (Kd.R_reads' HO_5.out).2.2)
            (case side2 => exact (Kd.R_reads' HO_5.out).2.1)
            rintro e w' ⟨rfl, ⟨nd, rfl⟩⟩
            refine ⟨_, rfl, ?_⟩
            obtain ⟨Ao40, co40, eo40⟩ := Kd.R_slice HO_192002.out
            (first | subst eo40 | (injection eo40 with f1_ f2_ f3_; have f4_ := f1_.symm; have f5_ := f3_.symm; clear f1_ f2_ f3_; subst f4_; subst f5_))
            refine hK.out _ _ ⟨(blk_cell BK191.out 0).trans rfl, (blk_cell BK191.out 1).trans rfl, (blk_cell BK191.out 2).trans rfl, hHeld.2.2.2⟩ (fun hHeld => ?_)
            clear hK K
            refine norm_ (a' := ?_) ?_ ?_
            rotate_left
            ·
             show Act.put _ (some 55) _ = _
             simp only [Act.put, List.setIfInBounds_toArray, List.set_cons_zero, List.set_cons_succ, i64_w, i32_w]
             rfl
            refine pq_ 5 (some 56) (Fn.bl 14 447) HT_.out ?_
            refine tq_ 6 (some 57) (Fn.bl 14 511) HT_.out HW_.out hHeld ?_ (hy0 := by rintro w' ⟨s0, s1, s2, s3⟩; go_simp; with_reducible rfl)
            refine one_ (i := 9) (N := some 60) (Fn.bl 14 1023) rfl rfl (one_of HT_.out (by kernel_rfl)) (by decide) (fun K hK => ?_)
            refine goes_ Try.func171 (by kernel_rfl) rfl #[.slice Ao12 x6_1.length co12, .int .i64 t201] (by rfl) rfl rfl ta_ ?_
            with_reducible refine (spec_biPlace.calls k1 _ _ x6_1 t201 t204 _ ?side1 ?side2 A32.out).mono ?_
            (case side1 => exact tc0_ (Kd.R_reads' HO_6.out).2.2)
            (case side2 => exact (Kd.R_reads' HO_6.out).2.1)
            rintro e w' ⟨rfl, ⟨nd, rfl⟩⟩
            refine ⟨_, rfl, ?_⟩
            have p35 : 0 ≤ (t202 : Int) := od_
            have q35 : (t202 : Int) < ((x192002_1.length : Int) : Int) := od_
            obtain ⟨go35, co35, eo35, gb35, gl35, cl35, HG35⟩ := Kd.R_form HO_192002.out (by omega)
            (first | cases eo35 | (injection eo35 with ea_ en_ ec_; (first | subst ea_ | (injection ea_ with ea_; subst ea_)); subst ec_; clear en_))
            have GB35 := A_ gb35
            have GG35 := A_ HG35
            clear gb35 gl35 HG35
            (first | simp only [add_plain] at hx203_0 | skip)
            obtain ⟨hx35_0, hf35_0⟩ := Kd.R_celln 0 HO_192002.out (t202 : Int) p35 q35
            replace p35 := eq_true p35
            replace q35 := eq_true q35
            have HP41 := Kd.R_putn HO_192002.out (t202 : Int) (wrap64 ((rd x192002_1 t202) + (ji34)))
            rw [← Ny205.out] at HP41
            have HQ41 := A_ HP41
            clear HP41
            refine hK.out _ _ ⟨(blk_cell BK191.out 0).trans rfl, (blk_cell BK191.out 1).trans rfl, (blk_cell BK191.out 2).trans rfl, hHeld.2.2.2⟩ (fun hHeld => ?_)
            clear hK K
            refine norm_ (a' := ?_) ?_ ?_
            rotate_left
            ·
             show Act.put _ (some 60) _ = _
             simp only [Act.put, List.setIfInBounds_toArray, List.set_cons_zero, List.set_cons_succ, i64_w, i32_w]
             rfl
            refine pq_ 10 (some 61) (Fn.bl 14 2047) HT_.out ?_
            refine pq_ 11 (some 62) (Fn.bl 14 4095) HT_.out ?_
            refine pq_ 12 (some 63) (Fn.bl 14 8191) HT_.out ?_
            refine last_ (i := 13) (N := none) (Fn.bl 14 16383) rfl rfl (one_of HT_.out (by kernel_rfl)) (by decide) (fun K hK => ?_)
            refine skip_ (w1 := ?_) (by rfl) rfl ?_ ?_
            rotate_left
            ·
             go_simp
             rfl
            refine hK.out _ _ ?_
            clear hK K
            refine done_ (done_of HT_.out (by kernel_rfl)) ?_
            try go_wp2
            (try simp only [← hl5_1, ← hl6_1])
            go_roundg k1
            case measure => have := HK1.out; omega
            case rel => exact ⟨(x5_1), (x6_1), (wrap64 (x26_1 + 1)), (y205), (.slice (some ⟨go35, 0, none⟩) x192002_1.length co40), tf_, H', ⟨by have := HK1.out; omega⟩, ⟨by (try simp only [hl5_1]); (try simp only [hl6_1]); (with_reducible repeat (first | apply Kd.R_alloc | apply Kd.R_drewN | apply Kd.R_drew)); exact Kd.R_mono (Kd.R_far (p := ⟨go35, (t202 : Int).toNat, none⟩) (Kd.R_mono HO_5.out (fun k_ hk => (⟨hk, fun e_ => hk.2 (by rw [e_]; rfl)⟩ : _ ∧ k_ ≠ go35))) (fun _ hk => hk.2) (.int .i64 (wrap64 ((rd x192002_1 t202) + (ji34))))) om_⟩, ⟨by (try simp only [hl5_1]); (try simp only [hl6_1]); (with_reducible repeat (first | apply Kd.R_alloc | apply Kd.R_drewN | apply Kd.R_drew)); exact Kd.R_mono (Kd.R_far (p := ⟨go35, (t202 : Int).toNat, none⟩) (Kd.R_mono HO_6.out (fun k_ hk => (⟨hk, fun e_ => hk.2 (by rw [e_]; rfl)⟩ : _ ∧ k_ ≠ go35))) (fun _ hk => hk.2) (.int .i64 (wrap64 ((rd x192002_1 t202) + (ji34))))) om_⟩, ⟨by (try simp only [hl5_1]); (try simp only [hl6_1]); (with_reducible repeat (first | apply Kd.S_alloc | apply Kd.S_drewN | apply Kd.S_drew)); exact Kd.S_mono (Kd.S_far (p := ⟨go35, (t202 : Int).toNat, none⟩) (Kd.S_mono HO_24.out (fun k_ hk => (⟨hk, fun e_ => hk.2.2 (by rw [e_]; rfl)⟩ : _ ∧ k_ ≠ go35))) (fun _ hk => hk.2) (.int .i64 (wrap64 ((rd x192002_1 t202) + (ji34))))) om_⟩, ⟨by (try simp only [hl5_1]); (try simp only [hl6_1]); (with_reducible repeat (first | apply Kd.R_alloc | apply Kd.R_drewN | apply Kd.R_drew)); exact HQ41.out⟩, ⟨by (try simp only [hl5_1]); (try simp only [hl6_1]); (with_reducible repeat (first | refine blk_drewN ?_ _ | refine blk_drew ?_ | refine blk_alloc ?_ _)); refine blk_far ?_ (by have h_ := Kd.R_ne HO_192002.out BK178.out (by decide); intro e_; exact h_ (by rw [e_]; rfl)) _; (with_reducible repeat (first | refine blk_drewN ?_ _ | refine blk_drew ?_ | refine blk_alloc ?_ _)); exact BK178.out⟩, ⟨by (try simp only [hl5_1]); (try simp only [hl6_1]); (with_reducible repeat (first | refine blk_drewN ?_ _ | refine blk_drew ?_ | refine blk_alloc ?_ _)); refine blk_far ?_ (by have h_ := Kd.R_ne HO_192002.out BK179.out (by decide); intro e_; exact h_ (by rw [e_]; rfl)) _; (with_reducible repeat (first | refine blk_drewN ?_ _ | refine blk_drew ?_ | refine blk_alloc ?_ _)); exact BK179.out⟩, ⟨by (try simp only [hl5_1]); (try simp only [hl6_1]); (with_reducible repeat (first | refine blk_drewN ?_ _ | refine blk_drew ?_ | refine blk_alloc ?_ _)); refine blk_far ?_ (by have h_ := Kd.R_ne HO_192002.out BK191.out (by decide); intro e_; exact h_ (by rw [e_]; rfl)) _; (with_reducible repeat (first | refine blk_drewN ?_ _ | refine blk_drew ?_ | refine blk_alloc ?_ _)); exact BK191.out⟩, ⟨tb_⟩⟩
           ·
            rw [if_neg c33] at H
            exact absurd H (by simp)
          ·
           rw [if_neg c31] at H
           exact absurd H (by simp)
         ·
          rw [if_neg c30] at H
          exact absurd H (by simp)
        ·
         rw [if_neg c27] at H
         have c27b0 : ((Int.tmod (wrap64 ((rd (rd_L1 t192 x26_1) 0) + (rd (rd_L1 t192 x26_1) 1))) 2) == a1) = false := beq_eq_false_iff_ne.mpr c27
         have c27b1 : ((Int.tmod (wrap64 ((rd (rd_L1 t192 x26_1) 0) + (rd (rd_L1 t192 x26_1) 1))) 2) != a1) = true := bne_iff_ne.mpr c27
         have H' := A_ H
         clear H
         have p195 : 0 ≤ (x26_1 : Int) := od_
         have q195 : x26_1 < (t192.length : Int) := od_
         obtain ⟨ad195, A195_0, c195_0, e195, hx195_0, hl195_0, hi195_0⟩ := at_L1 (Kd.S_reads' HO_24.out).2.2 x26_1 p195 q195
         cases e195
         obtain ⟨ce195, hce195, hMe195, hcc195⟩ := Kd.S_get HO_24.out [] x26_1 p195 (by first | exact q195 | exact od_ | (have e_ := (Kd.S_reads' HO_24.out).1; omega))
         obtain ⟨ve195_0, rfl, ge195_0⟩ := hMe195
         have hv195_0 := hcc195 0 _ rfl
         rw [Nat.add_zero, show ((Kd.slice 3 (Kd.int .i64))).sz = 1 from rfl, Nat.mul_one] at hv195_0
         replace hv195_0 := Option.some.inj (hv195_0.symm.trans hx195_0)
         rw [hv195_0] at ge195_0
         have HL195_0 := A_ (show Kd.R (Kd.int .i64) 3 _ _ _ _ (rd_L1 t192 x26_1) from ge195_0)
         clear hv195_0 ge195_0
         clear hcc195 hce195
         have HR195_0 := A_ hi195_0
         have HC195_0 := A_ hl195_0
         clear hi195_0 hl195_0
         replace p195 := eq_true p195
         replace q195 := eq_true q195
         try go_wp2
         have n0_ := A_ (Kd.R_drew HO_5.out)
         have n1_ := A_ (Kd.R_drew HO_6.out)
         have n2_ := A_ (Kd.S_drew HO_24.out)
         have n3_ := A_ (Kd.R_drew HO_192002.out)
         have n4_ := A_ (Kd.R_drew HL195_0.out)
         have n5_ := A_ (blk_drew BK178.out)
         have n6_ := A_ (blk_drew BK179.out)
         have n7_ := A_ (blk_drew BK191.out)
         have n8_ := A_ (Kd.C_drew HR195_0.out)
         have n9_ := A_ (below_drew1 HB.out)
         clear HO_5
         clear HO_6
         clear HO_24
         clear HO_192002
         clear HL195_0
         clear BK178
         clear BK179
         clear BK191
         clear HR195_0
         clear HB
         have HO_5 := n0_
         have HO_6 := n1_
         have HO_24 := n2_
         have HO_192002 := n3_
         have HL195_0 := n4_
         have BK178 := n5_
         have BK179 := n6_
         have BK191 := n7_
         have HR195_0 := n8_
         have HB := n9_
         clear n0_ n1_ n2_ n3_ n4_ n5_ n6_ n7_ n8_ n9_
         have p196 : 0 ≤ (0 : Int) := (by omega)
         have q196 : 0 < ((rd_L1 t192 x26_1).length : Int) := od_
         obtain ⟨ad196, e196, hx196_0⟩ := Kd.at_int (by repeat (first | (with_reducible exact HR195_0.out) | (with_reducible refine Kd.C_alloc ?_ _) | (with_reducible refine Kd.C_drewN ?_ _) | (with_reducible refine Kd.C_drew ?_) | exact HR195_0.out)) 0 p196 q196
         cases e196
         have qi196 : (0 < (rd_L1 t192 x26_1).length) = True := eq_true (by omega)
         (try rw [show ((0 : Int)).toNat = 0 from rfl] at hx196_0)
         (try rw [Addr.add_zero'] at hx196_0)
         replace p196 := eq_true p196
         replace q196 := eq_true q196
         have p197 : 0 ≤ (1 : Int) := (by omega)
         have q197 : 1 < ((rd_L1 t192 x26_1).length : Int) := od_
         obtain ⟨ad197, e197, hx197_0⟩ := Kd.at_int (by repeat (first | (with_reducible exact HR195_0.out) | (with_reducible refine Kd.C_alloc ?_ _) | (with_reducible refine Kd.C_drewN ?_ _) | (with_reducible refine Kd.C_drew ?_) | exact HR195_0.out)) 1 p197 q197
         obtain rfl : ad196 = ad197 := (by injection e197)
         (try simp only [show (1 : Int).toNat = 1 from rfl, Nat.reduceMul, Nat.reduceEqDiff, Go.Addr.add, ↓reduceIte] at hx197_0)
         have qi197 : (1 < (rd_L1 t192 x26_1).length) = True := eq_true (by omega)
         (try rw [show ((1 : Int)).toNat = 1 from rfl] at hx197_0)
         replace p197 := eq_true p197
         replace q197 := eq_true q197
         refine start_ (n := 10) (S := fun w' => w'.cell? ad196 = some (.int .i64 (rd (rd_L1 t192 x26_1) 0)) ∧ w'.cell? ⟨ad196.block, ad196.off + 1, none⟩ = some (.int .i64 (rd (rd_L1 t192 x26_1) 1))) (ds := []) (Fn.bl 10 0) (by kernel_rfl) rfl rfl ⟨hx196_0, hx197_0⟩ (fun hHeld => ?_); refine with_tabW spec_biBoard.tab6 spec_biBoard.bits6 (fun HT_ HW_ => ?_)
         generalize wr.drew = w42 at HO_5 HO_6 HO_24 HO_192002 HL195_0 BK178 BK179 BK191 HR195_0 HB hx196_0 hx197_0 hHeld ⊢
         refine pq_ 0 (some 30) (Fn.bl 10 1) HT_.out ?_
         refine pq_ 1 (some 31) (Fn.bl 10 3) HT_.out ?_
         refine pq_ 3 (some 33) (Fn.bl 10 11) HT_.out ?_
         refine pq_ 4 (some 34) (Fn.bl 10 27) HT_.out ?_
         refine pq_ 8 (some 38) (Fn.bl 10 283) HT_.out ?_
         refine tq_ 2 (some 32) (Fn.bl 10 287) HT_.out HW_.out hHeld ?_ (hy0 := by rintro w' ⟨s0, s1⟩; go_simp; with_reducible rfl)
         refine tq_ 5 (some 35) (Fn.bl 10 319) HT_.out HW_.out hHeld ?_ (hy0 := by rintro w' ⟨s0, s1⟩; go_simp; with_reducible rfl)
         refine pq_ 6 (some 36) (Fn.bl 10 383) HT_.out ?_
         refine pq_ 7 (some 37) (Fn.bl 10 511) HT_.out ?_
         refine pq_ 9 (some 39) (Fn.bl 10 1023) HT_.out ?_
         refine done_ (done_of HT_.out (by kernel_rfl)) ?_
         try go_wp2
         (try simp only [← hl5_1, ← hl6_1])
         go_roundg k1
         case measure => have := HK1.out; omega
         case rel => exact ⟨(x5_1), (x6_1), (wrap64 (x26_1 + 1)), (x192002_1), (u192002), tf_, H', ⟨by have := HK1.out; omega⟩, ⟨by (try simp only [hl5_1]); (try simp only [hl6_1]); (with_reducible repeat (first | apply Kd.R_alloc | apply Kd.R_drewN | apply Kd.R_drew)); exact HO_5.out⟩, ⟨by (try simp only [hl5_1]); (try simp only [hl6_1]); (with_reducible repeat (first | apply Kd.R_alloc | apply Kd.R_drewN | apply Kd.R_drew)); exact HO_6.out⟩, ⟨by (try simp only [hl5_1]); (try simp only [hl6_1]); (with_reducible repeat (first | apply Kd.S_alloc | apply Kd.S_drewN | apply Kd.S_drew)); exact HO_24.out⟩, ⟨by (try simp only [hl5_1]); (try simp only [hl6_1]); (with_reducible repeat (first | apply Kd.R_alloc | apply Kd.R_drewN | apply Kd.R_drew)); exact HO_192002.out⟩, ⟨by (try simp only [hl5_1]); (try simp only [hl6_1]); (with_reducible repeat (first | refine blk_drewN ?_ _ | refine blk_drew ?_ | refine blk_alloc ?_ _)); exact BK178.out⟩, ⟨by (try simp only [hl5_1]); (try simp only [hl6_1]); (with_reducible repeat (first | refine blk_drewN ?_ _ | refine blk_drew ?_ | refine blk_alloc ?_ _)); exact BK179.out⟩, ⟨by (try simp only [hl5_1]); (try simp only [hl6_1]); (with_reducible repeat (first | refine blk_drewN ?_ _ | refine blk_drew ?_ | refine blk_alloc ?_ _)); exact BK191.out⟩, ⟨tb_⟩⟩
       ·
        rw [if_neg c26] at H
        exact absurd H (by simp)
      ·
       rw [if_neg c25] at H
       exact absurd H (by simp)
     ·
      rw [if_neg c24] at H
      exact absurd H (by simp)
    ·
     rw [if_neg c23] at H
     exact absurd H (by simp)
   ·
    rw [if_neg c22] at H
    have c22b0 := decide_eq_false c22
    (try (have c22b7 := c22b0; rw [hl5_1] at c22b7))
    (try (have c22b7 := c22b0; rw [hl6_1] at c22b7))
    (try (have c22b8 := c22b0; simp only [hl5_1, hl6_1] at c22b8))
    clear c22
    simp only [Option.some.injEq, Prod.mk.injEq] at H
    obtain ⟨rfl, rfl, rfl⟩ := H
    have hnb43 := NB191_178.out
    have hnc43 := NB178_191.out
    have hnb44 := NB191_179.out
    have hnc44 := NB179_191.out
    obtain ⟨hcz45_0, hcz45_1, hcz45_2, hfz45_0, hfz45_1, hfz45_2⟩ := cf3_ BK191.out
    have hnb46 := NB179_178.out
    have hnc46 := NB178_179.out
    obtain ⟨hcz47_0, hcz47_1, hcz47_2, hfz47_0, hfz47_1, hfz47_2⟩ := cf3_ BK179.out
    obtain ⟨Ao48, co48, eo48⟩ := Kd.R_slice HO_192002.out
    subst eo48
    go_wp2
    refine bodyPost_ret (results_cell_row rfl _ _ gb179 26 #[.int .i64 t186, .int .i64 t187, .slice Ao48 x192002_1.length co48] (0, 0) _ rfl (by (with_reducible repeat (first | refine blk_drewN ?_ _ | refine blk_drew ?_ | refine blk_alloc ?_ _)); refine blk_put (cs := #[.int .i64 t186, .int .i64 t187, .slice none 0 0]) ?_ 2 _ rfl; (with_reducible repeat (first | refine blk_drewN ?_ _ | refine blk_drew ?_ | refine blk_alloc ?_ _)); refine blk_put (cs := #[.int .i64 t186, .int .i64 0, .slice none 0 0]) ?_ 1 _ rfl; (with_reducible repeat (first | refine blk_drewN ?_ _ | refine blk_drew ?_ | refine blk_alloc ?_ _)); refine blk_put (cs := #[.int .i64 0, .int .i64 0, .slice none 0 0]) ?_ 0 _ rfl; (with_reducible repeat (first | refine blk_drewN ?_ _ | refine blk_drew ?_ | refine blk_alloc ?_ _)); exact BK179.out) Try.underlying26 rfl (by kernel_rfl)) rfl ?_
    exact ⟨_, te_, by (with_reducible repeat (first | apply Kd.R_alloc | apply Kd.R_drewN | apply Kd.R_drew)); exact Kd.R_mono (Kd.R_far (p := ⟨gb179, 2, none⟩) (Kd.R_far (p := ⟨gb179, 1, none⟩) (Kd.R_far (p := ⟨gb179, 0, none⟩) (Kd.R_types HO_192002.out BK179.out (by decide)) (fun _ hk => hk.2) (.int .i64 t186)) (fun _ hk => hk.2) (.int .i64 t187)) (fun _ hk => hk.2) (.slice Ao48 x192002_1.length co48)) (fun _ hk => trivial), tb_⟩

/-! ### laws_toIntS: function 53 -/
def laws_toIntS.l0 : Nat → List Int → List Int → Int → Option (List Int)
 | 0, _, _, _ => none
 | k + 1, x0, x3, x4 => if x4 < (x0.length : Int) then (if 0 ≤ x4 then (if x4 < (x3.length : Int) then (laws_toIntS.l0 k x0 (x3.set (x4 : Int).toNat (rd x0 x4)) (wrap64 (x4 + 1))) else (none)) else (none)) else (some x3)
def laws_toIntS.f (k : Nat) (l0 : List Int) : Option (List Int) := if 0 ≤ (l0.length : Int) then (if ((l0.length : Int) : Int).toNat ≤ 35184372088832 then (laws_toIntS.l0 k l0 (List.replicate ((l0.length : Int) : Int).toNat 0) 0) else (none)) else (none)
theorem laws_toIntS.mono_l : ∀ k, (∀ y0 y1 y2, LeO (laws_toIntS.l0 k y0 y1 y2) (laws_toIntS.l0 (k + 1) y0 y1 y2))
 | 0 => fun _ _ _ r h => by simp [laws_toIntS.l0] at h
 | k + 1 => by
  have ih0 := laws_toIntS.mono_l k
  ·
   intro y0 y1 y2
   unfold laws_toIntS.l0
   repeat' first | (with_reducible first | exact ih0 _ _ _ | exact LeO.refl _ | exact LeO.none _ | refine LeO.ite ?_ ?_ | refine LeO.bind ?_ (fun _ => ?_)) | exact ih0 _ _ _ | exact LeO.none _ | refine LeO.ite ?_ ?_ | refine LeO.bind ?_ (fun _ => ?_)
theorem laws_toIntS.mono : ∀ a0 k, LeO (laws_toIntS.f k a0) (laws_toIntS.f (k + 1) a0) := by
 intro a0 k
 have ih0 := laws_toIntS.mono_l k
 unfold laws_toIntS.f
 repeat' first | (with_reducible first | exact ih0 _ _ _ | exact LeO.refl _ | exact LeO.none _ | refine LeO.ite ?_ ?_ | refine LeO.bind ?_ (fun _ => ?_)) | exact ih0 _ _ _ | exact LeO.none _ | refine LeO.ite ?_ ?_ | refine LeO.bind ?_ (fun _ => ?_)
theorem laws_toIntS.calls (k : Nat) (A0 : Option Addr) (c0 : Nat) (l0 : List Int) (r : List Int) (w : World) (hr0 : Kd.C (Kd.int .i64) w A0 l0.length l0) (hc0 : l0.length ≤ c0) (h : laws_toIntS.f k l0 = some r) :
  Calls Try.prog 53 #[.slice A0 l0.length c0] w fun e w' => ∃ v0_ : Value, e = .returned (v0_) ∧ Kd.R (Kd.int .i64) 3 w' w.heap.size (fun _ => True) v0_ r ∧ Below w.heap.size w w' := by
 have HR0 := A_ hr0
 have HC0 := A_ hc0
 clear hr0 hc0
 have HB := A_ (Below.refl w.heap.size w)
 have H : (if 0 ≤ (l0.length : Int) then (if ((l0.length : Int) : Int).toNat ≤ 35184372088832 then (laws_toIntS.l0 k l0 (List.replicate ((l0.length : Int) : Int).toNat 0) 0) else (none)) else (none)) = some r := h
 clear h
 by_cases c2 : 0 ≤ (l0.length : Int)
 ·
  rw [if_pos c2] at H
  have c2b0 := eq_true c2
  have c2b1 := decide_eq_true c2
  clear c2
  by_cases c3 : ((l0.length : Int) : Int).toNat ≤ 35184372088832
  ·
   rw [if_pos c3] at H
   have c3b0 := eq_true c3
   have c3b1 := decide_eq_true c3
   clear c3
   obtain ⟨y221, hy221⟩ : ∃ y_ : List Int, y_ = (List.replicate ((l0.length : Int) : Int).toNat 0) := ⟨_, rfl⟩
   replace H : (laws_toIntS.l0 k l0 y221 0) = some r := ty_ hy221 H
   have Ny221 := A_ hy221
   clear hy221
   have H' := A_ H
   clear H
   go_enter Try.func53, Try.ntmps53
   go_wp2_with (first | (refine gd_ 7 ?_; refine Kd.R_make (Kd.int .i64) _ 3 rfl (N := 7) rfl 22 _ _ rfl (l0.length : Int) rfl rfl Try.underlying22 (.int .i64 0) 8 info3 rfl (by decide) (by omega) 0 (ok := fun _ => True) (okp := fun _ => True) rfl (fun _ hk => hk) trivial (od_) (Nat.le_trans (Nat.mul_le_mul_right _ (od_ : (l0.length : Int).toNat ≤ 35184372088832)) (by omega)) (Below.refl _ _) (Nat.le_refl _) ?_; intro v222 w4 ho5 hb hg_ hnew_; clear hg_ hnew_; (first | rw [← Ny221.out] at ho5 | (simp only [Int.reduceToNat] at ho5; rw [← Ny221.out] at ho5)); have HO223 := A_ (Kd.R_lower ho5 (below_size tb_)); replace HB := A_ (below_step tb_ hb); clear hb ho5))
   go_loopg [4] k (fun kq v4 w' => ∃ (x3_1 : List Int) (x4_1 : Int), v4 = .int .i64 x4_1 ∧ Aside0 (laws_toIntS.l0 kq l0 x3_1 x4_1 = some r) ∧ Aside0 (kq ≤ k) ∧ Aside0 (Kd.R (Kd.int .i64) 3 w' w.heap.size (fun _ => True) v222 x3_1) ∧ Aside0 (Below w.heap.size w w'))
   case atStart => exact ⟨(y221), (0), tf_, H', ⟨Nat.le_refl _⟩, ⟨tr_x HO223.out⟩, ⟨tb_⟩⟩
   case round =>
    clear H'
    try clear c2
    try clear c2b0
    try clear c2b1
    try clear p2
    try clear c3
    try clear c3b0
    try clear c3b1
    try clear c5
    obtain ⟨x3_1, x4_1, rfl, HA, HK1, HO_3, HB⟩ := hrel
    cases gk with
    | zero => exact absurd HA.out (by simp [laws_toIntS.l0])
    | succ k1 =>
     have H := HA.out
     clear HA
     simp only [laws_toIntS.l0] at H
     by_cases c6 : x4_1 < (l0.length : Int)
     ·
      rw [if_pos c6] at H
      have c6b0 := decide_eq_true c6
      clear c6
      by_cases c7 : 0 ≤ x4_1
      ·
       rw [if_pos c7] at H
       have c7b0 := decide_eq_true c7
       clear c7
       by_cases c8 : x4_1 < (x3_1.length : Int)
       ·
        rw [if_pos c8] at H
        have c8b0 := decide_eq_true c8
        clear c8
        obtain ⟨y225, hy225⟩ : ∃ y_ : List Int, y_ = (x3_1.set (x4_1 : Int).toNat (rd l0 x4_1)) := ⟨_, rfl⟩
        replace H : (laws_toIntS.l0 k1 l0 y225 (wrap64 (x4_1 + 1))) = some r := ty_ hy225 H
        have Ny225 := A_ hy225
        clear hy225
        have H' := A_ H
        clear H
        have p224 : 0 ≤ (x4_1 : Int) := od_
        have q224 : x4_1 < (l0.length : Int) := od_
        obtain ⟨ad224, e224, hx224_0⟩ := Kd.at_int HR0.out x4_1 p224 q224
        cases e224
        (try replace hx224_0 := (HB.out.cell (World.block_lt_of_cell? w _ hx224_0)).trans hx224_0)
        replace p224 := eq_true p224
        replace q224 := eq_true q224
        have p9 : 0 ≤ (x4_1 : Int) := od_
        have q9 : (x4_1 : Int) < ((x3_1.length : Int) : Int) := od_
        obtain ⟨go9, co9, eo9, gb9, gl9, cl9, HG9⟩ := Kd.R_form HO_3.out (by omega)
        (first | cases eo9 | (injection eo9 with ea_ en_ ec_; (first | subst ea_ | (injection ea_ with ea_; subst ea_)); subst ec_; clear en_))
        have GB9 := A_ gb9
        have GG9 := A_ HG9
        clear gb9 gl9 HG9
        obtain ⟨hx9_0, hf9_0⟩ := Kd.R_celln 0 HO_3.out (x4_1 : Int) p9 q9
        replace p9 := eq_true p9
        replace q9 := eq_true q9
        have HP10 := Kd.R_putg HO_3.out (x4_1 : Int) (rd l0 x4_1)
        go_wp2_with (first | ((with_reducible refine gate_store (t := 3) (p := 20) rfl ?_); refine store_event (t := 3) (p := 20) (v := ?vo_w11) (w1 := (wr.setCell ⟨go9, (x4_1 : Int).toNat, none⟩ (.int .i64 (rd l0 x4_1)))) ?hg ?ho ?hn ?hr ?_; (case ho => rfl); (case hg => rfl); (case hn => rfl); (case hr => first | (go_simp; done) | (go_simp; rfl)); intro w11 hw; have hg : wr.grownBy w11 (some go9) := (by rw [hw]; exact HP10.2); have hp_ : Kd.R (Kd.int .i64) 3 w11 w.heap.size (fun _ => True) (.slice (some ⟨go9, 0, none⟩) x3_1.length co9) y225 := (by rw [hw, Ny225.out]; exact HP10.1); clear HP10; replace HO_3 := A_ (hp_); replace HB := A_ ((by rw [hw]; exact below_set (HB.out) GB9.out : Below w.heap.size w w11)); clear hg hw hp_))
        go_roundg k1
        case measure => have := HK1.out; omega
        case rel => exact ⟨(y225), (wrap64 (x4_1 + 1)), tf_, H', ⟨by have := HK1.out; omega⟩, ⟨tr_x HO_3.out⟩, ⟨tb_⟩⟩
       ·
        rw [if_neg c8] at H
        exact absurd H (by simp)
      ·
       rw [if_neg c7] at H
       exact absurd H (by simp)
     ·
      rw [if_neg c6] at H
      have c6b0 := decide_eq_false c6
      clear c6
      obtain rfl := Option.some.inj H
      go_wp2
      go_ret
      exact ⟨_, te_, tr_x HO_3.out, tb_⟩
  ·
   rw [if_neg c3] at H
   exact absurd H (by simp)
 ·
  rw [if_neg c2] at H
  exact absurd H (by simp)

/-! ### laws_toBoard: function 19 -/
def laws_toBoard.f (k : Nat) (a0_0 : Int) (a0_1 : Int) (l0_2 : List Int) : Option (Int × Int × List Int) := (laws_toIntS.f k l0_2).bind fun t229 => (some (a0_0, a0_1, t229))
theorem laws_toBoard.mono : ∀ a0 a1 a2 k, LeO (laws_toBoard.f k a0 a1 a2) (laws_toBoard.f (k + 1) a0 a1 a2) := by
 intro a0 a1 a2 k
 unfold laws_toBoard.f
 repeat' first | (with_reducible first | exact laws_toIntS.mono _ _ | exact LeO.refl _ | exact LeO.none _ | refine LeO.ite ?_ ?_ | refine LeO.bind ?_ (fun _ => ?_)) | exact laws_toIntS.mono _ _ | exact LeO.none _ | refine LeO.ite ?_ ?_ | refine LeO.bind ?_ (fun _ => ?_)
theorem laws_toBoard.calls (k : Nat) (a0_0 : Int) (a0_1 : Int) (A0_2 : Option Addr) (c0_2 : Nat) (l0_2 : List Int) (r1 : Int) (r2 : Int) (r3 : List Int) (w : World) (hr0_2 : Kd.C (Kd.int .i64) w A0_2 l0_2.length l0_2) (hc0_2 : l0_2.length ≤ c0_2) (h : laws_toBoard.f k a0_0 a0_1 l0_2 = some (r1, r2, r3)) :
  Calls Try.prog 19 #[.agg #[.int .i64 a0_0, .int .i64 a0_1, .slice A0_2 l0_2.length c0_2]] w fun e w' => ∃ v2_ : Value, e = .returned (.agg #[.int .i64 r1, .int .i64 r2, v2_]) ∧ Kd.R (Kd.int .i64) 3 w' w.heap.size (fun _ => True) v2_ r3 ∧ Below w.heap.size w w' := by
 have hu24 := Try.underlying24
 have hu26 := Try.underlying26
 have HR0_2 := A_ hr0_2
 have HC0_2 := A_ hc0_2
 clear hr0_2 hc0_2
 have HB := A_ (Below.refl w.heap.size w)
 have H : ((laws_toIntS.f k l0_2).bind fun t229 => (some (a0_0, a0_1, t229))) = some (r1, r2, r3) := h
 clear h
 replace H := Option.bind_eq_some_iff.mp H
 obtain ⟨t229, A20, H⟩ := H
 replace H : (some (a0_0, a0_1, t229)) = some (r1, r2, r3) := H
 have A2 := A_ A20
 clear A20
 simp only [Option.some.injEq, Prod.mk.injEq] at H
 obtain ⟨rfl, rfl, rfl⟩ := H
 go_enter Try.func19, Try.ntmps19
 go_wp2_with (first | (refine gd_ 1 ?_; refine bx_ 1 #[.int .i64 a0_0, .int .i64 a0_1, .slice A0_2 l0_2.length c0_2] 24 ?_; intro gb226 hg w3 hbox hb; have BK226 := A_ (hbox); have GW226 := A_ ((ts_ hg : w.heap.size ≤ gb226)); have GE226 := A_ ((ts_ hg : w.heap.size ≤ gb226)); replace HB := A_ (below_step tb_ hb); clear hb hbox hg) | (refine gd_ 2 ?_; refine bx_ 2 #[.int .i64 0, .int .i64 0, .slice none 0 0] 26 ?_; intro gb227 hg w4 hbox hb; have BK227 := A_ (hbox); have GW227 := A_ ((ts_ hg : w.heap.size ≤ gb227)); have GE227 := A_ ((ts_ hg : w.heap.size ≤ gb227)); replace HB := A_ (below_step tb_ hb); have NB226_227 := A_ ((by rw [hg]; exact Nat.ne_of_lt (blk_lt (g := gb226) (o := .cells #[.int .i64 a0_0, .int .i64 a0_1, .slice A0_2 l0_2.length c0_2] 24 (0, 0)) (tk_ BK226)) : gb226 ≠ gb227)); have NB227_226 := A_ ((by rw [hg]; exact Nat.ne_of_gt (blk_lt (g := gb226) (o := .cells #[.int .i64 a0_0, .int .i64 a0_1, .slice A0_2 l0_2.length c0_2] 24 (0, 0)) (tk_ BK226)) : gb227 ≠ gb226)); replace BK226 := A_ (blk_below (g := gb226) (o := .cells #[.int .i64 a0_0, .int .i64 a0_1, .slice A0_2 l0_2.length c0_2] 24 (0, 0)) (tk_ BK226) hb); clear hb hbox hg) | (refine gd_ 3 ?_; refine bx_ 3 #[.int .i64 0, .int .i64 0, .slice none 0 0] 26 ?_; intro gb228 hg w5 hbox hb; have BK228 := A_ (hbox); have GW228 := A_ ((ts_ hg : w.heap.size ≤ gb228)); have GE228 := A_ ((ts_ hg : w.heap.size ≤ gb228)); replace HB := A_ (below_step tb_ hb); have NB226_228 := A_ ((by rw [hg]; exact Nat.ne_of_lt (blk_lt (g := gb226) (o := .cells #[.int .i64 a0_0, .int .i64 a0_1, .slice A0_2 l0_2.length c0_2] 24 (0, 0)) (tk_ BK226)) : gb226 ≠ gb228)); have NB228_226 := A_ ((by rw [hg]; exact Nat.ne_of_gt (blk_lt (g := gb226) (o := .cells #[.int .i64 a0_0, .int .i64 a0_1, .slice A0_2 l0_2.length c0_2] 24 (0, 0)) (tk_ BK226)) : gb228 ≠ gb226)); replace BK226 := A_ (blk_below (g := gb226) (o := .cells #[.int .i64 a0_0, .int .i64 a0_1, .slice A0_2 l0_2.length c0_2] 24 (0, 0)) (tk_ BK226) hb); have NB227_228 := A_ ((by rw [hg]; exact Nat.ne_of_lt (blk_lt (g := gb227) (o := .cells #[.int .i64 0, .int .i64 0, .slice none 0 0] 26 (0, 0)) (tk_ BK227)) : gb227 ≠ gb228)); have NB228_227 := A_ ((by rw [hg]; exact Nat.ne_of_gt (blk_lt (g := gb227) (o := .cells #[.int .i64 0, .int .i64 0, .slice none 0 0] 26 (0, 0)) (tk_ BK227)) : gb228 ≠ gb227)); replace BK227 := A_ (blk_below (g := gb227) (o := .cells #[.int .i64 0, .int .i64 0, .slice none 0 0] 26 (0, 0)) (tk_ BK227) hb); clear hb hbox hg; have hnb6 := NB226_227.out; have hnc6 := NB227_226.out; have hnb7 := NB226_228.out; have hnc7 := NB228_226.out; obtain ⟨hcz8_0, hcz8_1, hcz8_2, hfz8_0, hfz8_1, hfz8_2⟩ := cf3_ BK226.out; have hnb9 := NB228_227.out; have hnc9 := NB227_228.out; obtain ⟨hcz10_0, hcz10_1, hcz10_2, hfz10_0, hfz10_1, hfz10_2⟩ := cf3_ BK228.out) | (refine gc_ 53 ?_; refine goesT_ (some 12) Try.func53 #[.slice A0_2 l0_2.length c0_2] ?_; (with_reducible refine (laws_toIntS.calls k _ _ l0_2 t229 _ ?side1 ?side2 A2.out).mono ?_); (case side1 => exact Kd.C_below HR0_2.out tb_); (case side2 => exact HC0_2.out); rintro e w11 ⟨v230, rfl, ho0, hb⟩; refine ⟨_, rfl, ?_⟩; have HO231 := A_ (Kd.R_lower ho0 (below_size tb_)); replace BK226 := A_ (blk_below (g := gb226) (o := .cells #[.int .i64 a0_0, .int .i64 a0_1, .slice A0_2 l0_2.length c0_2] 24 (0, 0)) (tk_ BK226) hb); replace BK227 := A_ (blk_below (g := gb227) (o := .cells #[.int .i64 0, .int .i64 0, .slice none 0 0] 26 (0, 0)) (tk_ BK227) hb); replace BK228 := A_ (blk_below (g := gb228) (o := .cells #[.int .i64 a0_0, .int .i64 a0_1, .slice none 0 0] 26 (0, 0)) (by (with_reducible repeat (first | refine blk_drewN ?_ _ | refine blk_drew ?_ | refine blk_alloc ?_ _)); refine blk_put (cs := #[.int .i64 a0_0, .int .i64 0, .slice none 0 0]) ?_ 1 _ rfl; (with_reducible repeat (first | refine blk_drewN ?_ _ | refine blk_drew ?_ | refine blk_alloc ?_ _)); refine blk_put (cs := #[.int .i64 0, .int .i64 0, .slice none 0 0]) ?_ 0 _ rfl; (with_reducible repeat (first | refine blk_drewN ?_ _ | refine blk_drew ?_ | refine blk_alloc ?_ _)); exact BK228.out) hb); replace HB := A_ (below_step tb_ hb); (try clear hb); (try clear ho0); obtain ⟨Ao12, co12, eo12⟩ := Kd.R_slice HO231.out; subst eo12; obtain ⟨hcz13_0, hcz13_1, hcz13_2, hfz13_0, hfz13_1, hfz13_2⟩ := cf3_ BK228.out; obtain ⟨hcz14_0, hcz14_1, hcz14_2, hfz14_0, hfz14_1, hfz14_2⟩ := cf3_ BK227.out))
 refine bodyPost_ret (results_cell_row rfl _ _ gb227 26 #[.int .i64 a0_0, .int .i64 a0_1, .slice Ao12 t229.length co12] (0, 0) _ rfl (by (with_reducible repeat (first | refine blk_drewN ?_ _ | refine blk_drew ?_ | refine blk_alloc ?_ _)); refine blk_put (cs := #[.int .i64 a0_0, .int .i64 a0_1, .slice none 0 0]) ?_ 2 _ rfl; (with_reducible repeat (first | refine blk_drewN ?_ _ | refine blk_drew ?_ | refine blk_alloc ?_ _)); refine blk_put (cs := #[.int .i64 a0_0, .int .i64 0, .slice none 0 0]) ?_ 1 _ rfl; (with_reducible repeat (first | refine blk_drewN ?_ _ | refine blk_drew ?_ | refine blk_alloc ?_ _)); refine blk_put (cs := #[.int .i64 0, .int .i64 0, .slice none 0 0]) ?_ 0 _ rfl; (with_reducible repeat (first | refine blk_drewN ?_ _ | refine blk_drew ?_ | refine blk_alloc ?_ _)); refine blk_far ?_ NB227_228.out _; (with_reducible repeat (first | refine blk_drewN ?_ _ | refine blk_drew ?_ | refine blk_alloc ?_ _)); exact BK227.out) Try.underlying26 rfl (by kernel_rfl)) rfl ?_
 exact ⟨_, te_, by (with_reducible repeat (first | apply Kd.R_alloc | apply Kd.R_drewN | apply Kd.R_drew)); exact Kd.R_mono (Kd.R_far (p := ⟨gb227, 2, none⟩) (Kd.R_far (p := ⟨gb227, 1, none⟩) (Kd.R_far (p := ⟨gb227, 0, none⟩) (Kd.R_far (p := ⟨gb228, 2, none⟩) (Kd.R_types (Kd.R_types HO231.out BK228.out (by decide)) BK227.out (by decide)) (fun _ hk => hk.1.2) (.slice Ao12 t229.length co12)) (fun _ hk => hk.2) (.int .i64 a0_0)) (fun _ hk => hk.2) (.int .i64 a0_1)) (fun _ hk => hk.2) (.slice Ao12 t229.length co12)) (fun _ hk => trivial), tb_⟩

/-! ### slices_IndexFunc_int_int_203: function 203 -/
def slices_IndexFunc_int_int_203.l0 : Nat → List Int → FnT47 → Int → Int → Option (Int)
 | 0, _, _, _, _ => none
 | k + 1, x0, x1, x7, x8 => if x8 < x7 then (if 0 ≤ x8 then (if x8 < (x0.length : Int) then ((FnCall47.f (rd x0 x8) x1).bind fun t234 => (if t234 = true then (some x8) else (slices_IndexFunc_int_int_203.l0 k x0 x1 x7 (wrap64 (x8 + 1))))) else (none)) else (none)) else (some (-1))
def slices_IndexFunc_int_int_203.f (k : Nat) (l0 : List Int) (a1 : FnT47) : Option (Int) := slices_IndexFunc_int_int_203.l0 k l0 a1 (l0.length : Int) 0
theorem slices_IndexFunc_int_int_203.mono_l : ∀ k, (∀ y0 y1 y2 y3, LeO (slices_IndexFunc_int_int_203.l0 k y0 y1 y2 y3) (slices_IndexFunc_int_int_203.l0 (k + 1) y0 y1 y2 y3))
 | 0 => fun _ _ _ _ r h => by simp [slices_IndexFunc_int_int_203.l0] at h
 | k + 1 => by
  have ih0 := slices_IndexFunc_int_int_203.mono_l k
  ·
   intro y0 y1 y2 y3
   unfold slices_IndexFunc_int_int_203.l0
   repeat' first | (with_reducible first | exact ih0 _ _ _ _ | exact LeO.refl _ | exact LeO.none _ | refine LeO.ite ?_ ?_ | refine LeO.bind ?_ (fun _ => ?_)) | exact ih0 _ _ _ _ | exact LeO.none _ | refine LeO.ite ?_ ?_ | refine LeO.bind ?_ (fun _ => ?_)
theorem slices_IndexFunc_int_int_203.mono : ∀ a0 a1 k, LeO (slices_IndexFunc_int_int_203.f k a0 a1) (slices_IndexFunc_int_int_203.f (k + 1) a0 a1) := by
 intro a0 a1 k
 have ih0 := slices_IndexFunc_int_int_203.mono_l k
 unfold slices_IndexFunc_int_int_203.f
 repeat' first | (with_reducible first | exact ih0 _ _ _ _ | exact LeO.refl _ | exact LeO.none _ | refine LeO.ite ?_ ?_ | refine LeO.bind ?_ (fun _ => ?_)) | exact ih0 _ _ _ _ | exact LeO.none _ | refine LeO.ite ?_ ?_ | refine LeO.bind ?_ (fun _ => ?_)
theorem slices_IndexFunc_int_int_203.calls (k : Nat) (A0 : Option Addr) (c0 : Nat) (l0 : List Int) (v1 : Value) (a1 : FnT47) (r : Int) (w : World) (hr0 : Kd.C (Kd.int .i64) w A0 l0.length l0) (hc0 : l0.length ≤ c0) (hF1 : FnOk47 w v1 a1) (h : slices_IndexFunc_int_int_203.f k l0 a1 = some r) :
  Calls Try.prog 203 #[.slice A0 l0.length c0, v1] w fun e w' => e = .returned (.int .i64 r) ∧ Below w.heap.size w w' := by
 have HR0 := A_ hr0
 have HC0 := A_ hc0
 clear hr0 hc0
 have HF1 := A_ hF1
 clear hF1
 have HB := A_ (Below.refl w.heap.size w)
 have H : (slices_IndexFunc_int_int_203.l0 k l0 a1 (l0.length : Int) 0) = some r := h
 clear h
 have H' := A_ H
 clear H
 go_enter Try.func203, Try.ntmps203
 go_wp2
 go_loopg [8] k (fun kq v8 w' => ∃ (x8_1 : Int), v8 = .int .i64 x8_1 ∧ Aside0 (slices_IndexFunc_int_int_203.l0 kq l0 a1 (l0.length : Int) x8_1 = some r) ∧ Aside0 (kq ≤ k) ∧ Aside0 (Below w.heap.size w w'))
 case atStart => exact ⟨(0), tf_, H', ⟨Nat.le_refl _⟩, ⟨tb_⟩⟩
 case round =>
  clear H'
  try clear c2
  try clear p2
  obtain ⟨x8_1, rfl, HA, HK1, HB⟩ := hrel
  cases gk with
  | zero => exact absurd HA.out (by simp [slices_IndexFunc_int_int_203.l0])
  | succ k1 =>
   have H := HA.out
   clear HA
   simp only [slices_IndexFunc_int_int_203.l0] at H
   by_cases c3 : x8_1 < (l0.length : Int)
   ·
    rw [if_pos c3] at H
    have c3b0 := decide_eq_true c3
    clear c3
    by_cases c4 : 0 ≤ x8_1
    ·
     rw [if_pos c4] at H
     have c4b0 := decide_eq_true c4
     clear c4
     by_cases c5 : x8_1 < (l0.length : Int)
     ·
      rw [if_pos c5] at H
      have c5b0 := decide_eq_true c5
      clear c5
      replace H := Option.bind_eq_some_iff.mp H
      obtain ⟨t234, A60, H⟩ := H
      replace H : (if t234 = true then (some x8_1) else (slices_IndexFunc_int_int_203.l0 k1 l0 a1 (l0.length : Int) (wrap64 (x8_1 + 1)))) = some r := H
      have A6 := A_ A60
      clear A60
      by_cases c7 : t234 = true
      ·
       subst c7
       have H1 : (some x8_1) = some r := by rw [if_pos rfl] at H; exact H
       clear H
       have H := H1
       clear H1
       obtain rfl := Option.some.inj H
       have p233 : 0 ≤ (x8_1 : Int) := od_
       have q233 : x8_1 < (l0.length : Int) := od_
       obtain ⟨ad233, e233, hx233_0⟩ := Kd.at_int HR0.out x8_1 p233 q233
       cases e233
       (try replace hx233_0 := (HB.out.cell (World.block_lt_of_cell? w _ hx233_0)).trans hx233_0)
       replace p233 := eq_true p233
       replace q233 := eq_true q233
       go_wp2_with (first | ((with_reducible refine Fn.gate_value rfl ?_); refine Fn.goesVw_ (some 16) rfl (by first | rfl | (simp [Region.wanted, yielded]; done)) v1 rfl #[.int .i64 (rd l0 x8_1)] rfl ta_ ?_; (with_reducible refine (FnCall47.calls (rd l0 x8_1) v1 a1 true _ ?side1 A6.out).mono ?_); (case side1 => exact FnOk47.mono HF1.out tb_); rintro e w8 ⟨rfl, hb⟩; refine ⟨_, rfl, ?_⟩; replace HB := A_ (below_step tb_ hb); (try clear hb)))
       go_ret
       exact ⟨te_, tb_⟩
      ·
       replace c7 := Bool.eq_false_iff.mpr c7
       subst c7
       have H1 : (slices_IndexFunc_int_int_203.l0 k1 l0 a1 (l0.length : Int) (wrap64 (x8_1 + 1))) = some r := by rw [if_neg (show ¬ (false = true) by decide)] at H; exact H
       clear H
       have H := H1
       clear H1
       have H' := A_ H
       clear H
       have p233 : 0 ≤ (x8_1 : Int) := od_
       have q233 : x8_1 < (l0.length : Int) := od_
       obtain ⟨ad233, e233, hx233_0⟩ := Kd.at_int HR0.out x8_1 p233 q233
       cases e233
       (try replace hx233_0 := (HB.out.cell (World.block_lt_of_cell? w _ hx233_0)).trans hx233_0)
       replace p233 := eq_true p233
       replace q233 := eq_true q233
       go_wp2_with (first | ((with_reducible refine Fn.gate_value rfl ?_); refine Fn.goesVw_ (some 16) rfl (by first | rfl | (simp [Region.wanted, yielded]; done)) v1 rfl #[.int .i64 (rd l0 x8_1)] rfl ta_ ?_; (with_reducible refine (FnCall47.calls (rd l0 x8_1) v1 a1 false _ ?side1 A6.out).mono ?_); (case side1 => exact FnOk47.mono HF1.out tb_); rintro e w9 ⟨rfl, hb⟩; refine ⟨_, rfl, ?_⟩; replace HB := A_ (below_step tb_ hb); (try clear hb)))
       go_roundg k1
       case measure => have := HK1.out; omega
       case rel => exact ⟨(wrap64 (x8_1 + 1)), tf_, H', ⟨by have := HK1.out; omega⟩, ⟨tb_⟩⟩
     ·
      rw [if_neg c5] at H
      exact absurd H (by simp)
    ·
     rw [if_neg c4] at H
     exact absurd H (by simp)
   ·
    rw [if_neg c3] at H
    have c3b0 := decide_eq_false c3
    clear c3
    obtain rfl := Option.some.inj H
    go_wp2
    go_ret
    exact ⟨te_, tb_⟩

/-! ### slices_ContainsFunc_int_int_151: function 151 -/
def slices_ContainsFunc_int_int_151.f (k : Nat) (l0 : List Int) (a1 : FnT47) : Option (Bool) := (slices_IndexFunc_int_int_203.f k l0 a1).bind fun t235 => (some (decide (t235 ≥ 0)))
theorem slices_ContainsFunc_int_int_151.mono : ∀ a0 a1 k, LeO (slices_ContainsFunc_int_int_151.f k a0 a1) (slices_ContainsFunc_int_int_151.f (k + 1) a0 a1) := by
 intro a0 a1 k
 unfold slices_ContainsFunc_int_int_151.f
 repeat' first | (with_reducible first | exact slices_IndexFunc_int_int_203.mono _ _ _ | exact LeO.refl _ | exact LeO.none _ | refine LeO.ite ?_ ?_ | refine LeO.bind ?_ (fun _ => ?_)) | exact slices_IndexFunc_int_int_203.mono _ _ _ | exact LeO.none _ | refine LeO.ite ?_ ?_ | refine LeO.bind ?_ (fun _ => ?_)
theorem slices_ContainsFunc_int_int_151.calls (k : Nat) (A0 : Option Addr) (c0 : Nat) (l0 : List Int) (v1 : Value) (a1 : FnT47) (r : Bool) (w : World) (hr0 : Kd.C (Kd.int .i64) w A0 l0.length l0) (hc0 : l0.length ≤ c0) (hF1 : FnOk47 w v1 a1) (h : slices_ContainsFunc_int_int_151.f k l0 a1 = some r) :
  Calls Try.prog 151 #[.slice A0 l0.length c0, v1] w fun e w' => e = .returned (.bool r) ∧ Below w.heap.size w w' := by
 have HR0 := A_ hr0
 have HC0 := A_ hc0
 clear hr0 hc0
 have HF1 := A_ hF1
 clear hF1
 have HB := A_ (Below.refl w.heap.size w)
 have H : ((slices_IndexFunc_int_int_203.f k l0 a1).bind fun t235 => (some (decide (t235 ≥ 0)))) = some r := h
 clear h
 replace H := Option.bind_eq_some_iff.mp H
 obtain ⟨t235, A30, H⟩ := H
 replace H : (some (decide (t235 ≥ 0))) = some r := H
 have A3 := A_ A30
 clear A30
 obtain rfl := Option.some.inj H
 go_enter Try.func151, Try.ntmps151
 go_wp2_with (first | (refine gc_ 203 ?_; refine goesT_ (some 7) Try.func203 #[.slice A0 l0.length c0, v1] ?_; (with_reducible refine (slices_IndexFunc_int_int_203.calls k _ _ l0 v1 a1 t235 _ ?side1 ?side2 ?side3 A3.out).mono ?_); (case side1 => exact tc0_ HR0.out); (case side2 => exact HC0.out); (case side3 => exact FnOk47.mono HF1.out tb_); rintro e w4 ⟨rfl, hb⟩; refine ⟨_, rfl, ?_⟩; replace HB := A_ (below_step tb_ hb); (try clear hb)))
 go_ret
 exact ⟨te_, tb_⟩

/-! ### impl_isSide: function 172 -/
def impl_isSide.f (a0 : Int) : Option (Bool) := (impl_within.f a0 1 6).bind fun t236 => (some t236)
theorem impl_isSide.calls (a0 : Int) (r : Bool) (w : World) (h : impl_isSide.f a0 = some r) :
  Calls Try.prog 172 #[.int .i64 a0] w fun e w' => e = .returned (.bool r) ∧ Drawn0 w w' := by
 have H : ((impl_within.f a0 1 6).bind fun t236 => (some t236)) = some r := h
 clear h
 replace H := Option.bind_eq_some_iff.mp H
 obtain ⟨t236, A20, H⟩ := H
 replace H : (some t236) = some r := H
 have A2 := A_ A20
 clear A20
 obtain rfl := Option.some.inj H
 go_enter Try.func172, Try.ntmps172
 go_wp2_with (first | (refine gc_ 113 ?_; refine goesT_ (some 4) Try.func113 #[.int .i64 a0, .int .i64 1, .int .i64 6] ?_; (with_reducible refine (impl_within.calls a0 1 6 t236 _ A2.out).mono ?_); rintro e w' ⟨rfl, ⟨nd, rfl⟩⟩; refine ⟨_, rfl, ?_⟩))
 go_ret
 exact ⟨tf_, dr_⟩

/-! ### impl_IsBoard: function 93 -/
def boardB (rows cols : Int) (cells : List Int) : Bool := decide (1 ≤ rows ∧ rows ≤ 6) && decide (1 ≤ cols ∧ cols ≤ 6) && decide ((cells.length : Int) = rows) && cells.all fun m => decide (0 ≤ m ∧ m ≤ 2 ^ cols.toNat - 1)
def impl_IsBoard.f (a0_0 : Int) (a0_1 : Int) (l0_2 : List Int) : Option (Bool) := some (boardB a0_0 a0_1 l0_2)
theorem impl_IsBoard.closure (m cols : Int) (g : Nat) (w : World) (hc : w.cell? ⟨g, 1, none⟩ = some (.int .i64 cols)) (h0 : 1 ≤ cols) (h1 : cols ≤ 6) :
  Calls Try.prog 173 #[.int .i64 m, .pointer (some ⟨g, 0, none⟩)] w fun e w' => e = .returned (.bool (!(decide (0 ≤ m ∧ m ≤ 2 ^ cols.toNat - 1)))) ∧ w' = w := by
 have hcols : cols = 1 ∨ cols = 2 ∨ cols = 3 ∨ cols = 4 ∨ cols = 5 ∨ cols = 6 := by omega
 by_cases hm : 0 ≤ m
 ·
  rcases hcols with rfl | rfl | rfl | rfl | rfl | rfl
  all_goals
   go_enter Try.func173, Try.ntmps173
   go_wp2
   go_ret
   exact ⟨by simp [hm] <;> omega, rfl⟩
 ·
  rcases hcols with rfl | rfl | rfl | rfl | rfl | rfl
  all_goals
   go_enter Try.func173, Try.ntmps173
   go_wp2
   go_ret
   exact ⟨by simp [hm], rfl⟩
theorem impl_IsBoard.index (l : List Int) (P : Int → Bool) (hb : l.length ≤ 1152921504606846976) : ∀ (d i : Nat) (k : Nat), l.length - i = d → i ≤ l.length → d < k →
  ∃ r : Int, slices_IndexFunc_int_int_203.l0 k l (fun x => some (P x)) (l.length : Int) (i : Int) = some r ∧ decide (r ≥ 0) = (l.drop i).any P := by
 intro d
 induction d with
 | zero =>
  intro i k hd hi hk
  obtain ⟨k, rfl⟩ : ∃ m, k = m + 1 := ⟨k - 1, by omega⟩
  exact ⟨-1, by rw [slices_IndexFunc_int_int_203.l0, if_neg (by omega)], by rw [List.drop_eq_nil_of_le (by omega)]; rfl⟩
 | succ d ih =>
  intro i k hd hi hk
  obtain ⟨k, rfl⟩ : ∃ m, k = m + 1 := ⟨k - 1, by omega⟩
  have h1 : i < l.length := by omega
  have hr : rd l (i : Int) = l[i] := by unfold rd; simp [List.getD_eq_getElem?_getD, List.getElem?_eq_getElem h1]
  rw [List.drop_eq_getElem_cons h1, List.any_cons]
  by_cases hp : P l[i] = true
  ·
   refine ⟨i, ?_, ?_⟩
   ·
    rw [slices_IndexFunc_int_int_203.l0, if_pos (by omega), if_pos (by omega), if_pos (by omega), hr]
    simp only [FnCall47.f, hp, Option.bind_some, if_true]
   ·
    rw [hp, Bool.true_or]; simp
  ·
   obtain ⟨r, h2, h3⟩ := ih (i + 1) k (by omega) (by omega) (by omega)
   refine ⟨r, ?_, ?_⟩
   ·
    rw [slices_IndexFunc_int_int_203.l0, if_pos (by omega), if_pos (by omega), if_pos (by omega), hr]
    simp only [FnCall47.f, hp, Option.bind_some]
    rw [if_neg (by simp), show wrap64 ((i : Int) + 1) = ((i + 1 : Nat) : Int) by unfold wrap64; omega]
    exact h2
   ·
    rw [h3]; simp only [Bool.not_eq_true] at hp; rw [hp, Bool.false_or]
theorem impl_IsBoard.contains (l : List Int) (P : Int → Bool) (hb : l.length ≤ 1152921504606846976) : slices_ContainsFunc_int_int_151.f (l.length + 1) l (fun x => some (P x)) = some (l.any P) := by
 obtain ⟨r, h1, h2⟩ := impl_IsBoard.index l P hb l.length 0 (l.length + 1) (by omega) (by omega) (by omega)
 simp only [slices_ContainsFunc_int_int_151.f, slices_IndexFunc_int_int_203.f]
 rw [show (0 : Int) = ((0 : Nat) : Int) from rfl, h1, Option.bind_some, show (((0 : Nat) : Int)) = 0 from rfl, h2]
 simp
theorem impl_IsBoard.calls (a0_0 : Int) (a0_1 : Int) (A0_2 : Option Addr) (c0_2 : Nat) (l0_2 : List Int) (r : Bool) (w : World) (hr0_2 : Kd.C (Kd.int .i64) w A0_2 l0_2.length l0_2) (hc0_2 : l0_2.length ≤ c0_2) (h : impl_IsBoard.f a0_0 a0_1 l0_2 = some r) :
  Calls Try.prog 93 #[.agg #[.int .i64 a0_0, .int .i64 a0_1, .slice A0_2 l0_2.length c0_2]] w fun e w' => e = .returned (.bool r) ∧ Below w.heap.size w w' := by
 obtain rfl := Option.some.inj h
 clear h
 have hu := Try.underlying26
 have HR := A_ hr0_2
 have HC := A_ hc0_2
 clear hr0_2 hc0_2
 have HB := A_ (Below.refl w.heap.size w)
 have hmf_ : ∀ (fn : Go.Fn) (first cap : Array Value) (w : World), (Instr.makeFunc fn first cap).run Try.prog w = .ok (.func fn first cap) w := fun _ _ _ _ => rfl
 have early : boardB a0_0 a0_1 l0_2 = false → (1 ≤ a0_0 ∧ a0_0 ≤ 6 → 1 ≤ a0_1 ∧ a0_1 ≤ 6 → ¬ (l0_2.length : Int) = a0_0) →
   Calls Try.prog 93 #[.agg #[.int .i64 a0_0, .int .i64 a0_1, .slice A0_2 l0_2.length c0_2]] w fun e w' => e = .returned (.bool (boardB a0_0 a0_1 l0_2)) ∧ Below w.heap.size w w' := by
  intro e hno
  have E := A_ e
  clear e
  by_cases h1 : 1 ≤ a0_0
  ·
   by_cases h2 : a0_0 ≤ 6
   ·
    by_cases h3 : 1 ≤ a0_1
    ·
     by_cases h4 : a0_1 ≤ 6
     ·
      have h5 : ((l0_2.length : Int) != a0_0) = true := bne_iff_ne.mpr (hno ⟨h1, h2⟩ ⟨h3, h4⟩)
      clear hno
      go_enter Try.func93, Try.ntmps93
      go_wp2
      go_ret
      exact ⟨by rw [E.out]; rfl, below_alloc (Below.refl _ _) _⟩
     ·
      clear hno
      go_enter Try.func93, Try.ntmps93
      go_wp2
      go_ret
      exact ⟨by rw [E.out]; rfl, below_alloc (Below.refl _ _) _⟩
    ·
     clear hno
     go_enter Try.func93, Try.ntmps93
     go_wp2
     go_ret
     exact ⟨by rw [E.out]; rfl, below_alloc (Below.refl _ _) _⟩
   ·
    clear hno
    go_enter Try.func93, Try.ntmps93
    go_wp2
    go_ret
    exact ⟨by rw [E.out]; rfl, below_alloc (Below.refl _ _) _⟩
  ·
   clear hno
   go_enter Try.func93, Try.ntmps93
   go_wp2
   go_ret
   exact ⟨by rw [E.out]; rfl, below_alloc (Below.refl _ _) _⟩
 by_cases hall : (1 ≤ a0_0 ∧ a0_0 ≤ 6) ∧ (1 ≤ a0_1 ∧ a0_1 ≤ 6) ∧ (l0_2.length : Int) = a0_0
 ·
  obtain ⟨⟨h1, h2⟩, ⟨h3, h4⟩, h5⟩ := hall
  have e : boardB a0_0 a0_1 l0_2 = l0_2.all (fun m => decide (0 ≤ m ∧ m ≤ 2 ^ a0_1.toNat - 1)) := by simp [boardB, h1, h2, h3, h4, h5]
  have e2 : (l0_2.any fun m => !(decide (0 ≤ m ∧ m ≤ 2 ^ a0_1.toNat - 1))) = !(boardB a0_0 a0_1 l0_2) := by rw [e, List.not_all_eq_any_not]
  have hlen : l0_2.length ≤ 1152921504606846976 := by omega
  have HN : Aside0 (slices_ContainsFunc_int_int_151.f (l0_2.length + 1) l0_2 (fun m => some (!(decide (0 ≤ m ∧ m ≤ 2 ^ a0_1.toNat - 1)))) = some (!(boardB a0_0 a0_1 l0_2))) := ⟨(impl_IsBoard.contains l0_2 _ hlen).trans (by rw [e2])⟩
  clear e e2 early
  have h5b : ((l0_2.length : Int) != a0_0) = false := bne_eq_false_iff_eq.mpr h5
  have H3 := A_ h3
  have H4 := A_ h4
  have HF : ∀ W : World, W.cell? ⟨w.heap.size, 1, none⟩ = some (.int .i64 a0_1) → FnOk47 W (.func (.func 173) #[] #[.pointer (some ⟨w.heap.size, 0, none⟩)]) (fun m => some (!(decide (0 ≤ m ∧ m ≤ 2 ^ a0_1.toNat - 1)))) := by
   intro W hc m r W1 h hB
   obtain rfl := Option.some.inj h
   refine ⟨173, _, _, rfl, Try.func173, by kernel_rfl, rfl, ?_⟩
   refine (impl_IsBoard.closure m a0_1 w.heap.size W1 ((hB.cell (World.block_lt_of_cell? W _ hc)).trans hc) H3.out H4.out).mono ?_
   rintro e w' ⟨he, rfl⟩
   exact ⟨he, Below.refl _ _⟩
  have HF' := A_ HF
  clear HF h5 hlen
  have S1 : Aside0 (impl_isSide.f a0_0 = some true) := ⟨by unfold impl_isSide.f impl_within.f; rw [if_pos h1]; simpa using h2⟩
  have S2 : Aside0 (impl_isSide.f a0_1 = some true) := ⟨by unfold impl_isSide.f impl_within.f; rw [if_pos h3]; simpa using h4⟩
  go_enter Try.func93, Try.ntmps93
  go_wp2_with (first | (go_at_call 172; (with_reducible refine (impl_isSide.calls a0_0 true _ S1.out).mono ?_); rintro e w' ⟨rfl, ⟨nd, rfl⟩⟩) | (go_at_call 172; (with_reducible refine (impl_isSide.calls a0_1 true _ S2.out).mono ?_); rintro e w' ⟨rfl, ⟨nd, rfl⟩⟩) | (go_at_call 151; refine (slices_ContainsFunc_int_int_151.calls (l0_2.length + 1) _ _ l0_2 (.func (.func 173) #[] #[.pointer (some ⟨w.heap.size, 0, none⟩)]) (fun m => some (!(decide (0 ≤ m ∧ m ≤ 2 ^ a0_1.toNat - 1)))) _ _ ?s1 HC.out (HF'.out _ (by go_simp)) HN.out).mono ?_; (case s1 => exact tc0_ HR.out); rintro e w1 ⟨rfl, hb⟩; have HB1 := A_ hb; clear hb))
  go_ret
  exact ⟨by simp, below_then (by repeat (first | exact Below.refl _ _ | apply pw_below_drewN | apply below_alloc)) (by simp) HB1.out⟩
 ·
  refine early ?_ ?_
  ·
   simp only [boardB, Bool.and_eq_false_iff, decide_eq_false_iff_not]
   by_cases ha : 1 ≤ a0_0 ∧ a0_0 ≤ 6
   ·
    by_cases hb : 1 ≤ a0_1 ∧ a0_1 ≤ 6
    ·
     exact .inl (.inr (fun hc => hall ⟨ha, hb, hc⟩))
    ·
     exact .inl (.inl (.inr hb))
   ·
    exact .inl (.inl (.inl ha))
  ·
   exact fun ha hb hc => hall ⟨ha, hb, hc⟩

/-! ### laws_eqIntS: function 28 -/
def laws_eqIntS.l0 : Nat → List Int → List Int → Int → Option (Bool)
 | 0, _, _, _ => none
 | k + 1, x0, x1, x5 => if x5 < (x0.length : Int) then (if 0 ≤ x5 then (if x5 < (x1.length : Int) then (if (rd x0 x5) = (rd x1 x5) then (laws_eqIntS.l0 k x0 x1 (wrap64 (x5 + 1))) else (some false)) else (none)) else (none)) else (some true)
def laws_eqIntS.f (k : Nat) (l0 : List Int) (l1 : List Int) : Option (Bool) := if (l0.length : Int) = (l1.length : Int) then (laws_eqIntS.l0 k l0 l1 0) else (some false)
theorem laws_eqIntS.mono_l : ∀ k, (∀ y0 y1 y2, LeO (laws_eqIntS.l0 k y0 y1 y2) (laws_eqIntS.l0 (k + 1) y0 y1 y2))
 | 0 => fun _ _ _ r h => by simp [laws_eqIntS.l0] at h
 | k + 1 => by
  have ih0 := laws_eqIntS.mono_l k
  ·
   intro y0 y1 y2
   unfold laws_eqIntS.l0
   repeat' first | (with_reducible first | exact ih0 _ _ _ | exact LeO.refl _ | exact LeO.none _ | refine LeO.ite ?_ ?_ | refine LeO.bind ?_ (fun _ => ?_)) | exact ih0 _ _ _ | exact LeO.none _ | refine LeO.ite ?_ ?_ | refine LeO.bind ?_ (fun _ => ?_)
theorem laws_eqIntS.mono : ∀ a0 a1 k, LeO (laws_eqIntS.f k a0 a1) (laws_eqIntS.f (k + 1) a0 a1) := by
 intro a0 a1 k
 have ih0 := laws_eqIntS.mono_l k
 unfold laws_eqIntS.f
 repeat' first | (with_reducible first | exact ih0 _ _ _ | exact LeO.refl _ | exact LeO.none _ | refine LeO.ite ?_ ?_ | refine LeO.bind ?_ (fun _ => ?_)) | exact ih0 _ _ _ | exact LeO.none _ | refine LeO.ite ?_ ?_ | refine LeO.bind ?_ (fun _ => ?_)
theorem laws_eqIntS.calls (k : Nat) (A0 : Option Addr) (c0 : Nat) (l0 : List Int) (A1 : Option Addr) (c1 : Nat) (l1 : List Int) (r : Bool) (w : World) (hr0 : Kd.C (Kd.int .i64) w A0 l0.length l0) (hc0 : l0.length ≤ c0) (hr1 : Kd.C (Kd.int .i64) w A1 l1.length l1) (hc1 : l1.length ≤ c1) (h : laws_eqIntS.f k l0 l1 = some r) :
  Calls Try.prog 28 #[.slice A0 l0.length c0, .slice A1 l1.length c1] w fun e w' => e = .returned (.bool r) ∧ Drawn0 w w' := by
 have HR0 := A_ hr0
 have HC0 := A_ hc0
 clear hr0 hc0
 have HR1 := A_ hr1
 have HC1 := A_ hc1
 clear hr1 hc1
 have H : (if (l0.length : Int) = (l1.length : Int) then (laws_eqIntS.l0 k l0 l1 0) else (some false)) = some r := h
 clear h
 by_cases c3 : (l0.length : Int) = (l1.length : Int)
 ·
  rw [if_pos c3] at H
  have c3b0 : ((l0.length : Int) == (l1.length : Int)) = true := beq_iff_eq.mpr c3
  have c3b1 : ((l0.length : Int) != (l1.length : Int)) = false := bne_eq_false_iff_eq.mpr c3
  have c3b2 : (l0.length == l1.length) = true := by first | simpa using c3 | (simp at c3 ⊢; omega)
  clear c3
  have H' := A_ H
  clear H
  go_enter Try.func28, Try.ntmps28
  go_wp2
  repeat (go_quiet (fail); try go_wp2)
  go_loopg [5] k (fun kq v5 w' => ∃ (x5_1 : Int), v5 = .int .i64 x5_1 ∧ Aside0 (laws_eqIntS.l0 kq l0 l1 x5_1 = some r) ∧ Aside0 (kq ≤ k) ∧ Drawn0 w w')
  case atStart => exact ⟨(0), tf_, H', ⟨Nat.le_refl _⟩, dr_⟩
  case round =>
   clear H'
   try clear c1
   try clear c2
   try clear p2
   try clear c3
   try clear c3b0
   try clear c3b1
   try clear c3b2
   obtain ⟨x5_1, rfl, HA, HK1, ⟨m1, rfl⟩⟩ := hrel
   cases gk with
   | zero => exact absurd HA.out (by simp [laws_eqIntS.l0])
   | succ k1 =>
    have H := HA.out
    clear HA
    simp only [laws_eqIntS.l0] at H
    by_cases c4 : x5_1 < (l0.length : Int)
    ·
     rw [if_pos c4] at H
     have c4b0 := decide_eq_true c4
     clear c4
     by_cases c5 : 0 ≤ x5_1
     ·
      rw [if_pos c5] at H
      have c5b0 := decide_eq_true c5
      clear c5
      by_cases c6 : x5_1 < (l1.length : Int)
      ·
       rw [if_pos c6] at H
       have c6b0 := decide_eq_true c6
       clear c6
       by_cases c7 : (rd l0 x5_1) = (rd l1 x5_1)
       ·
        rw [if_pos c7] at H
        have c7b0 : ((rd l0 x5_1) == (rd l1 x5_1)) = true := beq_iff_eq.mpr c7
        have c7b1 : ((rd l0 x5_1) != (rd l1 x5_1)) = false := bne_eq_false_iff_eq.mpr c7
        clear c7
        have H' := A_ H
        clear H
        have p430 : 0 ≤ (x5_1 : Int) := od_
        have q430 : x5_1 < (l0.length : Int) := od_
        obtain ⟨ad430, e430, hx430_0⟩ := Kd.at_int HR0.out x5_1 p430 q430
        cases e430
        replace p430 := eq_true p430
        replace q430 := eq_true q430
        have p431 : 0 ≤ (x5_1 : Int) := od_
        have q431 : x5_1 < (l1.length : Int) := od_
        obtain ⟨ad431, e431, hx431_0⟩ := Kd.at_int HR1.out x5_1 p431 q431
        cases e431
        replace p431 := eq_true p431
        replace q431 := eq_true q431
        go_wp2
        repeat (go_quiet (fail); try go_wp2)
        go_roundg k1
        case measure => have := HK1.out; omega
        case rel => exact ⟨(wrap64 (x5_1 + 1)), tf_, H', ⟨by have := HK1.out; omega⟩, dr_⟩
       ·
        rw [if_neg c7] at H
        have c7b0 : ((rd l0 x5_1) == (rd l1 x5_1)) = false := beq_eq_false_iff_ne.mpr c7
        have c7b1 : ((rd l0 x5_1) != (rd l1 x5_1)) = true := bne_iff_ne.mpr c7
        obtain rfl := Option.some.inj H
        have p430 : 0 ≤ (x5_1 : Int) := od_
        have q430 : x5_1 < (l0.length : Int) := od_
        obtain ⟨ad430, e430, hx430_0⟩ := Kd.at_int HR0.out x5_1 p430 q430
        cases e430
        replace p430 := eq_true p430
        replace q430 := eq_true q430
        have p431 : 0 ≤ (x5_1 : Int) := od_
        have q431 : x5_1 < (l1.length : Int) := od_
        obtain ⟨ad431, e431, hx431_0⟩ := Kd.at_int HR1.out x5_1 p431 q431
        cases e431
        replace p431 := eq_true p431
        replace q431 := eq_true q431
        go_wp2
        repeat (go_quiet (fail); try go_wp2)
        go_ret
        exact ⟨tf_, dr_⟩
      ·
       rw [if_neg c6] at H
       exact absurd H (by simp)
     ·
      rw [if_neg c5] at H
      exact absurd H (by simp)
    ·
     rw [if_neg c4] at H
     have c4b0 := decide_eq_false c4
     clear c4
     obtain rfl := Option.some.inj H
     go_wp2
     repeat (go_quiet (fail); try go_wp2)
     go_ret
     exact ⟨tf_, dr_⟩
 ·
  rw [if_neg c3] at H
  have c3b0 : ((l0.length : Int) == (l1.length : Int)) = false := beq_eq_false_iff_ne.mpr c3
  have c3b1 : ((l0.length : Int) != (l1.length : Int)) = true := bne_iff_ne.mpr c3
  have c3b2 : (l0.length == l1.length) = false := by first | simpa using c3 | (simp at c3 ⊢; omega)
  obtain rfl := Option.some.inj H
  go_enter Try.func28, Try.ntmps28
  go_wp2
  repeat (go_quiet (fail); try go_wp2)
  go_ret
  exact ⟨tf_, dr_⟩

/-! ### laws_eqBoard: function 21 -/
def laws_eqBoard.f (k : Nat) (a0_0 : Int) (a0_1 : Int) (l0_2 : List Int) (a1_0 : Int) (a1_1 : Int) (l1_2 : List Int) : Option (Bool) := if a0_0 = a1_0 then (if a0_1 = a1_1 then ((laws_eqIntS.f k l0_2 l1_2).bind fun t434 => (if t434 = true then (some true) else (some false))) else (some false)) else (some false)
theorem laws_eqBoard.mono : ∀ a0 a1 a2 a3 a4 a5 k, LeO (laws_eqBoard.f k a0 a1 a2 a3 a4 a5) (laws_eqBoard.f (k + 1) a0 a1 a2 a3 a4 a5) := by
 intro a0 a1 a2 a3 a4 a5 k
 unfold laws_eqBoard.f
 repeat' first | (with_reducible first | exact laws_eqIntS.mono _ _ _ | exact LeO.refl _ | exact LeO.none _ | refine LeO.ite ?_ ?_ | refine LeO.bind ?_ (fun _ => ?_)) | exact laws_eqIntS.mono _ _ _ | exact LeO.none _ | refine LeO.ite ?_ ?_ | refine LeO.bind ?_ (fun _ => ?_)
theorem laws_eqBoard.calls (k : Nat) (a0_0 : Int) (a0_1 : Int) (A0_2 : Option Addr) (c0_2 : Nat) (l0_2 : List Int) (a1_0 : Int) (a1_1 : Int) (A1_2 : Option Addr) (c1_2 : Nat) (l1_2 : List Int) (r : Bool) (w : World) (hr0_2 : Kd.C (Kd.int .i64) w A0_2 l0_2.length l0_2) (hc0_2 : l0_2.length ≤ c0_2) (hr1_2 : Kd.C (Kd.int .i64) w A1_2 l1_2.length l1_2) (hc1_2 : l1_2.length ≤ c1_2) (h : laws_eqBoard.f k a0_0 a0_1 l0_2 a1_0 a1_1 l1_2 = some r) :
  Calls Try.prog 21 #[.agg #[.int .i64 a0_0, .int .i64 a0_1, .slice A0_2 l0_2.length c0_2], .agg #[.int .i64 a1_0, .int .i64 a1_1, .slice A1_2 l1_2.length c1_2]] w fun e w' => e = .returned (.bool r) ∧ Below w.heap.size w w' := by
 have hu26 := Try.underlying26
 have HR0_2 := A_ hr0_2
 have HC0_2 := A_ hc0_2
 clear hr0_2 hc0_2
 have HR1_2 := A_ hr1_2
 have HC1_2 := A_ hc1_2
 clear hr1_2 hc1_2
 have HB := A_ (Below.refl w.heap.size w)
 have H : (if a0_0 = a1_0 then (if a0_1 = a1_1 then ((laws_eqIntS.f k l0_2 l1_2).bind fun t434 => (if t434 = true then (some true) else (some false))) else (some false)) else (some false)) = some r := h
 clear h
 by_cases c3 : a0_0 = a1_0
 ·
  rw [if_pos c3] at H
  have c3b0 : (a0_0 == a1_0) = true := beq_iff_eq.mpr c3
  have c3b1 : (a0_0 != a1_0) = false := bne_eq_false_iff_eq.mpr c3
  clear c3
  by_cases c4 : a0_1 = a1_1
  ·
   rw [if_pos c4] at H
   have c4b0 : (a0_1 == a1_1) = true := beq_iff_eq.mpr c4
   have c4b1 : (a0_1 != a1_1) = false := bne_eq_false_iff_eq.mpr c4
   clear c4
   replace H := Option.bind_eq_some_iff.mp H
   obtain ⟨t434, A50, H⟩ := H
   replace H : (if t434 = true then (some true) else (some false)) = some r := H
   have A5 := A_ A50
   clear A50
   by_cases c6 : t434 = true
   ·
    subst c6
    have H1 : (some true) = some r := by rw [if_pos rfl] at H; exact H
    clear H
    have H := H1
    clear H1
    obtain rfl := Option.some.inj H
    go_enter Try.func21, Try.ntmps21
    go_wp2_with (first | (refine gd_ 2 ?_; refine bx_ 2 #[.int .i64 a0_0, .int .i64 a0_1, .slice A0_2 l0_2.length c0_2] 26 ?_; intro gb432 hg w7 hbox hb; have BK432 := A_ (hbox); have GW432 := A_ ((ts_ hg : w.heap.size ≤ gb432)); have GE432 := A_ ((ts_ hg : w.heap.size ≤ gb432)); replace HB := A_ (below_step tb_ hb); clear hb hbox hg) | (refine gd_ 3 ?_; refine bx_ 3 #[.int .i64 a1_0, .int .i64 a1_1, .slice A1_2 l1_2.length c1_2] 26 ?_; intro gb433 hg w8 hbox hb; have BK433 := A_ (hbox); have GW433 := A_ ((ts_ hg : w.heap.size ≤ gb433)); have GE433 := A_ ((ts_ hg : w.heap.size ≤ gb433)); replace HB := A_ (below_step tb_ hb); have NB432_433 := A_ ((by rw [hg]; exact Nat.ne_of_lt (blk_lt (g := gb432) (o := .cells #[.int .i64 a0_0, .int .i64 a0_1, .slice A0_2 l0_2.length c0_2] 26 (0, 0)) (tk_ BK432)) : gb432 ≠ gb433)); have NB433_432 := A_ ((by rw [hg]; exact Nat.ne_of_gt (blk_lt (g := gb432) (o := .cells #[.int .i64 a0_0, .int .i64 a0_1, .slice A0_2 l0_2.length c0_2] 26 (0, 0)) (tk_ BK432)) : gb433 ≠ gb432)); replace BK432 := A_ (blk_below (g := gb432) (o := .cells #[.int .i64 a0_0, .int .i64 a0_1, .slice A0_2 l0_2.length c0_2] 26 (0, 0)) (tk_ BK432) hb); clear hb hbox hg; have hnb9 := NB432_433.out; have hnc9 := NB433_432.out; obtain ⟨hcz10_0, hcz10_1, hcz10_2, hfz10_0, hfz10_1, hfz10_2⟩ := cf3_ BK432.out; obtain ⟨hcz11_0, hcz11_1, hcz11_2, hfz11_0, hfz11_1, hfz11_2⟩ := cf3_ BK433.out) | (refine gc_ 28 ?_; refine goesT_ (some 19) Try.func28 #[.slice A0_2 l0_2.length c0_2, .slice A1_2 l1_2.length c1_2] ?_; (with_reducible refine (laws_eqIntS.calls k _ _ l0_2 _ _ l1_2 true _ ?side1 ?side2 ?side3 ?side4 A5.out).mono ?_); (case side1 => exact tc_ HR0_2.out); (case side2 => exact HC0_2.out); (case side3 => exact tc_ HR1_2.out); (case side4 => exact HC1_2.out); rintro e w' ⟨rfl, ⟨nd, rfl⟩⟩; refine ⟨_, rfl, ?_⟩))
    go_ret
    exact ⟨te_, tb_⟩
   ·
    replace c6 := Bool.eq_false_iff.mpr c6
    subst c6
    have H1 : (some false) = some r := by rw [if_neg (show ¬ (false = true) by decide)] at H; exact H
    clear H
    have H := H1
    clear H1
    obtain rfl := Option.some.inj H
    go_enter Try.func21, Try.ntmps21
    go_wp2_with (first | (refine gd_ 2 ?_; refine bx_ 2 #[.int .i64 a0_0, .int .i64 a0_1, .slice A0_2 l0_2.length c0_2] 26 ?_; intro gb432 hg w12 hbox hb; have BK432 := A_ (hbox); have GW432 := A_ ((ts_ hg : w.heap.size ≤ gb432)); have GE432 := A_ ((ts_ hg : w.heap.size ≤ gb432)); replace HB := A_ (below_step tb_ hb); clear hb hbox hg) | (refine gd_ 3 ?_; refine bx_ 3 #[.int .i64 a1_0, .int .i64 a1_1, .slice A1_2 l1_2.length c1_2] 26 ?_; intro gb433 hg w13 hbox hb; have BK433 := A_ (hbox); have GW433 := A_ ((ts_ hg : w.heap.size ≤ gb433)); have GE433 := A_ ((ts_ hg : w.heap.size ≤ gb433)); replace HB := A_ (below_step tb_ hb); have NB432_433 := A_ ((by rw [hg]; exact Nat.ne_of_lt (blk_lt (g := gb432) (o := .cells #[.int .i64 a0_0, .int .i64 a0_1, .slice A0_2 l0_2.length c0_2] 26 (0, 0)) (tk_ BK432)) : gb432 ≠ gb433)); have NB433_432 := A_ ((by rw [hg]; exact Nat.ne_of_gt (blk_lt (g := gb432) (o := .cells #[.int .i64 a0_0, .int .i64 a0_1, .slice A0_2 l0_2.length c0_2] 26 (0, 0)) (tk_ BK432)) : gb433 ≠ gb432)); replace BK432 := A_ (blk_below (g := gb432) (o := .cells #[.int .i64 a0_0, .int .i64 a0_1, .slice A0_2 l0_2.length c0_2] 26 (0, 0)) (tk_ BK432) hb); clear hb hbox hg; have hnb14 := NB432_433.out; have hnc14 := NB433_432.out; obtain ⟨hcz15_0, hcz15_1, hcz15_2, hfz15_0, hfz15_1, hfz15_2⟩ := cf3_ BK432.out; obtain ⟨hcz16_0, hcz16_1, hcz16_2, hfz16_0, hfz16_1, hfz16_2⟩ := cf3_ BK433.out) | (refine gc_ 28 ?_; refine goesT_ (some 19) Try.func28 #[.slice A0_2 l0_2.length c0_2, .slice A1_2 l1_2.length c1_2] ?_; (with_reducible refine (laws_eqIntS.calls k _ _ l0_2 _ _ l1_2 false _ ?side1 ?side2 ?side3 ?side4 A5.out).mono ?_); (case side1 => exact tc_ HR0_2.out); (case side2 => exact HC0_2.out); (case side3 => exact tc_ HR1_2.out); (case side4 => exact HC1_2.out); rintro e w' ⟨rfl, ⟨nd, rfl⟩⟩; refine ⟨_, rfl, ?_⟩))
    go_ret
    exact ⟨te_, tb_⟩
  ·
   rw [if_neg c4] at H
   have c4b0 : (a0_1 == a1_1) = false := beq_eq_false_iff_ne.mpr c4
   have c4b1 : (a0_1 != a1_1) = true := bne_iff_ne.mpr c4
   obtain rfl := Option.some.inj H
   go_enter Try.func21, Try.ntmps21
   go_wp2_with (first | (refine gd_ 2 ?_; refine bx_ 2 #[.int .i64 a0_0, .int .i64 a0_1, .slice A0_2 l0_2.length c0_2] 26 ?_; intro gb432 hg w17 hbox hb; have BK432 := A_ (hbox); have GW432 := A_ ((ts_ hg : w.heap.size ≤ gb432)); have GE432 := A_ ((ts_ hg : w.heap.size ≤ gb432)); replace HB := A_ (below_step tb_ hb); clear hb hbox hg) | (refine gd_ 3 ?_; refine bx_ 3 #[.int .i64 a1_0, .int .i64 a1_1, .slice A1_2 l1_2.length c1_2] 26 ?_; intro gb433 hg w18 hbox hb; have BK433 := A_ (hbox); have GW433 := A_ ((ts_ hg : w.heap.size ≤ gb433)); have GE433 := A_ ((ts_ hg : w.heap.size ≤ gb433)); replace HB := A_ (below_step tb_ hb); have NB432_433 := A_ ((by rw [hg]; exact Nat.ne_of_lt (blk_lt (g := gb432) (o := .cells #[.int .i64 a0_0, .int .i64 a0_1, .slice A0_2 l0_2.length c0_2] 26 (0, 0)) (tk_ BK432)) : gb432 ≠ gb433)); have NB433_432 := A_ ((by rw [hg]; exact Nat.ne_of_gt (blk_lt (g := gb432) (o := .cells #[.int .i64 a0_0, .int .i64 a0_1, .slice A0_2 l0_2.length c0_2] 26 (0, 0)) (tk_ BK432)) : gb433 ≠ gb432)); replace BK432 := A_ (blk_below (g := gb432) (o := .cells #[.int .i64 a0_0, .int .i64 a0_1, .slice A0_2 l0_2.length c0_2] 26 (0, 0)) (tk_ BK432) hb); clear hb hbox hg; have hnb19 := NB432_433.out; have hnc19 := NB433_432.out; obtain ⟨hcz20_0, hcz20_1, hcz20_2, hfz20_0, hfz20_1, hfz20_2⟩ := cf3_ BK432.out; obtain ⟨hcz21_0, hcz21_1, hcz21_2, hfz21_0, hfz21_1, hfz21_2⟩ := cf3_ BK433.out))
   go_ret
   exact ⟨te_, tb_⟩
 ·
  rw [if_neg c3] at H
  have c3b0 : (a0_0 == a1_0) = false := beq_eq_false_iff_ne.mpr c3
  have c3b1 : (a0_0 != a1_0) = true := bne_iff_ne.mpr c3
  obtain rfl := Option.some.inj H
  go_enter Try.func21, Try.ntmps21
  go_wp2_with (first | (refine gd_ 2 ?_; refine bx_ 2 #[.int .i64 a0_0, .int .i64 a0_1, .slice A0_2 l0_2.length c0_2] 26 ?_; intro gb432 hg w22 hbox hb; have BK432 := A_ (hbox); have GW432 := A_ ((ts_ hg : w.heap.size ≤ gb432)); have GE432 := A_ ((ts_ hg : w.heap.size ≤ gb432)); replace HB := A_ (below_step tb_ hb); clear hb hbox hg) | (refine gd_ 3 ?_; refine bx_ 3 #[.int .i64 a1_0, .int .i64 a1_1, .slice A1_2 l1_2.length c1_2] 26 ?_; intro gb433 hg w23 hbox hb; have BK433 := A_ (hbox); have GW433 := A_ ((ts_ hg : w.heap.size ≤ gb433)); have GE433 := A_ ((ts_ hg : w.heap.size ≤ gb433)); replace HB := A_ (below_step tb_ hb); have NB432_433 := A_ ((by rw [hg]; exact Nat.ne_of_lt (blk_lt (g := gb432) (o := .cells #[.int .i64 a0_0, .int .i64 a0_1, .slice A0_2 l0_2.length c0_2] 26 (0, 0)) (tk_ BK432)) : gb432 ≠ gb433)); have NB433_432 := A_ ((by rw [hg]; exact Nat.ne_of_gt (blk_lt (g := gb432) (o := .cells #[.int .i64 a0_0, .int .i64 a0_1, .slice A0_2 l0_2.length c0_2] 26 (0, 0)) (tk_ BK432)) : gb433 ≠ gb432)); replace BK432 := A_ (blk_below (g := gb432) (o := .cells #[.int .i64 a0_0, .int .i64 a0_1, .slice A0_2 l0_2.length c0_2] 26 (0, 0)) (tk_ BK432) hb); clear hb hbox hg; have hnb24 := NB432_433.out; have hnc24 := NB433_432.out; obtain ⟨hcz25_0, hcz25_1, hcz25_2, hfz25_0, hfz25_1, hfz25_2⟩ := cf3_ BK432.out; obtain ⟨hcz26_0, hcz26_1, hcz26_2, hfz26_0, hfz26_1, hfz26_2⟩ := cf3_ BK433.out))
  go_ret
  exact ⟨te_, tb_⟩

end
end Go.Proofs.Ythlcaikplebpmaa.P
