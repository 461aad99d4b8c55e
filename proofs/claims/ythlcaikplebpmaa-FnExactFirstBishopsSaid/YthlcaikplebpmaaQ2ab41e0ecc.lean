-- printed functions (wip/slim.py)
import Derived.Test.YthlcaikplebpmaaPx0
import Derived.Test.YthlcaikplebpmaaQ5d21c5e0d1
import Derived.Test.YthlcaikplebpmaaQ068efbf923
import Derived.Test.YthlcaikplebpmaaQb269d509c4
import Derived.Test.YthlcaikplebpmaaQ53cef9bec4
import Derived.Test.YthlcaikplebpmaaQ494f91a220
namespace Go.Proofs.Ythlcaikplebpmaa.P
noncomputable section
set_option maxHeartbeats 8000000
set_option maxRecDepth 100000
open Go.RowKit Go.Proofs.YthlcaikplebpmaaW.PrintWords Go.Proofs.YthlcaikplebpmaaW.PrintLast Go.Proofs.YthlcaikplebpmaaW.PrintMore
attribute [local go_sem] max2_int min2_int max_two min_two max_three min_three max_four min_four   -- for this text's walks alone
set_option linter.unusedVariables false
set_option linter.unusedSimpArgs false

/-! ### spec_biNumbers: function 96 -/
def spec_biNumbers.f (k : Nat) (a0_0 : Int) (a0_1 : Int) (l0_2 : List Int) : Option (List Int) := (spec_biBoard.f k a0_0 a0_1 l0_2 0).bind fun bt534 => ((spec_roNumbers.f k bt534.1 bt534.2.1 bt534.2.2).bind fun t539 => ((spec_biBoard.f k a0_0 a0_1 l0_2 1).bind fun bt542 => ((spec_roNumbers.f k bt542.1 bt542.2.1 bt542.2.2).bind fun t547 => ((spec_roTimes.f k t539 t547).bind fun t550 => ((spec_roShort.f k t550).bind fun t553 => (some t553))))))
theorem spec_biNumbers.mono : ∀ a0 a1 a2 k, LeO (spec_biNumbers.f k a0 a1 a2) (spec_biNumbers.f (k + 1) a0 a1 a2) := by
 intro a0 a1 a2 k
 unfold spec_biNumbers.f
 repeat' first | (with_reducible first | exact spec_biBoard.mono _ _ _ _ _ | exact spec_roNumbers.mono _ _ _ _ | exact spec_roShort.mono _ _ | exact spec_roTimes.mono _ _ _ | exact LeO.refl _ | exact LeO.none _ | refine LeO.ite ?_ ?_ | refine LeO.bind ?_ (fun _ => ?_)) | exact spec_biBoard.mono _ _ _ _ _ | exact spec_roNumbers.mono _ _ _ _ | exact spec_roShort.mono _ _ | exact spec_roTimes.mono _ _ _ | exact LeO.none _ | refine LeO.ite ?_ ?_ | refine LeO.bind ?_ (fun _ => ?_)
def spec_biNumbers.T1 : Bool × List (List Nat × List Nat) := (true, [([], []), ([0], [0]), ([1, 1], [1]), ([], []), ([3, 2], [3]), ([4, 4], [4]), ([2, 5, 5], [2, 5]), ([6, 6], [6]), ([7, 7, 0, 1, 2, 3, 4, 5, 6, 7], [7])])
def spec_biNumbers.B1 : List Nat := [0, 1, 3, 0, 15, 31, 63, 127, 255]
theorem spec_biNumbers.tab1 : rtab .any (opsOf Try.f96 1) = spec_biNumbers.T1 := by kernel_rfl
theorem spec_biNumbers.bits1 : waitsOk spec_biNumbers.T1.2 spec_biNumbers.B1 = true := by kernel_rfl
theorem spec_biNumbers.calls (k : Nat) (a0_0 : Int) (a0_1 : Int) (A0_2 : Option Addr) (c0_2 : Nat) (l0_2 : List Int) (r : List Int) (w : World) (hr0_2 : Kd.C (Kd.int .i64) w A0_2 l0_2.length l0_2) (hc0_2 : l0_2.length ≤ c0_2) (h : spec_biNumbers.f k a0_0 a0_1 l0_2 = some r) :
  Calls Try.prog 96 #[.agg #[.int .i64 a0_0, .int .i64 a0_1, .slice A0_2 l0_2.length c0_2]] w fun e w' => ∃ v0_ : Value, e = .returned (v0_) ∧ Kd.R (Kd.int .i64) 3 w' w.heap.size (fun _ => True) v0_ r ∧ Below w.heap.size w w' := by
 have hu26 := Try.underlying26
 have HR0_2 := A_ hr0_2
 have HC0_2 := A_ hc0_2
 clear hr0_2 hc0_2
 have HB := A_ (Below.refl w.heap.size w)
 have H : ((spec_biBoard.f k a0_0 a0_1 l0_2 0).bind fun bt534 => ((spec_roNumbers.f k bt534.1 bt534.2.1 bt534.2.2).bind fun t539 => ((spec_biBoard.f k a0_0 a0_1 l0_2 1).bind fun bt542 => ((spec_roNumbers.f k bt542.1 bt542.2.1 bt542.2.2).bind fun t547 => ((spec_roTimes.f k t539 t547).bind fun t550 => ((spec_roShort.f k t550).bind fun t553 => (some t553))))))) = some r := h
 clear h
 replace H := Option.bind_eq_some_iff.mp H
 obtain ⟨⟨t534, t535, t536⟩, A20, H⟩ := H
 replace H : ((spec_roNumbers.f k t534 t535 t536).bind fun t539 => ((spec_biBoard.f k a0_0 a0_1 l0_2 1).bind fun bt542 => ((spec_roNumbers.f k bt542.1 bt542.2.1 bt542.2.2).bind fun t547 => ((spec_roTimes.f k t539 t547).bind fun t550 => ((spec_roShort.f k t550).bind fun t553 => (some t553)))))) = some r := H
 have A2 := A_ A20
 clear A20
 replace H := Option.bind_eq_some_iff.mp H
 obtain ⟨t539, A30, H⟩ := H
 replace H : ((spec_biBoard.f k a0_0 a0_1 l0_2 1).bind fun bt542 => ((spec_roNumbers.f k bt542.1 bt542.2.1 bt542.2.2).bind fun t547 => ((spec_roTimes.f k t539 t547).bind fun t550 => ((spec_roShort.f k t550).bind fun t553 => (some t553))))) = some r := H
 have A3 := A_ A30
 clear A30
 replace H := Option.bind_eq_some_iff.mp H
 obtain ⟨⟨t542, t543, t544⟩, A40, H⟩ := H
 replace H : ((spec_roNumbers.f k t542 t543 t544).bind fun t547 => ((spec_roTimes.f k t539 t547).bind fun t550 => ((spec_roShort.f k t550).bind fun t553 => (some t553)))) = some r := H
 have A4 := A_ A40
 clear A40
 replace H := Option.bind_eq_some_iff.mp H
 obtain ⟨t547, A50, H⟩ := H
 replace H : ((spec_roTimes.f k t539 t547).bind fun t550 => ((spec_roShort.f k t550).bind fun t553 => (some t553))) = some r := H
 have A5 := A_ A50
 clear A50
 replace H := Option.bind_eq_some_iff.mp H
 obtain ⟨t550, A60, H⟩ := H
 replace H : ((spec_roShort.f k t550).bind fun t553 => (some t553)) = some r := H
 have A6 := A_ A60
 clear A60
 replace H := Option.bind_eq_some_iff.mp H
 obtain ⟨t553, A70, H⟩ := H
 replace H : (some t553) = some r := H
 have A7 := A_ A70
 clear A70
 obtain rfl := Option.some.inj H
 go_enter Try.func96, Try.ntmps96
 try go_wp2_with (first | (refine gd_ 1 ?_; refine bx_ 1 #[.int .i64 a0_0, .int .i64 a0_1, .slice A0_2 l0_2.length c0_2] 26 ?_; intro gb533 hg w8 hbox hb; have BK533 := A_ (hbox); have GW533 := A_ ((ts_ hg : w.heap.size ≤ gb533)); have GE533 := A_ ((ts_ hg : w.heap.size ≤ gb533)); replace HB := A_ (below_step tb_ hb); clear hb hbox hg))
 have n0_ := A_ (blk_drew BK533.out)
 have n1_ := A_ (below_drew1 HB.out)
 clear BK533
 clear HB
 have BK533 := n0_
 have HB := n1_
 clear n0_ n1_
 refine start_ (n := 9) (S := fun w' => w'.cell? ⟨gb533, 0, none⟩ = some (.int .i64 a0_0) ∧ w'.cell? ⟨gb533, 1, none⟩ = some (.int .i64 a0_1) ∧ w'.cell? ⟨gb533, 2, none⟩ = some (.slice A0_2 l0_2.length c0_2)) (ds := []) (Fn.bl 9 0) (by kernel_rfl) rfl rfl ⟨(blk_cell BK533.out 0).trans rfl, (blk_cell BK533.out 1).trans rfl, (blk_cell BK533.out 2).trans rfl⟩ (fun hHeld => ?_); refine with_tabW spec_biNumbers.tab1 spec_biNumbers.bits1 (fun HT_ HW_ => ?_)
 generalize w8.drew = w9 at BK533 HB hHeld ⊢
 refine tq_ 0 (some 3) (Fn.bl 9 1) HT_.out HW_.out hHeld ?_ (hy0 := by rintro w' ⟨s0, s1, s2⟩; go_simp; with_reducible rfl)
 refine tq_ 3 (some 6) (Fn.bl 9 9) HT_.out HW_.out hHeld ?_ (hy0 := by rintro w' ⟨s0, s1, s2⟩; go_simp; with_reducible rfl)
 refine one_ (i := 1) (N := some 4) (Fn.bl 9 11) rfl rfl (one_of HT_.out (by kernel_rfl)) (by decide) (fun K hK => ?_)
 refine goes_ Try.func92 (by kernel_rfl) rfl #[.agg #[.int .i64 a0_0, .int .i64 a0_1, .slice A0_2 l0_2.length c0_2], .int .i64 0] (by rfl) rfl rfl ta_ ?_
 with_reducible refine (spec_biBoard.calls k a0_0 a0_1 _ _ l0_2 0 t534 t535 t536 _ ?side1 ?side2 A2.out).mono ?_
 (case side1 => exact tc_ HR0_2.out)
 (case side2 => exact HC0_2.out)
 rintro e w10 ⟨v537, rfl, ho0, hb⟩
 refine ⟨_, rfl, ?_⟩
 have n0_ := A_ (Kd.R_lower ho0 (below_size tb_))
 have n1_ := A_ (blk_below (g := gb533) (o := .cells #[.int .i64 a0_0, .int .i64 a0_1, .slice A0_2 l0_2.length c0_2] 26 (0, 0)) (tk_ BK533) hb)
 have n2_ := A_ (below_step tb_ hb)
 clear BK533
 clear HB
 have HO538 := n0_
 have BK533 := n1_
 have HB := n2_
 clear n0_ n1_ n2_
 (try clear hb)
 (try clear hb2)
 (try clear hk)
 (try clear hi)
 (try clear ho0)
 obtain ⟨Ao11, co11, eo11⟩ := Kd.R_slice HO538.out
 (first | subst eo11 | (injection eo11 with f1_ f2_ f3_; have f4_ := f1_.symm; have f5_ := f3_.symm; clear f1_ f2_ f3_; subst f4_; subst f5_))
 refine hK.out _ _ ⟨(blk_cell BK533.out 0).trans rfl, (blk_cell BK533.out 1).trans rfl, (blk_cell BK533.out 2).trans rfl⟩ (fun hHeld => ?_)
 clear hK K
 refine norm_ (a' := ?_) ?_ ?_
 rotate_left
 ·
  show Act.put _ (some 4) _ = _
  simp only [Act.put, List.setIfInBounds_toArray, List.set_cons_zero, List.set_cons_succ, i64_w, i32_w]
  rfl
 refine one_ (i := 2) (N := some 5) (Fn.bl 9 15) rfl rfl (one_of HT_.out (by kernel_rfl)) (by decide) (fun K hK => ?_)
 refine goes_ Try.func178 (by kernel_rfl) rfl #[.agg #[.int .i64 t534, .int .i64 t535, .slice Ao11 t536.length co11]] (by rfl) rfl rfl ta_ ?_
 with_reducible refine (spec_roNumbers.calls k t534 t535 _ _ t536 t539 _ ?side1 ?side2 A3.out).mono ?_
 (case side1 => exact tc0_ (Kd.R_reads' HO538.out).2.2)
 (case side2 => exact (Kd.R_reads' HO538.out).2.1)
 rintro e w12 ⟨v540, rfl, ho0, hb⟩
 refine ⟨_, rfl, ?_⟩
 have n0_ := A_ (Kd.R_elder' (tr_x HO538.out) (Kd.R_base ho0) hb)
 have n1_ := A_ (Kd.R_lower (Kd.R_new' ho0 (Kd.R_lt (tr_x HO538.out))) (below_size tb_))
 have n2_ := A_ (blk_below (g := gb533) (o := .cells #[.int .i64 a0_0, .int .i64 a0_1, .slice A0_2 l0_2.length c0_2] 26 (0, 0)) (tk_ BK533) hb)
 have n3_ := A_ (below_step tb_ hb)
 clear HO538
 clear BK533
 clear HB
 have HO538 := n0_
 have HO541 := n1_
 have BK533 := n2_
 have HB := n3_
 clear n0_ n1_ n2_ n3_
 (try clear hb)
 (try clear hb2)
 (try clear hk)
 (try clear hi)
 (try clear ho0)
 refine hK.out _ _ ⟨(blk_cell BK533.out 0).trans rfl, (blk_cell BK533.out 1).trans rfl, (blk_cell BK533.out 2).trans rfl⟩ (fun hHeld => ?_)
 clear hK K
 refine norm_ (a' := ?_) ?_ ?_
 rotate_left
 ·
  show Act.put _ (some 5) _ = _
  simp only [Act.put, List.setIfInBounds_toArray, List.set_cons_zero, List.set_cons_succ, i64_w, i32_w]
  rfl
 refine one_ (i := 4) (N := some 7) (Fn.bl 9 31) rfl rfl (one_of HT_.out (by kernel_rfl)) (by decide) (fun K hK => ?_)
 refine goes_ Try.func92 (by kernel_rfl) rfl #[.agg #[.int .i64 a0_0, .int .i64 a0_1, .slice A0_2 l0_2.length c0_2], .int .i64 1] (by rfl) rfl rfl ta_ ?_
 with_reducible refine (spec_biBoard.calls k a0_0 a0_1 _ _ l0_2 1 t542 t543 t544 _ ?side1 ?side2 A4.out).mono ?_
 (case side1 => exact tc_ HR0_2.out)
 (case side2 => exact HC0_2.out)
 rintro e w13 ⟨v545, rfl, ho0, hb⟩
 refine ⟨_, rfl, ?_⟩
 have n0_ := A_ (Kd.R_elder' (tr_x HO538.out) (Kd.R_base ho0) hb)
 have n1_ := A_ (Kd.R_elder' (tr_x HO541.out) (Kd.R_base ho0) hb)
 have n2_ := A_ (Kd.R_lower (Kd.R_new' (Kd.R_new' ho0 (Kd.R_lt (tr_x HO538.out))) (Kd.R_lt (tr_x HO541.out))) (below_size tb_))
 have n3_ := A_ (blk_below (g := gb533) (o := .cells #[.int .i64 a0_0, .int .i64 a0_1, .slice A0_2 l0_2.length c0_2] 26 (0, 0)) (tk_ BK533) hb)
 have n4_ := A_ (below_step tb_ hb)
 clear HO538
 clear HO541
 clear BK533
 clear HB
 have HO538 := n0_
 have HO541 := n1_
 have HO546 := n2_
 have BK533 := n3_
 have HB := n4_
 clear n0_ n1_ n2_ n3_ n4_
 (try clear hb)
 (try clear hb2)
 (try clear hk)
 (try clear hi)
 (try clear ho0)
 obtain ⟨Ao14, co14, eo14⟩ := Kd.R_slice HO546.out
 (first | subst eo14 | (injection eo14 with f1_ f2_ f3_; have f4_ := f1_.symm; have f5_ := f3_.symm; clear f1_ f2_ f3_; subst f4_; subst f5_))
 refine hK.out _ _ ⟨(blk_cell BK533.out 0).trans rfl, (blk_cell BK533.out 1).trans rfl, (blk_cell BK533.out 2).trans rfl⟩ (fun hHeld => ?_)
 clear hK K
 refine norm_ (a' := ?_) ?_ ?_
 rotate_left
 ·
  show Act.put _ (some 7) _ = _
  simp only [Act.put, List.setIfInBounds_toArray, List.set_cons_zero, List.set_cons_succ, i64_w, i32_w]
  rfl
 refine one_ (i := 5) (N := some 8) (Fn.bl 9 63) rfl rfl (one_of HT_.out (by kernel_rfl)) (by decide) (fun K hK => ?_)
 refine goes_ Try.func178 (by kernel_rfl) rfl #[.agg #[.int .i64 t542, .int .i64 t543, .slice Ao14 t544.length co14]] (by rfl) rfl rfl ta_ ?_
 with_reducible refine (spec_roNumbers.calls k t542 t543 _ _ t544 t547 _ ?side1 ?side2 A5.out).mono ?_
 (case side1 => exact tc0_ (Kd.R_reads' HO546.out).2.2)
 (case side2 => exact (Kd.R_reads' HO546.out).2.1)
 rintro e w15 ⟨v548, rfl, ho0, hb⟩
 refine ⟨_, rfl, ?_⟩
 have n0_ := A_ (Kd.R_elder' (tr_x HO538.out) (Kd.R_base ho0) hb)
 have n1_ := A_ (Kd.R_elder' (tr_x HO541.out) (Kd.R_base ho0) hb)
 have n2_ := A_ (Kd.R_elder' (tr_x HO546.out) (Kd.R_base ho0) hb)
 have n3_ := A_ (Kd.R_lower (Kd.R_new' (Kd.R_new' (Kd.R_new' ho0 (Kd.R_lt (tr_x HO538.out))) (Kd.R_lt (tr_x HO541.out))) (Kd.R_lt (tr_x HO546.out))) (below_size tb_))
 have n4_ := A_ (blk_below (g := gb533) (o := .cells #[.int .i64 a0_0, .int .i64 a0_1, .slice A0_2 l0_2.length c0_2] 26 (0, 0)) (tk_ BK533) hb)
 have n5_ := A_ (below_step tb_ hb)
 clear HO538
 clear HO541
 clear HO546
 clear BK533
 clear HB
 have HO538 := n0_
 have HO541 := n1_
 have HO546 := n2_
 have HO549 := n3_
 have BK533 := n4_
 have HB := n5_
 clear n0_ n1_ n2_ n3_ n4_ n5_
 (try clear hb)
 (try clear hb2)
 (try clear hk)
 (try clear hi)
 (try clear ho0)
 obtain ⟨Ao16, co16, eo16⟩ := Kd.R_slice HO541.out
 (first | subst eo16 | (injection eo16 with f1_ f2_ f3_; have f4_ := f1_.symm; have f5_ := f3_.symm; clear f1_ f2_ f3_; subst f4_; subst f5_))
 obtain ⟨Ao17, co17, eo17⟩ := Kd.R_slice HO549.out
 (first | subst eo17 | (injection eo17 with f1_ f2_ f3_; have f4_ := f1_.symm; have f5_ := f3_.symm; clear f1_ f2_ f3_; subst f4_; subst f5_))
 refine hK.out _ _ ⟨(blk_cell BK533.out 0).trans rfl, (blk_cell BK533.out 1).trans rfl, (blk_cell BK533.out 2).trans rfl⟩ (fun hHeld => ?_)
 clear hK K
 refine norm_ (a' := ?_) ?_ ?_
 rotate_left
 ·
  show Act.put _ (some 8) _ = _
  simp only [Act.put, List.setIfInBounds_toArray, List.set_cons_zero, List.set_cons_succ, i64_w, i32_w]
  rfl
 refine one_ (i := 6) (N := some 9) (Fn.bl 9 127) rfl rfl (one_of HT_.out (by kernel_rfl)) (by decide) (fun K hK => ?_)
 refine goes_ Try.func177 (by kernel_rfl) rfl #[.slice Ao16 t539.length co16, .slice Ao17 t547.length co17] (by rfl) rfl rfl ta_ ?_
 with_reducible refine (spec_roTimes.calls k _ _ t539 _ _ t547 t550 _ ?side1 ?side2 ?side3 ?side4 A6.out).mono ?_
 (case side1 => exact tc0_ (Kd.R_reads' HO541.out).2.2)
 (case side2 => exact (Kd.R_reads' HO541.out).2.1)
 (case side3 => exact tc0_ (Kd.R_reads' HO549.out).2.2)
 (case side4 => exact (Kd.R_reads' HO549.out).2.1)
 rintro e w18 ⟨v551, rfl, ho0, hb⟩
 refine ⟨_, rfl, ?_⟩
 have n0_ := A_ (Kd.R_elder' (tr_x HO538.out) (Kd.R_base ho0) hb)
 have n1_ := A_ (Kd.R_elder' (tr_x HO541.out) (Kd.R_base ho0) hb)
 have n2_ := A_ (Kd.R_elder' (tr_x HO546.out) (Kd.R_base ho0) hb)
 have n3_ := A_ (Kd.R_elder' (tr_x HO549.out) (Kd.R_base ho0) hb)
 have n4_ := A_ (Kd.R_lower (Kd.R_new' (Kd.R_new' (Kd.R_new' (Kd.R_new' ho0 (Kd.R_lt (tr_x HO538.out))) (Kd.R_lt (tr_x HO541.out))) (Kd.R_lt (tr_x HO546.out))) (Kd.R_lt (tr_x HO549.out))) (below_size tb_))
 have n5_ := A_ (blk_below (g := gb533) (o := .cells #[.int .i64 a0_0, .int .i64 a0_1, .slice A0_2 l0_2.length c0_2] 26 (0, 0)) (tk_ BK533) hb)
 have n6_ := A_ (below_step tb_ hb)
 clear HO538
 clear HO541
 clear HO546
 clear HO549
 clear BK533
 clear HB
 have HO538 := n0_
 have HO541 := n1_
 have HO546 := n2_
 have HO549 := n3_
 have HO552 := n4_
 have BK533 := n5_
 have HB := n6_
 clear n0_ n1_ n2_ n3_ n4_ n5_ n6_
 (try clear hb)
 (try clear hb2)
 (try clear hk)
 (try clear hi)
 (try clear ho0)
 obtain ⟨Ao19, co19, eo19⟩ := Kd.R_slice HO552.out
 (first | subst eo19 | (injection eo19 with f1_ f2_ f3_; have f4_ := f1_.symm; have f5_ := f3_.symm; clear f1_ f2_ f3_; subst f4_; subst f5_))
 refine hK.out _ _ ⟨(blk_cell BK533.out 0).trans rfl, (blk_cell BK533.out 1).trans rfl, (blk_cell BK533.out 2).trans rfl⟩ (fun hHeld => ?_)
 clear hK K
 refine norm_ (a' := ?_) ?_ ?_
 rotate_left
 ·
  show Act.put _ (some 9) _ = _
  simp only [Act.put, List.setIfInBounds_toArray, List.set_cons_zero, List.set_cons_succ, i64_w, i32_w]
  rfl
 refine one_ (i := 7) (N := some 10) (Fn.bl 9 255) rfl rfl (one_of HT_.out (by kernel_rfl)) (by decide) (fun K hK => ?_)
 refine goes_ Try.func176 (by kernel_rfl) rfl #[.slice Ao19 t550.length co19] (by rfl) rfl rfl ta_ ?_
 with_reducible refine (spec_roShort.calls k (fun k_ => some k_ = (.slice Ao19 t550.length co19 : Value).ownBlock) (.slice Ao19 t550.length co19) t550 t553 w _ ?side1 ?side2 A7.out).mono ?_
 (case side1 => repeat (first | (with_reducible first | exact HB.out | apply below_alloc | apply pw_below_drewN | apply below_drew1 | refine below_set ?_ GE533.out) | exact HB.out))
 (case side2 => exact Kd.R_tight rfl HO552.out)
 rintro e w20 ⟨v554, rfl, ho0, hb, hkp⟩
 refine ⟨_, rfl, ?_⟩
 have n0_ := A_ (blk_kept (tk_ BK533) hkp (fun hs_ => (fun e_ => (Kd.R_ne HO552.out BK533.out (by decide)) e_) hs_))
 have n1_ := A_ (Kd.R_mono (ok' := fun k_ => some k_ ≠ (.slice Ao16 t539.length co16 : Value).ownBlock ∧ some k_ ≠ (.slice Ao14 t544.length co14 : Value).ownBlock ∧ some k_ ≠ (.slice Ao17 t547.length co17 : Value).ownBlock ∧ some k_ ≠ (v554 : Value).ownBlock) (Kd.R_keptB (HO538.out) hkp (fun k_ hk_ hs_ => (hk_.2) hs_)) (fun k_ hk_ => ⟨hk_.1.1.1.1.2, hk_.1.1.1.2, hk_.1.1.2, fun e_ => Or.elim (ho0.1 k_ e_.symm) (fun hs_ => hk_.2.1 hs_) (fun hn_ => Nat.not_le.2 hk_.2.2 hn_)⟩))
 have n2_ := A_ (Kd.R_mono (ok' := fun k_ => some k_ ≠ (.slice Ao11 t536.length co11 : Value).ownBlock ∧ some k_ ≠ (.slice Ao14 t544.length co14 : Value).ownBlock ∧ some k_ ≠ (.slice Ao17 t547.length co17 : Value).ownBlock ∧ some k_ ≠ (v554 : Value).ownBlock) (Kd.R_keptB (HO541.out) hkp (fun k_ hk_ hs_ => (hk_.2) hs_)) (fun k_ hk_ => ⟨hk_.1.1.1.1.2, hk_.1.1.1.2, hk_.1.1.2, fun e_ => Or.elim (ho0.1 k_ e_.symm) (fun hs_ => hk_.2.1 hs_) (fun hn_ => Nat.not_le.2 hk_.2.2 hn_)⟩))
 have n3_ := A_ (Kd.R_mono (ok' := fun k_ => some k_ ≠ (.slice Ao11 t536.length co11 : Value).ownBlock ∧ some k_ ≠ (.slice Ao16 t539.length co16 : Value).ownBlock ∧ some k_ ≠ (.slice Ao17 t547.length co17 : Value).ownBlock ∧ some k_ ≠ (v554 : Value).ownBlock) (Kd.R_keptB (HO546.out) hkp (fun k_ hk_ hs_ => (hk_.2) hs_)) (fun k_ hk_ => ⟨hk_.1.1.1.1.2, hk_.1.1.1.2, hk_.1.1.2, fun e_ => Or.elim (ho0.1 k_ e_.symm) (fun hs_ => hk_.2.1 hs_) (fun hn_ => Nat.not_le.2 hk_.2.2 hn_)⟩))
 have n4_ := A_ (Kd.R_mono (ok' := fun k_ => some k_ ≠ (.slice Ao11 t536.length co11 : Value).ownBlock ∧ some k_ ≠ (.slice Ao16 t539.length co16 : Value).ownBlock ∧ some k_ ≠ (.slice Ao14 t544.length co14 : Value).ownBlock ∧ some k_ ≠ (v554 : Value).ownBlock) (Kd.R_keptB (HO549.out) hkp (fun k_ hk_ hs_ => (hk_.2) hs_)) (fun k_ hk_ => ⟨hk_.1.1.1.1.2, hk_.1.1.1.2, hk_.1.1.2, fun e_ => Or.elim (ho0.1 k_ e_.symm) (fun hs_ => hk_.2.1 hs_) (fun hn_ => Nat.not_le.2 hk_.2.2 hn_)⟩))
 have n5_ := A_ (Kd.R_mono (ok' := fun k_ => some k_ ≠ (.slice Ao11 t536.length co11 : Value).ownBlock ∧ some k_ ≠ (.slice Ao16 t539.length co16 : Value).ownBlock ∧ some k_ ≠ (.slice Ao14 t544.length co14 : Value).ownBlock ∧ some k_ ≠ (.slice Ao17 t547.length co17 : Value).ownBlock) ho0 (fun k_ hk_ => ⟨Or.elim hk_ (fun hs_ => fun e_ => (((HO538.out).1 k_ e_.symm).2) hs_) (fun hn_ => (Kd.fresh' (Kd.R_lt (tr_x HO538.out)) k_ hn_)), Or.elim hk_ (fun hs_ => fun e_ => (((HO541.out).1 k_ e_.symm).2) hs_) (fun hn_ => (Kd.fresh' (Kd.R_lt (tr_x HO541.out)) k_ hn_)), Or.elim hk_ (fun hs_ => fun e_ => (((HO546.out).1 k_ e_.symm).2) hs_) (fun hn_ => (Kd.fresh' (Kd.R_lt (tr_x HO546.out)) k_ hn_)), Or.elim hk_ (fun hs_ => fun e_ => (((HO549.out).1 k_ e_.symm).2) hs_) (fun hn_ => (Kd.fresh' (Kd.R_lt (tr_x HO549.out)) k_ hn_))⟩))
 have n6_ := A_ (hb)
 clear BK533
 clear HO538
 clear HO541
 clear HO546
 clear HO549
 clear HB
 clear HO552
 have BK533 := n0_
 have HO538 := n1_
 have HO541 := n2_
 have HO546 := n3_
 have HO549 := n4_
 have HO555 := n5_
 have HB := n6_
 clear n0_ n1_ n2_ n3_ n4_ n5_ n6_
 (try clear hb)
 (try clear hkp)
 (try clear ho0)
 refine hK.out _ _ ⟨(blk_cell BK533.out 0).trans rfl, (blk_cell BK533.out 1).trans rfl, (blk_cell BK533.out 2).trans rfl⟩ (fun hHeld => ?_)
 clear hK K
 refine norm_ (a' := ?_) ?_ ?_
 rotate_left
 ·
  show Act.put _ (some 10) _ = _
  simp only [Act.put, List.setIfInBounds_toArray, List.set_cons_zero, List.set_cons_succ, i64_w, i32_w]
  rfl
 refine pq_ 8 (some 2) (Fn.bl 9 511) HT_.out ?_
 refine done_ (done_of HT_.out (by kernel_rfl)) ?_
 try go_wp2
 go_ret
 exact ⟨_, te_, by (with_reducible repeat (first | apply Kd.R_alloc | apply Kd.R_drewN | apply Kd.R_drew)); exact Kd.R_mono HO555.out (fun _ hk => trivial), tb_⟩

/-! ### impl_product: function 179 -/
mutual
def impl_product.l0 : Nat → List Int → List Int → List Int → Int → Int → Option (List Int)
 | 0, _, _, _, _, _ => none
 | k + 1, x1, x5, x17, x18, x19 => if x19 < x18 then (if 0 ≤ x19 then (if x19 < (x17.length : Int) then (impl_product.l1 k x1 x5 x19 (rd x17 x19) x17 x18 x19 x1 (x1.length : Int) 0) else (none)) else (none)) else (some x5)
def impl_product.l1 : Nat → List Int → List Int → Int → Int → List Int → Int → Int → List Int → Int → Int → Option (List Int)
 | 0, _, _, _, _, _, _, _, _, _, _ => none
 | k + 1, x1, x5, x6, x7, x17, x18, x19, x24, x25, x26 => if x26 < x25 then (if 0 ≤ x26 then (if x26 < (x24.length : Int) then (if 0 ≤ (wrap64 (x6 + x26)) then (if (wrap64 (x6 + x26)) < (x5.length : Int) then (impl_product.l1 k x1 (x5.set ((wrap64 (x6 + x26)) : Int).toNat (wrap64 ((rd x5 (wrap64 (x6 + x26))) + (wrap64 (x7 * (rd x24 x26)))))) x6 x7 x17 x18 x19 x24 x25 (wrap64 (x26 + 1))) else (none)) else (none)) else (none)) else (none)) else (impl_product.l0 k x1 x5 x17 x18 (wrap64 (x19 + 1)))
end
def impl_product.f (k : Nat) (l0 : List Int) (l1 : List Int) : Option (List Int) := if 0 ≤ (wrap64 ((wrap64 ((l0.length : Int) + (l1.length : Int))) - 1)) then (if (wrap64 ((wrap64 ((l0.length : Int) + (l1.length : Int))) - 1) : Int).toNat ≤ 35184372088832 then (impl_product.l0 k l1 (List.replicate (wrap64 ((wrap64 ((l0.length : Int) + (l1.length : Int))) - 1) : Int).toNat 0) l0 (l0.length : Int) 0) else (none)) else (none)
theorem impl_product.mono_l : ∀ k, (∀ y0 y1 y2 y3 y4, LeO (impl_product.l0 k y0 y1 y2 y3 y4) (impl_product.l0 (k + 1) y0 y1 y2 y3 y4)) ∧ (∀ y0 y1 y2 y3 y4 y5 y6 y7 y8 y9, LeO (impl_product.l1 k y0 y1 y2 y3 y4 y5 y6 y7 y8 y9) (impl_product.l1 (k + 1) y0 y1 y2 y3 y4 y5 y6 y7 y8 y9))
 | 0 => ⟨fun _ _ _ _ _ r h => by simp [impl_product.l0] at h, fun _ _ _ _ _ _ _ _ _ _ r h => by simp [impl_product.l1] at h⟩
 | k + 1 => by
  obtain ⟨ih0, ih1⟩ := impl_product.mono_l k
  refine ⟨?_, ?_⟩
  ·
   intro y0 y1 y2 y3 y4
   unfold impl_product.l0
   repeat' first | (with_reducible first | exact ih0 _ _ _ _ _ | exact ih1 _ _ _ _ _ _ _ _ _ _ | exact LeO.refl _ | exact LeO.none _ | refine LeO.ite ?_ ?_ | refine LeO.bind ?_ (fun _ => ?_)) | exact ih0 _ _ _ _ _ | exact ih1 _ _ _ _ _ _ _ _ _ _ | exact LeO.none _ | refine LeO.ite ?_ ?_ | refine LeO.bind ?_ (fun _ => ?_)
  ·
   intro y0 y1 y2 y3 y4 y5 y6 y7 y8 y9
   unfold impl_product.l1
   repeat' first | (with_reducible first | exact ih0 _ _ _ _ _ | exact ih1 _ _ _ _ _ _ _ _ _ _ | exact LeO.refl _ | exact LeO.none _ | refine LeO.ite ?_ ?_ | refine LeO.bind ?_ (fun _ => ?_)) | exact ih0 _ _ _ _ _ | exact ih1 _ _ _ _ _ _ _ _ _ _ | exact LeO.none _ | refine LeO.ite ?_ ?_ | refine LeO.bind ?_ (fun _ => ?_)
theorem impl_product.mono : ∀ a0 a1 k, LeO (impl_product.f k a0 a1) (impl_product.f (k + 1) a0 a1) := by
 intro a0 a1 k
 obtain ⟨ih0, ih1⟩ := impl_product.mono_l k
 unfold impl_product.f
 repeat' first | (with_reducible first | exact ih0 _ _ _ _ _ | exact ih1 _ _ _ _ _ _ _ _ _ _ | exact LeO.refl _ | exact LeO.none _ | refine LeO.ite ?_ ?_ | refine LeO.bind ?_ (fun _ => ?_)) | exact ih0 _ _ _ _ _ | exact ih1 _ _ _ _ _ _ _ _ _ _ | exact LeO.none _ | refine LeO.ite ?_ ?_ | refine LeO.bind ?_ (fun _ => ?_)
theorem impl_product.calls (k : Nat) (A0 : Option Addr) (c0 : Nat) (l0 : List Int) (A1 : Option Addr) (c1 : Nat) (l1 : List Int) (r : List Int) (w : World) (hr0 : Kd.C (Kd.int .i64) w A0 l0.length l0) (hc0 : l0.length ≤ c0) (hr1 : Kd.C (Kd.int .i64) w A1 l1.length l1) (hc1 : l1.length ≤ c1) (h : impl_product.f k l0 l1 = some r) :
  Calls Try.prog 179 #[.slice A0 l0.length c0, .slice A1 l1.length c1] w fun e w' => ∃ v0_ : Value, e = .returned (v0_) ∧ Kd.R (Kd.int .i64) 3 w' w.heap.size (fun _ => True) v0_ r ∧ Below w.heap.size w w' := by
 have HR0 := A_ hr0
 have HC0 := A_ hc0
 clear hr0 hc0
 have HR1 := A_ hr1
 have HC1 := A_ hc1
 clear hr1 hc1
 have HB := A_ (Below.refl w.heap.size w)
 have H : (if 0 ≤ (wrap64 ((wrap64 ((l0.length : Int) + (l1.length : Int))) - 1)) then (if (wrap64 ((wrap64 ((l0.length : Int) + (l1.length : Int))) - 1) : Int).toNat ≤ 35184372088832 then (impl_product.l0 k l1 (List.replicate (wrap64 ((wrap64 ((l0.length : Int) + (l1.length : Int))) - 1) : Int).toNat 0) l0 (l0.length : Int) 0) else (none)) else (none)) = some r := h
 clear h
 obtain ⟨ji3, hji3⟩ : ∃ j_ : Int, (wrap64 ((wrap64 ((l0.length : Int) + (l1.length : Int))) - 1)) = j_ := ⟨_, rfl⟩
 replace H : (if 0 ≤ (ji3) then (if (ji3 : Int).toNat ≤ 35184372088832 then (impl_product.l0 k l1 (List.replicate (ji3 : Int).toNat 0) l0 (l0.length : Int) 0) else (none)) else (none)) = some r := by first | (rw [hji3] at H; exact H) | (simp only [hji3] at H ⊢; exact H)
 have hji3w : (IntKind.i64.wrap ((wrap64 ((l0.length : Int) + (l1.length : Int))) - 1)) = ji3 := (i64_w _).trans hji3
 by_cases c4 : 0 ≤ (ji3)
 ·
  rw [if_pos c4] at H
  have c4b0 := eq_true c4
  have c4b1 := decide_eq_true c4
  clear c4
  by_cases c5 : (ji3 : Int).toNat ≤ 35184372088832
  ·
   rw [if_pos c5] at H
   have c5b0 := eq_true c5
   have c5b1 := decide_eq_true c5
   clear c5
   obtain ⟨y561, hy561⟩ : ∃ y_ : List Int, y_ = (List.replicate (ji3 : Int).toNat 0) := ⟨_, rfl⟩
   replace H : (impl_product.l0 k l1 y561 l0 (l0.length : Int) 0) = some r := ty_ hy561 H
   have Ny561 := A_ hy561
   clear hy561
   have H' := A_ H
   clear H
   go_enter Try.func179, Try.ntmps179
   go_wp2_with (first | (refine gd_ 16 ?_; refine Kd.R_make (Kd.int .i64) _ 3 rfl (N := 16) rfl 22 _ _ rfl ji3 rfl rfl Try.underlying22 (.int .i64 0) 8 info3 rfl (by decide) (by omega) 0 (ok := fun _ => True) (okp := fun _ => True) rfl (fun _ hk => hk) trivial (od_) (Nat.le_trans (Nat.mul_le_mul_right _ (od_ : ji3.toNat ≤ 35184372088832)) (by omega)) (Below.refl _ _) (Nat.le_refl _) ?_; intro v562 w6 ho7 hb hg_ hnew_; clear hg_ hnew_; (first | rw [← Ny561.out] at ho7 | (simp only [Int.reduceToNat] at ho7; rw [← Ny561.out] at ho7)); have HO563 := A_ (Kd.R_lower ho7 (below_size tb_)); replace HB := A_ (below_step tb_ hb); clear hb ho7))
   go_loopg [19] k (fun kq v19 w' => ∃ (x5_1 : List Int) (x19_1 : Int), v19 = .int .i64 x19_1 ∧ Aside0 (impl_product.l0 kq l1 x5_1 l0 (l0.length : Int) x19_1 = some r) ∧ Aside0 (kq ≤ k) ∧ Aside0 (Kd.R (Kd.int .i64) 3 w' w.heap.size (fun _ => True) v562 x5_1) ∧ Aside0 (Below w.heap.size w w'))
   case atStart => exact ⟨(y561), (0), tf_, H', ⟨Nat.le_refl _⟩, ⟨tr_x HO563.out⟩, ⟨tb_⟩⟩
   case round =>
    clear H'
    try clear c1
    try clear p2
    try clear c4
    try clear c4b0
    try clear c4b1
    try clear c5
    try clear c5b0
    try clear c5b1
    try clear p6
    obtain ⟨x5_1, x19_1, rfl, HA, HK1, HO_5, HB⟩ := hrel
    cases gk with
    | zero => exact absurd HA.out (by simp [impl_product.l0])
    | succ k1 =>
     have H := HA.out
     clear HA
     simp only [impl_product.l0] at H
     by_cases c8 : x19_1 < (l0.length : Int)
     ·
      rw [if_pos c8] at H
      have c8b0 := decide_eq_true c8
      clear c8
      by_cases c9 : 0 ≤ x19_1
      ·
       rw [if_pos c9] at H
       have c9b0 := decide_eq_true c9
       clear c9
       by_cases c10 : x19_1 < (l0.length : Int)
       ·
        rw [if_pos c10] at H
        have c10b0 := decide_eq_true c10
        clear c10
        have H' := A_ H
        clear H
        have p564 : 0 ≤ (x19_1 : Int) := od_
        have q564 : x19_1 < (l0.length : Int) := od_
        obtain ⟨ad564, e564, hx564_0⟩ := Kd.at_int HR0.out x19_1 p564 q564
        cases e564
        (try replace hx564_0 := (HB.out.cell (World.block_lt_of_cell? w _ hx564_0)).trans hx564_0)
        replace p564 := eq_true p564
        replace q564 := eq_true q564
        go_wp2
        go_loopg [26] k1 (fun kq v26 w' => ∃ (x5_2 : List Int) (x26_2 : Int), v26 = .int .i64 x26_2 ∧ Aside0 (impl_product.l1 kq l1 x5_2 x19_1 (rd l0 x19_1) l0 (l0.length : Int) x19_1 l1 (l1.length : Int) x26_2 = some r) ∧ Aside0 (kq ≤ k1) ∧ Aside0 (Kd.R (Kd.int .i64) 3 w' w.heap.size (fun _ => True) v562 x5_2) ∧ Aside0 (Below w.heap.size w w'))
        case atStart => exact ⟨(x5_1), (0), tf_, H', ⟨Nat.le_refl _⟩, ⟨tr_x HO_5.out⟩, ⟨tb_⟩⟩
        case round =>
         clear H'
         try clear c1
         try clear p2
         try clear c4
         try clear c4b0
         try clear c4b1
         try clear c5
         try clear c5b0
         try clear c5b1
         try clear p5
         try clear q5
         try clear hx5
         try clear p6
         try clear c8
         try clear c8b0
         try clear c9
         try clear c9b0
         try clear c10
         try clear c10b0
         try clear hx564_0
         try clear p2
         try clear p564
         try clear p6
         try clear q564
         obtain ⟨x5_2, x26_2, rfl, HA, HK2, HO_5, HB⟩ := hrel
         cases gk with
         | zero => exact absurd HA.out (by simp [impl_product.l1])
         | succ k2 =>
          have H := HA.out
          clear HA
          simp only [impl_product.l1] at H
          by_cases c11 : x26_2 < (l1.length : Int)
          ·
           rw [if_pos c11] at H
           have c11b0 := decide_eq_true c11
           clear c11
           by_cases c12 : 0 ≤ x26_2
           ·
            rw [if_pos c12] at H
            have c12b0 := decide_eq_true c12
            clear c12
            by_cases c13 : x26_2 < (l1.length : Int)
            ·
             rw [if_pos c13] at H
             have c13b0 := decide_eq_true c13
             clear c13
             obtain ⟨ji14, hji14⟩ : ∃ j_ : Int, (wrap64 (x19_1 + x26_2)) = j_ := ⟨_, rfl⟩
             replace H : (if 0 ≤ (ji14) then (if (ji14) < (x5_2.length : Int) then (impl_product.l1 k2 l1 (x5_2.set ((ji14) : Int).toNat (wrap64 ((rd x5_2 (ji14)) + (wrap64 ((rd l0 x19_1) * (rd l1 x26_2)))))) x19_1 (rd l0 x19_1) l0 (l0.length : Int) x19_1 l1 (l1.length : Int) (wrap64 (x26_2 + 1))) else (none)) else (none)) = some r := by first | (rw [hji14] at H; exact H) | (simp only [hji14] at H ⊢; exact H)
             have hji14w : (IntKind.i64.wrap (x19_1 + x26_2)) = ji14 := (i64_w _).trans hji14
             by_cases c15 : 0 ≤ (ji14)
             ·
              rw [if_pos c15] at H
              have c15b0 := decide_eq_true c15
              clear c15
              by_cases c16 : (ji14) < (x5_2.length : Int)
              ·
               rw [if_pos c16] at H
               have c16b0 := decide_eq_true c16
               clear c16
               obtain ⟨y567, hy567⟩ : ∃ y_ : List Int, y_ = (x5_2.set ((ji14) : Int).toNat (wrap64 ((rd x5_2 (ji14)) + (wrap64 ((rd l0 x19_1) * (rd l1 x26_2)))))) := ⟨_, rfl⟩
               replace H : (impl_product.l1 k2 l1 y567 x19_1 (rd l0 x19_1) l0 (l0.length : Int) x19_1 l1 (l1.length : Int) (wrap64 (x26_2 + 1))) = some r := ty_ hy567 H
               have Ny567 := A_ hy567
               clear hy567
               have H' := A_ H
               clear H
               have p565 : 0 ≤ (x26_2 : Int) := od_
               have q565 : x26_2 < (l1.length : Int) := od_
               obtain ⟨ad565, e565, hx565_0⟩ := Kd.at_int HR1.out x26_2 p565 q565
               cases e565
               (try replace hx565_0 := (HB.out.cell (World.block_lt_of_cell? w _ hx565_0)).trans hx565_0)
               replace p565 := eq_true p565
               replace q565 := eq_true q565
               obtain ⟨Ao18, co18, eo18⟩ := Kd.R_slice HO_5.out
               subst eo18
               have p566 : 0 ≤ ((ji14) : Int) := od_
               have q566 : (ji14) < (x5_2.length : Int) := od_
               obtain ⟨ad566, e566, hx566_0⟩ := Kd.at_int (Kd.R_reads' HO_5.out).2.2 (ji14) p566 q566
               cases e566
               replace p566 := eq_true p566
               replace q566 := eq_true q566
               have p17 : 0 ≤ ((ji14) : Int) := od_
               have q17 : ((ji14) : Int) < ((x5_2.length : Int) : Int) := od_
               obtain ⟨go17, co17, eo17, gb17, gl17, cl17, HG17⟩ := Kd.R_form HO_5.out (by omega)
               (first | cases eo17 | (injection eo17 with ea_ en_ ec_; (first | subst ea_ | (injection ea_ with ea_; subst ea_)); subst ec_; clear en_))
               have GB17 := A_ gb17
               have GG17 := A_ HG17
               clear gb17 gl17 HG17
               (first | simp only [add_plain] at hx566_0 | skip)
               obtain ⟨hx17_0, hf17_0⟩ := Kd.R_celln 0 HO_5.out ((ji14) : Int) p17 q17
               replace p17 := eq_true p17
               replace q17 := eq_true q17
               have HP19 := Kd.R_putg HO_5.out ((ji14) : Int) (wrap64 ((rd x5_2 (ji14)) + (wrap64 ((rd l0 x19_1) * (rd l1 x26_2)))))
               go_wp2_with (first | ((with_reducible refine gate_store (t := 3) (p := 41) rfl ?_); refine store_event (t := 3) (p := 41) (v := ?vo_w20) (w1 := (wr.setCell ⟨go17, ((ji14) : Int).toNat, none⟩ (.int .i64 (wrap64 ((rd x5_2 (ji14)) + (wrap64 ((rd l0 x19_1) * (rd l1 x26_2)))))))) ?hg ?ho ?hn ?hr ?_; (case ho => rfl); (case hg => rfl); (case hn => rfl); (case hr => first | (go_simp; done) | (go_simp; rfl)); intro w20 hw; have hg : wr.grownBy w20 (some go17) := (by rw [hw]; exact HP19.2); have hp_ : Kd.R (Kd.int .i64) 3 w20 w.heap.size (fun _ => True) (.slice (some ⟨go17, 0, none⟩) x5_2.length co18) y567 := (by rw [hw, Ny567.out]; exact HP19.1); clear HP19; replace HO_5 := A_ (hp_); replace HB := A_ ((by rw [hw]; exact below_set (HB.out) GB17.out : Below w.heap.size w w20)); clear hg hw hp_))
               go_roundg k2
               case measure => have := HK1.out; have := HK2.out; omega
               case rel => exact ⟨(y567), (wrap64 (x26_2 + 1)), tf_, H', ⟨by have := HK1.out; have := HK2.out; omega⟩, ⟨tr_x HO_5.out⟩, ⟨tb_⟩⟩
              ·
               rw [if_neg c16] at H
               exact absurd H (by simp)
             ·
              rw [if_neg c15] at H
              exact absurd H (by simp)
            ·
             rw [if_neg c13] at H
             exact absurd H (by simp)
           ·
            rw [if_neg c12] at H
            exact absurd H (by simp)
          ·
           rw [if_neg c11] at H
           have c11b0 := decide_eq_false c11
           clear c11
           have H' := A_ H
           clear H
           go_wp2
           go_roundg k2
           case measure => have := HK1.out; have := HK2.out; omega
           case rel => exact ⟨(x5_2), (wrap64 (x19_1 + 1)), tf_, H', ⟨by have := HK1.out; have := HK2.out; omega⟩, ⟨tr_x HO_5.out⟩, ⟨tb_⟩⟩
       ·
        rw [if_neg c10] at H
        exact absurd H (by simp)
      ·
       rw [if_neg c9] at H
       exact absurd H (by simp)
     ·
      rw [if_neg c8] at H
      have c8b0 := decide_eq_false c8
      clear c8
      obtain rfl := Option.some.inj H
      go_wp2
      go_ret
      exact ⟨_, by first | rfl | (simp [errW_none, errW_some] <;> rfl) | (simp only [← hji3]; first | rfl | (simp [errW_none, errW_some] <;> rfl)) | (simp [*, errW_none, errW_some] <;> rfl), tr_x HO_5.out, tb_⟩
  ·
   rw [if_neg c5] at H
   exact absurd H (by simp)
 ·
  rw [if_neg c4] at H
  exact absurd H (by simp)

/-! ### impl_rooks: function 214 -/
def impl_rooks.l0 : Nat → Int → List Int → Int → Int → Option (Int)
 | 0, _, _, _, _ => none
 | k + 1, x3, x6, x7, x8 => if x8 < x7 then (if 0 ≤ x8 then (if x8 < (x6.length : Int) then (if (rd x6 x8) = (-1) then (impl_rooks.l0 k x3 x6 x7 (wrap64 (x8 + 1))) else (impl_rooks.l0 k (wrap64 (x3 + 1)) x6 x7 (wrap64 (x8 + 1)))) else (none)) else (none)) else (some x3)
def impl_rooks.f (k : Nat) (l0 : List Int) : Option (Int) := impl_rooks.l0 k 0 l0 (l0.length : Int) 0
theorem impl_rooks.mono_l : ∀ k, (∀ y0 y1 y2 y3, LeO (impl_rooks.l0 k y0 y1 y2 y3) (impl_rooks.l0 (k + 1) y0 y1 y2 y3))
 | 0 => fun _ _ _ _ r h => by simp [impl_rooks.l0] at h
 | k + 1 => by
  have ih0 := impl_rooks.mono_l k
  ·
   intro y0 y1 y2 y3
   unfold impl_rooks.l0
   repeat' first | (with_reducible first | exact ih0 _ _ _ _ | exact LeO.refl _ | exact LeO.none _ | refine LeO.ite ?_ ?_ | refine LeO.bind ?_ (fun _ => ?_)) | exact ih0 _ _ _ _ | exact LeO.none _ | refine LeO.ite ?_ ?_ | refine LeO.bind ?_ (fun _ => ?_)
theorem impl_rooks.mono : ∀ a0 k, LeO (impl_rooks.f k a0) (impl_rooks.f (k + 1) a0) := by
 intro a0 k
 have ih0 := impl_rooks.mono_l k
 unfold impl_rooks.f
 repeat' first | (with_reducible first | exact ih0 _ _ _ _ | exact LeO.refl _ | exact LeO.none _ | refine LeO.ite ?_ ?_ | refine LeO.bind ?_ (fun _ => ?_)) | exact ih0 _ _ _ _ | exact LeO.none _ | refine LeO.ite ?_ ?_ | refine LeO.bind ?_ (fun _ => ?_)
theorem impl_rooks.calls (k : Nat) (A0 : Option Addr) (c0 : Nat) (l0 : List Int) (r : Int) (w : World) (hr0 : Kd.C (Kd.int .i64) w A0 l0.length l0) (hc0 : l0.length ≤ c0) (h : impl_rooks.f k l0 = some r) :
  Calls Try.prog 214 #[.slice A0 l0.length c0] w fun e w' => e = .returned (.int .i64 r) ∧ Drawn0 w w' := by
 have HR0 := A_ hr0
 have HC0 := A_ hc0
 clear hr0 hc0
 have H : (impl_rooks.l0 k 0 l0 (l0.length : Int) 0) = some r := h
 clear h
 have H' := A_ H
 clear H
 go_enter Try.func214, Try.ntmps214
 go_wp2
 go_loopg [3, 8] k (fun kq v3 v8 w' => ∃ (x3_1 : Int) (x8_1 : Int), v3 = .int .i64 x3_1 ∧ v8 = .int .i64 x8_1 ∧ Aside0 (impl_rooks.l0 kq x3_1 l0 (l0.length : Int) x8_1 = some r) ∧ Aside0 (kq ≤ k) ∧ Drawn0 w w')
 case atStart => exact ⟨(0), (0), tf_, tf_, H', ⟨Nat.le_refl _⟩, dr_⟩
 case round =>
  clear H'
  obtain ⟨x3_1, x8_1, rfl, rfl, HA, HK1, ⟨m1, rfl⟩⟩ := hrel
  cases gk with
  | zero => exact absurd HA.out (by simp [impl_rooks.l0])
  | succ k1 =>
   have H := HA.out
   clear HA
   simp only [impl_rooks.l0] at H
   by_cases c2 : x8_1 < (l0.length : Int)
   ·
    rw [if_pos c2] at H
    have c2b0 := decide_eq_true c2
    clear c2
    by_cases c3 : 0 ≤ x8_1
    ·
     rw [if_pos c3] at H
     have c3b0 := decide_eq_true c3
     clear c3
     by_cases c4 : x8_1 < (l0.length : Int)
     ·
      rw [if_pos c4] at H
      have c4b0 := decide_eq_true c4
      clear c4
      by_cases c5 : (rd l0 x8_1) = (-1)
      ·
       rw [if_pos c5] at H
       have c5b0 : ((rd l0 x8_1) == (-1)) = true := beq_iff_eq.mpr c5
       have c5b1 : ((rd l0 x8_1) != (-1)) = false := bne_eq_false_iff_eq.mpr c5
       clear c5
       have H' := A_ H
       clear H
       have p568 : 0 ≤ (x8_1 : Int) := od_
       have q568 : x8_1 < (l0.length : Int) := od_
       obtain ⟨ad568, e568, hx568_0⟩ := Kd.at_int HR0.out x8_1 p568 q568
       cases e568
       replace p568 := eq_true p568
       replace q568 := eq_true q568
       go_wp2
       go_roundg k1
       case measure => have := HK1.out; omega
       case rel => exact ⟨(x3_1), (wrap64 (x8_1 + 1)), tf_, tf_, H', ⟨by have := HK1.out; omega⟩, dr_⟩
      ·
       rw [if_neg c5] at H
       have c5b0 : ((rd l0 x8_1) == (-1)) = false := beq_eq_false_iff_ne.mpr c5
       have c5b1 : ((rd l0 x8_1) != (-1)) = true := bne_iff_ne.mpr c5
       have H' := A_ H
       clear H
       have p568 : 0 ≤ (x8_1 : Int) := od_
       have q568 : x8_1 < (l0.length : Int) := od_
       obtain ⟨ad568, e568, hx568_0⟩ := Kd.at_int HR0.out x8_1 p568 q568
       cases e568
       replace p568 := eq_true p568
       replace q568 := eq_true q568
       go_wp2
       go_roundg k1
       case measure => have := HK1.out; omega
       case rel => exact ⟨(wrap64 (x3_1 + 1)), (wrap64 (x8_1 + 1)), tf_, tf_, H', ⟨by have := HK1.out; omega⟩, dr_⟩
     ·
      rw [if_neg c4] at H
      exact absurd H (by simp)
    ·
     rw [if_neg c3] at H
     exact absurd H (by simp)
   ·
    rw [if_neg c2] at H
    have c2b0 := decide_eq_false c2
    clear c2
    obtain rfl := Option.some.inj H
    go_wp2
    go_ret
    exact ⟨tf_, dr_⟩

/-! ### impl_Board_numbers_1: function 213 -/
def impl_Board_numbers_1.f (k : Nat) (p out : List Int) : Option (List Int) := (impl_rooks.f k p).bind fun i => if 0 ≤ i then (if i < (out.length : Int) then some (out.set i.toNat (wrap64 (rd out i + 1))) else none) else none
theorem impl_Board_numbers_1.calls (k : Nat) (w W : World) (go ro : Nat) (out r p : List Int) (Ap : Option Addr) (cp : Nat) (hS : Cap.Cnt 22 3 w go ro W out) (hp : Kd.C (Kd.int .i64) W Ap p.length p) (hc : p.length ≤ cp) (h : impl_Board_numbers_1.f k p out = some r) :
  Calls Try.prog 213 #[.slice Ap p.length cp, .pointer (some ⟨go, 0, none⟩)] W fun e W' => e = .returned (.bool true) ∧ Cap.Cnt 22 3 w go ro W' r ∧ W.grownBy W' (some ro) := by
 unfold impl_Board_numbers_1.f at h
 obtain ⟨i, A1, H⟩ := Option.bind_eq_some_iff.mp h
 clear h
 by_cases c1 : 0 ≤ i
 case neg =>
  rw [if_neg c1] at H
  exact absurd H (by simp)
 rw [if_pos c1] at H
 by_cases c2 : i < (out.length : Int)
 case neg =>
  rw [if_neg c2] at H
  exact absurd H (by simp)
 rw [if_pos c2] at H
 obtain rfl := Option.some.inj H
 obtain ⟨n, rfl⟩ : ∃ n : Nat, i = (n : Int) := ⟨i.toNat, by omega⟩
 have hn : n < out.length := by omega
 have hco := hS.cello
 have HS := A_ hS
 have HP := A_ hp
 have HC := A_ hc
 have HA := A_ A1
 have HN := A_ hn
 clear H hS hp hc A1
 go_enter Try.func213, Try.ntmps213
 go_wp2
 refine start_ (n := 8) (S := fun w' => w'.cell? ⟨go, 0, none⟩ = some (.slice (some ⟨ro, 0, none⟩) out.length out.length) ∧ w'.cell? ⟨ro, n, none⟩ = some (.int .i64 out[n])) (ds := [7]) (Fn.bl 8 0) (by kernel_rfl) rfl rfl ⟨(HS.out.below (below_drew (Below.refl _ _))).cello, (HS.out.below (below_drew (Below.refl _ _))).cell n HN.out⟩ (fun hHeld => ?_)
 have HS1 := A_ (HS.out.below (below_drew (Below.refl _ _)))
 have HB1 := A_ (below_drew (Below.refl W.heap.size W))
 have HP1 := A_ (Kd.C_below HP.out HB1.out)
 clear hco
 generalize W.drew = w1 at HS1 HB1 HP1 hHeld ⊢
 refine take_ (i := 0) (N := some 4) (v := ?_) (a' := ?_) (Fn.bl 8 1) rfl rfl (by kernel_rfl) (fun _ _ _ h => h) (Or.inl ⟨by rfl, ?_⟩) hHeld ?_ ?_
 rotate_left
 ·
  rintro w' ⟨s0, s1⟩
  go_simp
  with_reducible rfl
 rotate_left
 ·
  simp only [Act.put, List.setIfInBounds_toArray, List.set_cons_zero, List.set_cons_succ, i64_w, i32_w]
  rfl
 refine take_ (i := 1) (N := some 5) (v := ?_) (a' := ?_) (Fn.bl 8 3) rfl rfl (by kernel_rfl) (fun _ _ _ h => h) (Or.inl ⟨by rfl, ?_⟩) hHeld ?_ ?_
 rotate_left
 ·
  rintro w' ⟨s0, s1⟩
  go_simp
  with_reducible rfl
 rotate_left
 ·
  simp only [Act.put, List.setIfInBounds_toArray, List.set_cons_zero, List.set_cons_succ, i64_w, i32_w]
  rfl
 refine one_ (i := 2) (N := some 6) (Fn.bl 8 7) rfl rfl (by kernel_rfl) (by decide) (fun K hK => ?_)
 refine goes_ Try.func214 (by kernel_rfl) rfl #[.slice Ap p.length cp] (by rfl) rfl rfl (by (try simp only [List.map_toArray, List.map_cons, List.map_nil]); first | done | rfl) ?_
 with_reducible refine (impl_rooks.calls k Ap cp p (n : Int) _ HP1.out HC.out HA.out).mono ?_
 rintro e w2 ⟨rfl, hd⟩
 refine ⟨_, rfl, ?_⟩
 have HB2 := A_ (below_step HB1.out hd.below)
 have HS2 := A_ (HS1.out.below hd.below)
 clear hd
 refine hK.out _ _ ⟨HS2.out.cello, HS2.out.cell n HN.out⟩ (fun hHeld => ?_)
 clear hK K
 refine norm_ (a' := ?_) ?_ ?_
 rotate_left
 ·
  show Act.put _ (some 6) _ = _
  simp only [Act.put, List.setIfInBounds_toArray, List.set_cons_zero, List.set_cons_succ, i64_w, i32_w]
  rfl
 have p0 : (0 ≤ (n : Int)) = True := eq_true (by omega)
 have p1 : ((n : Int) < (out.length : Int)) = True := eq_true (by have := HN.out; omega)
 have p2 : (n < out.length) = True := eq_true HN.out
 refine take_ (i := 3) (N := some 7) (v := .pointer (some ⟨ro, n, none⟩)) (a' := ?_) (Fn.bl 8 15) rfl rfl (by kernel_rfl) (fun _ _ _ h => h) (Or.inl ⟨by rfl, ?_⟩) hHeld ?_ ?_
 ·
  rintro w' ⟨s0, s1⟩
  go_simp
  done
 rotate_left
 ·
  simp only [Act.put, List.setIfInBounds_toArray, List.set_cons_zero, List.set_cons_succ, i64_w, i32_w]
  rfl
 refine take_ (i := 4) (N := some 8) (v := .int .i64 out[n]) (a' := ?_) (Fn.bl 8 31) rfl rfl (by kernel_rfl) (fun _ _ _ h => h) (Or.inl ⟨by rfl, ?_⟩) hHeld ?_ ?_
 ·
  rintro w' ⟨s0, s1⟩
  go_simp
  done
 rotate_left
 ·
  simp only [Act.put, List.setIfInBounds_toArray, List.set_cons_zero, List.set_cons_succ, i64_w, i32_w]
  rfl
 refine take_ (i := 5) (N := some 9) (v := ?_) (a' := ?_) (Fn.bl 8 63) rfl rfl (by kernel_rfl) (fun _ _ _ h => h) (Or.inl ⟨by rfl, ?_⟩) hHeld ?_ ?_
 rotate_left
 ·
  rintro w' ⟨s0, s1⟩
  go_simp
  with_reducible rfl
 rotate_left
 ·
  simp only [Act.put, List.setIfInBounds_toArray, List.set_cons_zero, List.set_cons_succ, i64_w, i32_w]
  rfl
 refine take_ (i := 6) (N := some 10) (v := .pointer (some ⟨ro, n, none⟩)) (a' := ?_) (Fn.bl 8 127) rfl rfl (by kernel_rfl) (fun _ _ _ h => h) (Or.inl ⟨by rfl, ?_⟩) hHeld ?_ ?_
 ·
  rintro w' ⟨s0, s1⟩
  go_simp
  done
 rotate_left
 ·
  simp only [Act.put, List.setIfInBounds_toArray, List.set_cons_zero, List.set_cons_succ, i64_w, i32_w]
  rfl
 have hcn := HS2.out.cell n HN.out
 have hfn := HS2.out.free n
 refine last_ (i := 7) (N := none) (Fn.bl 8 255) rfl rfl (by kernel_rfl) (by decide) (fun K hK => ?_)
 refine skip_ (w1 := w2.setCell ⟨ro, n, none⟩ (.int .i64 (wrap64 (out[n] + 1)))) (by rfl) rfl ?_ ?_
 ·
  go_simp
  done
 refine hK.out _ _ ?_
 clear hK K
 have HS3 := A_ (HS2.out.put n (wrap64 (out[n] + 1)))
 have HG3 := A_ (Cap.grown_put (grown_of_below HB2.out (some ro)) (p := ⟨ro, n, none⟩) rfl (.int .i64 (wrap64 (out[n] + 1))))
 clear hcn hfn
 generalize w2.setCell ⟨ro, n, none⟩ (.int .i64 (wrap64 (out[n] + 1))) = w3 at HS3 HG3 ⊢
 refine done_ (by kernel_rfl) ?_
 go_wp2
 go_ret
 refine ⟨rfl, ?_, HG3.out⟩
 have e : rd out (n : Int) = out[n] := by unfold rd; simp [HN.out]
 rw [e, Int.toNat_natCast]
 exact HS3.out

/-! ### impl_Board_walk_1: function 225 -/
def impl_Board_walk_1.more (t c : Int) : Int := if c ≥ 0 then Go.bits .or .i64 t (wrap64 (2 ^ min c.toNat 64)) else t
def impl_Board_walk_1.skips (R C : Int) (lb : List Int) (r t c : Int) : Option Bool := if c ≥ 0 then ((impl_Board_has.f R C lb r c).bind fun b => some (if b = true then (Go.bits .and .i64 (shr .i64 t c) 1 == 1) else true)) else some false
mutual
def impl_Board_walk_1.f : Nat → Int → Int → List Int → Int → Int → List Int → List Int → Option (List Int × List Int)
 | 0, _, _, _, _, _, _, _ => none
 | k + 1, R, C, lb, r, t, p, out => if r = R then ((impl_Board_numbers_1.f k p out).bind fun o => some (p, o)) else impl_Board_walk_1.l0 k R C lb r t p out (-1)
def impl_Board_walk_1.l0 : Nat → Int → Int → List Int → Int → Int → List Int → List Int → Int → Option (List Int × List Int)
 | 0, _, _, _, _, _, _, _, _ => none
 | k + 1, R, C, lb, r, t, p, out, c => if c < C then ((impl_Board_walk_1.skips R C lb r t c).bind fun b => if b = true then impl_Board_walk_1.l0 k R C lb r t p out (wrap64 (c + 1)) else (if 0 ≤ r then (if r < (p.length : Int) then ((impl_Board_walk_1.f k R C lb (wrap64 (r + 1)) (impl_Board_walk_1.more t c) (p.set r.toNat c) out).bind fun q => impl_Board_walk_1.l0 k R C lb r t q.1 q.2 (wrap64 (c + 1))) else none) else none)) else some (p, out)
end
theorem impl_Board_walk_1.mono_l : ∀ k, (∀ R C lb r t p o, LeO (impl_Board_walk_1.f k R C lb r t p o) (impl_Board_walk_1.f (k + 1) R C lb r t p o)) ∧ (∀ R C lb r t p o c, LeO (impl_Board_walk_1.l0 k R C lb r t p o c) (impl_Board_walk_1.l0 (k + 1) R C lb r t p o c))
 | 0 => ⟨fun _ _ _ _ _ _ _ r h => by simp [impl_Board_walk_1.f] at h, fun _ _ _ _ _ _ _ _ r h => by simp [impl_Board_walk_1.l0] at h⟩
 | k + 1 => by
  obtain ⟨i0, i1⟩ := impl_Board_walk_1.mono_l k
  refine ⟨?_, ?_⟩
  ·
   intro R C lb r t p o
   unfold impl_Board_walk_1.f
   exact LeO.ite (LeO.bind (LeO.bind (impl_rooks.mono _ _) (fun _ => LeO.refl _)) (fun _ => LeO.refl _)) (i1 _ _ _ _ _ _ _ _)
  ·
   intro R C lb r t p o c
   unfold impl_Board_walk_1.l0
   refine LeO.ite ?_ (LeO.refl _)
   refine LeO.bind (LeO.refl _) (fun b => ?_)
   refine LeO.ite (i1 _ _ _ _ _ _ _ _) ?_
   refine LeO.ite ?_ (LeO.refl _)
   refine LeO.ite ?_ (LeO.refl _)
   exact LeO.bind (i0 _ _ _ _ _ _ _) (fun _ => i1 _ _ _ _ _ _ _ _)
theorem impl_Board_walk_1.mono : ∀ R C lb r t p o k, LeO (impl_Board_walk_1.f k R C lb r t p o) (impl_Board_walk_1.f (k + 1) R C lb r t p o) := fun R C lb r t p o k => (impl_Board_walk_1.mono_l k).1 _ _ _ _ _ _ _
def impl_Board_walk_1.self (gb gd gp gg gx : Nat) : Value := .func (.func 225) #[] #[.pointer (some ⟨gb, 0, none⟩), .pointer (some ⟨gd, 0, none⟩), .pointer (some ⟨gp, 0, none⟩), .pointer (some ⟨gg, 0, none⟩), .pointer (some ⟨gx, 0, none⟩)]
def impl_Board_walk_1.done (go : Nat) : Value := .func (.func 213) #[] #[.pointer (some ⟨go, 0, none⟩)]
abbrev impl_Board_walk_1.St (w : World) (gb gd gp gg gx go rp ro : Nat) (R C : Int) (Ab : Option Addr) (lb : List Int) (cb : Nat) (W : World) (p out : List Int) : Prop :=
 Cap.Wst 26 57 22 4 157 3 w gb gd gp gg gx go rp ro R C Ab lb cb (impl_Board_walk_1.done go) (impl_Board_walk_1.self gb gd gp gg gx) W p out
theorem impl_Board_walk_1.enters (gb gd gp gg gx : Nat) {r t : Int} {w : World} {Q : Ending → World → Prop} (h : Calls Try.prog 225 #[.int .i64 r, .int .i64 t, .pointer (some ⟨gb, 0, none⟩), .pointer (some ⟨gd, 0, none⟩), .pointer (some ⟨gp, 0, none⟩), .pointer (some ⟨gg, 0, none⟩), .pointer (some ⟨gx, 0, none⟩)] w Q) :
  Fn.CallsV Try.prog (impl_Board_walk_1.self gb gd gp gg gx) #[.int .i64 r, .int .i64 t] w Q := ⟨225, _, _, rfl, Try.func225, by kernel_rfl, rfl, by simpa using h⟩
theorem impl_Board_walk_1.tells (go : Nat) {v : Value} {w : World} {Q : Ending → World → Prop} (h : Calls Try.prog 213 #[v, .pointer (some ⟨go, 0, none⟩)] w Q) :
  Fn.CallsV Try.prog (impl_Board_walk_1.done go) #[v] w Q := ⟨213, _, _, rfl, Try.func213, by kernel_rfl, rfl, by simpa using h⟩
theorem impl_Board_walk_1.calls (k : Nat) : ∀ (w : World) (gb gd gp gg gx go rp ro : Nat) (R C : Int) (Ab : Option Addr) (lb : List Int) (cb : Nat) (W : World) (r t : Int) (p out p2 out2 : List Int) (hS : impl_Board_walk_1.St w gb gd gp gg gx go rp ro R C Ab lb cb W p out) (h : impl_Board_walk_1.f k R C lb r t p out = some (p2, out2)),
  Calls Try.prog 225 #[.int .i64 r, .int .i64 t, .pointer (some ⟨gb, 0, none⟩), .pointer (some ⟨gd, 0, none⟩), .pointer (some ⟨gp, 0, none⟩), .pointer (some ⟨gg, 0, none⟩), .pointer (some ⟨gx, 0, none⟩)] W fun e W' => e = .returned (.tuple #[]) ∧ impl_Board_walk_1.St w gb gd gp gg gx go rp ro R C Ab lb cb W' p2 out2 := by
 induction k using Nat.strongRecOn with
 | _ k ih =>
 intro w gb gd gp gg gx go rp ro R C Ab lb cb W r t p out p2 out2 hS h
 cases k with
 | zero => exact absurd h (by simp [impl_Board_walk_1.f])
 | succ k =>
 simp only [impl_Board_walk_1.f] at h
 have hu28 := Try.underlying26
 have hb0 := hS.b0
 have hb1 := hS.b1
 have hcd := hS.celld
 have hcp := hS.cellp
 have hcg := hS.cellg
 have hfg := hS.freeg
 have HS := A_ hS
 clear hS
 by_cases c1 : r = R
 ·
  rw [if_pos c1] at h
  have c1b0 : (r == R) = true := beq_iff_eq.mpr c1
  have c1b1 : (r != R) = false := bne_eq_false_iff_eq.mpr c1
  clear c1
  obtain ⟨o, A1, H⟩ := Option.bind_eq_some_iff.mp h
  obtain ⟨rfl, rfl⟩ := Prod.mk.inj (Option.some.inj H)
  clear h H
  replace A1 := A_ A1
  go_enter Try.func225, Try.ntmps225
  go_wp2_with (first | ((with_reducible refine Fn.gate_value rfl ?_); refine Fn.goesVw_ (some 17) rfl (by first | rfl | (simp [Region.wanted, yielded]; done)) (impl_Board_walk_1.done go) rfl #[.slice (some ⟨rp, 0, none⟩) p.length p.length] rfl (by (try simp only [List.map_toArray, List.map_cons, List.map_nil]); first | done | rfl) ?_; refine impl_Board_walk_1.tells go ?_; (with_reducible refine (impl_Board_numbers_1.calls k w _ go ro out o p (some ⟨rp, 0, none⟩) p.length HS.out.cnt HS.out.pC (Nat.le_refl _) A1.out).mono ?_); rintro e w8 ⟨rfl, hc, hg⟩; refine ⟨_, rfl, ?_⟩; have HS8 := A_ (HS.out.count hc hg); have hcg8 := HS8.out.cellg; have hfg8 := HS8.out.freeg; clear hc hg hcg hfg))
  (try simp only [Exit.inBlock, Exit.then]); refine bodyPost_ret (results_none rfl _ _ _) rfl ?_
  exact ⟨rfl, HS8.out.flag⟩
 ·
  rw [if_neg c1] at h
  have c1b0 : (r == R) = false := beq_eq_false_iff_ne.mpr c1
  have c1b1 : (r != R) = true := bne_iff_ne.mpr c1
  clear c1
  replace h := A_ h
  go_enter Try.func225, Try.ntmps225
  go_wp2
  go_loopg [9] k (fun kq v9 W' => ∃ (c : Int) (p1 o1 : List Int), v9 = .int .i64 c ∧ Aside0 (impl_Board_walk_1.l0 kq R C lb r t p1 o1 c = some (p2, out2)) ∧ Aside0 (kq ≤ k) ∧ Aside0 (impl_Board_walk_1.St w gb gd gp gg gx go rp ro R C Ab lb cb W' p1 o1))
  case atStart => exact ⟨-1, p, out, rfl, h, ⟨Nat.le_refl _⟩, HS⟩
  case round =>
   clear h HS hb0 hb1 hcd hcp hcg hfg
   obtain ⟨c, p1, o1, rfl, HA, HK1, HS⟩ := hrel
   have hb0 := HS.out.b0
   have hb1 := HS.out.b1
   have hb2 := HS.out.b2
   have hcp := HS.out.cellp
   have hcg := HS.out.cellg
   have hcx := HS.out.cellx
   cases gk with
   | zero => exact absurd HA.out (by simp [impl_Board_walk_1.l0])
   | succ k1 =>
    have H := HA.out
    clear HA
    simp only [impl_Board_walk_1.l0] at H
    by_cases c4 : c < C
    ·
     rw [if_pos c4] at H
     have c4b := decide_eq_true c4
     clear c4
     obtain ⟨b, A2, H⟩ := Option.bind_eq_some_iff.mp H
     by_cases c5 : c ≥ 0
     ·
      have c5b : decide (c ≥ 0) = true := decide_eq_true c5
      have c5c : (0 ≤ c) = True := eq_true c5
      simp only [impl_Board_walk_1.skips, if_pos c5] at A2
      obtain ⟨hb, A3, A4⟩ := Option.bind_eq_some_iff.mp A2
      clear A2
      replace A3 := A_ A3
      have A4 := Option.some.inj A4
      cases hb with
      | false =>
       simp only [Bool.false_eq_true, if_false] at A4
       subst A4
       rw [if_pos rfl] at H
       clear c5
       replace H := A_ H
       go_wp2_with (first | (go_at_call 175; (with_reducible refine (impl_Board_has.calls R C Ab cb lb r c false _ HS.out.bC HS.out.hcb A3.out).mono ?_); rintro e w5 ⟨rfl, hd⟩; have HS5 := A_ (HS.out.below hd); clear hd))
       go_roundg k1
       case measure => have := HK1.out; omega
       case rel => exact ⟨wrap64 (c + 1), p1, o1, tf_, H, ⟨by have := HK1.out; omega⟩, HS5⟩
      | true =>
       have A4b : (Go.bits .and .i64 (t / 2 ^ min c.toNat 64) 1 == 1) = b := A4
       clear A4
       cases b with
       | true =>
        rw [if_pos rfl] at H
        clear c5
        replace H := A_ H
        go_wp2_with (first | (go_at_call 175; (with_reducible refine (impl_Board_has.calls R C Ab cb lb r c true _ HS.out.bC HS.out.hcb A3.out).mono ?_); rintro e w5 ⟨rfl, hd⟩; have HS5 := A_ (HS.out.below hd); clear hd))
        go_roundg k1
        case measure => have := HK1.out; omega
        case rel => exact ⟨wrap64 (c + 1), p1, o1, tf_, H, ⟨by have := HK1.out; omega⟩, HS5⟩
       | false =>
        simp only [Bool.false_eq_true, if_false] at H
        by_cases c7 : 0 ≤ r
        case neg =>
         rw [if_neg c7] at H
         exact absurd H (by simp)
        rw [if_pos c7] at H
        by_cases c8 : r < (p1.length : Int)
        case neg =>
         rw [if_neg c8] at H
         exact absurd H (by simp)
        rw [if_pos c8] at H
        obtain ⟨n, rfl⟩ : ∃ n : Nat, r = (n : Int) := ⟨r.toNat, by omega⟩
        have hn : Aside0 (n < p1.length) := ⟨by omega⟩
        have q0 : (0 ≤ (n : Int)) = True := eq_true (by omega)
        have q1' : ((n : Int) < (p1.length : Int)) = True := eq_true c8
        have q2' : (n < p1.length) = True := eq_true hn.out
        clear c7 c8
        obtain ⟨⟨q1, q2⟩, A5, H⟩ := Option.bind_eq_some_iff.mp H
        replace A5 := A_ A5
        rw [Int.toNat_natCast, show impl_Board_walk_1.more t c = (Go.bits .or .i64 t (wrap64 (2 ^ min c.toNat 64))) from by unfold impl_Board_walk_1.more; rw [if_pos c5]] at A5
        replace H := A_ H
        clear c5
        go_wp2_with (first | (go_at_call 175; (with_reducible refine (impl_Board_has.calls R C Ab cb lb (n : Int) c true _ HS.out.bC HS.out.hcb A3.out).mono ?_); rintro e w5 ⟨rfl, hd⟩; have HS5 := A_ (HS.out.below hd); clear hd; have hcp5 := HS5.out.cellp; have hcn5 := HS5.out.cell n hn.out; have hfn5 := HS5.out.free n; have HP5 := A_ (HS5.out.put n c); have hcx5 := HP5.out.cellx) | ((with_reducible refine Fn.gate_value rfl ?_); refine Fn.goesVw_ (some 58) rfl (by first | rfl | (simp [Region.wanted, yielded]; done)) (impl_Board_walk_1.self gb gd gp gg gx) rfl #[.int .i64 (wrap64 ((n : Int) + 1)), .int .i64 (Go.bits .or .i64 t (wrap64 (2 ^ min c.toNat 64)))] rfl (by (try simp only [List.map_toArray, List.map_cons, List.map_nil]); first | done | rfl) ?_; refine impl_Board_walk_1.enters gb gd gp gg gx ?_; (with_reducible refine (ih k1 (by have := HK1.out; omega) w gb gd gp gg gx go rp ro R C Ab lb cb _ (wrap64 ((n : Int) + 1)) (Go.bits .or .i64 t (wrap64 (2 ^ min c.toNat 64))) (p1.set n c) o1 q1 q2 HP5.out A5.out).mono ?_); rintro e w8 ⟨rfl, hs⟩; refine ⟨_, rfl, ?_⟩; have HS8 := A_ hs; clear hs hcx5 hcp5 hcn5 hfn5))
        go_roundg k1
        case measure => have := HK1.out; omega
        case rel => exact ⟨wrap64 (c + 1), q1, q2, tf_, H, ⟨by have := HK1.out; omega⟩, HS8⟩
     ·
      have c5b : decide (c ≥ 0) = false := decide_eq_false c5
      simp only [impl_Board_walk_1.skips, if_neg c5, Option.some.injEq] at A2
      subst A2
      simp only [Bool.false_eq_true, if_false] at H
      by_cases c7 : 0 ≤ r
      case neg =>
       rw [if_neg c7] at H
       exact absurd H (by simp)
      rw [if_pos c7] at H
      by_cases c8 : r < (p1.length : Int)
      case neg =>
       rw [if_neg c8] at H
       exact absurd H (by simp)
      rw [if_pos c8] at H
      obtain ⟨n, rfl⟩ : ∃ n : Nat, r = (n : Int) := ⟨r.toNat, by omega⟩
      have hn : Aside0 (n < p1.length) := ⟨by omega⟩
      have q0 : (0 ≤ (n : Int)) = True := eq_true (by omega)
      have q1' : ((n : Int) < (p1.length : Int)) = True := eq_true c8
      have q2' : (n < p1.length) = True := eq_true hn.out
      clear c7 c8
      obtain ⟨⟨q1, q2⟩, A5, H⟩ := Option.bind_eq_some_iff.mp H
      replace A5 := A_ A5
      rw [Int.toNat_natCast, show impl_Board_walk_1.more t c = t from by unfold impl_Board_walk_1.more; rw [if_neg c5]] at A5
      replace H := A_ H
      clear c5
      have hcp5 := HS.out.cellp
      have hcn5 := HS.out.cell n hn.out
      have hfn5 := HS.out.free n
      have HP5 := A_ (HS.out.put n c)
      have hcx5 := HP5.out.cellx
      go_wp2_with (first | ((with_reducible refine Fn.gate_value rfl ?_); refine Fn.goesVw_ (some 58) rfl (by first | rfl | (simp [Region.wanted, yielded]; done)) (impl_Board_walk_1.self gb gd gp gg gx) rfl #[.int .i64 (wrap64 ((n : Int) + 1)), .int .i64 t] rfl (by (try simp only [List.map_toArray, List.map_cons, List.map_nil]); first | done | rfl) ?_; refine impl_Board_walk_1.enters gb gd gp gg gx ?_; (with_reducible refine (ih k1 (by have := HK1.out; omega) w gb gd gp gg gx go rp ro R C Ab lb cb _ (wrap64 ((n : Int) + 1)) t (p1.set n c) o1 q1 q2 HP5.out A5.out).mono ?_); rintro e w8 ⟨rfl, hs⟩; refine ⟨_, rfl, ?_⟩; have HS8 := A_ hs; clear hs hcx5 hcp5 hcn5 hfn5))
      go_roundg k1
      case measure => have := HK1.out; omega
      case rel => exact ⟨wrap64 (c + 1), q1, q2, tf_, H, ⟨by have := HK1.out; omega⟩, HS8⟩
    ·
     rw [if_neg c4] at H
     have c4b := decide_eq_false c4
     clear c4
     obtain ⟨rfl, rfl⟩ := Prod.mk.inj (Option.some.inj H)
     clear H
     go_wp2
     go_end0
     exact ⟨rfl, HS.out⟩

/-! ### impl_Board_walk: function 212 -/
def impl_Board_walk.f (k : Nat) (R C : Int) (lb out : List Int) : Option (List Int) := if 0 ≤ R then (if R ≤ 1000 then ((impl_Board_walk_1.f k R C lb 0 0 (List.replicate R.toNat 0) out).bind fun q => some q.2) else none) else none
theorem impl_Board_walk.calls (k : Nat) (w W : World) (go ro : Nat) (R C : Int) (Ab : Option Addr) (lb : List Int) (cb : Nat) (out r : List Int) (hS : Cap.Cnt 22 3 w go ro W out) (hC : Kd.C (Kd.int .i64) w Ab lb.length lb) (hcb : lb.length ≤ cb) (h : impl_Board_walk.f k R C lb out = some r) :
  Calls Try.prog 212 #[.agg #[.int .i64 R, .int .i64 C, .slice Ab lb.length cb], impl_Board_walk_1.done go] W fun e W' => e = .returned (.tuple #[]) ∧ Cap.Cnt 22 3 w go ro W' r := by
 unfold impl_Board_walk.f at h
 by_cases c1 : 0 ≤ R
 case neg =>
  rw [if_neg c1] at h
  exact absurd h (by simp)
 rw [if_pos c1] at h
 by_cases c2 : R ≤ 1000
 case neg =>
  rw [if_neg c2] at h
  exact absurd h (by simp)
 rw [if_pos c2] at h
 obtain ⟨n, rfl⟩ : ∃ n : Nat, R = (n : Int) := ⟨R.toNat, by omega⟩
 rw [Int.toNat_natCast] at h
 obtain ⟨⟨p2, out2⟩, A1, H⟩ := Option.bind_eq_some_iff.mp h
 obtain rfl := Option.some.inj H
 clear h H
 have HS := A_ hS
 have HC := A_ hC
 have HCb := A_ hcb
 have HA := A_ A1
 have HN : Aside0 (n ≤ 1000) := ⟨by omega⟩
 clear hS hC hcb A1 c1 c2
 have hu28 := Try.underlying26
 have hmf_ : ∀ (fn : Go.Fn) (first cap : Array Value) (w : World), (Instr.makeFunc fn first cap).run Try.prog w = .ok (.func fn first cap) w := fun _ _ _ _ => rfl
 have hmk := print_make_int (P := Try.prog) 22 3 (.int .i64 0) 8 Try.underlying22 info3 rfl (by decide) (n : Int) (by omega) (by have := HN.out; omega)
 simp only [Int.toNat_natCast] at hmk
 go_enter Try.func212, Try.ntmps212
 go_wp2_with (first | ((with_reducible refine Fn.gate_value rfl ?_); refine Fn.goesVw_ (some 12) rfl (by first | rfl | (simp [Region.wanted, yielded]; done)) (impl_Board_walk_1.self W.heap.size (W.heap.size + 1) (W.heap.size + 1 + 1 + 1) (W.heap.size + 1 + 1 + 1 + 1) (W.heap.size + 1 + 1 + 1 + 1 + 1)) rfl #[.int .i64 0, .int .i64 0] rfl (by (try simp only [List.map_toArray, List.map_cons, List.map_nil]); first | done | rfl) ?_; refine impl_Board_walk_1.enters _ _ _ _ _ ?_; (with_reducible refine (impl_Board_walk_1.calls k w _ _ _ _ _ go (W.heap.size + 1 + 1) ro (n : Int) C Ab lb cb _ 0 0 (List.replicate n 0) out p2 out2 ?q1 HA.out).mono ?_); (case q1 => exact Cap.Wst.start HS.out HC.out HCb.out HN.out); rintro e w8 ⟨rfl, hs⟩; refine ⟨_, rfl, ?_⟩; have HS8 := A_ hs.cnt; clear hs))
 go_end0
 exact ⟨rfl, HS8.out⟩

/-! ### impl_Board_numbers: function 180 -/
def impl_Board_numbers.f (k : Nat) (a0_0 : Int) (a0_1 : Int) (l0_2 : List Int) : Option (List Int) := if 0 ≤ wrap64 (mn a0_0 a0_1 + 1) then (if wrap64 (mn a0_0 a0_1 + 1) ≤ 1000 then impl_Board_walk.f k a0_0 a0_1 l0_2 (List.replicate (wrap64 (mn a0_0 a0_1 + 1)).toNat 0) else none) else none
theorem impl_Board_numbers.mono : ∀ a b l k, LeO (impl_Board_numbers.f k a b l) (impl_Board_numbers.f (k + 1) a b l) := by
 intro a b l k
 unfold impl_Board_numbers.f
 refine LeO.ite ?_ (LeO.refl _)
 refine LeO.ite ?_ (LeO.refl _)
 unfold impl_Board_walk.f
 refine LeO.ite ?_ (LeO.refl _)
 refine LeO.ite ?_ (LeO.refl _)
 exact LeO.bind (impl_Board_walk_1.mono _ _ _ _ _ _ _ _) (fun _ => LeO.refl _)
theorem impl_Board_numbers.calls (k : Nat) (a0_0 : Int) (a0_1 : Int) (A0_2 : Option Addr) (c0_2 : Nat) (l0_2 : List Int) (r : List Int) (w : World) (hr0_2 : Kd.C (Kd.int .i64) w A0_2 l0_2.length l0_2) (hc0_2 : l0_2.length ≤ c0_2) (h : impl_Board_numbers.f k a0_0 a0_1 l0_2 = some r) :
  Calls Try.prog 180 #[.agg #[.int .i64 a0_0, .int .i64 a0_1, .slice A0_2 l0_2.length c0_2]] w fun e w' => ∃ v0_ : Value, e = .returned (v0_) ∧ (Kd.int .i64).R 3 w' w.heap.size (fun _ => True) v0_ r ∧ Below w.heap.size w w' := by
 unfold impl_Board_numbers.f at h
 by_cases c3 : a0_1 < a0_0
 case pos =>
  have e : mn a0_0 a0_1 = a0_1 := by unfold mn; rw [if_pos c3]
  have c3' : (a0_1 < a0_0) = True := eq_true c3
  rw [e] at h
  clear e c3
  by_cases c1 : 0 ≤ wrap64 (a0_1 + 1)
  case neg =>
   rw [if_neg c1] at h
   exact absurd h (by simp)
  rw [if_pos c1] at h
  by_cases c2 : wrap64 (a0_1 + 1) ≤ 1000
  case neg =>
   rw [if_neg c2] at h
   exact absurd h (by simp)
  rw [if_pos c2] at h
  have HR := A_ hr0_2
  have HC := A_ hc0_2
  have HA := A_ h
  have HN : Aside0 ((wrap64 (a0_1 + 1)).toNat ≤ 1000) := ⟨by omega⟩
  have hu28 := Try.underlying26
  have hmf_ : ∀ (fn : Go.Fn) (first cap : Array Value) (w : World), (Instr.makeFunc fn first cap).run Try.prog w = .ok (.func fn first cap) w := fun _ _ _ _ => rfl
  have hmk := print_make_int (P := Try.prog) 22 3 (.int .i64 0) 8 Try.underlying22 info3 rfl (by decide) (wrap64 (a0_1 + 1)) c1 (by have := HN.out; omega)
  clear hr0_2 hc0_2 h c1 c2
  go_enter Try.func180, Try.ntmps180
  go_wp2_with (first | (go_at_call 212; (have HS := A_ (Cap.Cnt.start (tB := 26) (tI := 22) (tR := 3) (w := w) (bs := #[.int .i64 a0_0, .int .i64 a0_1, .slice A0_2 l0_2.length c0_2]) (n := (wrap64 (a0_1 + 1)).toNat) (by have := HN.out; omega))); (refine (impl_Board_walk.calls k w _ (w.heap.size + 1 + 1) (w.heap.size + 1) a0_0 a0_1 A0_2 l0_2 c0_2 (List.replicate (wrap64 (a0_1 + 1)).toNat 0) r HS.out HR.out HC.out HA.out).mono ?_); rintro e w8 ⟨rfl, hs⟩; have HS8 := A_ hs; have hco8 := HS8.out.cello; clear hs))
  go_ret
  exact ⟨_, rfl, HS8.out.row, HS8.out.bel⟩
 case neg =>
  have e : mn a0_0 a0_1 = a0_0 := by unfold mn; rw [if_neg c3]
  have c3' : (a0_1 < a0_0) = False := eq_false c3
  rw [e] at h
  clear e c3
  by_cases c1 : 0 ≤ wrap64 (a0_0 + 1)
  case neg =>
   rw [if_neg c1] at h
   exact absurd h (by simp)
  rw [if_pos c1] at h
  by_cases c2 : wrap64 (a0_0 + 1) ≤ 1000
  case neg =>
   rw [if_neg c2] at h
   exact absurd h (by simp)
  rw [if_pos c2] at h
  have HR := A_ hr0_2
  have HC := A_ hc0_2
  have HA := A_ h
  have HN : Aside0 ((wrap64 (a0_0 + 1)).toNat ≤ 1000) := ⟨by omega⟩
  have hu28 := Try.underlying26
  have hmf_ : ∀ (fn : Go.Fn) (first cap : Array Value) (w : World), (Instr.makeFunc fn first cap).run Try.prog w = .ok (.func fn first cap) w := fun _ _ _ _ => rfl
  have hmk := print_make_int (P := Try.prog) 22 3 (.int .i64 0) 8 Try.underlying22 info3 rfl (by decide) (wrap64 (a0_0 + 1)) c1 (by have := HN.out; omega)
  clear hr0_2 hc0_2 h c1 c2
  go_enter Try.func180, Try.ntmps180
  go_wp2_with (first | (go_at_call 212; (have HS := A_ (Cap.Cnt.start (tB := 26) (tI := 22) (tR := 3) (w := w) (bs := #[.int .i64 a0_0, .int .i64 a0_1, .slice A0_2 l0_2.length c0_2]) (n := (wrap64 (a0_0 + 1)).toNat) (by have := HN.out; omega))); (refine (impl_Board_walk.calls k w _ (w.heap.size + 1 + 1) (w.heap.size + 1) a0_0 a0_1 A0_2 l0_2 c0_2 (List.replicate (wrap64 (a0_0 + 1)).toNat 0) r HS.out HR.out HC.out HA.out).mono ?_); rintro e w8 ⟨rfl, hs⟩; have HS8 := A_ hs; have hco8 := HS8.out.cello; clear hs))
  go_ret
  exact ⟨_, rfl, HS8.out.row, HS8.out.bel⟩

/-! ### impl_trimmed: function 181 -/
def impl_trimmed.l0 : Nat → List Int → Option (List Int)
 | 0, _ => none
 | k + 1, x0 => if (x0.length : Int) > 0 then (if 0 ≤ (wrap64 ((x0.length : Int) - 1)) then (if (wrap64 ((x0.length : Int) - 1)) < (x0.length : Int) then (if (rd x0 (wrap64 ((x0.length : Int) - 1))) = 0 then (if (wrap64 ((x0.length : Int) - 1)) ≤ (x0.length : Int) then (impl_trimmed.l0 k (x0.take ((wrap64 ((x0.length : Int) - 1)) : Int).toNat)) else (none)) else (some x0)) else (none)) else (none)) else (some x0)
def impl_trimmed.f (k : Nat) (l0 : List Int) : Option (List Int) := impl_trimmed.l0 k l0
theorem impl_trimmed.mono_l : ∀ k, (∀ y0, LeO (impl_trimmed.l0 k y0) (impl_trimmed.l0 (k + 1) y0))
 | 0 => fun _ r h => by simp [impl_trimmed.l0] at h
 | k + 1 => by
  have ih0 := impl_trimmed.mono_l k
  ·
   intro y0
   unfold impl_trimmed.l0
   repeat' first | (with_reducible first | exact ih0 _ | exact LeO.refl _ | exact LeO.none _ | refine LeO.ite ?_ ?_ | refine LeO.bind ?_ (fun _ => ?_)) | exact ih0 _ | exact LeO.none _ | refine LeO.ite ?_ ?_ | refine LeO.bind ?_ (fun _ => ?_)
theorem impl_trimmed.mono : ∀ a0 k, LeO (impl_trimmed.f k a0) (impl_trimmed.f (k + 1) a0) := fun a0 k => impl_trimmed.mono_l k a0
theorem impl_trimmed.calls (k : Nat) (P0_ : Nat → Prop) (u9000_ : Value) (l0 : List Int) (r : List Int) (w0 w : World) (hB : Below w0.heap.size w0 w) (ho0 : Kd.R (Kd.int .i64) 3 w w0.heap.size P0_ u9000_ l0) (h : impl_trimmed.f k l0 = some r) :
    Calls Try.prog 181 #[u9000_] w fun e w' => ∃ v0_ : Value, e = .returned (v0_) ∧ Kd.R (Kd.int .i64) 3 w' w0.heap.size (fun k_ => (P0_ k_ ∨ w.heap.size ≤ k_)) v0_ r ∧ Below w0.heap.size w0 w' ∧ Kept w w' (fun k_ => P0_ k_) := by
  obtain ⟨Az, cz, rfl⟩ := Kd.R_slice ho0
  have HO := A_ ho0
  have HB0 := A_ hB
  have HK0 : Aside0 (Kept w w (fun k_ => P0_ k_)) := ⟨Kept.refl _ _⟩
  clear ho0 hB
  have H : (impl_trimmed.l0 k l0) = some r := h
  clear h
  have H' := A_ H
  clear H
  go_enter Try.func181, Try.ntmps181
  go_wp2
  go_loopg [0] k (fun kq v0 w' => ∃ (x0_1 : List Int), Aside0 (impl_trimmed.l0 kq x0_1 = some r) ∧ Aside0 (kq ≤ k) ∧ Aside0 (Kd.R (Kd.int .i64) 3 w' w0.heap.size P0_ v0 x0_1) ∧ Aside0 (Below w0.heap.size w0 w') ∧ Aside0 (Kept w w' (fun k_ => P0_ k_)))
  case atStart => exact ⟨l0, H', ⟨Nat.le_refl _⟩, HO, HB0, HK0⟩
  case round =>
    clear H' HO HB0 HK0
    obtain ⟨x0_1, HA, HK1, HO_0, HB, HKe⟩ := hrel
    obtain ⟨Ao9, co9, eo9⟩ := Kd.R_slice HO_0.out
    subst eo9
    cases gk with
    | zero => exact absurd HA.out (by simp [impl_trimmed.l0])
    | succ k1 =>
      have H := HA.out
      clear HA
      simp only [impl_trimmed.l0] at H
      by_cases c2 : (x0_1.length : Int) > 0
      case neg =>
        rw [if_neg c2] at H
        have c2b0 := decide_eq_false c2
        have c2b1 : decide (0 < x0_1.length) = false := decide_eq_false (by omega)
        clear c2
        obtain rfl := Option.some.inj H
        clear H
        go_wp2
        go_ret
        exact ⟨_, rfl, Kd.R_mono HO_0.out (fun k_ hk => .inl hk), HB.out, HKe.out⟩
      rw [if_pos c2] at H
      have c2b0 := decide_eq_true c2
      have c2b1 : decide (0 < x0_1.length) = true := decide_eq_true (by omega)
      obtain ⟨ji3, hji3⟩ : ∃ j_ : Int, (wrap64 ((x0_1.length : Int) - 1)) = j_ := ⟨_, rfl⟩
      clear c2
      rw [hji3] at H
      have hji3w : (IntKind.i64.wrap ((x0_1.length : Int) - 1)) = ji3 := (i64_w _).trans hji3
      by_cases c4 : 0 ≤ ji3
      case neg =>
        rw [if_neg c4] at H
        exact absurd H (by simp)
      rw [if_pos c4] at H
      by_cases c5 : ji3 < (x0_1.length : Int)
      case neg =>
        rw [if_neg c5] at H
        exact absurd H (by simp)
      rw [if_pos c5] at H
      obtain ⟨ad569, e569, hx569_0⟩ := Kd.at_int (Kd.R_reads' HO_0.out).2.2 ji3 c4 c5
      cases e569
      have p569 := eq_true c4
      have q569 := eq_true c5
      have c4b0 := decide_eq_true c4
      have c5b0 := decide_eq_true c5
      by_cases c6 : (rd x0_1 ji3) = 0
      case neg =>
        rw [if_neg c6] at H
        have c6b0 : ((rd x0_1 ji3) == 0) = false := beq_eq_false_iff_ne.mpr c6
        have c6b1 : ((rd x0_1 ji3) != 0) = true := bne_iff_ne.mpr c6
        clear c4 c5 c6
        obtain rfl := Option.some.inj H
        clear H
        go_wp2
        go_ret
        exact ⟨_, rfl, Kd.R_mono HO_0.out (fun k_ hk => .inl hk), HB.out, HKe.out⟩
      rw [if_pos c6] at H
      have c6b0 : ((rd x0_1 ji3) == 0) = true := beq_iff_eq.mpr c6
      have c6b1 : ((rd x0_1 ji3) != 0) = false := bne_eq_false_iff_eq.mpr c6
      clear c6
      have c8 : ji3 ≤ (x0_1.length : Int) := by omega
      rw [if_pos c8] at H
      have c8b0 := eq_true c8
      have c8b1 := decide_eq_true c8
      obtain ⟨i010, hi010, _, hsz10, _⟩ := info_parts info3
      have hcut10 := cut_to (P := Try.prog) 22 3 .i64 Try.underlying22 hi010 (some ad569) x0_1.length co9 ji3 c4 c8 (Kd.R_reads' HO_0.out).2.1
      have hr10 := A_ (Kd.R_take (m := ji3.toNat) HO_0.out (by omega))
      clear c4 c5 c8
      replace H := A_ H
      go_wp2
      go_roundg k1
      case measure => have := HK1.out; omega
      case rel => exact ⟨_, H, ⟨by have := HK1.out; omega⟩, hr10, HB, HKe⟩

/-! ### impl_Board_bishops: function 97 -/
def impl_Board_bishops.l0 : Nat → List Int → Int → Int → Int → List Int → Option (List Int)
 | 0, _, _, _, _, _ => none
 | k + 1, x3, x8, x570000, x570001, x570002 => if x8 < 2 then ((impl_Board_coloured.f k x570000 x570001 x570002 x8).bind fun bt576 => (if bt576.2.2.2 = true then ((impl_Board_numbers.f k bt576.1 bt576.2.1 bt576.2.2.1).bind fun t583 => ((impl_product.f k x3 t583).bind fun t586 => (impl_Board_bishops.l0 k t586 (wrap64 (x8 + 1)) x570000 x570001 x570002))) else (impl_Board_bishops.l0 k x3 (wrap64 (x8 + 1)) x570000 x570001 x570002))) else ((impl_trimmed.f k x3).bind fun t573 => (some t573))
def impl_Board_bishops.f (k : Nat) (a0_0 : Int) (a0_1 : Int) (l0_2 : List Int) : Option (List Int) := impl_Board_bishops.l0 k (([1] : List Int)) 0 a0_0 a0_1 l0_2
theorem impl_Board_bishops.mono_l : ∀ k, (∀ y0 y1 y2 y3 y4, LeO (impl_Board_bishops.l0 k y0 y1 y2 y3 y4) (impl_Board_bishops.l0 (k + 1) y0 y1 y2 y3 y4))
 | 0 => fun _ _ _ _ _ r h => by simp [impl_Board_bishops.l0] at h
 | k + 1 => by
  have ih0 := impl_Board_bishops.mono_l k
  ·
   intro y0 y1 y2 y3 y4
   unfold impl_Board_bishops.l0
   repeat' first | (with_reducible first | exact ih0 _ _ _ _ _ | exact impl_Board_coloured.mono _ _ _ _ _ | exact impl_Board_numbers.mono _ _ _ _ | exact impl_product.mono _ _ _ | exact impl_trimmed.mono _ _ | exact LeO.refl _ | exact LeO.none _ | refine LeO.ite ?_ ?_ | refine LeO.bind ?_ (fun _ => ?_)) | exact ih0 _ _ _ _ _ | exact impl_Board_coloured.mono _ _ _ _ _ | exact impl_Board_numbers.mono _ _ _ _ | exact impl_product.mono _ _ _ | exact impl_trimmed.mono _ _ | exact LeO.none _ | refine LeO.ite ?_ ?_ | refine LeO.bind ?_ (fun _ => ?_)
theorem impl_Board_bishops.mono : ∀ a0 a1 a2 k, LeO (impl_Board_bishops.f k a0 a1 a2) (impl_Board_bishops.f (k + 1) a0 a1 a2) := by
 intro a0 a1 a2 k
 have ih0 := impl_Board_bishops.mono_l k
 unfold impl_Board_bishops.f
 repeat' first | (with_reducible first | exact ih0 _ _ _ _ _ | exact impl_Board_coloured.mono _ _ _ _ _ | exact impl_Board_numbers.mono _ _ _ _ | exact impl_product.mono _ _ _ | exact impl_trimmed.mono _ _ | exact LeO.refl _ | exact LeO.none _ | refine LeO.ite ?_ ?_ | refine LeO.bind ?_ (fun _ => ?_)) | exact ih0 _ _ _ _ _ | exact impl_Board_coloured.mono _ _ _ _ _ | exact impl_Board_numbers.mono _ _ _ _ | exact impl_product.mono _ _ _ | exact impl_trimmed.mono _ _ | exact LeO.none _ | refine LeO.ite ?_ ?_ | refine LeO.bind ?_ (fun _ => ?_)
theorem impl_Board_bishops.calls (k : Nat) (a0_0 : Int) (a0_1 : Int) (A0_2 : Option Addr) (c0_2 : Nat) (l0_2 : List Int) (r : List Int) (w : World) (hr0_2 : Kd.C (Kd.int .i64) w A0_2 l0_2.length l0_2) (hc0_2 : l0_2.length ≤ c0_2) (h : impl_Board_bishops.f k a0_0 a0_1 l0_2 = some r) :
  Calls Try.prog 97 #[.agg #[.int .i64 a0_0, .int .i64 a0_1, .slice A0_2 l0_2.length c0_2]] w fun e w' => ∃ v0_ : Value, e = .returned (v0_) ∧ Kd.R (Kd.int .i64) 3 w' w.heap.size (fun _ => True) v0_ r ∧ Below w.heap.size w w' := by
 have hu26 := Try.underlying26
 have HR0_2 := A_ hr0_2
 have HC0_2 := A_ hc0_2
 clear hr0_2 hc0_2
 have HB := A_ (Below.refl w.heap.size w)
 have H : (impl_Board_bishops.l0 k (([1] : List Int)) 0 a0_0 a0_1 l0_2) = some r := h
 clear h
 obtain ⟨y570, hy570⟩ : ∃ y_ : List Int, y_ = (([1] : List Int)) := ⟨_, rfl⟩
 replace H : (impl_Board_bishops.l0 k y570 0 a0_0 a0_1 l0_2) = some r := ty_ hy570 H
 have Ny570 := A_ hy570
 clear hy570
 have H' := A_ H
 clear H
 go_enter Try.func97, Try.ntmps97
 go_wp2_with (first | (refine gd_ 1 ?_; refine bx_ 1 #[.int .i64 a0_0, .int .i64 a0_1, .slice A0_2 l0_2.length c0_2] 26 ?_; intro gb569 hg w2 hbox hb; have BK569 := A_ (hbox); have GW569 := A_ ((ts_ hg : w.heap.size ≤ gb569)); have GE569 := A_ ((ts_ hg : w.heap.size ≤ gb569)); replace HB := A_ (below_step tb_ hb); clear hb hbox hg) | (refine gd_ 7 ?_; refine Kd.R_lit (Kd.int .i64) _ 3 ?hg (N := 7) ?hd (xs := ([1] : List Int)) (inner := [.int .i64 1]) (ok := fun _ => True) (okp := fun _ => True) ?hr ?hp (fun _ hk => hk) trivial (Below.refl _ _) (Nat.le_refl _) (by simp) ?_; (case hd => rfl); (case hg => rfl); (case hr => first | (go_simp; done) | (go_simp; rfl)); (case hp => exact (Reps.one (show Kd.M (Kd.int .i64) _ _ _ 1 [.int .i64 1] from rfl) (Reps.none _ _))); intro v571 w3 ho4 hb hg_ hnew_; clear hg_ hnew_; (first | rw [← Ny570.out] at ho4 | (simp only [Int.reduceToNat] at ho4; rw [← Ny570.out] at ho4)); have HO572 := A_ (Kd.R_lower ho4 (below_size tb_)); replace BK569 := A_ (blk_below (g := gb569) (o := .cells #[.int .i64 a0_0, .int .i64 a0_1, .slice A0_2 l0_2.length c0_2] 26 (0, 0)) (tk_ BK569) hb); replace HB := A_ (below_step tb_ hb); clear hb ho4))
 go_loopg [3, 8] k (fun kq v3 v8 w' => ∃ (x3_1 : List Int) (x8_1 : Int), v8 = .int .i64 x8_1 ∧ Aside0 (impl_Board_bishops.l0 kq x3_1 x8_1 a0_0 a0_1 l0_2 = some r) ∧ Aside0 (kq ≤ k) ∧ Aside0 (Kd.R (Kd.int .i64) 3 w' w.heap.size (fun _ => True) v3 x3_1) ∧ Aside0 (w'.heap[gb569]? = some (.cells #[.int .i64 a0_0, .int .i64 a0_1, (.slice A0_2 l0_2.length c0_2)] 26 (0, 0))) ∧ Aside0 (Below w.heap.size w w'))
 case atStart => exact ⟨(y570), (0), tf_, H', ⟨Nat.le_refl _⟩, ⟨tr_x HO572.out⟩, ⟨tk_ BK569⟩, ⟨tb_⟩⟩
 case round =>
  clear H'
  try clear p2
  obtain ⟨x3_1, x8_1, rfl, HA, HK1, HO_3, BK569, HB⟩ := hrel
  cases gk with
  | zero => exact absurd HA.out (by simp [impl_Board_bishops.l0])
  | succ k1 =>
   have H := HA.out
   clear HA
   simp only [impl_Board_bishops.l0] at H
   by_cases c5 : x8_1 < 2
   ·
    rw [if_pos c5] at H
    have c5b0 := decide_eq_true c5
    clear c5
    replace H := Option.bind_eq_some_iff.mp H
    obtain ⟨⟨t576, t577, t578, t581⟩, A60, H⟩ := H
    replace H : (if t581 = true then ((impl_Board_numbers.f k1 t576 t577 t578).bind fun t583 => ((impl_product.f k1 x3_1 t583).bind fun t586 => (impl_Board_bishops.l0 k1 t586 (wrap64 (x8_1 + 1)) a0_0 a0_1 l0_2))) else (impl_Board_bishops.l0 k1 x3_1 (wrap64 (x8_1 + 1)) a0_0 a0_1 l0_2)) = some r := H
    have A6 := A_ A60
    clear A60
    by_cases c7 : t581 = true
    ·
     subst c7
     have H1 : ((impl_Board_numbers.f k1 t576 t577 t578).bind fun t583 => ((impl_product.f k1 x3_1 t583).bind fun t586 => (impl_Board_bishops.l0 k1 t586 (wrap64 (x8_1 + 1)) a0_0 a0_1 l0_2))) = some r := by rw [if_pos rfl] at H; exact H
     clear H
     have H := H1
     clear H1
     replace H := Option.bind_eq_some_iff.mp H
     obtain ⟨t583, A80, H⟩ := H
     replace H : ((impl_product.f k1 x3_1 t583).bind fun t586 => (impl_Board_bishops.l0 k1 t586 (wrap64 (x8_1 + 1)) a0_0 a0_1 l0_2)) = some r := H
     have A8 := A_ A80
     clear A80
     replace H := Option.bind_eq_some_iff.mp H
     obtain ⟨t586, A90, H⟩ := H
     replace H : (impl_Board_bishops.l0 k1 t586 (wrap64 (x8_1 + 1)) a0_0 a0_1 l0_2) = some r := H
     have A9 := A_ A90
     clear A90
     have H' := A_ H
     clear H
     obtain ⟨hcz10_0, hcz10_1, hcz10_2, hfz10_0, hfz10_1, hfz10_2⟩ := cf3_ BK569.out
     go_wp2_with (first | (refine gc_ 95 ?_; refine goesT_ (some 14) Try.func95 #[.agg #[.int .i64 a0_0, .int .i64 a0_1, .slice A0_2 l0_2.length c0_2], .int .i64 x8_1] ?_; (with_reducible refine (impl_Board_coloured.calls k1 a0_0 a0_1 _ _ l0_2 x8_1 t576 t577 t578 true _ ?side1 ?side2 A6.out).mono ?_); (case side1 => exact tc_ HR0_2.out); (case side2 => exact HC0_2.out); rintro e w11 ⟨v579, rfl, ho0, hb⟩; refine ⟨_, rfl, ?_⟩; have HO580 := A_ (Kd.R_lower (Kd.R_new' ho0 (Kd.R_lt (tr_x HO_3.out))) (below_size tb_)); replace HO_3 := A_ (Kd.R_elder' (tr_x HO_3.out) (Kd.R_base ho0) hb); replace BK569 := A_ (blk_below (g := gb569) (o := .cells #[.int .i64 a0_0, .int .i64 a0_1, .slice A0_2 l0_2.length c0_2] 26 (0, 0)) (tk_ BK569) hb); replace HB := A_ (below_step tb_ hb); (try clear hb); (try clear ho0)) | (refine gd_ 5 ?_; refine bx_ 5 #[.int .i64 0, .int .i64 0, .slice none 0 0] 26 ?_; intro gb582 hg w12 hbox hb; replace HO_3 := A_ (Kd.R_below (tr_x HO_3.out) hb); replace HO580 := A_ (Kd.R_below (tr_x HO580.out) hb); have BK582 := A_ (hbox); have GW582 := A_ ((ts_ hg : w.heap.size ≤ gb582)); have GE582 := A_ ((ts_ hg : w.heap.size ≤ gb582)); replace HB := A_ (below_step tb_ hb); have NB569_582 := A_ ((by rw [hg]; exact Nat.ne_of_lt (blk_lt (g := gb569) (o := .cells #[.int .i64 a0_0, .int .i64 a0_1, .slice A0_2 l0_2.length c0_2] 26 (0, 0)) (tk_ BK569)) : gb569 ≠ gb582)); have NB582_569 := A_ ((by rw [hg]; exact Nat.ne_of_gt (blk_lt (g := gb569) (o := .cells #[.int .i64 a0_0, .int .i64 a0_1, .slice A0_2 l0_2.length c0_2] 26 (0, 0)) (tk_ BK569)) : gb582 ≠ gb569)); replace BK569 := A_ (blk_below (g := gb569) (o := .cells #[.int .i64 a0_0, .int .i64 a0_1, .slice A0_2 l0_2.length c0_2] 26 (0, 0)) (tk_ BK569) hb); clear hb hbox hg; have hnb13 := NB582_569.out; have hnc13 := NB569_582.out; obtain ⟨hcz14_0, hcz14_1, hcz14_2, hfz14_0, hfz14_1, hfz14_2⟩ := cf3_ BK582.out; obtain ⟨Ao15, co15, eo15⟩ := Kd.R_slice HO580.out; subst eo15) | (refine gc_ 180 ?_; refine goesT_ (some 20) Try.func180 #[.agg #[.int .i64 t576, .int .i64 t577, .slice Ao15 t578.length co15]] ?_; (with_reducible refine (impl_Board_numbers.calls k1 t576 t577 _ _ t578 t583 _ ?side1 ?side2 A8.out).mono ?_); (case side1 => refine (Kd.R_reads' (e := 3) (base := w.heap.size) (ok := fun k_ => (True ∧ some k_ ≠ (u3 : Value).ownBlock)) (n := t578.length) (c := co15) ?_).2.2; exact (tr_ (h := by exact (Kd.R_mono (Kd.R_far (p := ⟨gb582, 2, none⟩) (Kd.R_far (p := ⟨gb582, 1, none⟩) (Kd.R_far (p := ⟨gb582, 0, none⟩) (Kd.R_types HO580.out BK582.out (by decide)) (fun _ hk => hk.2) (.int .i64 t576)) (fun _ hk => hk.2) (.int .i64 t577)) (fun _ hk => hk.2) (.slice Ao15 t578.length co15)) (fun _ h_ => h_.1))))); (case side2 => exact (Kd.R_reads' HO580.out).2.1); rintro e w16 ⟨v584, rfl, ho0, hb⟩; refine ⟨_, rfl, ?_⟩; have HO585 := A_ (Kd.R_lower (Kd.R_new' (Kd.R_new' ho0 (Kd.R_lt (tr_ (h := by exact (Kd.R_mono (Kd.R_far (p := ⟨gb582, 2, none⟩) (Kd.R_far (p := ⟨gb582, 1, none⟩) (Kd.R_far (p := ⟨gb582, 0, none⟩) (Kd.R_types HO_3.out BK582.out (by decide)) (fun _ hk => hk.2) (.int .i64 t576)) (fun _ hk => hk.2) (.int .i64 t577)) (fun _ hk => hk.2) (.slice Ao15 t578.length co15)) (fun _ h_ => h_.1)))))) (Kd.R_lt (tr_ (h := by exact (Kd.R_mono (Kd.R_far (p := ⟨gb582, 2, none⟩) (Kd.R_far (p := ⟨gb582, 1, none⟩) (Kd.R_far (p := ⟨gb582, 0, none⟩) (Kd.R_types HO580.out BK582.out (by decide)) (fun _ hk => hk.2) (.int .i64 t576)) (fun _ hk => hk.2) (.int .i64 t577)) (fun _ hk => hk.2) (.slice Ao15 t578.length co15)) (fun _ h_ => h_.1)))))) (below_size tb_)); replace HO_3 := A_ (Kd.R_elder' (tr_ (h := by exact (Kd.R_mono (Kd.R_far (p := ⟨gb582, 2, none⟩) (Kd.R_far (p := ⟨gb582, 1, none⟩) (Kd.R_far (p := ⟨gb582, 0, none⟩) (Kd.R_types HO_3.out BK582.out (by decide)) (fun _ hk => hk.2) (.int .i64 t576)) (fun _ hk => hk.2) (.int .i64 t577)) (fun _ hk => hk.2) (.slice Ao15 t578.length co15)) (fun _ h_ => h_.1)))) (Kd.R_base ho0) hb); replace HO580 := A_ (Kd.R_elder' (tr_ (h := by exact (Kd.R_mono (Kd.R_far (p := ⟨gb582, 2, none⟩) (Kd.R_far (p := ⟨gb582, 1, none⟩) (Kd.R_far (p := ⟨gb582, 0, none⟩) (Kd.R_types HO580.out BK582.out (by decide)) (fun _ hk => hk.2) (.int .i64 t576)) (fun _ hk => hk.2) (.int .i64 t577)) (fun _ hk => hk.2) (.slice Ao15 t578.length co15)) (fun _ h_ => h_.1)))) (Kd.R_base ho0) hb); replace BK569 := A_ (blk_below (g := gb569) (o := .cells #[.int .i64 a0_0, .int .i64 a0_1, .slice A0_2 l0_2.length c0_2] 26 (0, 0)) (tk_ BK569) hb); replace BK582 := A_ (blk_below (g := gb582) (o := .cells #[.int .i64 t576, .int .i64 t577, .slice Ao15 t578.length co15] 26 (0, 0)) (by (with_reducible repeat (first | refine blk_drewN ?_ _ | refine blk_drew ?_ | refine blk_alloc ?_ _)); refine blk_put (cs := #[.int .i64 t576, .int .i64 t577, .slice none 0 0]) ?_ 2 _ rfl; (with_reducible repeat (first | refine blk_drewN ?_ _ | refine blk_drew ?_ | refine blk_alloc ?_ _)); refine blk_put (cs := #[.int .i64 t576, .int .i64 0, .slice none 0 0]) ?_ 1 _ rfl; (with_reducible repeat (first | refine blk_drewN ?_ _ | refine blk_drew ?_ | refine blk_alloc ?_ _)); refine blk_put (cs := #[.int .i64 0, .int .i64 0, .slice none 0 0]) ?_ 0 _ rfl; (with_reducible repeat (first | refine blk_drewN ?_ _ | refine blk_drew ?_ | refine blk_alloc ?_ _)); exact BK582.out) hb); replace HB := A_ (below_step tb_ hb); (try clear hb); (try clear ho0); obtain ⟨Ao17, co17, eo17⟩ := Kd.R_slice HO_3.out; subst eo17; obtain ⟨Ao18, co18, eo18⟩ := Kd.R_slice HO585.out; subst eo18) | (refine gc_ 179 ?_; refine goesT_ (some 21) Try.func179 #[.slice Ao17 x3_1.length co17, .slice Ao18 t583.length co18] ?_; (with_reducible refine (impl_product.calls k1 _ _ x3_1 _ _ t583 t586 _ ?side1 ?side2 ?side3 ?side4 A9.out).mono ?_); (case side1 => exact tc0_ (Kd.R_reads' HO_3.out).2.2); (case side2 => exact (Kd.R_reads' HO_3.out).2.1); (case side3 => exact tc0_ (Kd.R_reads' HO585.out).2.2); (case side4 => exact (Kd.R_reads' HO585.out).2.1); rintro e w19 ⟨v587, rfl, ho0, hb⟩; refine ⟨_, rfl, ?_⟩; have HO588 := A_ (Kd.R_lower (Kd.R_new' (Kd.R_new' (Kd.R_new' ho0 (Kd.R_lt (tr_x HO_3.out))) (Kd.R_lt (tr_x HO580.out))) (Kd.R_lt (tr_x HO585.out))) (below_size tb_)); replace HO_3 := A_ (Kd.R_elder' (tr_x HO_3.out) (Kd.R_base ho0) hb); replace HO580 := A_ (Kd.R_elder' (tr_x HO580.out) (Kd.R_base ho0) hb); replace HO585 := A_ (Kd.R_elder' (tr_x HO585.out) (Kd.R_base ho0) hb); replace BK569 := A_ (blk_below (g := gb569) (o := .cells #[.int .i64 a0_0, .int .i64 a0_1, .slice A0_2 l0_2.length c0_2] 26 (0, 0)) (tk_ BK569) hb); replace BK582 := A_ (blk_below (g := gb582) (o := .cells #[.int .i64 t576, .int .i64 t577, .slice Ao15 t578.length co15] 26 (0, 0)) (tk_ BK582) hb); replace HB := A_ (below_step tb_ hb); (try clear hb); (try clear ho0)))
     go_roundg k1
     case measure => have := HK1.out; omega
     case rel => exact ⟨(t586), (wrap64 (x8_1 + 1)), tf_, H', ⟨by have := HK1.out; omega⟩, ⟨by (with_reducible repeat (first | apply Kd.R_alloc | apply Kd.R_drewN | apply Kd.R_drew)); exact Kd.R_mono HO588.out (fun _ hk => trivial)⟩, ⟨tk_ BK569⟩, ⟨tb_⟩⟩
    ·
     replace c7 := Bool.eq_false_iff.mpr c7
     subst c7
     have H1 : (impl_Board_bishops.l0 k1 x3_1 (wrap64 (x8_1 + 1)) a0_0 a0_1 l0_2) = some r := by rw [if_neg (show ¬ (false = true) by decide)] at H; exact H
     clear H
     have H := H1
     clear H1
     have H' := A_ H
     clear H
     obtain ⟨hcz20_0, hcz20_1, hcz20_2, hfz20_0, hfz20_1, hfz20_2⟩ := cf3_ BK569.out
     go_wp2_with (first | (refine gc_ 95 ?_; refine goesT_ (some 14) Try.func95 #[.agg #[.int .i64 a0_0, .int .i64 a0_1, .slice A0_2 l0_2.length c0_2], .int .i64 x8_1] ?_; (with_reducible refine (impl_Board_coloured.calls k1 a0_0 a0_1 _ _ l0_2 x8_1 t576 t577 t578 false _ ?side1 ?side2 A6.out).mono ?_); (case side1 => exact tc_ HR0_2.out); (case side2 => exact HC0_2.out); rintro e w21 ⟨v579, rfl, ho0, hb⟩; refine ⟨_, rfl, ?_⟩; have HO580 := A_ (Kd.R_lower (Kd.R_new' ho0 (Kd.R_lt (tr_x HO_3.out))) (below_size tb_)); replace HO_3 := A_ (Kd.R_elder' (tr_x HO_3.out) (Kd.R_base ho0) hb); replace BK569 := A_ (blk_below (g := gb569) (o := .cells #[.int .i64 a0_0, .int .i64 a0_1, .slice A0_2 l0_2.length c0_2] 26 (0, 0)) (tk_ BK569) hb); replace HB := A_ (below_step tb_ hb); (try clear hb); (try clear ho0)) | (refine gd_ 5 ?_; refine bx_ 5 #[.int .i64 0, .int .i64 0, .slice none 0 0] 26 ?_; intro gb582 hg w22 hbox hb; replace HO_3 := A_ (Kd.R_below (tr_x HO_3.out) hb); replace HO580 := A_ (Kd.R_below (tr_x HO580.out) hb); have BK582 := A_ (hbox); have GW582 := A_ ((ts_ hg : w.heap.size ≤ gb582)); have GE582 := A_ ((ts_ hg : w.heap.size ≤ gb582)); replace HB := A_ (below_step tb_ hb); have NB569_582 := A_ ((by rw [hg]; exact Nat.ne_of_lt (blk_lt (g := gb569) (o := .cells #[.int .i64 a0_0, .int .i64 a0_1, .slice A0_2 l0_2.length c0_2] 26 (0, 0)) (tk_ BK569)) : gb569 ≠ gb582)); have NB582_569 := A_ ((by rw [hg]; exact Nat.ne_of_gt (blk_lt (g := gb569) (o := .cells #[.int .i64 a0_0, .int .i64 a0_1, .slice A0_2 l0_2.length c0_2] 26 (0, 0)) (tk_ BK569)) : gb582 ≠ gb569)); replace BK569 := A_ (blk_below (g := gb569) (o := .cells #[.int .i64 a0_0, .int .i64 a0_1, .slice A0_2 l0_2.length c0_2] 26 (0, 0)) (tk_ BK569) hb); clear hb hbox hg; have hnb23 := NB582_569.out; have hnc23 := NB569_582.out; obtain ⟨hcz24_0, hcz24_1, hcz24_2, hfz24_0, hfz24_1, hfz24_2⟩ := cf3_ BK582.out; obtain ⟨Ao25, co25, eo25⟩ := Kd.R_slice HO580.out; subst eo25))
     go_roundg k1
     case measure => have := HK1.out; omega
     case rel => exact ⟨(x3_1), (wrap64 (x8_1 + 1)), tf_, H', ⟨by have := HK1.out; omega⟩, ⟨by (with_reducible repeat (first | apply Kd.R_alloc | apply Kd.R_drewN | apply Kd.R_drew)); exact Kd.R_mono (Kd.R_far (p := ⟨gb582, 2, none⟩) (Kd.R_far (p := ⟨gb582, 1, none⟩) (Kd.R_far (p := ⟨gb582, 0, none⟩) (Kd.R_types HO_3.out BK582.out (by decide)) (fun _ hk => hk.2) (.int .i64 t576)) (fun _ hk => hk.2) (.int .i64 t577)) (fun _ hk => hk.2) (.slice Ao25 t578.length co25)) (fun _ hk => trivial)⟩, ⟨tk_ BK569⟩, ⟨tb_⟩⟩
   ·
    rw [if_neg c5] at H
    have c5b0 := decide_eq_false c5
    clear c5
    replace H := Option.bind_eq_some_iff.mp H
    obtain ⟨t573, A260, H⟩ := H
    replace H : (some t573) = some r := H
    have A26 := A_ A260
    clear A260
    obtain rfl := Option.some.inj H
    obtain ⟨Ao27, co27, eo27⟩ := Kd.R_slice HO_3.out
    subst eo27
    go_wp2_with (first | (refine gc_ 181 ?_; refine goesT_ (some 24) Try.func181 #[.slice Ao27 x3_1.length co27] ?_; (with_reducible refine (impl_trimmed.calls k1 (fun k_ => some k_ = (.slice Ao27 x3_1.length co27 : Value).ownBlock) (.slice Ao27 x3_1.length co27) x3_1 t573 w _ ?side1 ?side2 A26.out).mono ?_); (case side1 => repeat (first | (with_reducible first | exact HB.out | apply below_alloc | apply pw_below_drewN | apply below_drew1 | refine below_set ?_ GE569.out) | exact HB.out)); (case side2 => exact Kd.R_tight rfl HO_3.out); rintro e w28 ⟨v574, rfl, ho0, hb, hkp⟩; refine ⟨_, rfl, ?_⟩; have n0_ := A_ (blk_kept (tk_ BK569) hkp (fun hs_ => (fun e_ => (Kd.R_ne HO_3.out BK569.out (by decide)) e_) hs_)); have n1_ := A_ (Kd.R_mono (ok' := fun k_ => True) ho0 (fun k_ hk_ => trivial)); have n2_ := A_ (hb); clear BK569; clear HB; clear HO_3; have BK569 := n0_; have HO575 := n1_; have HB := n2_; clear n0_ n1_ n2_; (try clear hb); (try clear hkp); (try clear ho0)))
    go_ret
    exact ⟨_, te_, tr_x HO575.out, tb_⟩

/-! ### spec_biAsked: function 98 -/
def spec_biAsked.f (k : Nat) (a0_0 : Int) (a0_1 : Int) (l0_2 : List Int) (a1 : Int) : Option (Bool) := (spec_boGood.f k a0_0 a0_1 l0_2).bind fun t673 => (if t673 = true then ((spec_l1In.f a1 0 12).bind fun t674 => (some t674)) else (some false))
theorem spec_biAsked.mono : ∀ a0 a1 a2 a3 k, LeO (spec_biAsked.f k a0 a1 a2 a3) (spec_biAsked.f (k + 1) a0 a1 a2 a3) := by
 intro a0 a1 a2 a3 k
 unfold spec_biAsked.f
 repeat' first | (with_reducible first | exact spec_boGood.mono _ _ _ _ | exact LeO.refl _ | exact LeO.none _ | refine LeO.ite ?_ ?_ | refine LeO.bind ?_ (fun _ => ?_)) | exact spec_boGood.mono _ _ _ _ | exact LeO.none _ | refine LeO.ite ?_ ?_ | refine LeO.bind ?_ (fun _ => ?_)
theorem spec_biAsked.calls (k : Nat) (a0_0 : Int) (a0_1 : Int) (A0_2 : Option Addr) (c0_2 : Nat) (l0_2 : List Int) (a1 : Int) (r : Bool) (w : World) (hr0_2 : Kd.C (Kd.int .i64) w A0_2 l0_2.length l0_2) (hc0_2 : l0_2.length ≤ c0_2) (h : spec_biAsked.f k a0_0 a0_1 l0_2 a1 = some r) :
  Calls Try.prog 98 #[.agg #[.int .i64 a0_0, .int .i64 a0_1, .slice A0_2 l0_2.length c0_2], .int .i64 a1] w fun e w' => e = .returned (.bool r) ∧ Below w.heap.size w w' := by
 have hu26 := Try.underlying26
 have HR0_2 := A_ hr0_2
 have HC0_2 := A_ hc0_2
 clear hr0_2 hc0_2
 have HB := A_ (Below.refl w.heap.size w)
 have H : ((spec_boGood.f k a0_0 a0_1 l0_2).bind fun t673 => (if t673 = true then ((spec_l1In.f a1 0 12).bind fun t674 => (some t674)) else (some false))) = some r := h
 clear h
 replace H := Option.bind_eq_some_iff.mp H
 obtain ⟨t673, A30, H⟩ := H
 replace H : (if t673 = true then ((spec_l1In.f a1 0 12).bind fun t674 => (some t674)) else (some false)) = some r := H
 have A3 := A_ A30
 clear A30
 by_cases c4 : t673 = true
 ·
  subst c4
  have H1 : ((spec_l1In.f a1 0 12).bind fun t674 => (some t674)) = some r := by rw [if_pos rfl] at H; exact H
  clear H
  have H := H1
  clear H1
  replace H := Option.bind_eq_some_iff.mp H
  obtain ⟨t674, A50, H⟩ := H
  replace H : (some t674) = some r := H
  have A5 := A_ A50
  clear A50
  obtain rfl := Option.some.inj H
  go_enter Try.func98, Try.ntmps98
  go_wp2_with (first | (refine gd_ 2 ?_; refine bx_ 2 #[.int .i64 a0_0, .int .i64 a0_1, .slice A0_2 l0_2.length c0_2] 26 ?_; intro gb672 hg w6 hbox hb; have BK672 := A_ (hbox); have GW672 := A_ ((ts_ hg : w.heap.size ≤ gb672)); have GE672 := A_ ((ts_ hg : w.heap.size ≤ gb672)); replace HB := A_ (below_step tb_ hb); clear hb hbox hg; obtain ⟨hcz7_0, hcz7_1, hcz7_2, hfz7_0, hfz7_1, hfz7_2⟩ := cf3_ BK672.out) | (refine gc_ 90 ?_; refine goesT_ (some 6) Try.func90 #[.agg #[.int .i64 a0_0, .int .i64 a0_1, .slice A0_2 l0_2.length c0_2]] ?_; (with_reducible refine (spec_boGood.calls k a0_0 a0_1 _ _ l0_2 true _ ?side1 ?side2 A3.out).mono ?_); (case side1 => exact tc_ HR0_2.out); (case side2 => exact HC0_2.out); rintro e w8 ⟨rfl, hb⟩; refine ⟨_, rfl, ?_⟩; replace BK672 := A_ (blk_below (g := gb672) (o := .cells #[.int .i64 a0_0, .int .i64 a0_1, .slice A0_2 l0_2.length c0_2] 26 (0, 0)) (tk_ BK672) hb); replace HB := A_ (below_step tb_ hb); (try clear hb)) | (go_at_call 111; (with_reducible refine (spec_l1In.calls a1 0 12 t674 _ A5.out).mono ?_); rintro e w' ⟨rfl, ⟨nd, rfl⟩⟩))
  go_ret
  exact ⟨te_, tb_⟩
 ·
  replace c4 := Bool.eq_false_iff.mpr c4
  subst c4
  have H1 : (some false) = some r := by rw [if_neg (show ¬ (false = true) by decide)] at H; exact H
  clear H
  have H := H1
  clear H1
  obtain rfl := Option.some.inj H
  go_enter Try.func98, Try.ntmps98
  go_wp2_with (first | (refine gd_ 2 ?_; refine bx_ 2 #[.int .i64 a0_0, .int .i64 a0_1, .slice A0_2 l0_2.length c0_2] 26 ?_; intro gb672 hg w9 hbox hb; have BK672 := A_ (hbox); have GW672 := A_ ((ts_ hg : w.heap.size ≤ gb672)); have GE672 := A_ ((ts_ hg : w.heap.size ≤ gb672)); replace HB := A_ (below_step tb_ hb); clear hb hbox hg; obtain ⟨hcz10_0, hcz10_1, hcz10_2, hfz10_0, hfz10_1, hfz10_2⟩ := cf3_ BK672.out) | (refine gc_ 90 ?_; refine goesT_ (some 6) Try.func90 #[.agg #[.int .i64 a0_0, .int .i64 a0_1, .slice A0_2 l0_2.length c0_2]] ?_; (with_reducible refine (spec_boGood.calls k a0_0 a0_1 _ _ l0_2 false _ ?side1 ?side2 A3.out).mono ?_); (case side1 => exact tc_ HR0_2.out); (case side2 => exact HC0_2.out); rintro e w11 ⟨rfl, hb⟩; refine ⟨_, rfl, ?_⟩; replace BK672 := A_ (blk_below (g := gb672) (o := .cells #[.int .i64 a0_0, .int .i64 a0_1, .slice A0_2 l0_2.length c0_2] 26 (0, 0)) (tk_ BK672) hb); replace HB := A_ (below_step tb_ hb); (try clear hb)))
  go_ret
  exact ⟨te_, tb_⟩

/-! ### impl_asBishops: function 110 -/
def impl_asBishops.f (l0 : List Int) (l1 : List Int) : Option (Bool) := if 0 < (l0.length : Int) then (if 1 < (l0.length : Int) then (if 0 < (l1.length : Int) then (if 1 < (l1.length : Int) then (if (wrap64 ((rd l0 0) + (rd l0 1))) = (wrap64 ((rd l1 0) + (rd l1 1))) then (some false) else (some ((wrap64 ((rd l0 0) - (rd l0 1))) != (wrap64 ((rd l1 0) - (rd l1 1)))))) else (none)) else (none)) else (none)) else (none)
theorem impl_asBishops.calls (A0 : Option Addr) (c0 : Nat) (l0 : List Int) (A1 : Option Addr) (c1 : Nat) (l1 : List Int) (r : Bool) (w : World) (hr0 : Kd.C (Kd.int .i64) w A0 l0.length l0) (hc0 : l0.length ≤ c0) (hr1 : Kd.C (Kd.int .i64) w A1 l1.length l1) (hc1 : l1.length ≤ c1) (h : impl_asBishops.f l0 l1 = some r) :
  Calls Try.prog 110 #[.slice A0 l0.length c0, .slice A1 l1.length c1] w fun e w' => e = .returned (.bool r) ∧ Drawn0 w w' := by
 have HR0 := A_ hr0
 have HC0 := A_ hc0
 clear hr0 hc0
 have HR1 := A_ hr1
 have HC1 := A_ hc1
 clear hr1 hc1
 have H : (if 0 < (l0.length : Int) then (if 1 < (l0.length : Int) then (if 0 < (l1.length : Int) then (if 1 < (l1.length : Int) then (if (wrap64 ((rd l0 0) + (rd l0 1))) = (wrap64 ((rd l1 0) + (rd l1 1))) then (some false) else (some ((wrap64 ((rd l0 0) - (rd l0 1))) != (wrap64 ((rd l1 0) - (rd l1 1)))))) else (none)) else (none)) else (none)) else (none)) = some r := h
 clear h
 by_cases c3 : 0 < (l0.length : Int)
 ·
  rw [if_pos c3] at H
  have c3b0 := decide_eq_true c3
  have c3b1 : decide (0 < l0.length) = true := decide_eq_true (by omega)
  clear c3
  by_cases c4 : 1 < (l0.length : Int)
  ·
   rw [if_pos c4] at H
   have c4b0 := decide_eq_true c4
   have c4b1 : decide (1 < l0.length) = true := decide_eq_true (by omega)
   clear c4
   by_cases c5 : 0 < (l1.length : Int)
   ·
    rw [if_pos c5] at H
    have c5b0 := decide_eq_true c5
    have c5b1 : decide (0 < l1.length) = true := decide_eq_true (by omega)
    clear c5
    by_cases c6 : 1 < (l1.length : Int)
    ·
     rw [if_pos c6] at H
     have c6b0 := decide_eq_true c6
     have c6b1 : decide (1 < l1.length) = true := decide_eq_true (by omega)
     clear c6
     by_cases c7 : (wrap64 ((rd l0 0) + (rd l0 1))) = (wrap64 ((rd l1 0) + (rd l1 1)))
     ·
      rw [if_pos c7] at H
      have c7b0 : ((wrap64 ((rd l0 0) + (rd l0 1))) == (wrap64 ((rd l1 0) + (rd l1 1)))) = true := beq_iff_eq.mpr c7
      have c7b1 : ((wrap64 ((rd l0 0) + (rd l0 1))) != (wrap64 ((rd l1 0) + (rd l1 1)))) = false := bne_eq_false_iff_eq.mpr c7
      clear c7
      obtain rfl := Option.some.inj H
      have p684 : 0 ≤ (0 : Int) := (by omega)
      have q684 : 0 < (l0.length : Int) := od_
      obtain ⟨ad684, e684, hx684_0⟩ := Kd.at_int HR0.out 0 p684 q684
      cases e684
      have qi684 : (0 < l0.length) = True := eq_true (by omega)
      (try rw [show ((0 : Int)).toNat = 0 from rfl] at hx684_0)
      (try rw [Addr.add_zero'] at hx684_0)
      replace p684 := eq_true p684
      replace q684 := eq_true q684
      have p685 : 0 ≤ (1 : Int) := (by omega)
      have q685 : 1 < (l0.length : Int) := od_
      obtain ⟨ad685, e685, hx685_0⟩ := Kd.at_int HR0.out 1 p685 q685
      obtain rfl : ad684 = ad685 := (by injection e685)
      (try simp only [show (1 : Int).toNat = 1 from rfl, Nat.reduceMul, Nat.reduceEqDiff, Go.Addr.add, ↓reduceIte] at hx685_0)
      have qi685 : (1 < l0.length) = True := eq_true (by omega)
      (try rw [show ((1 : Int)).toNat = 1 from rfl] at hx685_0)
      replace p685 := eq_true p685
      replace q685 := eq_true q685
      have p686 : 0 ≤ (0 : Int) := (by omega)
      have q686 : 0 < (l1.length : Int) := od_
      obtain ⟨ad686, e686, hx686_0⟩ := Kd.at_int HR1.out 0 p686 q686
      cases e686
      have qi686 : (0 < l1.length) = True := eq_true (by omega)
      (try rw [show ((0 : Int)).toNat = 0 from rfl] at hx686_0)
      (try rw [Addr.add_zero'] at hx686_0)
      replace p686 := eq_true p686
      replace q686 := eq_true q686
      have p687 : 0 ≤ (1 : Int) := (by omega)
      have q687 : 1 < (l1.length : Int) := od_
      obtain ⟨ad687, e687, hx687_0⟩ := Kd.at_int HR1.out 1 p687 q687
      obtain rfl : ad686 = ad687 := (by injection e687)
      (try simp only [show (1 : Int).toNat = 1 from rfl, Nat.reduceMul, Nat.reduceEqDiff, Go.Addr.add, ↓reduceIte] at hx687_0)
      have qi687 : (1 < l1.length) = True := eq_true (by omega)
      (try rw [show ((1 : Int)).toNat = 1 from rfl] at hx687_0)
      replace p687 := eq_true p687
      replace q687 := eq_true q687
      go_enter Try.func110, Try.ntmps110
      go_wp2
      repeat (go_quiet (fail); try go_wp2)
      go_ret
      exact ⟨tf_, dr_⟩
     ·
      rw [if_neg c7] at H
      have c7b0 : ((wrap64 ((rd l0 0) + (rd l0 1))) == (wrap64 ((rd l1 0) + (rd l1 1)))) = false := beq_eq_false_iff_ne.mpr c7
      have c7b1 : ((wrap64 ((rd l0 0) + (rd l0 1))) != (wrap64 ((rd l1 0) + (rd l1 1)))) = true := bne_iff_ne.mpr c7
      obtain rfl := Option.some.inj H
      have p684 : 0 ≤ (0 : Int) := (by omega)
      have q684 : 0 < (l0.length : Int) := od_
      obtain ⟨ad684, e684, hx684_0⟩ := Kd.at_int HR0.out 0 p684 q684
      cases e684
      have qi684 : (0 < l0.length) = True := eq_true (by omega)
      (try rw [show ((0 : Int)).toNat = 0 from rfl] at hx684_0)
      (try rw [Addr.add_zero'] at hx684_0)
      replace p684 := eq_true p684
      replace q684 := eq_true q684
      have p685 : 0 ≤ (1 : Int) := (by omega)
      have q685 : 1 < (l0.length : Int) := od_
      obtain ⟨ad685, e685, hx685_0⟩ := Kd.at_int HR0.out 1 p685 q685
      obtain rfl : ad684 = ad685 := (by injection e685)
      (try simp only [show (1 : Int).toNat = 1 from rfl, Nat.reduceMul, Nat.reduceEqDiff, Go.Addr.add, ↓reduceIte] at hx685_0)
      have qi685 : (1 < l0.length) = True := eq_true (by omega)
      (try rw [show ((1 : Int)).toNat = 1 from rfl] at hx685_0)
      replace p685 := eq_true p685
      replace q685 := eq_true q685
      have p686 : 0 ≤ (0 : Int) := (by omega)
      have q686 : 0 < (l1.length : Int) := od_
      obtain ⟨ad686, e686, hx686_0⟩ := Kd.at_int HR1.out 0 p686 q686
      cases e686
      have qi686 : (0 < l1.length) = True := eq_true (by omega)
      (try rw [show ((0 : Int)).toNat = 0 from rfl] at hx686_0)
      (try rw [Addr.add_zero'] at hx686_0)
      replace p686 := eq_true p686
      replace q686 := eq_true q686
      have p687 : 0 ≤ (1 : Int) := (by omega)
      have q687 : 1 < (l1.length : Int) := od_
      obtain ⟨ad687, e687, hx687_0⟩ := Kd.at_int HR1.out 1 p687 q687
      obtain rfl : ad686 = ad687 := (by injection e687)
      (try simp only [show (1 : Int).toNat = 1 from rfl, Nat.reduceMul, Nat.reduceEqDiff, Go.Addr.add, ↓reduceIte] at hx687_0)
      have qi687 : (1 < l1.length) = True := eq_true (by omega)
      (try rw [show ((1 : Int)).toNat = 1 from rfl] at hx687_0)
      replace p687 := eq_true p687
      replace q687 := eq_true q687
      have p688 : 0 ≤ (0 : Int) := (by omega)
      have q688 : 0 < (l0.length : Int) := od_
      obtain ⟨ad688, e688, hx688_0⟩ := Kd.at_int HR0.out 0 p688 q688
      obtain rfl : ad684 = ad688 := (by injection e688)
      have qi688 : (0 < l0.length) = True := eq_true (by omega)
      (try rw [show ((0 : Int)).toNat = 0 from rfl] at hx688_0)
      (try rw [Addr.add_zero'] at hx688_0)
      replace p688 := eq_true p688
      replace q688 := eq_true q688
      have p689 : 0 ≤ (1 : Int) := (by omega)
      have q689 : 1 < (l0.length : Int) := od_
      obtain ⟨ad689, e689, hx689_0⟩ := Kd.at_int HR0.out 1 p689 q689
      obtain rfl : ad684 = ad689 := (by injection e689)
      (try simp only [show (1 : Int).toNat = 1 from rfl, Nat.reduceMul, Nat.reduceEqDiff, Go.Addr.add, ↓reduceIte] at hx689_0)
      have qi689 : (1 < l0.length) = True := eq_true (by omega)
      (try rw [show ((1 : Int)).toNat = 1 from rfl] at hx689_0)
      replace p689 := eq_true p689
      replace q689 := eq_true q689
      have p690 : 0 ≤ (0 : Int) := (by omega)
      have q690 : 0 < (l1.length : Int) := od_
      obtain ⟨ad690, e690, hx690_0⟩ := Kd.at_int HR1.out 0 p690 q690
      obtain rfl : ad686 = ad690 := (by injection e690)
      have qi690 : (0 < l1.length) = True := eq_true (by omega)
      (try rw [show ((0 : Int)).toNat = 0 from rfl] at hx690_0)
      (try rw [Addr.add_zero'] at hx690_0)
      replace p690 := eq_true p690
      replace q690 := eq_true q690
      have p691 : 0 ≤ (1 : Int) := (by omega)
      have q691 : 1 < (l1.length : Int) := od_
      obtain ⟨ad691, e691, hx691_0⟩ := Kd.at_int HR1.out 1 p691 q691
      obtain rfl : ad686 = ad691 := (by injection e691)
      (try simp only [show (1 : Int).toNat = 1 from rfl, Nat.reduceMul, Nat.reduceEqDiff, Go.Addr.add, ↓reduceIte] at hx691_0)
      have qi691 : (1 < l1.length) = True := eq_true (by omega)
      (try rw [show ((1 : Int)).toNat = 1 from rfl] at hx691_0)
      replace p691 := eq_true p691
      replace q691 := eq_true q691
      go_enter Try.func110, Try.ntmps110
      go_wp2
      repeat (go_quiet (fail); try go_wp2)
      go_ret
      exact ⟨tf_, dr_⟩
    ·
     rw [if_neg c6] at H
     exact absurd H (by simp)
   ·
    rw [if_neg c5] at H
    exact absurd H (by simp)
  ·
   rw [if_neg c4] at H
   exact absurd H (by simp)
 ·
  rw [if_neg c3] at H
  exact absurd H (by simp)

/-! ### impl_isPieces: function 100 -/
def impl_isPieces.f (a0 : Int) : Option (Bool) := (impl_within.f a0 0 12).bind fun t697 => (some t697)
theorem impl_isPieces.calls (a0 : Int) (r : Bool) (w : World) (h : impl_isPieces.f a0 = some r) :
  Calls Try.prog 100 #[.int .i64 a0] w fun e w' => e = .returned (.bool r) ∧ Drawn0 w w' := by
 have H : ((impl_within.f a0 0 12).bind fun t697 => (some t697)) = some r := h
 clear h
 replace H := Option.bind_eq_some_iff.mp H
 obtain ⟨t697, A20, H⟩ := H
 replace H : (some t697) = some r := H
 have A2 := A_ A20
 clear A20
 obtain rfl := Option.some.inj H
 go_enter Try.func100, Try.ntmps100
 go_wp2_with (first | (refine gc_ 113 ?_; refine goesT_ (some 4) Try.func113 #[.int .i64 a0, .int .i64 0, .int .i64 12] ?_; (with_reducible refine (impl_within.calls a0 0 12 t697 _ A2.out).mono ?_); rintro e w' ⟨rfl, ⟨nd, rfl⟩⟩; refine ⟨_, rfl, ?_⟩))
 go_ret
 exact ⟨tf_, dr_⟩

end
end Go.Proofs.Ythlcaikplebpmaa.P
