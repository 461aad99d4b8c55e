-- printed functions (wip/slim.py)
import Derived.Test.YtjjfcghoikdopaaPx0
import Derived.Test.YtjjfcghoikdopaaQbabc941b0f
import Derived.Test.YtjjfcghoikdopaaQ060f88e6f3
import Derived.Test.YtjjfcghoikdopaaQeddd385f8f
import Derived.Test.YtjjfcghoikdopaaQb9bf4cf162
import Derived.Test.YtjjfcghoikdopaaQ965549bab9
import Derived.Test.YtjjfcghoikdopaaQ3bf2aa28fa
namespace Go.Proofs.Ytjjfcghoikdopaa.P
noncomputable section
set_option maxHeartbeats 8000000
set_option maxRecDepth 100000
open Go.RowKit Go.Proofs.YtjjfcghoikdopaaW.PrintWords Go.Proofs.YtjjfcghoikdopaaW.PrintLast Go.Proofs.YtjjfcghoikdopaaW.PrintMore
attribute [local go_sem] max2_int min2_int max_two min_two max_three min_three max_four min_four   -- for this text's walks alone
set_option linter.unusedVariables false
set_option linter.unusedSimpArgs false

/-! ### spec_DrawHasCell: function 84 -/
def spec_DrawHasCell.f (k : Nat) (l0 : List Int) : Option (Int × Int × List Int × Int × Int) := (spec_l1Cur_board.f k l0 0 0).bind fun bt308 => ((spec_l1Cur_pick.f l0 bt308.2.2.2.1 bt308.2.2.2.2 7).bind fun bt315 => ((spec_l1Cur_pick.f l0 bt315.2.1 bt315.2.2 9).bind fun bt318 => ((spec_l1Cur_pick.f l0 bt318.2.1 bt318.2.2 7).bind fun bt321 => ((spec_l1Cur_pick.f l0 bt321.2.1 bt321.2.2 9).bind fun bt324 => (some (bt308.1, bt308.2.1, bt308.2.2.1, wrap64 (bt315.1 - (wrap64 (Int.tdiv bt318.1 8))), wrap64 (bt321.1 - (wrap64 (Int.tdiv bt324.1 8)))))))))
theorem spec_DrawHasCell.mono : ∀ a0 k, LeO (spec_DrawHasCell.f k a0) (spec_DrawHasCell.f (k + 1) a0) := by
 intro a0 k
 unfold spec_DrawHasCell.f
 repeat' first | (with_reducible first | exact spec_l1Cur_board.mono _ _ _ _ | exact LeO.refl _ | exact LeO.none _ | refine LeO.ite ?_ ?_ | refine LeO.bind ?_ (fun _ => ?_)) | exact spec_l1Cur_board.mono _ _ _ _ | exact LeO.none _ | refine LeO.ite ?_ ?_ | refine LeO.bind ?_ (fun _ => ?_)
theorem spec_DrawHasCell.calls (k : Nat) (A0 : Option Addr) (c0 : Nat) (l0 : List Int) (r1 : Int) (r2 : Int) (r3 : List Int) (r4 : Int) (r5 : Int) (w : World) (hr0 : Kd.C (Kd.int .u8) w A0 l0.length l0) (hc0 : l0.length ≤ c0) (h : spec_DrawHasCell.f k l0 = some (r1, r2, r3, r4, r5)) :
  Calls Try.prog 84 #[.slice A0 l0.length c0] w fun e w' => ∃ v2_ : Value, e = .returned (.tuple #[.agg #[.int .i64 r1, .int .i64 r2, v2_], .int .i64 r4, .int .i64 r5]) ∧ Kd.R (Kd.int .i64) 3 w' w.heap.size (fun _ => True) v2_ r3 ∧ Below w.heap.size w w' := by
 have hu26 := Try.underlying26
 have hu79 := Try.underlying79
 have HR0 := A_ hr0
 have HC0 := A_ hc0
 clear hr0 hc0
 have HB := A_ (Below.refl w.heap.size w)
 have H : ((spec_l1Cur_board.f k l0 0 0).bind fun bt308 => ((spec_l1Cur_pick.f l0 bt308.2.2.2.1 bt308.2.2.2.2 7).bind fun bt315 => ((spec_l1Cur_pick.f l0 bt315.2.1 bt315.2.2 9).bind fun bt318 => ((spec_l1Cur_pick.f l0 bt318.2.1 bt318.2.2 7).bind fun bt321 => ((spec_l1Cur_pick.f l0 bt321.2.1 bt321.2.2 9).bind fun bt324 => (some (bt308.1, bt308.2.1, bt308.2.2.1, wrap64 (bt315.1 - (wrap64 (Int.tdiv bt318.1 8))), wrap64 (bt321.1 - (wrap64 (Int.tdiv bt324.1 8)))))))))) = some (r1, r2, r3, r4, r5) := h
 clear h
 replace H := Option.bind_eq_some_iff.mp H
 obtain ⟨⟨t308, t309, t310, t313, t314⟩, A20, H⟩ := H
 replace H : ((spec_l1Cur_pick.f l0 t313 t314 7).bind fun bt315 => ((spec_l1Cur_pick.f l0 bt315.2.1 bt315.2.2 9).bind fun bt318 => ((spec_l1Cur_pick.f l0 bt318.2.1 bt318.2.2 7).bind fun bt321 => ((spec_l1Cur_pick.f l0 bt321.2.1 bt321.2.2 9).bind fun bt324 => (some (t308, t309, t310, wrap64 (bt315.1 - (wrap64 (Int.tdiv bt318.1 8))), wrap64 (bt321.1 - (wrap64 (Int.tdiv bt324.1 8))))))))) = some (r1, r2, r3, r4, r5) := H
 have A2 := A_ A20
 clear A20
 replace H := Option.bind_eq_some_iff.mp H
 obtain ⟨⟨t315, t316, t317⟩, A30, H⟩ := H
 replace H : ((spec_l1Cur_pick.f l0 t316 t317 9).bind fun bt318 => ((spec_l1Cur_pick.f l0 bt318.2.1 bt318.2.2 7).bind fun bt321 => ((spec_l1Cur_pick.f l0 bt321.2.1 bt321.2.2 9).bind fun bt324 => (some (t308, t309, t310, wrap64 (t315 - (wrap64 (Int.tdiv bt318.1 8))), wrap64 (bt321.1 - (wrap64 (Int.tdiv bt324.1 8)))))))) = some (r1, r2, r3, r4, r5) := H
 have A3 := A_ A30
 clear A30
 replace H := Option.bind_eq_some_iff.mp H
 obtain ⟨⟨t318, t319, t320⟩, A40, H⟩ := H
 replace H : ((spec_l1Cur_pick.f l0 t319 t320 7).bind fun bt321 => ((spec_l1Cur_pick.f l0 bt321.2.1 bt321.2.2 9).bind fun bt324 => (some (t308, t309, t310, wrap64 (t315 - (wrap64 (Int.tdiv t318 8))), wrap64 (bt321.1 - (wrap64 (Int.tdiv bt324.1 8))))))) = some (r1, r2, r3, r4, r5) := H
 have A4 := A_ A40
 clear A40
 replace H := Option.bind_eq_some_iff.mp H
 obtain ⟨⟨t321, t322, t323⟩, A50, H⟩ := H
 replace H : ((spec_l1Cur_pick.f l0 t322 t323 9).bind fun bt324 => (some (t308, t309, t310, wrap64 (t315 - (wrap64 (Int.tdiv t318 8))), wrap64 (t321 - (wrap64 (Int.tdiv bt324.1 8)))))) = some (r1, r2, r3, r4, r5) := H
 have A5 := A_ A50
 clear A50
 replace H := Option.bind_eq_some_iff.mp H
 obtain ⟨⟨t324, t325, t326⟩, A60, H⟩ := H
 replace H : (some (t308, t309, t310, wrap64 (t315 - (wrap64 (Int.tdiv t318 8))), wrap64 (t321 - (wrap64 (Int.tdiv t324 8))))) = some (r1, r2, r3, r4, r5) := H
 have A6 := A_ A60
 clear A60
 simp only [Option.some.injEq, Prod.mk.injEq] at H
 obtain ⟨rfl, rfl, rfl, rfl, rfl⟩ := H
 go_enter Try.func84, Try.ntmps84
 go_wp2_with (first | (refine gd_ 2 ?_; refine bx_ 2 #[.int .i64 0, .int .i64 0, .slice none 0 0] 26 ?_; intro gb306 hg w7 hbox hb; have BK306 := A_ (hbox); have GW306 := A_ ((ts_ hg : w.heap.size ≤ gb306)); have GE306 := A_ ((ts_ hg : w.heap.size ≤ gb306)); replace HB := A_ (below_step tb_ hb); clear hb hbox hg) | (refine gd_ 8 ?_; refine bx_ 8 #[.slice A0 l0.length c0, .int .i64 0, .int .u64 0] 79 ?_; intro gb307 hg w8 hbox hb; have NB306_307 := A_ ((by rw [hg]; exact Nat.ne_of_lt (blk_lt (g := gb306) (o := .cells #[.int .i64 0, .int .i64 0, .slice none 0 0] 26 (0, 0)) (tk_ BK306)) : gb306 ≠ gb307)); have NB307_306 := A_ ((by rw [hg]; exact Nat.ne_of_gt (blk_lt (g := gb306) (o := .cells #[.int .i64 0, .int .i64 0, .slice none 0 0] 26 (0, 0)) (tk_ BK306)) : gb307 ≠ gb306)); replace BK306 := A_ (blk_below (g := gb306) (o := .cells #[.int .i64 0, .int .i64 0, .slice none 0 0] 26 (0, 0)) (tk_ BK306) hb); have HI307 := A_ ((⟨_, _, hbox, (by rw [hg]; exact (below_size tb_)), HR0.out⟩ : IsS79 w w8 gb307 l0 0 0)); replace HB := A_ (below_step tb_ hb); clear hb hbox hg) | (refine gc_ 87 ?_; refine goesT_ (some 10) Try.func87 #[.pointer (some ⟨gb307, 0, none⟩)] ?_; (with_reducible refine (spec_l1Cur_board.calls k gb307 l0 0 0 t308 t309 t310 t313 t314 w _ ?side1 ?side2 A2.out).mono ?_); (case side1 => repeat (first | (with_reducible first | exact HI307.out | apply IsS79.alloc | apply IsS79.drewN | apply IsS79.drew | apply IsS79.set_1 | apply IsS79.set_2 | refine IsS79.far ?_ NB307_306.out _) | exact HI307.out)); (case side2 => repeat (first | (with_reducible first | exact HB.out | apply below_alloc | apply pw_below_drewN | apply below_drew1 | refine below_set ?_ (IsS79.ge HI307.out) | refine below_set ?_ GE306.out) | exact HB.out)); rintro e w9 ⟨v311, rfl, ho0, hi, hb, hk⟩; refine ⟨_, rfl, ?_⟩; replace BK306 := A_ (KeepBut.blk hk (g' := gb306) (o := .cells #[.int .i64 0, .int .i64 0, .slice none 0 0] 26 (0, 0)) (tk_ BK306) NB306_307.out (by simp)); have HO312 := A_ (Kd.R_lower ho0 (below_size (by repeat (first | (with_reducible first | exact HB.out | apply below_alloc | apply pw_below_drewN | apply below_drew1 | refine below_set ?_ (IsS79.ge HI307.out) | refine below_set ?_ GE306.out) | exact HB.out)))); replace HB := A_ (hb); replace HI307 := A_ (hi); (try clear hb); (try clear hb2); (try clear hk); (try clear hi); (try clear ho0)) | (refine gc_ 89 ?_; refine goesT_ (some 12) Try.func89 #[.pointer (some ⟨gb307, 0, none⟩), .int .i64 7] ?_; (with_reducible refine (spec_l1Cur_pick.calls gb307 l0 t313 t314 7 t315 t316 t317 w _ ?side1 ?side2 A3.out).mono ?_); (case side1 => repeat (first | (with_reducible first | exact HI307.out | apply IsS79.alloc | apply IsS79.drewN | apply IsS79.drew | apply IsS79.set_1 | apply IsS79.set_2 | refine IsS79.far ?_ NB307_306.out _) | exact HI307.out)); (case side2 => repeat (first | (with_reducible first | exact HB.out | apply below_alloc | apply pw_below_drewN | apply below_drew1 | refine below_set ?_ (IsS79.ge HI307.out) | refine below_set ?_ GE306.out) | exact HB.out)); rintro e w10 ⟨rfl, hi, hb, hk⟩; refine ⟨_, rfl, ?_⟩; replace BK306 := A_ (KeepBut.blk hk (g' := gb306) (o := .cells #[.int .i64 0, .int .i64 0, .slice none 0 0] 26 (0, 0)) (tk_ BK306) NB306_307.out (by simp)); replace HO312 := A_ (Kd.R_mono (Kd.R_keep (IsS79.apart (show IsS79 w _ gb307 l0 t313 t314 from by repeat (first | (with_reducible first | exact HI307.out | apply IsS79.alloc | apply IsS79.drewN | apply IsS79.drew | apply IsS79.set_1 | apply IsS79.set_2 | refine IsS79.far ?_ NB307_306.out _) | exact HI307.out)) (tr_x HO312.out) (by decide)) hk (fun _ h => h.2)) (fun _ h => h.1)); replace HB := A_ (hb); replace HI307 := A_ (hi); (try clear hb); (try clear hb2); (try clear hk); (try clear hi)) | (refine gc_ 89 ?_; refine goesT_ (some 14) Try.func89 #[.pointer (some ⟨gb307, 0, none⟩), .int .i64 9] ?_; (with_reducible refine (spec_l1Cur_pick.calls gb307 l0 t316 t317 9 t318 t319 t320 w _ ?side1 ?side2 A4.out).mono ?_); (case side1 => repeat (first | (with_reducible first | exact HI307.out | apply IsS79.alloc | apply IsS79.drewN | apply IsS79.drew | apply IsS79.set_1 | apply IsS79.set_2 | refine IsS79.far ?_ NB307_306.out _) | exact HI307.out)); (case side2 => repeat (first | (with_reducible first | exact HB.out | apply below_alloc | apply pw_below_drewN | apply below_drew1 | refine below_set ?_ (IsS79.ge HI307.out) | refine below_set ?_ GE306.out) | exact HB.out)); rintro e w11 ⟨rfl, hi, hb, hk⟩; refine ⟨_, rfl, ?_⟩; replace BK306 := A_ (KeepBut.blk hk (g' := gb306) (o := .cells #[.int .i64 0, .int .i64 0, .slice none 0 0] 26 (0, 0)) (tk_ BK306) NB306_307.out (by simp)); replace HO312 := A_ (Kd.R_mono (Kd.R_keep (IsS79.apart (show IsS79 w _ gb307 l0 t316 t317 from by repeat (first | (with_reducible first | exact HI307.out | apply IsS79.alloc | apply IsS79.drewN | apply IsS79.drew | apply IsS79.set_1 | apply IsS79.set_2 | refine IsS79.far ?_ NB307_306.out _) | exact HI307.out)) (tr_x HO312.out) (by decide)) hk (fun _ h => h.2)) (fun _ h => h.1)); replace HB := A_ (hb); replace HI307 := A_ (hi); (try clear hb); (try clear hb2); (try clear hk); (try clear hi)) | (refine gc_ 89 ?_; refine goesT_ (some 18) Try.func89 #[.pointer (some ⟨gb307, 0, none⟩), .int .i64 7] ?_; (with_reducible refine (spec_l1Cur_pick.calls gb307 l0 t319 t320 7 t321 t322 t323 w _ ?side1 ?side2 A5.out).mono ?_); (case side1 => repeat (first | (with_reducible first | exact HI307.out | apply IsS79.alloc | apply IsS79.drewN | apply IsS79.drew | apply IsS79.set_1 | apply IsS79.set_2 | refine IsS79.far ?_ NB307_306.out _) | exact HI307.out)); (case side2 => repeat (first | (with_reducible first | exact HB.out | apply below_alloc | apply pw_below_drewN | apply below_drew1 | refine below_set ?_ (IsS79.ge HI307.out) | refine below_set ?_ GE306.out) | exact HB.out)); rintro e w12 ⟨rfl, hi, hb, hk⟩; refine ⟨_, rfl, ?_⟩; replace BK306 := A_ (KeepBut.blk hk (g' := gb306) (o := .cells #[.int .i64 0, .int .i64 0, .slice none 0 0] 26 (0, 0)) (tk_ BK306) NB306_307.out (by simp)); replace HO312 := A_ (Kd.R_mono (Kd.R_keep (IsS79.apart (show IsS79 w _ gb307 l0 t319 t320 from by repeat (first | (with_reducible first | exact HI307.out | apply IsS79.alloc | apply IsS79.drewN | apply IsS79.drew | apply IsS79.set_1 | apply IsS79.set_2 | refine IsS79.far ?_ NB307_306.out _) | exact HI307.out)) (tr_x HO312.out) (by decide)) hk (fun _ h => h.2)) (fun _ h => h.1)); replace HB := A_ (hb); replace HI307 := A_ (hi); (try clear hb); (try clear hb2); (try clear hk); (try clear hi)) | (refine gc_ 89 ?_; refine goesT_ (some 20) Try.func89 #[.pointer (some ⟨gb307, 0, none⟩), .int .i64 9] ?_; (with_reducible refine (spec_l1Cur_pick.calls gb307 l0 t322 t323 9 t324 t325 t326 w _ ?side1 ?side2 A6.out).mono ?_); (case side1 => repeat (first | (with_reducible first | exact HI307.out | apply IsS79.alloc | apply IsS79.drewN | apply IsS79.drew | apply IsS79.set_1 | apply IsS79.set_2 | refine IsS79.far ?_ NB307_306.out _) | exact HI307.out)); (case side2 => repeat (first | (with_reducible first | exact HB.out | apply below_alloc | apply pw_below_drewN | apply below_drew1 | refine below_set ?_ (IsS79.ge HI307.out) | refine below_set ?_ GE306.out) | exact HB.out)); rintro e w13 ⟨rfl, hi, hb, hk⟩; refine ⟨_, rfl, ?_⟩; replace BK306 := A_ (KeepBut.blk hk (g' := gb306) (o := .cells #[.int .i64 0, .int .i64 0, .slice none 0 0] 26 (0, 0)) (tk_ BK306) NB306_307.out (by simp)); replace HO312 := A_ (Kd.R_mono (Kd.R_keep (IsS79.apart (show IsS79 w _ gb307 l0 t322 t323 from by repeat (first | (with_reducible first | exact HI307.out | apply IsS79.alloc | apply IsS79.drewN | apply IsS79.drew | apply IsS79.set_1 | apply IsS79.set_2 | refine IsS79.far ?_ NB307_306.out _) | exact HI307.out)) (tr_x HO312.out) (by decide)) hk (fun _ h => h.2)) (fun _ h => h.1)); replace HB := A_ (hb); replace HI307 := A_ (hi); (try clear hb); (try clear hb2); (try clear hk); (try clear hi); have hnb14 := NB306_307.out; have hnc14 := NB307_306.out; obtain ⟨hcz15_0, hcz15_1, hcz15_2, hfz15_0, hfz15_1, hfz15_2⟩ := cf3_ BK306.out; obtain ⟨Ao16, co16, eo16⟩ := Kd.R_slice HO312.out; subst eo16))
 refine bodyPost_ret (results_ctt rfl _ _ gb306 26 #[.int .i64 t308, .int .i64 t309, .slice Ao16 t310.length co16] (0, 0) _ rfl (by (with_reducible repeat (first | refine blk_drewN ?_ _ | refine blk_drew ?_ | refine blk_alloc ?_ _)); refine blk_put (cs := #[.int .i64 t308, .int .i64 t309, .slice none 0 0]) ?_ 2 _ rfl; (with_reducible repeat (first | refine blk_drewN ?_ _ | refine blk_drew ?_ | refine blk_alloc ?_ _)); refine blk_put (cs := #[.int .i64 t308, .int .i64 0, .slice none 0 0]) ?_ 1 _ rfl; (with_reducible repeat (first | refine blk_drewN ?_ _ | refine blk_drew ?_ | refine blk_alloc ?_ _)); refine blk_put (cs := #[.int .i64 0, .int .i64 0, .slice none 0 0]) ?_ 0 _ rfl; (with_reducible repeat (first | refine blk_drewN ?_ _ | refine blk_drew ?_ | refine blk_alloc ?_ _)); exact BK306.out) Try.underlying26 rfl (by kernel_rfl)) rfl ?_
 exact ⟨_, te_, by (with_reducible repeat (first | apply Kd.R_alloc | apply Kd.R_drewN | apply Kd.R_drew)); exact Kd.R_mono (Kd.R_far (p := ⟨gb306, 2, none⟩) (Kd.R_far (p := ⟨gb306, 1, none⟩) (Kd.R_far (p := ⟨gb306, 0, none⟩) (Kd.R_types HO312.out BK306.out (by decide)) (fun _ hk => hk.2) (.int .i64 t308)) (fun _ hk => hk.2) (.int .i64 t309)) (fun _ hk => hk.2) (.slice Ao16 t310.length co16)) (fun _ hk => trivial), by repeat (first | (with_reducible first | exact HB.out | apply below_alloc | apply pw_below_drewN | apply below_drew1 | refine below_set ?_ (IsS79.ge HI307.out) | refine below_set ?_ GE306.out) | exact HB.out)⟩

/-! ### spec_DrawDiagonalOf: function 17 -/
def spec_DrawDiagonalOf.f (k : Nat) (l0 : List Int) : Option (Int × Int × List Int × Int × Int) := (spec_DrawHasCell.f k l0).bind fun bt328 => (some (bt328.1, bt328.2.1, bt328.2.2.1, bt328.2.2.2.1, bt328.2.2.2.2))
theorem spec_DrawDiagonalOf.mono : ∀ a0 k, LeO (spec_DrawDiagonalOf.f k a0) (spec_DrawDiagonalOf.f (k + 1) a0) := by
 intro a0 k
 unfold spec_DrawDiagonalOf.f
 repeat' first | (with_reducible first | exact spec_DrawHasCell.mono _ _ | exact LeO.refl _ | exact LeO.none _ | refine LeO.ite ?_ ?_ | refine LeO.bind ?_ (fun _ => ?_)) | exact spec_DrawHasCell.mono _ _ | exact LeO.none _ | refine LeO.ite ?_ ?_ | refine LeO.bind ?_ (fun _ => ?_)
theorem spec_DrawDiagonalOf.calls (k : Nat) (A0 : Option Addr) (c0 : Nat) (l0 : List Int) (r1 : Int) (r2 : Int) (r3 : List Int) (r4 : Int) (r5 : Int) (w : World) (hr0 : Kd.C (Kd.int .u8) w A0 l0.length l0) (hc0 : l0.length ≤ c0) (h : spec_DrawDiagonalOf.f k l0 = some (r1, r2, r3, r4, r5)) :
  Calls Try.prog 17 #[.slice A0 l0.length c0] w fun e w' => ∃ v2_ : Value, e = .returned (.tuple #[.agg #[.int .i64 r1, .int .i64 r2, v2_], .int .i64 r4, .int .i64 r5]) ∧ Kd.R (Kd.int .i64) 3 w' w.heap.size (fun _ => True) v2_ r3 ∧ Below w.heap.size w w' := by
 have hu26 := Try.underlying26
 have HR0 := A_ hr0
 have HC0 := A_ hc0
 clear hr0 hc0
 have HB := A_ (Below.refl w.heap.size w)
 have H : ((spec_DrawHasCell.f k l0).bind fun bt328 => (some (bt328.1, bt328.2.1, bt328.2.2.1, bt328.2.2.2.1, bt328.2.2.2.2))) = some (r1, r2, r3, r4, r5) := h
 clear h
 replace H := Option.bind_eq_some_iff.mp H
 obtain ⟨⟨t328, t329, t330, t333, t334⟩, A20, H⟩ := H
 replace H : (some (t328, t329, t330, t333, t334)) = some (r1, r2, r3, r4, r5) := H
 have A2 := A_ A20
 clear A20
 simp only [Option.some.injEq, Prod.mk.injEq] at H
 obtain ⟨rfl, rfl, rfl, rfl, rfl⟩ := H
 go_enter Try.func17, Try.ntmps17
 go_wp2_with (first | (refine gd_ 2 ?_; refine bx_ 2 #[.int .i64 0, .int .i64 0, .slice none 0 0] 26 ?_; intro gb327 hg w3 hbox hb; have BK327 := A_ (hbox); have GW327 := A_ ((ts_ hg : w.heap.size ≤ gb327)); have GE327 := A_ ((ts_ hg : w.heap.size ≤ gb327)); replace HB := A_ (below_step tb_ hb); clear hb hbox hg) | (refine gc_ 84 ?_; refine goesT_ (some 6) Try.func84 #[.slice A0 l0.length c0] ?_; (with_reducible refine (spec_DrawHasCell.calls k _ _ l0 t328 t329 t330 t333 t334 _ ?side1 ?side2 A2.out).mono ?_); (case side1 => exact tc_ HR0.out); (case side2 => exact HC0.out); rintro e w4 ⟨v331, rfl, ho0, hb⟩; refine ⟨_, rfl, ?_⟩; have HO332 := A_ (Kd.R_lower ho0 (below_size tb_)); replace BK327 := A_ (blk_below (g := gb327) (o := .cells #[.int .i64 0, .int .i64 0, .slice none 0 0] 26 (0, 0)) (tk_ BK327) hb); replace HB := A_ (below_step tb_ hb); (try clear hb); (try clear ho0); obtain ⟨hcz5_0, hcz5_1, hcz5_2, hfz5_0, hfz5_1, hfz5_2⟩ := cf3_ BK327.out; obtain ⟨Ao6, co6, eo6⟩ := Kd.R_slice HO332.out; subst eo6))
 refine bodyPost_ret (results_ctt rfl _ _ gb327 26 #[.int .i64 t328, .int .i64 t329, .slice Ao6 t330.length co6] (0, 0) _ rfl (by (with_reducible repeat (first | refine blk_drewN ?_ _ | refine blk_drew ?_ | refine blk_alloc ?_ _)); refine blk_put (cs := #[.int .i64 t328, .int .i64 t329, .slice none 0 0]) ?_ 2 _ rfl; (with_reducible repeat (first | refine blk_drewN ?_ _ | refine blk_drew ?_ | refine blk_alloc ?_ _)); refine blk_put (cs := #[.int .i64 t328, .int .i64 0, .slice none 0 0]) ?_ 1 _ rfl; (with_reducible repeat (first | refine blk_drewN ?_ _ | refine blk_drew ?_ | refine blk_alloc ?_ _)); refine blk_put (cs := #[.int .i64 0, .int .i64 0, .slice none 0 0]) ?_ 0 _ rfl; (with_reducible repeat (first | refine blk_drewN ?_ _ | refine blk_drew ?_ | refine blk_alloc ?_ _)); exact BK327.out) Try.underlying26 rfl (by kernel_rfl)) rfl ?_
 exact ⟨_, te_, by (with_reducible repeat (first | apply Kd.R_alloc | apply Kd.R_drewN | apply Kd.R_drew)); exact Kd.R_mono (Kd.R_far (p := ⟨gb327, 2, none⟩) (Kd.R_far (p := ⟨gb327, 1, none⟩) (Kd.R_far (p := ⟨gb327, 0, none⟩) (Kd.R_types HO332.out BK327.out (by decide)) (fun _ hk => hk.2) (.int .i64 t328)) (fun _ hk => hk.2) (.int .i64 t329)) (fun _ hk => hk.2) (.slice Ao6 t330.length co6)) (fun _ hk => trivial), tb_⟩

/-! ### spec_biDiagonals: function 86 -/
def spec_biDiagonals.f (a0_0 : Int) (a0_1 : Int) (l0_2 : List Int) (a1 : Int) (a2 : Int) : Option (Int × Int) := some (wrap64 (a1 + a2), wrap64 ((wrap64 ((wrap64 (a1 - a2)) + a0_1)) - 1))
theorem spec_biDiagonals.calls (a0_0 : Int) (a0_1 : Int) (A0_2 : Option Addr) (c0_2 : Nat) (l0_2 : List Int) (a1 : Int) (a2 : Int) (r1 : Int) (r2 : Int) (w : World) (hr0_2 : Kd.C (Kd.int .i64) w A0_2 l0_2.length l0_2) (hc0_2 : l0_2.length ≤ c0_2) (h : spec_biDiagonals.f a0_0 a0_1 l0_2 a1 a2 = some (r1, r2)) :
  Calls Try.prog 86 #[.agg #[.int .i64 a0_0, .int .i64 a0_1, .slice A0_2 l0_2.length c0_2], .int .i64 a1, .int .i64 a2] w fun e w' => e = .returned (.tuple #[.int .i64 r1, .int .i64 r2]) ∧ Below w.heap.size w w' := by
 have hu26 := Try.underlying26
 have HR0_2 := A_ hr0_2
 have HC0_2 := A_ hc0_2
 clear hr0_2 hc0_2
 have HB := A_ (Below.refl w.heap.size w)
 have H : (some (wrap64 (a1 + a2), wrap64 ((wrap64 ((wrap64 (a1 - a2)) + a0_1)) - 1))) = some (r1, r2) := h
 clear h
 simp only [Option.some.injEq, Prod.mk.injEq] at H
 obtain ⟨rfl, rfl⟩ := H
 go_enter Try.func86, Try.ntmps86
 go_wp2_with (first | (refine gd_ 3 ?_; refine bx_ 3 #[.int .i64 a0_0, .int .i64 a0_1, .slice A0_2 l0_2.length c0_2] 26 ?_; intro gb335 hg w4 hbox hb; have BK335 := A_ (hbox); have GW335 := A_ ((ts_ hg : w.heap.size ≤ gb335)); have GE335 := A_ ((ts_ hg : w.heap.size ≤ gb335)); replace HB := A_ (below_step tb_ hb); clear hb hbox hg; obtain ⟨hcz5_0, hcz5_1, hcz5_2, hfz5_0, hfz5_1, hfz5_2⟩ := cf3_ BK335.out))
 repeat (go_quiet (first | (refine gd_ 3 ?_; refine bx_ 3 #[.int .i64 a0_0, .int .i64 a0_1, .slice A0_2 l0_2.length c0_2] 26 ?_; intro gb335 hg w4 hbox hb; have BK335 := A_ (hbox); have GW335 := A_ ((ts_ hg : w.heap.size ≤ gb335)); have GE335 := A_ ((ts_ hg : w.heap.size ≤ gb335)); replace HB := A_ (below_step tb_ hb); clear hb hbox hg; obtain ⟨hcz5_0, hcz5_1, hcz5_2, hfz5_0, hfz5_1, hfz5_2⟩ := cf3_ BK335.out)); try go_wp2_with (first | (refine gd_ 3 ?_; refine bx_ 3 #[.int .i64 a0_0, .int .i64 a0_1, .slice A0_2 l0_2.length c0_2] 26 ?_; intro gb335 hg w4 hbox hb; have BK335 := A_ (hbox); have GW335 := A_ ((ts_ hg : w.heap.size ≤ gb335)); have GE335 := A_ ((ts_ hg : w.heap.size ≤ gb335)); replace HB := A_ (below_step tb_ hb); clear hb hbox hg; obtain ⟨hcz5_0, hcz5_1, hcz5_2, hfz5_0, hfz5_1, hfz5_2⟩ := cf3_ BK335.out)))
 go_ret2
 exact ⟨te_, tb_⟩

/-! ### spec_DiagonalOf: function 18 -/
def spec_DiagonalOf.f (k : Nat) (a0_0 : Int) (a0_1 : Int) (l0_2 : List Int) (a1 : Int) (a2 : Int) : Option (Int × Int × Bool) := (spec_boPlace.f k a0_0 a0_1 l0_2 a1 a2).bind fun t337 => (if t337 = true then ((spec_biDiagonals.f a0_0 a0_1 l0_2 a1 a2).bind fun bt338 => (some (bt338.1, bt338.2, true))) else (some (0, 0, false)))
theorem spec_DiagonalOf.mono : ∀ a0 a1 a2 a3 a4 k, LeO (spec_DiagonalOf.f k a0 a1 a2 a3 a4) (spec_DiagonalOf.f (k + 1) a0 a1 a2 a3 a4) := by
 intro a0 a1 a2 a3 a4 k
 unfold spec_DiagonalOf.f
 repeat' first | (with_reducible first | exact spec_boPlace.mono _ _ _ _ _ _ | exact LeO.refl _ | exact LeO.none _ | refine LeO.ite ?_ ?_ | refine LeO.bind ?_ (fun _ => ?_)) | exact spec_boPlace.mono _ _ _ _ _ _ | exact LeO.none _ | refine LeO.ite ?_ ?_ | refine LeO.bind ?_ (fun _ => ?_)
theorem spec_DiagonalOf.calls (k : Nat) (a0_0 : Int) (a0_1 : Int) (A0_2 : Option Addr) (c0_2 : Nat) (l0_2 : List Int) (a1 : Int) (a2 : Int) (r1 : Int) (r2 : Int) (r3 : Bool) (w : World) (hr0_2 : Kd.C (Kd.int .i64) w A0_2 l0_2.length l0_2) (hc0_2 : l0_2.length ≤ c0_2) (h : spec_DiagonalOf.f k a0_0 a0_1 l0_2 a1 a2 = some (r1, r2, r3)) :
  Calls Try.prog 18 #[.agg #[.int .i64 a0_0, .int .i64 a0_1, .slice A0_2 l0_2.length c0_2], .int .i64 a1, .int .i64 a2] w fun e w' => e = .returned (.tuple #[.int .i64 r1, .int .i64 r2, .bool r3]) ∧ Below w.heap.size w w' := by
 have hu26 := Try.underlying26
 have HR0_2 := A_ hr0_2
 have HC0_2 := A_ hc0_2
 clear hr0_2 hc0_2
 have HB := A_ (Below.refl w.heap.size w)
 have H : ((spec_boPlace.f k a0_0 a0_1 l0_2 a1 a2).bind fun t337 => (if t337 = true then ((spec_biDiagonals.f a0_0 a0_1 l0_2 a1 a2).bind fun bt338 => (some (bt338.1, bt338.2, true))) else (some (0, 0, false)))) = some (r1, r2, r3) := h
 clear h
 replace H := Option.bind_eq_some_iff.mp H
 obtain ⟨t337, A40, H⟩ := H
 replace H : (if t337 = true then ((spec_biDiagonals.f a0_0 a0_1 l0_2 a1 a2).bind fun bt338 => (some (bt338.1, bt338.2, true))) else (some (0, 0, false))) = some (r1, r2, r3) := H
 have A4 := A_ A40
 clear A40
 by_cases c5 : t337 = true
 ·
  subst c5
  have H1 : ((spec_biDiagonals.f a0_0 a0_1 l0_2 a1 a2).bind fun bt338 => (some (bt338.1, bt338.2, true))) = some (r1, r2, r3) := by rw [if_pos rfl] at H; exact H
  clear H
  have H := H1
  clear H1
  replace H := Option.bind_eq_some_iff.mp H
  obtain ⟨⟨t338, t339⟩, A60, H⟩ := H
  replace H : (some (t338, t339, true)) = some (r1, r2, r3) := H
  have A6 := A_ A60
  clear A60
  simp only [Option.some.injEq, Prod.mk.injEq] at H
  obtain ⟨rfl, rfl, rfl⟩ := H
  go_enter Try.func18, Try.ntmps18
  go_wp2_with (first | (refine gd_ 3 ?_; refine bx_ 3 #[.int .i64 a0_0, .int .i64 a0_1, .slice A0_2 l0_2.length c0_2] 26 ?_; intro gb336 hg w7 hbox hb; have BK336 := A_ (hbox); have GW336 := A_ ((ts_ hg : w.heap.size ≤ gb336)); have GE336 := A_ ((ts_ hg : w.heap.size ≤ gb336)); replace HB := A_ (below_step tb_ hb); clear hb hbox hg; obtain ⟨hcz8_0, hcz8_1, hcz8_2, hfz8_0, hfz8_1, hfz8_2⟩ := cf3_ BK336.out) | (refine gc_ 85 ?_; refine goesT_ (some 14) Try.func85 #[.agg #[.int .i64 a0_0, .int .i64 a0_1, .slice A0_2 l0_2.length c0_2], .int .i64 a1, .int .i64 a2] ?_; (with_reducible refine (spec_boPlace.calls k a0_0 a0_1 _ _ l0_2 a1 a2 true _ ?side1 ?side2 A4.out).mono ?_); (case side1 => exact tc_ HR0_2.out); (case side2 => exact HC0_2.out); rintro e w9 ⟨rfl, hb⟩; refine ⟨_, rfl, ?_⟩; replace BK336 := A_ (blk_below (g := gb336) (o := .cells #[.int .i64 a0_0, .int .i64 a0_1, .slice A0_2 l0_2.length c0_2] 26 (0, 0)) (tk_ BK336) hb); replace HB := A_ (below_step tb_ hb); (try clear hb); obtain ⟨hcz10_0, hcz10_1, hcz10_2, hfz10_0, hfz10_1, hfz10_2⟩ := cf3_ BK336.out) | (refine gc_ 86 ?_; refine goesT_ (some 20) Try.func86 #[.agg #[.int .i64 a0_0, .int .i64 a0_1, .slice A0_2 l0_2.length c0_2], .int .i64 a1, .int .i64 a2] ?_; (with_reducible refine (spec_biDiagonals.calls a0_0 a0_1 _ _ l0_2 a1 a2 t338 t339 _ ?side1 ?side2 A6.out).mono ?_); (case side1 => exact tc_ HR0_2.out); (case side2 => exact HC0_2.out); rintro e w11 ⟨rfl, hb⟩; refine ⟨_, rfl, ?_⟩; replace BK336 := A_ (blk_below (g := gb336) (o := .cells #[.int .i64 a0_0, .int .i64 a0_1, .slice A0_2 l0_2.length c0_2] 26 (0, 0)) (tk_ BK336) hb); replace HB := A_ (below_step tb_ hb); (try clear hb)))
  go_ret3
  exact ⟨te_, tb_⟩
 ·
  replace c5 := Bool.eq_false_iff.mpr c5
  subst c5
  have H1 : (some (0, 0, false)) = some (r1, r2, r3) := by rw [if_neg (show ¬ (false = true) by decide)] at H; exact H
  clear H
  have H := H1
  clear H1
  simp only [Option.some.injEq, Prod.mk.injEq] at H
  obtain ⟨rfl, rfl, rfl⟩ := H
  go_enter Try.func18, Try.ntmps18
  go_wp2_with (first | (refine gd_ 3 ?_; refine bx_ 3 #[.int .i64 a0_0, .int .i64 a0_1, .slice A0_2 l0_2.length c0_2] 26 ?_; intro gb336 hg w12 hbox hb; have BK336 := A_ (hbox); have GW336 := A_ ((ts_ hg : w.heap.size ≤ gb336)); have GE336 := A_ ((ts_ hg : w.heap.size ≤ gb336)); replace HB := A_ (below_step tb_ hb); clear hb hbox hg; obtain ⟨hcz13_0, hcz13_1, hcz13_2, hfz13_0, hfz13_1, hfz13_2⟩ := cf3_ BK336.out) | (refine gc_ 85 ?_; refine goesT_ (some 14) Try.func85 #[.agg #[.int .i64 a0_0, .int .i64 a0_1, .slice A0_2 l0_2.length c0_2], .int .i64 a1, .int .i64 a2] ?_; (with_reducible refine (spec_boPlace.calls k a0_0 a0_1 _ _ l0_2 a1 a2 false _ ?side1 ?side2 A4.out).mono ?_); (case side1 => exact tc_ HR0_2.out); (case side2 => exact HC0_2.out); rintro e w14 ⟨rfl, hb⟩; refine ⟨_, rfl, ?_⟩; replace BK336 := A_ (blk_below (g := gb336) (o := .cells #[.int .i64 a0_0, .int .i64 a0_1, .slice A0_2 l0_2.length c0_2] 26 (0, 0)) (tk_ BK336) hb); replace HB := A_ (below_step tb_ hb); (try clear hb)))
  go_ret3
  exact ⟨te_, tb_⟩

/-! ### spec_l1Cur_colour: function 88 -/
def spec_l1Cur_colour.f (s0_0 : List Int) (s0_1 : Int) (s0_2 : Int) : Option (Int × Int × Int) := (spec_l1Cur_one.f s0_0 s0_1 s0_2 10).bind fun bt340 => (if bt340.1 = true then ((spec_l1Cur_among.f s0_0 bt340.2.1 bt340.2.2 (([(-1), 2] : List Int))).bind fun bt346 => (some (bt346.1, bt346.2.1, bt346.2.2))) else ((spec_l1Cur_pick.f s0_0 bt340.2.1 bt340.2.2 2).bind fun bt349 => (some (bt349.1, bt349.2.1, bt349.2.2))))
theorem spec_l1Cur_colour.calls (g : Nat) (s0_0 : List Int) (s0_1 : Int) (s0_2 : Int) (r1 : Int) (r2 : Int) (r3 : Int) (w0 w : World) (hI : IsS79 w0 w g s0_0 s0_1 s0_2) (hB : Below w0.heap.size w0 w) (h : spec_l1Cur_colour.f s0_0 s0_1 s0_2 = some (r1, r2, r3)) :
  Calls Try.prog 88 #[.pointer (some ⟨g, 0, none⟩)] w fun e w' => e = .returned (.int .i64 r1) ∧ IsS79 w0 w' g s0_0 r2 r3 ∧ Below w0.heap.size w0 w' ∧ KeepBut w w' g none := by
 have HI0 := A_ hI
 have HK := A_ (KeepBut.refl w g none)
 have HL := A_ hB.size
 clear hI
 have HW0 := A_ hB.size
 have HB := A_ hB
 clear hB
 have H : ((spec_l1Cur_one.f s0_0 s0_1 s0_2 10).bind fun bt340 => (if bt340.1 = true then ((spec_l1Cur_among.f s0_0 bt340.2.1 bt340.2.2 (([(-1), 2] : List Int))).bind fun bt346 => (some (bt346.1, bt346.2.1, bt346.2.2))) else ((spec_l1Cur_pick.f s0_0 bt340.2.1 bt340.2.2 2).bind fun bt349 => (some (bt349.1, bt349.2.1, bt349.2.2))))) = some (r1, r2, r3) := h
 clear h
 replace H := Option.bind_eq_some_iff.mp H
 obtain ⟨⟨t340, t341, t342⟩, A20, H⟩ := H
 replace H : (if t340 = true then ((spec_l1Cur_among.f s0_0 t341 t342 (([(-1), 2] : List Int))).bind fun bt346 => (some (bt346.1, bt346.2.1, bt346.2.2))) else ((spec_l1Cur_pick.f s0_0 t341 t342 2).bind fun bt349 => (some (bt349.1, bt349.2.1, bt349.2.2)))) = some (r1, r2, r3) := H
 have A2 := A_ A20
 clear A20
 by_cases c3 : t340 = true
 ·
  subst c3
  have H1 : ((spec_l1Cur_among.f s0_0 t341 t342 (([(-1), 2] : List Int))).bind fun bt346 => (some (bt346.1, bt346.2.1, bt346.2.2))) = some (r1, r2, r3) := by rw [if_pos rfl] at H; exact H
  clear H
  have H := H1
  clear H1
  obtain ⟨y343, hy343⟩ : ∃ y_ : List Int, y_ = (([(-1), 2] : List Int)) := ⟨_, rfl⟩
  replace H : ((spec_l1Cur_among.f s0_0 t341 t342 y343).bind fun bt346 => (some (bt346.1, bt346.2.1, bt346.2.2))) = some (r1, r2, r3) := ty_ hy343 H
  have Ny343 := A_ hy343
  clear hy343
  replace H := Option.bind_eq_some_iff.mp H
  obtain ⟨⟨t346, t347, t348⟩, A40, H⟩ := H
  replace H : (some (t346, t347, t348)) = some (r1, r2, r3) := H
  have A4 := A_ A40
  clear A40
  simp only [Option.some.injEq, Prod.mk.injEq] at H
  obtain ⟨rfl, rfl, rfl⟩ := H
  go_enter Try.func88, Try.ntmps88
  go_wp2_with (first | (refine gc_ 118 ?_; refine goesT_ (some 4) Try.func118 #[.pointer (some ⟨g, 0, none⟩), .int .i64 10] ?_; (with_reducible refine (spec_l1Cur_one.calls g s0_0 s0_1 s0_2 10 true t341 t342 w0 _ ?side1 ?side2 A2.out).mono ?_); (case side1 => repeat (first | (with_reducible first | exact HI0.out | apply IsS79.alloc | apply IsS79.drewN | apply IsS79.drew | apply IsS79.set_1 | apply IsS79.set_2) | exact HI0.out)); (case side2 => repeat (first | (with_reducible first | exact HB.out | apply below_alloc | apply pw_below_drewN | apply below_drew1 | refine below_set ?_ (IsS79.ge HI0.out)) | exact HB.out)); rintro e w5 ⟨rfl, hi, hb, hk⟩; refine ⟨_, rfl, ?_⟩; replace HK := A_ (KeepBut.trans (by repeat (first | (with_reducible first | exact HK.out | apply KeepBut.set_ | apply keep_drewN | apply keep_drew | apply keep_alloc) | exact HK.out)) hk (.inl rfl)); replace HB := A_ (hb); replace HI0 := A_ (hi); (try clear hb); (try clear hb2); (try clear hk); (try clear hi)) | (refine gd_ 6 ?_; refine Kd.R_lit (Kd.int .i64) _ 3 ?hg (N := 6) ?hd (xs := ([(-1), 2] : List Int)) (inner := [.int .i64 (-1), .int .i64 2]) (ok := fun _ => True) (okp := fun _ => True) ?hr ?hp (fun _ hk => hk) trivial (Below.refl _ _) (Nat.le_refl _) (by simp) ?_; (case hd => rfl); (case hg => rfl); (case hr => first | (go_simp; done) | (go_simp; rfl)); (case hp => exact (Reps.one (show Kd.M (Kd.int .i64) _ _ _ (-1) [.int .i64 (-1)] from rfl) (Reps.one (show Kd.M (Kd.int .i64) _ _ _ 2 [.int .i64 2] from rfl) (Reps.none _ _)))); intro v344 w6 ho7 hb hg_ hnew_; clear hg_ hnew_; (first | rw [← Ny343.out] at ho7 | (simp only [Int.reduceToNat] at ho7; rw [← Ny343.out] at ho7)); have HO345 := A_ (Kd.R_lower ho7 (keep_size (w := w) (g := g) (row := none) (by repeat (first | (with_reducible first | exact HK.out | apply KeepBut.set_ | apply keep_drewN | apply keep_drew | apply keep_alloc) | exact HK.out)))); replace HK := A_ (KeepBut.trans (by repeat (first | (with_reducible first | exact HK.out | apply KeepBut.set_ | apply keep_drewN | apply keep_drew | apply keep_alloc) | exact HK.out)) (KeepBut.of_below hb g none) (.inl rfl)); replace HB := A_ (below_step (by repeat (first | (with_reducible first | exact HB.out | apply below_alloc | apply pw_below_drewN | apply below_drew1 | refine below_set ?_ (IsS79.ge HI0.out)) | exact HB.out)) hb); replace HI0 := A_ (IsS79.below (by repeat (first | (with_reducible first | exact HI0.out | apply IsS79.alloc | apply IsS79.drewN | apply IsS79.drew | apply IsS79.set_1 | apply IsS79.set_2) | exact HI0.out)) hb); clear hb ho7; obtain ⟨Ao8, co8, eo8⟩ := Kd.R_slice HO345.out; subst eo8) | (refine gc_ 103 ?_; refine goesT_ (some 7) Try.func103 #[.pointer (some ⟨g, 0, none⟩), .slice Ao8 y343.length co8] ?_; (with_reducible refine (spec_l1Cur_among.calls g s0_0 t341 t342 _ _ y343 t346 t347 t348 w0 _ ?side1 ?side2 ?side3 ?side4 ?side5 A4.out).mono ?_); (case side1 => repeat (first | (with_reducible first | exact HI0.out | apply IsS79.alloc | apply IsS79.drewN | apply IsS79.drew | apply IsS79.set_1 | apply IsS79.set_2) | exact HI0.out)); (case side2 => repeat (first | (with_reducible first | exact HB.out | apply below_alloc | apply pw_below_drewN | apply below_drew1 | refine below_set ?_ (IsS79.ge HI0.out)) | exact HB.out)); (case side3 => exact tc0_ (Kd.R_reads' HO345.out).2.2); (case side4 => exact (Kd.R_reads' HO345.out).2.1); (case side5 => exact far_slice (IsS79.own_ne HI0.out HO345.out (by decide))); rintro e w9 ⟨rfl, hi, hb, hk⟩; refine ⟨_, rfl, ?_⟩; replace HO345 := A_ (Kd.R_mono (Kd.R_keep (IsS79.apart (show IsS79 w0 _ g s0_0 t341 t342 from by repeat (first | (with_reducible first | exact HI0.out | apply IsS79.alloc | apply IsS79.drewN | apply IsS79.drew | apply IsS79.set_1 | apply IsS79.set_2) | exact HI0.out)) (tr_x HO345.out) (by decide)) hk (fun _ h => h.2)) (fun _ h => h.1)); replace HK := A_ (KeepBut.trans (by repeat (first | (with_reducible first | exact HK.out | apply KeepBut.set_ | apply keep_drewN | apply keep_drew | apply keep_alloc) | exact HK.out)) hk (.inl rfl)); replace HB := A_ (hb); replace HI0 := A_ (hi); (try clear hb); (try clear hb2); (try clear hk); (try clear hi)))
  go_ret
  exact ⟨te_, by repeat (first | (with_reducible first | exact HI0.out | apply IsS79.alloc | apply IsS79.drewN | apply IsS79.drew | apply IsS79.set_1 | apply IsS79.set_2) | exact HI0.out), by repeat (first | (with_reducible first | exact HB.out | apply below_alloc | apply pw_below_drewN | apply below_drew1 | refine below_set ?_ (IsS79.ge HI0.out)) | exact HB.out), by repeat (first | (with_reducible first | exact HK.out | apply KeepBut.set_ | apply keep_drewN | apply keep_drew | apply keep_alloc) | exact HK.out)⟩
 ·
  replace c3 := Bool.eq_false_iff.mpr c3
  subst c3
  have H1 : ((spec_l1Cur_pick.f s0_0 t341 t342 2).bind fun bt349 => (some (bt349.1, bt349.2.1, bt349.2.2))) = some (r1, r2, r3) := by rw [if_neg (show ¬ (false = true) by decide)] at H; exact H
  clear H
  have H := H1
  clear H1
  replace H := Option.bind_eq_some_iff.mp H
  obtain ⟨⟨t349, t350, t351⟩, A100, H⟩ := H
  replace H : (some (t349, t350, t351)) = some (r1, r2, r3) := H
  have A10 := A_ A100
  clear A100
  simp only [Option.some.injEq, Prod.mk.injEq] at H
  obtain ⟨rfl, rfl, rfl⟩ := H
  go_enter Try.func88, Try.ntmps88
  go_wp2_with (first | (refine gc_ 118 ?_; refine goesT_ (some 4) Try.func118 #[.pointer (some ⟨g, 0, none⟩), .int .i64 10] ?_; (with_reducible refine (spec_l1Cur_one.calls g s0_0 s0_1 s0_2 10 false t341 t342 w0 _ ?side1 ?side2 A2.out).mono ?_); (case side1 => repeat (first | (with_reducible first | exact HI0.out | apply IsS79.alloc | apply IsS79.drewN | apply IsS79.drew | apply IsS79.set_1 | apply IsS79.set_2) | exact HI0.out)); (case side2 => repeat (first | (with_reducible first | exact HB.out | apply below_alloc | apply pw_below_drewN | apply below_drew1 | refine below_set ?_ (IsS79.ge HI0.out)) | exact HB.out)); rintro e w11 ⟨rfl, hi, hb, hk⟩; refine ⟨_, rfl, ?_⟩; replace HK := A_ (KeepBut.trans (by repeat (first | (with_reducible first | exact HK.out | apply KeepBut.set_ | apply keep_drewN | apply keep_drew | apply keep_alloc) | exact HK.out)) hk (.inl rfl)); replace HB := A_ (hb); replace HI0 := A_ (hi); (try clear hb); (try clear hb2); (try clear hk); (try clear hi)) | (refine gc_ 89 ?_; refine goesT_ (some 9) Try.func89 #[.pointer (some ⟨g, 0, none⟩), .int .i64 2] ?_; (with_reducible refine (spec_l1Cur_pick.calls g s0_0 t341 t342 2 t349 t350 t351 w0 _ ?side1 ?side2 A10.out).mono ?_); (case side1 => repeat (first | (with_reducible first | exact HI0.out | apply IsS79.alloc | apply IsS79.drewN | apply IsS79.drew | apply IsS79.set_1 | apply IsS79.set_2) | exact HI0.out)); (case side2 => repeat (first | (with_reducible first | exact HB.out | apply below_alloc | apply pw_below_drewN | apply below_drew1 | refine below_set ?_ (IsS79.ge HI0.out)) | exact HB.out)); rintro e w12 ⟨rfl, hi, hb, hk⟩; refine ⟨_, rfl, ?_⟩; replace HK := A_ (KeepBut.trans (by repeat (first | (with_reducible first | exact HK.out | apply KeepBut.set_ | apply keep_drewN | apply keep_drew | apply keep_alloc) | exact HK.out)) hk (.inl rfl)); replace HB := A_ (hb); replace HI0 := A_ (hi); (try clear hb); (try clear hb2); (try clear hk); (try clear hi)))
  go_ret
  exact ⟨te_, by repeat (first | (with_reducible first | exact HI0.out | apply IsS79.alloc | apply IsS79.drewN | apply IsS79.drew | apply IsS79.set_1 | apply IsS79.set_2) | exact HI0.out), by repeat (first | (with_reducible first | exact HB.out | apply below_alloc | apply pw_below_drewN | apply below_drew1 | refine below_set ?_ (IsS79.ge HI0.out)) | exact HB.out), by repeat (first | (with_reducible first | exact HK.out | apply KeepBut.set_ | apply keep_drewN | apply keep_drew | apply keep_alloc) | exact HK.out)⟩

/-! ### spec_DrawCellOfColour: function 19 -/
def spec_DrawCellOfColour.f (k : Nat) (l0 : List Int) : Option (Int × Int × List Int × Int × Int × Int) := (spec_l1Cur_board.f k l0 0 0).bind fun bt354 => ((spec_l1Cur_colour.f l0 bt354.2.2.2.1 bt354.2.2.2.2).bind fun bt361 => ((spec_l1Cur_pick.f l0 bt361.2.1 bt361.2.2 8).bind fun bt364 => ((spec_l1Cur_pick.f l0 bt364.2.1 bt364.2.2 8).bind fun bt367 => (some (bt354.1, bt354.2.1, bt354.2.2.1, bt361.1, wrap64 (bt364.1 - 1), wrap64 (bt367.1 - 1))))))
theorem spec_DrawCellOfColour.mono : ∀ a0 k, LeO (spec_DrawCellOfColour.f k a0) (spec_DrawCellOfColour.f (k + 1) a0) := by
 intro a0 k
 unfold spec_DrawCellOfColour.f
 repeat' first | (with_reducible first | exact spec_l1Cur_board.mono _ _ _ _ | exact LeO.refl _ | exact LeO.none _ | refine LeO.ite ?_ ?_ | refine LeO.bind ?_ (fun _ => ?_)) | exact spec_l1Cur_board.mono _ _ _ _ | exact LeO.none _ | refine LeO.ite ?_ ?_ | refine LeO.bind ?_ (fun _ => ?_)
theorem spec_DrawCellOfColour.calls (k : Nat) (A0 : Option Addr) (c0 : Nat) (l0 : List Int) (r1 : Int) (r2 : Int) (r3 : List Int) (r4 : Int) (r5 : Int) (r6 : Int) (w : World) (hr0 : Kd.C (Kd.int .u8) w A0 l0.length l0) (hc0 : l0.length ≤ c0) (h : spec_DrawCellOfColour.f k l0 = some (r1, r2, r3, r4, r5, r6)) :
  Calls Try.prog 19 #[.slice A0 l0.length c0] w fun e w' => ∃ v2_ : Value, e = .returned (.tuple #[.agg #[.int .i64 r1, .int .i64 r2, v2_], .int .i64 r4, .int .i64 r5, .int .i64 r6]) ∧ Kd.R (Kd.int .i64) 3 w' w.heap.size (fun _ => True) v2_ r3 ∧ Below w.heap.size w w' := by
 have hu26 := Try.underlying26
 have hu79 := Try.underlying79
 have HR0 := A_ hr0
 have HC0 := A_ hc0
 clear hr0 hc0
 have HB := A_ (Below.refl w.heap.size w)
 have H : ((spec_l1Cur_board.f k l0 0 0).bind fun bt354 => ((spec_l1Cur_colour.f l0 bt354.2.2.2.1 bt354.2.2.2.2).bind fun bt361 => ((spec_l1Cur_pick.f l0 bt361.2.1 bt361.2.2 8).bind fun bt364 => ((spec_l1Cur_pick.f l0 bt364.2.1 bt364.2.2 8).bind fun bt367 => (some (bt354.1, bt354.2.1, bt354.2.2.1, bt361.1, wrap64 (bt364.1 - 1), wrap64 (bt367.1 - 1))))))) = some (r1, r2, r3, r4, r5, r6) := h
 clear h
 replace H := Option.bind_eq_some_iff.mp H
 obtain ⟨⟨t354, t355, t356, t359, t360⟩, A20, H⟩ := H
 replace H : ((spec_l1Cur_colour.f l0 t359 t360).bind fun bt361 => ((spec_l1Cur_pick.f l0 bt361.2.1 bt361.2.2 8).bind fun bt364 => ((spec_l1Cur_pick.f l0 bt364.2.1 bt364.2.2 8).bind fun bt367 => (some (t354, t355, t356, bt361.1, wrap64 (bt364.1 - 1), wrap64 (bt367.1 - 1)))))) = some (r1, r2, r3, r4, r5, r6) := H
 have A2 := A_ A20
 clear A20
 replace H := Option.bind_eq_some_iff.mp H
 obtain ⟨⟨t361, t362, t363⟩, A30, H⟩ := H
 replace H : ((spec_l1Cur_pick.f l0 t362 t363 8).bind fun bt364 => ((spec_l1Cur_pick.f l0 bt364.2.1 bt364.2.2 8).bind fun bt367 => (some (t354, t355, t356, t361, wrap64 (bt364.1 - 1), wrap64 (bt367.1 - 1))))) = some (r1, r2, r3, r4, r5, r6) := H
 have A3 := A_ A30
 clear A30
 replace H := Option.bind_eq_some_iff.mp H
 obtain ⟨⟨t364, t365, t366⟩, A40, H⟩ := H
 replace H : ((spec_l1Cur_pick.f l0 t365 t366 8).bind fun bt367 => (some (t354, t355, t356, t361, wrap64 (t364 - 1), wrap64 (bt367.1 - 1)))) = some (r1, r2, r3, r4, r5, r6) := H
 have A4 := A_ A40
 clear A40
 replace H := Option.bind_eq_some_iff.mp H
 obtain ⟨⟨t367, t368, t369⟩, A50, H⟩ := H
 replace H : (some (t354, t355, t356, t361, wrap64 (t364 - 1), wrap64 (t367 - 1))) = some (r1, r2, r3, r4, r5, r6) := H
 have A5 := A_ A50
 clear A50
 simp only [Option.some.injEq, Prod.mk.injEq] at H
 obtain ⟨rfl, rfl, rfl, rfl, rfl, rfl⟩ := H
 go_enter Try.func19, Try.ntmps19
 go_wp2_with (first | (refine gd_ 2 ?_; refine bx_ 2 #[.int .i64 0, .int .i64 0, .slice none 0 0] 26 ?_; intro gb352 hg w6 hbox hb; have BK352 := A_ (hbox); have GW352 := A_ ((ts_ hg : w.heap.size ≤ gb352)); have GE352 := A_ ((ts_ hg : w.heap.size ≤ gb352)); replace HB := A_ (below_step tb_ hb); clear hb hbox hg) | (refine gd_ 9 ?_; refine bx_ 9 #[.slice A0 l0.length c0, .int .i64 0, .int .u64 0] 79 ?_; intro gb353 hg w7 hbox hb; have NB352_353 := A_ ((by rw [hg]; exact Nat.ne_of_lt (blk_lt (g := gb352) (o := .cells #[.int .i64 0, .int .i64 0, .slice none 0 0] 26 (0, 0)) (tk_ BK352)) : gb352 ≠ gb353)); have NB353_352 := A_ ((by rw [hg]; exact Nat.ne_of_gt (blk_lt (g := gb352) (o := .cells #[.int .i64 0, .int .i64 0, .slice none 0 0] 26 (0, 0)) (tk_ BK352)) : gb353 ≠ gb352)); replace BK352 := A_ (blk_below (g := gb352) (o := .cells #[.int .i64 0, .int .i64 0, .slice none 0 0] 26 (0, 0)) (tk_ BK352) hb); have HI353 := A_ ((⟨_, _, hbox, (by rw [hg]; exact (below_size tb_)), HR0.out⟩ : IsS79 w w7 gb353 l0 0 0)); replace HB := A_ (below_step tb_ hb); clear hb hbox hg) | (refine gc_ 87 ?_; refine goesT_ (some 11) Try.func87 #[.pointer (some ⟨gb353, 0, none⟩)] ?_; (with_reducible refine (spec_l1Cur_board.calls k gb353 l0 0 0 t354 t355 t356 t359 t360 w _ ?side1 ?side2 A2.out).mono ?_); (case side1 => repeat (first | (with_reducible first | exact HI353.out | apply IsS79.alloc | apply IsS79.drewN | apply IsS79.drew | apply IsS79.set_1 | apply IsS79.set_2 | refine IsS79.far ?_ NB353_352.out _) | exact HI353.out)); (case side2 => repeat (first | (with_reducible first | exact HB.out | apply below_alloc | apply pw_below_drewN | apply below_drew1 | refine below_set ?_ (IsS79.ge HI353.out) | refine below_set ?_ GE352.out) | exact HB.out)); rintro e w8 ⟨v357, rfl, ho0, hi, hb, hk⟩; refine ⟨_, rfl, ?_⟩; replace BK352 := A_ (KeepBut.blk hk (g' := gb352) (o := .cells #[.int .i64 0, .int .i64 0, .slice none 0 0] 26 (0, 0)) (tk_ BK352) NB352_353.out (by simp)); have HO358 := A_ (Kd.R_lower ho0 (below_size (by repeat (first | (with_reducible first | exact HB.out | apply below_alloc | apply pw_below_drewN | apply below_drew1 | refine below_set ?_ (IsS79.ge HI353.out) | refine below_set ?_ GE352.out) | exact HB.out)))); replace HB := A_ (hb); replace HI353 := A_ (hi); (try clear hb); (try clear hb2); (try clear hk); (try clear hi); (try clear ho0)) | (refine gc_ 88 ?_; refine goesT_ (some 13) Try.func88 #[.pointer (some ⟨gb353, 0, none⟩)] ?_; (with_reducible refine (spec_l1Cur_colour.calls gb353 l0 t359 t360 t361 t362 t363 w _ ?side1 ?side2 A3.out).mono ?_); (case side1 => repeat (first | (with_reducible first | exact HI353.out | apply IsS79.alloc | apply IsS79.drewN | apply IsS79.drew | apply IsS79.set_1 | apply IsS79.set_2 | refine IsS79.far ?_ NB353_352.out _) | exact HI353.out)); (case side2 => repeat (first | (with_reducible first | exact HB.out | apply below_alloc | apply pw_below_drewN | apply below_drew1 | refine below_set ?_ (IsS79.ge HI353.out) | refine below_set ?_ GE352.out) | exact HB.out)); rintro e w9 ⟨rfl, hi, hb, hk⟩; refine ⟨_, rfl, ?_⟩; replace BK352 := A_ (KeepBut.blk hk (g' := gb352) (o := .cells #[.int .i64 0, .int .i64 0, .slice none 0 0] 26 (0, 0)) (tk_ BK352) NB352_353.out (by simp)); replace HO358 := A_ (Kd.R_mono (Kd.R_keep (IsS79.apart (show IsS79 w _ gb353 l0 t359 t360 from by repeat (first | (with_reducible first | exact HI353.out | apply IsS79.alloc | apply IsS79.drewN | apply IsS79.drew | apply IsS79.set_1 | apply IsS79.set_2 | refine IsS79.far ?_ NB353_352.out _) | exact HI353.out)) (tr_x HO358.out) (by decide)) hk (fun _ h => h.2)) (fun _ h => h.1)); replace HB := A_ (hb); replace HI353 := A_ (hi); (try clear hb); (try clear hb2); (try clear hk); (try clear hi)) | (refine gc_ 89 ?_; refine goesT_ (some 15) Try.func89 #[.pointer (some ⟨gb353, 0, none⟩), .int .i64 8] ?_; (with_reducible refine (spec_l1Cur_pick.calls gb353 l0 t362 t363 8 t364 t365 t366 w _ ?side1 ?side2 A4.out).mono ?_); (case side1 => repeat (first | (with_reducible first | exact HI353.out | apply IsS79.alloc | apply IsS79.drewN | apply IsS79.drew | apply IsS79.set_1 | apply IsS79.set_2 | refine IsS79.far ?_ NB353_352.out _) | exact HI353.out)); (case side2 => repeat (first | (with_reducible first | exact HB.out | apply below_alloc | apply pw_below_drewN | apply below_drew1 | refine below_set ?_ (IsS79.ge HI353.out) | refine below_set ?_ GE352.out) | exact HB.out)); rintro e w10 ⟨rfl, hi, hb, hk⟩; refine ⟨_, rfl, ?_⟩; replace BK352 := A_ (KeepBut.blk hk (g' := gb352) (o := .cells #[.int .i64 0, .int .i64 0, .slice none 0 0] 26 (0, 0)) (tk_ BK352) NB352_353.out (by simp)); replace HO358 := A_ (Kd.R_mono (Kd.R_keep (IsS79.apart (show IsS79 w _ gb353 l0 t362 t363 from by repeat (first | (with_reducible first | exact HI353.out | apply IsS79.alloc | apply IsS79.drewN | apply IsS79.drew | apply IsS79.set_1 | apply IsS79.set_2 | refine IsS79.far ?_ NB353_352.out _) | exact HI353.out)) (tr_x HO358.out) (by decide)) hk (fun _ h => h.2)) (fun _ h => h.1)); replace HB := A_ (hb); replace HI353 := A_ (hi); (try clear hb); (try clear hb2); (try clear hk); (try clear hi)) | (refine gc_ 89 ?_; refine goesT_ (some 18) Try.func89 #[.pointer (some ⟨gb353, 0, none⟩), .int .i64 8] ?_; (with_reducible refine (spec_l1Cur_pick.calls gb353 l0 t365 t366 8 t367 t368 t369 w _ ?side1 ?side2 A5.out).mono ?_); (case side1 => repeat (first | (with_reducible first | exact HI353.out | apply IsS79.alloc | apply IsS79.drewN | apply IsS79.drew | apply IsS79.set_1 | apply IsS79.set_2 | refine IsS79.far ?_ NB353_352.out _) | exact HI353.out)); (case side2 => repeat (first | (with_reducible first | exact HB.out | apply below_alloc | apply pw_below_drewN | apply below_drew1 | refine below_set ?_ (IsS79.ge HI353.out) | refine below_set ?_ GE352.out) | exact HB.out)); rintro e w11 ⟨rfl, hi, hb, hk⟩; refine ⟨_, rfl, ?_⟩; replace BK352 := A_ (KeepBut.blk hk (g' := gb352) (o := .cells #[.int .i64 0, .int .i64 0, .slice none 0 0] 26 (0, 0)) (tk_ BK352) NB352_353.out (by simp)); replace HO358 := A_ (Kd.R_mono (Kd.R_keep (IsS79.apart (show IsS79 w _ gb353 l0 t365 t366 from by repeat (first | (with_reducible first | exact HI353.out | apply IsS79.alloc | apply IsS79.drewN | apply IsS79.drew | apply IsS79.set_1 | apply IsS79.set_2 | refine IsS79.far ?_ NB353_352.out _) | exact HI353.out)) (tr_x HO358.out) (by decide)) hk (fun _ h => h.2)) (fun _ h => h.1)); replace HB := A_ (hb); replace HI353 := A_ (hi); (try clear hb); (try clear hb2); (try clear hk); (try clear hi); have hnb12 := NB352_353.out; have hnc12 := NB353_352.out; obtain ⟨hcz13_0, hcz13_1, hcz13_2, hfz13_0, hfz13_1, hfz13_2⟩ := cf3_ BK352.out; obtain ⟨Ao14, co14, eo14⟩ := Kd.R_slice HO358.out; subst eo14))
 refine bodyPost_ret (results_list (rs := [.cell 2 26, .tmp 3, .tmp 4, .tmp 5]) rfl (by simp) (.cell gb352 26 #[.int .i64 t354, .int .i64 t355, .slice Ao14 t356.length co14] (0, 0) _ rfl (by (with_reducible repeat (first | refine blk_drewN ?_ _ | refine blk_drew ?_ | refine blk_alloc ?_ _)); refine blk_put (cs := #[.int .i64 t354, .int .i64 t355, .slice none 0 0]) ?_ 2 _ rfl; (with_reducible repeat (first | refine blk_drewN ?_ _ | refine blk_drew ?_ | refine blk_alloc ?_ _)); refine blk_put (cs := #[.int .i64 t354, .int .i64 0, .slice none 0 0]) ?_ 1 _ rfl; (with_reducible repeat (first | refine blk_drewN ?_ _ | refine blk_drew ?_ | refine blk_alloc ?_ _)); refine blk_put (cs := #[.int .i64 0, .int .i64 0, .slice none 0 0]) ?_ 0 _ rfl; (with_reducible repeat (first | refine blk_drewN ?_ _ | refine blk_drew ?_ | refine blk_alloc ?_ _)); exact BK352.out) Try.underlying26 rfl (by kernel_rfl) (.tmp (.tmp (.tmp .nil))))) rfl ?_
 exact ⟨_, te_, by (with_reducible repeat (first | apply Kd.R_alloc | apply Kd.R_drewN | apply Kd.R_drew)); exact Kd.R_mono (Kd.R_far (p := ⟨gb352, 2, none⟩) (Kd.R_far (p := ⟨gb352, 1, none⟩) (Kd.R_far (p := ⟨gb352, 0, none⟩) (Kd.R_types HO358.out BK352.out (by decide)) (fun _ hk => hk.2) (.int .i64 t354)) (fun _ hk => hk.2) (.int .i64 t355)) (fun _ hk => hk.2) (.slice Ao14 t356.length co14)) (fun _ hk => trivial), by repeat (first | (with_reducible first | exact HB.out | apply below_alloc | apply pw_below_drewN | apply below_drew1 | refine below_set ?_ (IsS79.ge HI353.out) | refine below_set ?_ GE352.out) | exact HB.out)⟩

/-! ### impl_isColour: function 94 -/
def impl_isColour.f (a0 : Int) : Option (Bool) := (impl_within.f a0 0 1).bind fun t370 => (some t370)
theorem impl_isColour.calls (a0 : Int) (r : Bool) (w : World) (h : impl_isColour.f a0 = some r) :
  Calls Try.prog 94 #[.int .i64 a0] w fun e w' => e = .returned (.bool r) ∧ Drawn0 w w' := by
 have H : ((impl_within.f a0 0 1).bind fun t370 => (some t370)) = some r := h
 clear h
 replace H := Option.bind_eq_some_iff.mp H
 obtain ⟨t370, A20, H⟩ := H
 replace H : (some t370) = some r := H
 have A2 := A_ A20
 clear A20
 obtain rfl := Option.some.inj H
 go_enter Try.func94, Try.ntmps94
 go_wp2_with (first | (refine gc_ 104 ?_; refine goesT_ (some 4) Try.func104 #[.int .i64 a0, .int .i64 0, .int .i64 1] ?_; (with_reducible refine (impl_within.calls a0 0 1 t370 _ A2.out).mono ?_); rintro e w' ⟨rfl, ⟨nd, rfl⟩⟩; refine ⟨_, rfl, ?_⟩))
 go_ret
 exact ⟨tf_, dr_⟩

/-! ### impl_ColourBoard: function 22 -/
def impl_ColourBoard.f (k : Nat) (a0_0 : Int) (a0_1 : Int) (l0_2 : List Int) (a1 : Int) : Option (Int × Int × List Int × Bool) := (impl_IsBoard.f a0_0 a0_1 l0_2).bind fun t550 => (if t550 = true then ((impl_isColour.f a1).bind fun t551 => (if t551 = true then ((impl_Board_coloured.f k a0_0 a0_1 l0_2 a1).bind fun bt552 => (some (bt552.1, bt552.2.1, bt552.2.2.1, bt552.2.2.2))) else (some (0, 0, ([] : List Int), false)))) else (some (0, 0, ([] : List Int), false)))
theorem impl_ColourBoard.mono : ∀ a0 a1 a2 a3 k, LeO (impl_ColourBoard.f k a0 a1 a2 a3) (impl_ColourBoard.f (k + 1) a0 a1 a2 a3) := by
 intro a0 a1 a2 a3 k
 unfold impl_ColourBoard.f
 repeat' first | (with_reducible first | exact impl_Board_coloured.mono _ _ _ _ _ | exact LeO.refl _ | exact LeO.none _ | refine LeO.ite ?_ ?_ | refine LeO.bind ?_ (fun _ => ?_)) | exact impl_Board_coloured.mono _ _ _ _ _ | exact LeO.none _ | refine LeO.ite ?_ ?_ | refine LeO.bind ?_ (fun _ => ?_)
theorem impl_ColourBoard.calls (k : Nat) (a0_0 : Int) (a0_1 : Int) (A0_2 : Option Addr) (c0_2 : Nat) (l0_2 : List Int) (a1 : Int) (r1 : Int) (r2 : Int) (r3 : List Int) (r4 : Bool) (w : World) (hr0_2 : Kd.C (Kd.int .i64) w A0_2 l0_2.length l0_2) (hc0_2 : l0_2.length ≤ c0_2) (h : impl_ColourBoard.f k a0_0 a0_1 l0_2 a1 = some (r1, r2, r3, r4)) :
  Calls Try.prog 22 #[.agg #[.int .i64 a0_0, .int .i64 a0_1, .slice A0_2 l0_2.length c0_2], .int .i64 a1] w fun e w' => ∃ v2_ : Value, e = .returned (.tuple #[.agg #[.int .i64 r1, .int .i64 r2, v2_], .bool r4]) ∧ Kd.R (Kd.int .i64) 3 w' w.heap.size (fun _ => True) v2_ r3 ∧ Below w.heap.size w w' := by
 have hu26 := Try.underlying26
 have HR0_2 := A_ hr0_2
 have HC0_2 := A_ hc0_2
 clear hr0_2 hc0_2
 have HB := A_ (Below.refl w.heap.size w)
 have H : ((impl_IsBoard.f a0_0 a0_1 l0_2).bind fun t550 => (if t550 = true then ((impl_isColour.f a1).bind fun t551 => (if t551 = true then ((impl_Board_coloured.f k a0_0 a0_1 l0_2 a1).bind fun bt552 => (some (bt552.1, bt552.2.1, bt552.2.2.1, bt552.2.2.2))) else (some (0, 0, ([] : List Int), false)))) else (some (0, 0, ([] : List Int), false)))) = some (r1, r2, r3, r4) := h
 clear h
 replace H := Option.bind_eq_some_iff.mp H
 obtain ⟨t550, A30, H⟩ := H
 replace H : (if t550 = true then ((impl_isColour.f a1).bind fun t551 => (if t551 = true then ((impl_Board_coloured.f k a0_0 a0_1 l0_2 a1).bind fun bt552 => (some (bt552.1, bt552.2.1, bt552.2.2.1, bt552.2.2.2))) else (some (0, 0, ([] : List Int), false)))) else (some (0, 0, ([] : List Int), false))) = some (r1, r2, r3, r4) := H
 have A3 := A_ A30
 clear A30
 by_cases c4 : t550 = true
 ·
  subst c4
  have H1 : ((impl_isColour.f a1).bind fun t551 => (if t551 = true then ((impl_Board_coloured.f k a0_0 a0_1 l0_2 a1).bind fun bt552 => (some (bt552.1, bt552.2.1, bt552.2.2.1, bt552.2.2.2))) else (some (0, 0, ([] : List Int), false)))) = some (r1, r2, r3, r4) := by rw [if_pos rfl] at H; exact H
  clear H
  have H := H1
  clear H1
  replace H := Option.bind_eq_some_iff.mp H
  obtain ⟨t551, A50, H⟩ := H
  replace H : (if t551 = true then ((impl_Board_coloured.f k a0_0 a0_1 l0_2 a1).bind fun bt552 => (some (bt552.1, bt552.2.1, bt552.2.2.1, bt552.2.2.2))) else (some (0, 0, ([] : List Int), false))) = some (r1, r2, r3, r4) := H
  have A5 := A_ A50
  clear A50
  by_cases c6 : t551 = true
  ·
   subst c6
   have H1 : ((impl_Board_coloured.f k a0_0 a0_1 l0_2 a1).bind fun bt552 => (some (bt552.1, bt552.2.1, bt552.2.2.1, bt552.2.2.2))) = some (r1, r2, r3, r4) := by rw [if_pos rfl] at H; exact H
   clear H
   have H := H1
   clear H1
   replace H := Option.bind_eq_some_iff.mp H
   obtain ⟨⟨t552, t553, t554, t557⟩, A70, H⟩ := H
   replace H : (some (t552, t553, t554, t557)) = some (r1, r2, r3, r4) := H
   have A7 := A_ A70
   clear A70
   simp only [Option.some.injEq, Prod.mk.injEq] at H
   obtain ⟨rfl, rfl, rfl, rfl⟩ := H
   go_enter Try.func22, Try.ntmps22
   go_wp2_with (first | (refine gd_ 2 ?_; refine bx_ 2 #[.int .i64 a0_0, .int .i64 a0_1, .slice A0_2 l0_2.length c0_2] 26 ?_; intro gb548 hg w8 hbox hb; have BK548 := A_ (hbox); have GW548 := A_ ((ts_ hg : w.heap.size ≤ gb548)); have GE548 := A_ ((ts_ hg : w.heap.size ≤ gb548)); replace HB := A_ (below_step tb_ hb); clear hb hbox hg) | (refine gd_ 4 ?_; refine bx_ 4 #[.int .i64 0, .int .i64 0, .slice none 0 0] 26 ?_; intro gb549 hg w9 hbox hb; have BK549 := A_ (hbox); have GW549 := A_ ((ts_ hg : w.heap.size ≤ gb549)); have GE549 := A_ ((ts_ hg : w.heap.size ≤ gb549)); replace HB := A_ (below_step tb_ hb); have NB548_549 := A_ ((by rw [hg]; exact Nat.ne_of_lt (blk_lt (g := gb548) (o := .cells #[.int .i64 a0_0, .int .i64 a0_1, .slice A0_2 l0_2.length c0_2] 26 (0, 0)) (tk_ BK548)) : gb548 ≠ gb549)); have NB549_548 := A_ ((by rw [hg]; exact Nat.ne_of_gt (blk_lt (g := gb548) (o := .cells #[.int .i64 a0_0, .int .i64 a0_1, .slice A0_2 l0_2.length c0_2] 26 (0, 0)) (tk_ BK548)) : gb549 ≠ gb548)); replace BK548 := A_ (blk_below (g := gb548) (o := .cells #[.int .i64 a0_0, .int .i64 a0_1, .slice A0_2 l0_2.length c0_2] 26 (0, 0)) (tk_ BK548) hb); clear hb hbox hg; have hnb10 := NB548_549.out; have hnc10 := NB549_548.out; obtain ⟨hcz11_0, hcz11_1, hcz11_2, hfz11_0, hfz11_1, hfz11_2⟩ := cf3_ BK548.out) | (refine gc_ 76 ?_; refine goesT_ (some 7) Try.func76 #[.agg #[.int .i64 a0_0, .int .i64 a0_1, .slice A0_2 l0_2.length c0_2]] ?_; (with_reducible refine (impl_IsBoard.calls a0_0 a0_1 _ _ l0_2 true _ ?side1 ?side2 A3.out).mono ?_); (case side1 => exact tc_ HR0_2.out); (case side2 => exact HC0_2.out); rintro e w12 ⟨rfl, hb⟩; refine ⟨_, rfl, ?_⟩; replace BK548 := A_ (blk_below (g := gb548) (o := .cells #[.int .i64 a0_0, .int .i64 a0_1, .slice A0_2 l0_2.length c0_2] 26 (0, 0)) (tk_ BK548) hb); replace BK549 := A_ (blk_below (g := gb549) (o := .cells #[.int .i64 0, .int .i64 0, .slice none 0 0] 26 (0, 0)) (tk_ BK549) hb); replace HB := A_ (below_step tb_ hb); (try clear hb)) | (go_at_call 94; (with_reducible refine (impl_isColour.calls a1 true _ A5.out).mono ?_); rintro e w' ⟨rfl, ⟨nd, rfl⟩⟩; (try (rw [drewN_self w12]; generalize hq_ : World.drewN w12 _ = w12; have n0_ : Aside0 (w12.heap[gb548]? = some (.cells #[.int .i64 a0_0, .int .i64 a0_1, .slice A0_2 l0_2.length c0_2] 26 (0, 0))) := ⟨by rw [← hq_]; exact (tk_ BK548)⟩; have n1_ : Aside0 (w12.heap[gb549]? = some (.cells #[.int .i64 0, .int .i64 0, .slice none 0 0] 26 (0, 0))) := ⟨by rw [← hq_]; exact (tk_ BK549)⟩; have n2_ : Aside0 (Below w.heap.size w w12) := ⟨by rw [← hq_]; exact tb_⟩; clear BK548 BK549 HB hq_; have BK548 := n0_; have BK549 := n1_; have HB := n2_; clear n0_ n1_ n2_)); obtain ⟨hcz13_0, hcz13_1, hcz13_2, hfz13_0, hfz13_1, hfz13_2⟩ := cf3_ BK548.out) | (refine gc_ 95 ?_; refine goesT_ (some 17) Try.func95 #[.agg #[.int .i64 a0_0, .int .i64 a0_1, .slice A0_2 l0_2.length c0_2], .int .i64 a1] ?_; (with_reducible refine (impl_Board_coloured.calls k a0_0 a0_1 _ _ l0_2 a1 t552 t553 t554 t557 _ ?side1 ?side2 A7.out).mono ?_); (case side1 => exact tc_ HR0_2.out); (case side2 => exact HC0_2.out); rintro e w14 ⟨v555, rfl, ho0, hb⟩; refine ⟨_, rfl, ?_⟩; have HO556 := A_ (Kd.R_lower ho0 (below_size tb_)); replace BK548 := A_ (blk_below (g := gb548) (o := .cells #[.int .i64 a0_0, .int .i64 a0_1, .slice A0_2 l0_2.length c0_2] 26 (0, 0)) (tk_ BK548) hb); replace BK549 := A_ (blk_below (g := gb549) (o := .cells #[.int .i64 0, .int .i64 0, .slice none 0 0] 26 (0, 0)) (tk_ BK549) hb); replace HB := A_ (below_step tb_ hb); (try clear hb); (try clear ho0); obtain ⟨hcz15_0, hcz15_1, hcz15_2, hfz15_0, hfz15_1, hfz15_2⟩ := cf3_ BK549.out; obtain ⟨Ao16, co16, eo16⟩ := Kd.R_slice HO556.out; subst eo16))
   refine bodyPost_ret (results_ct rfl _ _ gb549 26 #[.int .i64 t552, .int .i64 t553, .slice Ao16 t554.length co16] (0, 0) _ rfl (by (with_reducible repeat (first | refine blk_drewN ?_ _ | refine blk_drew ?_ | refine blk_alloc ?_ _)); refine blk_put (cs := #[.int .i64 t552, .int .i64 t553, .slice none 0 0]) ?_ 2 _ rfl; (with_reducible repeat (first | refine blk_drewN ?_ _ | refine blk_drew ?_ | refine blk_alloc ?_ _)); refine blk_put (cs := #[.int .i64 t552, .int .i64 0, .slice none 0 0]) ?_ 1 _ rfl; (with_reducible repeat (first | refine blk_drewN ?_ _ | refine blk_drew ?_ | refine blk_alloc ?_ _)); refine blk_put (cs := #[.int .i64 0, .int .i64 0, .slice none 0 0]) ?_ 0 _ rfl; (with_reducible repeat (first | refine blk_drewN ?_ _ | refine blk_drew ?_ | refine blk_alloc ?_ _)); exact BK549.out) Try.underlying26 rfl (by kernel_rfl)) rfl ?_
   exact ⟨_, te_, by (with_reducible repeat (first | apply Kd.R_alloc | apply Kd.R_drewN | apply Kd.R_drew)); exact Kd.R_mono (Kd.R_far (p := ⟨gb549, 2, none⟩) (Kd.R_far (p := ⟨gb549, 1, none⟩) (Kd.R_far (p := ⟨gb549, 0, none⟩) (Kd.R_types HO556.out BK549.out (by decide)) (fun _ hk => hk.2) (.int .i64 t552)) (fun _ hk => hk.2) (.int .i64 t553)) (fun _ hk => hk.2) (.slice Ao16 t554.length co16)) (fun _ hk => trivial), tb_⟩
  ·
   replace c6 := Bool.eq_false_iff.mpr c6
   subst c6
   have H1 : (some (0, 0, ([] : List Int), false)) = some (r1, r2, r3, r4) := by rw [if_neg (show ¬ (false = true) by decide)] at H; exact H
   clear H
   have H := H1
   clear H1
   simp only [Option.some.injEq, Prod.mk.injEq] at H
   obtain ⟨rfl, rfl, rfl, rfl⟩ := H
   go_enter Try.func22, Try.ntmps22
   go_wp2_with (first | (refine gd_ 2 ?_; refine bx_ 2 #[.int .i64 a0_0, .int .i64 a0_1, .slice A0_2 l0_2.length c0_2] 26 ?_; intro gb548 hg w17 hbox hb; have BK548 := A_ (hbox); have GW548 := A_ ((ts_ hg : w.heap.size ≤ gb548)); have GE548 := A_ ((ts_ hg : w.heap.size ≤ gb548)); replace HB := A_ (below_step tb_ hb); clear hb hbox hg) | (refine gd_ 4 ?_; refine bx_ 4 #[.int .i64 0, .int .i64 0, .slice none 0 0] 26 ?_; intro gb549 hg w18 hbox hb; have BK549 := A_ (hbox); have GW549 := A_ ((ts_ hg : w.heap.size ≤ gb549)); have GE549 := A_ ((ts_ hg : w.heap.size ≤ gb549)); replace HB := A_ (below_step tb_ hb); have NB548_549 := A_ ((by rw [hg]; exact Nat.ne_of_lt (blk_lt (g := gb548) (o := .cells #[.int .i64 a0_0, .int .i64 a0_1, .slice A0_2 l0_2.length c0_2] 26 (0, 0)) (tk_ BK548)) : gb548 ≠ gb549)); have NB549_548 := A_ ((by rw [hg]; exact Nat.ne_of_gt (blk_lt (g := gb548) (o := .cells #[.int .i64 a0_0, .int .i64 a0_1, .slice A0_2 l0_2.length c0_2] 26 (0, 0)) (tk_ BK548)) : gb549 ≠ gb548)); replace BK548 := A_ (blk_below (g := gb548) (o := .cells #[.int .i64 a0_0, .int .i64 a0_1, .slice A0_2 l0_2.length c0_2] 26 (0, 0)) (tk_ BK548) hb); clear hb hbox hg; have hnb19 := NB548_549.out; have hnc19 := NB549_548.out; obtain ⟨hcz20_0, hcz20_1, hcz20_2, hfz20_0, hfz20_1, hfz20_2⟩ := cf3_ BK548.out) | (refine gc_ 76 ?_; refine goesT_ (some 7) Try.func76 #[.agg #[.int .i64 a0_0, .int .i64 a0_1, .slice A0_2 l0_2.length c0_2]] ?_; (with_reducible refine (impl_IsBoard.calls a0_0 a0_1 _ _ l0_2 true _ ?side1 ?side2 A3.out).mono ?_); (case side1 => exact tc_ HR0_2.out); (case side2 => exact HC0_2.out); rintro e w21 ⟨rfl, hb⟩; refine ⟨_, rfl, ?_⟩; replace BK548 := A_ (blk_below (g := gb548) (o := .cells #[.int .i64 a0_0, .int .i64 a0_1, .slice A0_2 l0_2.length c0_2] 26 (0, 0)) (tk_ BK548) hb); replace BK549 := A_ (blk_below (g := gb549) (o := .cells #[.int .i64 0, .int .i64 0, .slice none 0 0] 26 (0, 0)) (tk_ BK549) hb); replace HB := A_ (below_step tb_ hb); (try clear hb)) | (go_at_call 94; (with_reducible refine (impl_isColour.calls a1 false _ A5.out).mono ?_); rintro e w' ⟨rfl, ⟨nd, rfl⟩⟩; (try (rw [drewN_self w21]; generalize hq_ : World.drewN w21 _ = w21; have n0_ : Aside0 (w21.heap[gb548]? = some (.cells #[.int .i64 a0_0, .int .i64 a0_1, .slice A0_2 l0_2.length c0_2] 26 (0, 0))) := ⟨by rw [← hq_]; exact (tk_ BK548)⟩; have n1_ : Aside0 (w21.heap[gb549]? = some (.cells #[.int .i64 0, .int .i64 0, .slice none 0 0] 26 (0, 0))) := ⟨by rw [← hq_]; exact (tk_ BK549)⟩; have n2_ : Aside0 (Below w.heap.size w w21) := ⟨by rw [← hq_]; exact tb_⟩; clear BK548 BK549 HB hq_; have BK548 := n0_; have BK549 := n1_; have HB := n2_; clear n0_ n1_ n2_)); obtain ⟨hcz22_0, hcz22_1, hcz22_2, hfz22_0, hfz22_1, hfz22_2⟩ := cf3_ BK549.out))
   refine bodyPost_ret (results_ct rfl _ _ gb549 26 #[.int .i64 0, .int .i64 0, .slice none 0 0] (0, 0) _ rfl (by (with_reducible repeat (first | refine blk_drewN ?_ _ | refine blk_drew ?_ | refine blk_alloc ?_ _)); refine blk_put (cs := #[.int .i64 0, .int .i64 0, .slice none 0 0]) ?_ 2 _ rfl; (with_reducible repeat (first | refine blk_drewN ?_ _ | refine blk_drew ?_ | refine blk_alloc ?_ _)); refine blk_put (cs := #[.int .i64 0, .int .i64 0, .slice none 0 0]) ?_ 1 _ rfl; (with_reducible repeat (first | refine blk_drewN ?_ _ | refine blk_drew ?_ | refine blk_alloc ?_ _)); refine blk_put (cs := #[.int .i64 0, .int .i64 0, .slice none 0 0]) ?_ 0 _ rfl; (with_reducible repeat (first | refine blk_drewN ?_ _ | refine blk_drew ?_ | refine blk_alloc ?_ _)); exact BK549.out) Try.underlying26 rfl (by kernel_rfl)) rfl ?_
   exact ⟨_, te_, by first | exact Kd.R_nil _ _ _ _ _ | exact Kd.N_nil _ _ _ _ _ | exact Kd.V_nil _ _ _ _ _ | exact Kd.Q_nil _ _ _ _ _ | exact Kd.S_nil _ _ _ _ _, tb_⟩
 ·
  replace c4 := Bool.eq_false_iff.mpr c4
  subst c4
  have H1 : (some (0, 0, ([] : List Int), false)) = some (r1, r2, r3, r4) := by rw [if_neg (show ¬ (false = true) by decide)] at H; exact H
  clear H
  have H := H1
  clear H1
  simp only [Option.some.injEq, Prod.mk.injEq] at H
  obtain ⟨rfl, rfl, rfl, rfl⟩ := H
  go_enter Try.func22, Try.ntmps22
  go_wp2_with (first | (refine gd_ 2 ?_; refine bx_ 2 #[.int .i64 a0_0, .int .i64 a0_1, .slice A0_2 l0_2.length c0_2] 26 ?_; intro gb548 hg w23 hbox hb; have BK548 := A_ (hbox); have GW548 := A_ ((ts_ hg : w.heap.size ≤ gb548)); have GE548 := A_ ((ts_ hg : w.heap.size ≤ gb548)); replace HB := A_ (below_step tb_ hb); clear hb hbox hg) | (refine gd_ 4 ?_; refine bx_ 4 #[.int .i64 0, .int .i64 0, .slice none 0 0] 26 ?_; intro gb549 hg w24 hbox hb; have BK549 := A_ (hbox); have GW549 := A_ ((ts_ hg : w.heap.size ≤ gb549)); have GE549 := A_ ((ts_ hg : w.heap.size ≤ gb549)); replace HB := A_ (below_step tb_ hb); have NB548_549 := A_ ((by rw [hg]; exact Nat.ne_of_lt (blk_lt (g := gb548) (o := .cells #[.int .i64 a0_0, .int .i64 a0_1, .slice A0_2 l0_2.length c0_2] 26 (0, 0)) (tk_ BK548)) : gb548 ≠ gb549)); have NB549_548 := A_ ((by rw [hg]; exact Nat.ne_of_gt (blk_lt (g := gb548) (o := .cells #[.int .i64 a0_0, .int .i64 a0_1, .slice A0_2 l0_2.length c0_2] 26 (0, 0)) (tk_ BK548)) : gb549 ≠ gb548)); replace BK548 := A_ (blk_below (g := gb548) (o := .cells #[.int .i64 a0_0, .int .i64 a0_1, .slice A0_2 l0_2.length c0_2] 26 (0, 0)) (tk_ BK548) hb); clear hb hbox hg; have hnb25 := NB548_549.out; have hnc25 := NB549_548.out; obtain ⟨hcz26_0, hcz26_1, hcz26_2, hfz26_0, hfz26_1, hfz26_2⟩ := cf3_ BK548.out) | (refine gc_ 76 ?_; refine goesT_ (some 7) Try.func76 #[.agg #[.int .i64 a0_0, .int .i64 a0_1, .slice A0_2 l0_2.length c0_2]] ?_; (with_reducible refine (impl_IsBoard.calls a0_0 a0_1 _ _ l0_2 false _ ?side1 ?side2 A3.out).mono ?_); (case side1 => exact tc_ HR0_2.out); (case side2 => exact HC0_2.out); rintro e w27 ⟨rfl, hb⟩; refine ⟨_, rfl, ?_⟩; replace BK548 := A_ (blk_below (g := gb548) (o := .cells #[.int .i64 a0_0, .int .i64 a0_1, .slice A0_2 l0_2.length c0_2] 26 (0, 0)) (tk_ BK548) hb); replace BK549 := A_ (blk_below (g := gb549) (o := .cells #[.int .i64 0, .int .i64 0, .slice none 0 0] 26 (0, 0)) (tk_ BK549) hb); replace HB := A_ (below_step tb_ hb); (try clear hb); obtain ⟨hcz28_0, hcz28_1, hcz28_2, hfz28_0, hfz28_1, hfz28_2⟩ := cf3_ BK549.out))
  refine bodyPost_ret (results_ct rfl _ _ gb549 26 #[.int .i64 0, .int .i64 0, .slice none 0 0] (0, 0) _ rfl (by (with_reducible repeat (first | refine blk_drewN ?_ _ | refine blk_drew ?_ | refine blk_alloc ?_ _)); refine blk_put (cs := #[.int .i64 0, .int .i64 0, .slice none 0 0]) ?_ 2 _ rfl; (with_reducible repeat (first | refine blk_drewN ?_ _ | refine blk_drew ?_ | refine blk_alloc ?_ _)); refine blk_put (cs := #[.int .i64 0, .int .i64 0, .slice none 0 0]) ?_ 1 _ rfl; (with_reducible repeat (first | refine blk_drewN ?_ _ | refine blk_drew ?_ | refine blk_alloc ?_ _)); refine blk_put (cs := #[.int .i64 0, .int .i64 0, .slice none 0 0]) ?_ 0 _ rfl; (with_reducible repeat (first | refine blk_drewN ?_ _ | refine blk_drew ?_ | refine blk_alloc ?_ _)); exact BK549.out) Try.underlying26 rfl (by kernel_rfl)) rfl ?_
  exact ⟨_, te_, by first | exact Kd.R_nil _ _ _ _ _ | exact Kd.N_nil _ _ _ _ _ | exact Kd.V_nil _ _ _ _ _ | exact Kd.Q_nil _ _ _ _ _ | exact Kd.S_nil _ _ _ _ _, tb_⟩

/-! ### impl_CellOfColour: function 20 -/
def impl_CellOfColour.j0 : Nat → Int → Int → Int → Bool → Int → Int → List Int → Option (Int × Int × Bool)
 | 0, _, _, _, _, _, _, _ => none
 | k + 1, x1, x2, x3, x31, x559000, x559001, x559002 => if x31 = true then (some (0, 0, false)) else ((impl_Board_diagonals.f k x559000 x559001 x559002 x1).bind fun bt567 => (if 0 ≤ x2 then (if x2 < (bt567.1.length : Int) then (if 0 ≤ x3 then (if x3 < (bt567.2.length : Int) then ((impl_Board_crossing.f x559000 x559001 x559002 (rd bt567.1 x2) (rd bt567.2 x3)).bind fun bt575 => (if bt575.2.2 = true then (some (bt575.1, bt575.2.1, true)) else (some (0, 0, false)))) else (none)) else (none)) else (none)) else (none)))
def impl_CellOfColour.f (k : Nat) (a0_0 : Int) (a0_1 : Int) (l0_2 : List Int) (a1 : Int) (a2 : Int) (a3 : Int) : Option (Int × Int × Bool) := (impl_ColourBoard.f k a0_0 a0_1 l0_2 a1).bind fun bt559 => (if bt559.2.2.2 = true then ((impl_Board_place.f bt559.1 bt559.2.1 bt559.2.2.1 a2 a3).bind fun t566 => (impl_CellOfColour.j0 k a1 a2 a3 (!t566) a0_0 a0_1 l0_2)) else (impl_CellOfColour.j0 k a1 a2 a3 true a0_0 a0_1 l0_2))
theorem impl_CellOfColour.mono_l : ∀ k, (∀ y0 y1 y2 y3 y4 y5 y6, LeO (impl_CellOfColour.j0 k y0 y1 y2 y3 y4 y5 y6) (impl_CellOfColour.j0 (k + 1) y0 y1 y2 y3 y4 y5 y6))
 | 0 => fun _ _ _ _ _ _ _ r h => by simp [impl_CellOfColour.j0] at h
 | k + 1 => by
  have ih0 := impl_CellOfColour.mono_l k
  ·
   intro y0 y1 y2 y3 y4 y5 y6
   unfold impl_CellOfColour.j0
   repeat' first | (with_reducible first | exact ih0 _ _ _ _ _ _ _ | exact impl_Board_diagonals.mono _ _ _ _ _ | exact impl_ColourBoard.mono _ _ _ _ _ | exact LeO.refl _ | exact LeO.none _ | refine LeO.ite ?_ ?_ | refine LeO.bind ?_ (fun _ => ?_)) | exact ih0 _ _ _ _ _ _ _ | exact impl_Board_diagonals.mono _ _ _ _ _ | exact impl_ColourBoard.mono _ _ _ _ _ | exact LeO.none _ | refine LeO.ite ?_ ?_ | refine LeO.bind ?_ (fun _ => ?_)
theorem impl_CellOfColour.mono : ∀ a0 a1 a2 a3 a4 a5 k, LeO (impl_CellOfColour.f k a0 a1 a2 a3 a4 a5) (impl_CellOfColour.f (k + 1) a0 a1 a2 a3 a4 a5) := by
 intro a0 a1 a2 a3 a4 a5 k
 have ih0 := impl_CellOfColour.mono_l k
 unfold impl_CellOfColour.f
 repeat' first | (with_reducible first | exact ih0 _ _ _ _ _ _ _ | exact impl_Board_diagonals.mono _ _ _ _ _ | exact impl_ColourBoard.mono _ _ _ _ _ | exact LeO.refl _ | exact LeO.none _ | refine LeO.ite ?_ ?_ | refine LeO.bind ?_ (fun _ => ?_)) | exact ih0 _ _ _ _ _ _ _ | exact impl_Board_diagonals.mono _ _ _ _ _ | exact impl_ColourBoard.mono _ _ _ _ _ | exact LeO.none _ | refine LeO.ite ?_ ?_ | refine LeO.bind ?_ (fun _ => ?_)
def impl_CellOfColour.T5 : Bool × List (List Nat × List Nat) := (true, [([], []), ([], []), ([], []), ([1, 2], [1, 2]), ([3], [3]), ([], []), ([], []), ([5, 6], [5, 6]), ([7], [7]), ([0, 4, 8], [0, 4, 8]), ([9], [9]), ([10], [10]), ([10], [10]), ([10], [10]), ([11, 9, 0, 1, 2, 3, 4, 5, 6, 7, 8, 9, 10, 11], [11]), ([12, 14, 0, 1, 2, 3, 4, 5, 6, 7, 8, 9, 10, 11, 12, 14], [12]), ([13, 15, 0, 1, 2, 3, 4, 5, 6, 7, 8, 9, 10, 11, 12, 13, 14, 15], [13])])
def impl_CellOfColour.B5 : List Nat := [0, 0, 0, 6, 14, 0, 0, 96, 224, 511, 1023, 2047, 2047, 2047, 4095, 24575, 65535]
theorem impl_CellOfColour.tab5 : rtab .any (opsOf Try.f20 5) = impl_CellOfColour.T5 := by kernel_rfl
theorem impl_CellOfColour.bits5 : waitsOk impl_CellOfColour.T5.2 impl_CellOfColour.B5 = true := by kernel_rfl
theorem impl_CellOfColour.calls (k : Nat) (a0_0 : Int) (a0_1 : Int) (A0_2 : Option Addr) (c0_2 : Nat) (l0_2 : List Int) (a1 : Int) (a2 : Int) (a3 : Int) (r1 : Int) (r2 : Int) (r3 : Bool) (w : World) (hr0_2 : Kd.C (Kd.int .i64) w A0_2 l0_2.length l0_2) (hc0_2 : l0_2.length ≤ c0_2) (h : impl_CellOfColour.f k a0_0 a0_1 l0_2 a1 a2 a3 = some (r1, r2, r3)) :
  Calls Try.prog 20 #[.agg #[.int .i64 a0_0, .int .i64 a0_1, .slice A0_2 l0_2.length c0_2], .int .i64 a1, .int .i64 a2, .int .i64 a3] w fun e w' => e = .returned (.tuple #[.int .i64 r1, .int .i64 r2, .bool r3]) ∧ Below w.heap.size w w' := by
 have hu26 := Try.underlying26
 have HR0_2 := A_ hr0_2
 have HC0_2 := A_ hc0_2
 clear hr0_2 hc0_2
 have HB := A_ (Below.refl w.heap.size w)
 have H : ((impl_ColourBoard.f k a0_0 a0_1 l0_2 a1).bind fun bt559 => (if bt559.2.2.2 = true then ((impl_Board_place.f bt559.1 bt559.2.1 bt559.2.2.1 a2 a3).bind fun t566 => (impl_CellOfColour.j0 k a1 a2 a3 (!t566) a0_0 a0_1 l0_2)) else (impl_CellOfColour.j0 k a1 a2 a3 true a0_0 a0_1 l0_2))) = some (r1, r2, r3) := h
 clear h
 replace H := Option.bind_eq_some_iff.mp H
 obtain ⟨⟨t559, t560, t561, t564⟩, A50, H⟩ := H
 replace H : (if t564 = true then ((impl_Board_place.f t559 t560 t561 a2 a3).bind fun t566 => (impl_CellOfColour.j0 k a1 a2 a3 (!t566) a0_0 a0_1 l0_2)) else (impl_CellOfColour.j0 k a1 a2 a3 true a0_0 a0_1 l0_2)) = some (r1, r2, r3) := H
 have A5 := A_ A50
 clear A50
 have HC6 := A_ H
 clear H
 go_enter Try.func20, Try.ntmps20
 go_upto_region 2 with (first | (refine gd_ 4 ?_; refine bx_ 4 #[.int .i64 a0_0, .int .i64 a0_1, .slice A0_2 l0_2.length c0_2] 26 ?_; intro gb558 hg w7 hbox hb; have BK558 := A_ (hbox); have GW558 := A_ ((ts_ hg : w.heap.size ≤ gb558)); have GE558 := A_ ((ts_ hg : w.heap.size ≤ gb558)); replace HB := A_ (below_step tb_ hb); clear hb hbox hg; obtain ⟨hcz8_0, hcz8_1, hcz8_2, hfz8_0, hfz8_1, hfz8_2⟩ := cf3_ BK558.out) | (refine gc_ 22 ?_; refine goesT_ (some 20) Try.func22 #[.agg #[.int .i64 a0_0, .int .i64 a0_1, .slice A0_2 l0_2.length c0_2], .int .i64 a1] ?_; (with_reducible refine (impl_ColourBoard.calls k a0_0 a0_1 _ _ l0_2 a1 t559 t560 t561 t564 _ ?side1 ?side2 A5.out).mono ?_); (case side1 => exact tc_ HR0_2.out); (case side2 => exact HC0_2.out); rintro e w9 ⟨v562, rfl, ho0, hb⟩; refine ⟨_, rfl, ?_⟩; have HO563 := A_ (Kd.R_lower ho0 (below_size tb_)); replace BK558 := A_ (blk_below (g := gb558) (o := .cells #[.int .i64 a0_0, .int .i64 a0_1, .slice A0_2 l0_2.length c0_2] 26 (0, 0)) (tk_ BK558) hb); replace HB := A_ (below_step tb_ hb); (try clear hb); (try clear ho0)) | (refine gd_ 11 ?_; refine bx_ 11 #[.int .i64 0, .int .i64 0, .slice none 0 0] 26 ?_; intro gb565 hg w10 hbox hb; replace HO563 := A_ (Kd.R_below (tr_x HO563.out) hb); have BK565 := A_ (hbox); have GW565 := A_ ((ts_ hg : w.heap.size ≤ gb565)); have GE565 := A_ ((ts_ hg : w.heap.size ≤ gb565)); replace HB := A_ (below_step tb_ hb); have NB558_565 := A_ ((by rw [hg]; exact Nat.ne_of_lt (blk_lt (g := gb558) (o := .cells #[.int .i64 a0_0, .int .i64 a0_1, .slice A0_2 l0_2.length c0_2] 26 (0, 0)) (tk_ BK558)) : gb558 ≠ gb565)); have NB565_558 := A_ ((by rw [hg]; exact Nat.ne_of_gt (blk_lt (g := gb558) (o := .cells #[.int .i64 a0_0, .int .i64 a0_1, .slice A0_2 l0_2.length c0_2] 26 (0, 0)) (tk_ BK558)) : gb565 ≠ gb558)); replace BK558 := A_ (blk_below (g := gb558) (o := .cells #[.int .i64 a0_0, .int .i64 a0_1, .slice A0_2 l0_2.length c0_2] 26 (0, 0)) (tk_ BK558) hb); clear hb hbox hg; have hnb11 := NB565_558.out; have hnc11 := NB558_565.out; obtain ⟨hcz12_0, hcz12_1, hcz12_2, hfz12_0, hfz12_1, hfz12_2⟩ := cf3_ BK565.out; obtain ⟨Ao13, co13, eo13⟩ := Kd.R_slice HO563.out; subst eo13))
 (try simp only [Act.put, List.setIfInBounds_toArray, List.set_cons_zero, List.set_cons_succ])
 go_cut [31] (fun v31 wc => ∃ (kq : Nat) (x31_5 : Bool), v31 = .bool x31_5 ∧ Aside0 (impl_CellOfColour.j0 kq a1 a2 a3 x31_5 a0_0 a0_1 l0_2 = some (r1, r2, r3)) ∧ Aside0 (kq ≤ k) ∧ Aside0 (Kd.R (Kd.int .i64) 3 wc w.heap.size (fun _ => True) (.slice Ao13 t561.length co13) t561) ∧ Aside0 (wc.heap[gb558]? = some (.cells #[.int .i64 a0_0, .int .i64 a0_1, (.slice A0_2 l0_2.length c0_2)] 26 (0, 0))) ∧ Aside0 (wc.heap[gb565]? = some (.cells #[.int .i64 t559, .int .i64 t560, (.slice Ao13 t561.length co13)] 26 (0, 0))) ∧ Aside0 (Below w.heap.size w wc))
 case first =>
  have H := HC6.out
  clear HC6
  by_cases c14 : t564 = true
  ·
   subst c14
   have H1 : ((impl_Board_place.f t559 t560 t561 a2 a3).bind fun t566 => (impl_CellOfColour.j0 k a1 a2 a3 (!t566) a0_0 a0_1 l0_2)) = some (r1, r2, r3) := by rw [if_pos rfl] at H; exact H
   clear H
   have H := H1
   clear H1
   replace H := Option.bind_eq_some_iff.mp H
   obtain ⟨t566, A150, H⟩ := H
   replace H : (impl_CellOfColour.j0 k a1 a2 a3 (!t566) a0_0 a0_1 l0_2) = some (r1, r2, r3) := H
   have A15 := A_ A150
   clear A150
   have H' := A_ H
   clear H
   have hnb16 := NB565_558.out
   have hnc16 := NB558_565.out
   obtain ⟨hcz17_0, hcz17_1, hcz17_2, hfz17_0, hfz17_1, hfz17_2⟩ := cf3_ BK565.out
   go_wp2_with (first | (go_at_call 81; (with_reducible refine (impl_Board_place.calls t559 t560 _ _ t561 a2 a3 t566 _ ?side1 ?side2 A15.out).mono ?_); (case side1 => refine (Kd.R_reads' (e := 3) (base := w.heap.size) (ok := fun k_ => True) (n := t561.length) (c := co13) ?_).2.2; exact (tr_ (h := by exact (Kd.R_mono (Kd.R_far (p := ⟨gb565, 2, none⟩) (Kd.R_far (p := ⟨gb565, 1, none⟩) (Kd.R_far (p := ⟨gb565, 0, none⟩) (Kd.R_types HO563.out BK565.out (by decide)) (fun _ hk => hk.2) (.int .i64 t559)) (fun _ hk => hk.2) (.int .i64 t560)) (fun _ hk => hk.2) (.slice Ao13 t561.length co13)) (fun _ h_ => h_.1))))); (case side2 => exact (Kd.R_reads' HO563.out).2.1); rintro e w18 ⟨rfl, hb⟩; replace HO563 := A_ (Kd.R_below (tr_ (h := by exact (Kd.R_mono (Kd.R_far (p := ⟨gb565, 2, none⟩) (Kd.R_far (p := ⟨gb565, 1, none⟩) (Kd.R_far (p := ⟨gb565, 0, none⟩) (Kd.R_types HO563.out BK565.out (by decide)) (fun _ hk => hk.2) (.int .i64 t559)) (fun _ hk => hk.2) (.int .i64 t560)) (fun _ hk => hk.2) (.slice Ao13 t561.length co13)) (fun _ h_ => h_.1)))) hb); replace BK558 := A_ (blk_below (g := gb558) (o := .cells #[.int .i64 a0_0, .int .i64 a0_1, .slice A0_2 l0_2.length c0_2] 26 (0, 0)) (tk_ BK558) hb); replace BK565 := A_ (blk_below (g := gb565) (o := .cells #[.int .i64 t559, .int .i64 t560, .slice Ao13 t561.length co13] 26 (0, 0)) (by (with_reducible repeat (first | refine blk_drewN ?_ _ | refine blk_drew ?_ | refine blk_alloc ?_ _)); refine blk_put (cs := #[.int .i64 t559, .int .i64 t560, .slice none 0 0]) ?_ 2 _ rfl; (with_reducible repeat (first | refine blk_drewN ?_ _ | refine blk_drew ?_ | refine blk_alloc ?_ _)); refine blk_put (cs := #[.int .i64 t559, .int .i64 0, .slice none 0 0]) ?_ 1 _ rfl; (with_reducible repeat (first | refine blk_drewN ?_ _ | refine blk_drew ?_ | refine blk_alloc ?_ _)); refine blk_put (cs := #[.int .i64 0, .int .i64 0, .slice none 0 0]) ?_ 0 _ rfl; (with_reducible repeat (first | refine blk_drewN ?_ _ | refine blk_drew ?_ | refine blk_alloc ?_ _)); exact BK565.out) hb); replace HB := A_ (below_step tb_ hb); (try clear hb)))
   go_meet
   case rel => exact ⟨_, (!t566), tf_, H', ⟨by first | omega | exact Nat.le_refl _⟩, ⟨tr_x HO563.out⟩, ⟨tk_ BK558⟩, ⟨tk_ BK565⟩, ⟨tb_⟩⟩
  ·
   replace c14 := Bool.eq_false_iff.mpr c14
   subst c14
   have H1 : (impl_CellOfColour.j0 k a1 a2 a3 true a0_0 a0_1 l0_2) = some (r1, r2, r3) := by rw [if_neg (show ¬ (false = true) by decide)] at H; exact H
   clear H
   have H := H1
   clear H1
   have H' := A_ H
   clear H
   go_wp2
   go_meet
   case rel => exact ⟨_, (true), tf_, H', ⟨by first | omega | exact Nat.le_refl _⟩, ⟨by (with_reducible repeat (first | apply Kd.R_alloc | apply Kd.R_drewN | apply Kd.R_drew)); exact Kd.R_mono (Kd.R_far (p := ⟨gb565, 2, none⟩) (Kd.R_far (p := ⟨gb565, 1, none⟩) (Kd.R_far (p := ⟨gb565, 0, none⟩) (Kd.R_types HO563.out BK565.out (by decide)) (fun _ hk => hk.2) (.int .i64 t559)) (fun _ hk => hk.2) (.int .i64 t560)) (fun _ hk => hk.2) (.slice Ao13 t561.length co13)) (fun _ hk => trivial)⟩, ⟨tk_ BK558⟩, ⟨by (with_reducible repeat (first | refine blk_drewN ?_ _ | refine blk_drew ?_ | refine blk_alloc ?_ _)); refine blk_put (cs := #[.int .i64 t559, .int .i64 t560, .slice none 0 0]) ?_ 2 _ rfl; (with_reducible repeat (first | refine blk_drewN ?_ _ | refine blk_drew ?_ | refine blk_alloc ?_ _)); refine blk_put (cs := #[.int .i64 t559, .int .i64 0, .slice none 0 0]) ?_ 1 _ rfl; (with_reducible repeat (first | refine blk_drewN ?_ _ | refine blk_drew ?_ | refine blk_alloc ?_ _)); refine blk_put (cs := #[.int .i64 0, .int .i64 0, .slice none 0 0]) ?_ 0 _ rfl; (with_reducible repeat (first | refine blk_drewN ?_ _ | refine blk_drew ?_ | refine blk_alloc ?_ _)); exact BK565.out⟩, ⟨tb_⟩⟩
 case rest =>
  clear HC6
  try clear c1
  try clear c2
  try clear p2
  try clear c11
  try clear c14
  try clear c16
  try clear hcz12_0
  try clear hcz12_1
  try clear hcz12_2
  try clear hcz17_0
  try clear hcz17_1
  try clear hcz17_2
  try clear hcz8_0
  try clear hcz8_1
  try clear hcz8_2
  try clear hfz12_0
  try clear hfz12_1
  try clear hfz12_2
  try clear hfz17_0
  try clear hfz17_1
  try clear hfz17_2
  try clear hfz8_0
  try clear hfz8_1
  try clear hfz8_2
  obtain ⟨kq, x31_5, rfl, HA, HJ5, HO_566002, BK558, BK565, HB⟩ := hcut
  cases kq with
  | zero => exact absurd HA.out (by simp [impl_CellOfColour.j0])
  | succ kj5 =>
   have H := HA.out
   clear HA
   simp only [impl_CellOfColour.j0] at H
   by_cases c19 : x31_5 = true
   ·
    subst c19
    have H1 : (some (0, 0, false)) = some (r1, r2, r3) := by rw [if_pos rfl] at H; exact H
    clear H
    have H := H1
    clear H1
    simp only [Option.some.injEq, Prod.mk.injEq] at H
    obtain ⟨rfl, rfl, rfl⟩ := H
    go_wp2
    go_ret3
    exact ⟨te_, tb_⟩
   ·
    replace c19 := Bool.eq_false_iff.mpr c19
    subst c19
    have H1 : ((impl_Board_diagonals.f kj5 a0_0 a0_1 l0_2 a1).bind fun bt567 => (if 0 ≤ a2 then (if a2 < (bt567.1.length : Int) then (if 0 ≤ a3 then (if a3 < (bt567.2.length : Int) then ((impl_Board_crossing.f a0_0 a0_1 l0_2 (rd bt567.1 a2) (rd bt567.2 a3)).bind fun bt575 => (if bt575.2.2 = true then (some (bt575.1, bt575.2.1, true)) else (some (0, 0, false)))) else (none)) else (none)) else (none)) else (none))) = some (r1, r2, r3) := by rw [if_neg (show ¬ (false = true) by decide)] at H; exact H
    clear H
    have H := H1
    clear H1
    replace H := Option.bind_eq_some_iff.mp H
    obtain ⟨⟨t567, t570⟩, A200, H⟩ := H
    replace H : (if 0 ≤ a2 then (if a2 < (t567.length : Int) then (if 0 ≤ a3 then (if a3 < (t570.length : Int) then ((impl_Board_crossing.f a0_0 a0_1 l0_2 (rd t567 a2) (rd t570 a3)).bind fun bt575 => (if bt575.2.2 = true then (some (bt575.1, bt575.2.1, true)) else (some (0, 0, false)))) else (none)) else (none)) else (none)) else (none)) = some (r1, r2, r3) := H
    have A20 := A_ A200
    clear A200
    by_cases c21 : 0 ≤ a2
    ·
     rw [if_pos c21] at H
     have c21b0 := decide_eq_true c21
     clear c21
     by_cases c22 : a2 < (t567.length : Int)
     ·
      rw [if_pos c22] at H
      have c22b0 := decide_eq_true c22
      clear c22
      by_cases c23 : 0 ≤ a3
      ·
       rw [if_pos c23] at H
       have c23b0 := decide_eq_true c23
       clear c23
       by_cases c24 : a3 < (t570.length : Int)
       ·
        rw [if_pos c24] at H
        have c24b0 := decide_eq_true c24
        clear c24
        replace H := Option.bind_eq_some_iff.mp H
        obtain ⟨⟨t575, t576, t577⟩, A250, H⟩ := H
        replace H : (if t577 = true then (some (t575, t576, true)) else (some (0, 0, false))) = some (r1, r2, r3) := H
        have A25 := A_ A250
        clear A250
        by_cases c26 : t577 = true
        ·
         subst c26
         have H1 : (some (t575, t576, true)) = some (r1, r2, r3) := by rw [if_pos rfl] at H; exact H
         clear H
         have H := H1
         clear H1
         simp only [Option.some.injEq, Prod.mk.injEq] at H
         obtain ⟨rfl, rfl, rfl⟩ := H
         have hnb27 := NB558_565.out
         have hnc27 := NB565_558.out
         obtain ⟨hcz28_0, hcz28_1, hcz28_2, hfz28_0, hfz28_1, hfz28_2⟩ := cf3_ BK558.out
         try go_wp2_with (first | (refine gc_ 90 ?_; refine goesT_ (some 35) Try.func90 #[.agg #[.int .i64 a0_0, .int .i64 a0_1, .slice A0_2 l0_2.length c0_2], .int .i64 a1] ?_; (with_reducible refine (impl_Board_diagonals.calls kj5 a0_0 a0_1 _ _ l0_2 a1 t567 t570 _ ?side1 ?side2 A20.out).mono ?_); (case side1 => exact tc_ HR0_2.out); (case side2 => exact HC0_2.out); rintro e w29 ⟨v568, v571, rfl, ho0, ho1, hb⟩; refine ⟨_, rfl, ?_⟩; have HO569 := A_ (Kd.R_lower (Kd.R_new' ho0 (Kd.R_lt (tr_x HO_566002.out))) (below_size tb_)); have HO572 := A_ (Kd.R_lower (Kd.R_new' ho1 (Kd.R_lt (tr_x HO_566002.out))) (below_size tb_)); replace HO_566002 := A_ (Kd.R_mono (Kd.R_told (Kd.R_told (Kd.R_old (tr_x HO_566002.out) hb) (Kd.R_base ho0)) (Kd.R_base ho1)) (fun _ h_ => h_.1)); replace BK558 := A_ (blk_below (g := gb558) (o := .cells #[.int .i64 a0_0, .int .i64 a0_1, .slice A0_2 l0_2.length c0_2] 26 (0, 0)) (tk_ BK558) hb); replace BK565 := A_ (blk_below (g := gb565) (o := .cells #[.int .i64 t559, .int .i64 t560, .slice Ao13 t561.length co13] 26 (0, 0)) (tk_ BK565) hb); replace HB := A_ (below_step tb_ hb); (try clear hb); (try clear ho0); (try clear ho1)))
         have n0_ := A_ (Kd.R_drew HO_566002.out)
         have n1_ := A_ (Kd.R_drew HO569.out)
         have n2_ := A_ (Kd.R_drew HO572.out)
         have n3_ := A_ (blk_drew BK558.out)
         have n4_ := A_ (blk_drew BK565.out)
         have n5_ := A_ (below_drew1 HB.out)
         clear HO_566002
         clear HO569
         clear HO572
         clear BK558
         clear BK565
         clear HB
         have HO_566002 := n0_
         have HO569 := n1_
         have HO572 := n2_
         have BK558 := n3_
         have BK565 := n4_
         have HB := n5_
         clear n0_ n1_ n2_ n3_ n4_ n5_
         obtain ⟨Ao31, co31, eo31⟩ := Kd.R_slice HO569.out
         (first | subst eo31 | (injection eo31 with f1_ f2_ f3_; have f4_ := f1_.symm; have f5_ := f3_.symm; clear f1_ f2_ f3_; subst f4_; subst f5_))
         have p573 : 0 ≤ (a2 : Int) := od_
         have q573 : a2 < (t567.length : Int) := od_
         obtain ⟨ad573, e573, hx573_0⟩ := Kd.at_int (Kd.R_reads' HO569.out).2.2 a2 p573 q573
         cases e573
         replace p573 := eq_true p573
         replace q573 := eq_true q573
         obtain ⟨Ao32, co32, eo32⟩ := Kd.R_slice HO572.out
         (first | subst eo32 | (injection eo32 with f1_ f2_ f3_; have f4_ := f1_.symm; have f5_ := f3_.symm; clear f1_ f2_ f3_; subst f4_; subst f5_))
         have p574 : 0 ≤ (a3 : Int) := od_
         have q574 : a3 < (t570.length : Int) := od_
         obtain ⟨ad574, e574, hx574_0⟩ := Kd.at_int (Kd.R_reads' HO572.out).2.2 a3 p574 q574
         cases e574
         replace p574 := eq_true p574
         replace q574 := eq_true q574
         refine start_ (n := 17) (S := fun w' => w'.cell? ⟨gb558, 0, none⟩ = some (.int .i64 a0_0) ∧ w'.cell? ⟨gb558, 1, none⟩ = some (.int .i64 a0_1) ∧ w'.cell? ⟨gb558, 2, none⟩ = some (.slice A0_2 l0_2.length c0_2) ∧ w'.cell? (ad573.add (a2).toNat) = some (.int .i64 (rd t567 a2)) ∧ w'.cell? (ad574.add (a3).toNat) = some (.int .i64 (rd t570 a3))) (ds := []) (Fn.bl 17 0) (by kernel_rfl) rfl rfl ⟨(blk_cell BK558.out 0).trans rfl, (blk_cell BK558.out 1).trans rfl, (blk_cell BK558.out 2).trans rfl, hx573_0, hx574_0⟩ (fun hHeld => ?_); refine with_tabW impl_CellOfColour.tab5 impl_CellOfColour.bits5 (fun HT_ HW_ => ?_)
         generalize w29.drew = w30 at HO_566002 HO569 HO572 BK558 BK565 HB hx573_0 hx574_0 hHeld ⊢
         refine pq_ 1 (some 40) (Fn.bl 17 2) HT_.out ?_
         refine pq_ 2 (some 41) (Fn.bl 17 6) HT_.out ?_
         refine pq_ 3 (some 42) (Fn.bl 17 14) HT_.out ?_
         refine pq_ 5 (some 44) (Fn.bl 17 46) HT_.out ?_
         refine pq_ 6 (some 45) (Fn.bl 17 110) HT_.out ?_
         refine pq_ 7 (some 46) (Fn.bl 17 238) HT_.out ?_
         refine tq_ 0 (some 39) (Fn.bl 17 239) HT_.out HW_.out hHeld ?_ (hy0 := by rintro w' ⟨s0, s1, s2, s3, s4⟩; go_simp; with_reducible rfl)
         refine tq_ 4 (some 43) (Fn.bl 17 255) HT_.out HW_.out hHeld ?_ (hy0 := by rintro w' ⟨s0, s1, s2, s3, s4⟩; go_simp; with_reducible rfl)
         refine tq_ 8 (some 47) (Fn.bl 17 511) HT_.out HW_.out hHeld ?_ (hy0 := by rintro w' ⟨s0, s1, s2, s3, s4⟩; go_simp; with_reducible rfl)
         refine one_ (i := 9) (N := some 48) (Fn.bl 17 1023) rfl rfl (one_of HT_.out (by kernel_rfl)) (by decide) (fun K hK => ?_)
         refine goes_ Try.func91 (by kernel_rfl) rfl #[.agg #[.int .i64 a0_0, .int .i64 a0_1, .slice A0_2 l0_2.length c0_2], .int .i64 (rd t567 a2), .int .i64 (rd t570 a3)] (by rfl) rfl rfl ta_ ?_
         with_reducible refine (impl_Board_crossing.calls a0_0 a0_1 _ _ l0_2 (rd t567 a2) (rd t570 a3) t575 t576 true _ ?side1 ?side2 A25.out).mono ?_
         (case side1 => exact tc_ HR0_2.out)
         (case side2 => exact HC0_2.out)
         rintro e w33 ⟨rfl, hb⟩
         have HS3_ := (hb.cell (World.block_lt_of_cell? _ _ (hHeld.2.2.2.1))).trans (hHeld.2.2.2.1)
         have HS4_ := (hb.cell (World.block_lt_of_cell? _ _ (hHeld.2.2.2.2))).trans (hHeld.2.2.2.2)
         refine ⟨_, rfl, ?_⟩
         have n0_ := A_ (Kd.R_below (tr_x HO_566002.out) hb)
         have n1_ := A_ (Kd.R_below (tr_x HO569.out) hb)
         have n2_ := A_ (Kd.R_below (tr_x HO572.out) hb)
         have n3_ := A_ (blk_below (g := gb558) (o := .cells #[.int .i64 a0_0, .int .i64 a0_1, .slice A0_2 l0_2.length c0_2] 26 (0, 0)) (tk_ BK558) hb)
         have n4_ := A_ (blk_below (g := gb565) (o := .cells #[.int .i64 t559, .int .i64 t560, .slice Ao13 t561.length co13] 26 (0, 0)) (tk_ BK565) hb)
         have n5_ := A_ (below_step tb_ hb)
         clear HO_566002
         clear HO569
         clear HO572
         clear BK558
         clear BK565
         clear HB
         have HO_566002 := n0_
         have HO569 := n1_
         have HO572 := n2_
         have BK558 := n3_
         have BK565 := n4_
         have HB := n5_
         clear n0_ n1_ n2_ n3_ n4_ n5_
         (try clear hb)
         (try clear hb2)
         (try clear hk)
         (try clear hi)
         refine hK.out _ _ ⟨(blk_cell BK558.out 0).trans rfl, (blk_cell BK558.out 1).trans rfl, (blk_cell BK558.out 2).trans rfl, HS3_, HS4_⟩ (fun hHeld => ?_)
         clear hK K
         refine norm_ (a' := ?_) ?_ ?_
         rotate_left
         ·
          show Act.put _ (some 48) _ = _
          simp only [Act.put, List.setIfInBounds_toArray, List.set_cons_zero, List.set_cons_succ, i64_w, i32_w]
          rfl
         refine pq_ 10 (some 38) (Fn.bl 17 2047) HT_.out ?_
         refine pq_ 11 (some 49) (Fn.bl 17 4095) HT_.out ?_
         refine pq_ 12 (some 50) (Fn.bl 17 8191) HT_.out ?_
         refine pq_ 13 (some 51) (Fn.bl 17 16383) HT_.out ?_
         refine pq_ 14 (some 15) (Fn.bl 17 32767) HT_.out ?_
         refine pq_ 15 (some 16) (Fn.bl 17 65535) HT_.out ?_
         refine pq_ 16 (some 12) (Fn.bl 17 131071) HT_.out ?_
         refine done_ (done_of HT_.out (by kernel_rfl)) ?_
         try go_wp2
         go_ret3
         exact ⟨te_, tb_⟩
        ·
         replace c26 := Bool.eq_false_iff.mpr c26
         subst c26
         have H1 : (some (0, 0, false)) = some (r1, r2, r3) := by rw [if_neg (show ¬ (false = true) by decide)] at H; exact H
         clear H
         have H := H1
         clear H1
         simp only [Option.some.injEq, Prod.mk.injEq] at H
         obtain ⟨rfl, rfl, rfl⟩ := H
         have hnb34 := NB558_565.out
         have hnc34 := NB565_558.out
         obtain ⟨hcz35_0, hcz35_1, hcz35_2, hfz35_0, hfz35_1, hfz35_2⟩ := cf3_ BK558.out
         try go_wp2_with (first | (refine gc_ 90 ?_; refine goesT_ (some 35) Try.func90 #[.agg #[.int .i64 a0_0, .int .i64 a0_1, .slice A0_2 l0_2.length c0_2], .int .i64 a1] ?_; (with_reducible refine (impl_Board_diagonals.calls kj5 a0_0 a0_1 _ _ l0_2 a1 t567 t570 _ ?side1 ?side2 A20.out).mono ?_); (case side1 => exact tc_ HR0_2.out); (case side2 => exact HC0_2.out); rintro e w36 ⟨v568, v571, rfl, ho0, ho1, hb⟩; refine ⟨_, rfl, ?_⟩; have HO569 := A_ (Kd.R_lower (Kd.R_new' ho0 (Kd.R_lt (tr_x HO_566002.out))) (below_size tb_)); have HO572 := A_ (Kd.R_lower (Kd.R_new' ho1 (Kd.R_lt (tr_x HO_566002.out))) (below_size tb_)); replace HO_566002 := A_ (Kd.R_mono (Kd.R_told (Kd.R_told (Kd.R_old (tr_x HO_566002.out) hb) (Kd.R_base ho0)) (Kd.R_base ho1)) (fun _ h_ => h_.1)); replace BK558 := A_ (blk_below (g := gb558) (o := .cells #[.int .i64 a0_0, .int .i64 a0_1, .slice A0_2 l0_2.length c0_2] 26 (0, 0)) (tk_ BK558) hb); replace BK565 := A_ (blk_below (g := gb565) (o := .cells #[.int .i64 t559, .int .i64 t560, .slice Ao13 t561.length co13] 26 (0, 0)) (tk_ BK565) hb); replace HB := A_ (below_step tb_ hb); (try clear hb); (try clear ho0); (try clear ho1)))
         have n0_ := A_ (Kd.R_drew HO_566002.out)
         have n1_ := A_ (Kd.R_drew HO569.out)
         have n2_ := A_ (Kd.R_drew HO572.out)
         have n3_ := A_ (blk_drew BK558.out)
         have n4_ := A_ (blk_drew BK565.out)
         have n5_ := A_ (below_drew1 HB.out)
         clear HO_566002
         clear HO569
         clear HO572
         clear BK558
         clear BK565
         clear HB
         have HO_566002 := n0_
         have HO569 := n1_
         have HO572 := n2_
         have BK558 := n3_
         have BK565 := n4_
         have HB := n5_
         clear n0_ n1_ n2_ n3_ n4_ n5_
         obtain ⟨Ao38, co38, eo38⟩ := Kd.R_slice HO569.out
         (first | subst eo38 | (injection eo38 with f1_ f2_ f3_; have f4_ := f1_.symm; have f5_ := f3_.symm; clear f1_ f2_ f3_; subst f4_; subst f5_))
         have p573 : 0 ≤ (a2 : Int) := od_
         have q573 : a2 < (t567.length : Int) := od_
         obtain ⟨ad573, e573, hx573_0⟩ := Kd.at_int (Kd.R_reads' HO569.out).2.2 a2 p573 q573
         cases e573
         replace p573 := eq_true p573
         replace q573 := eq_true q573
         obtain ⟨Ao39, co39, eo39⟩ := Kd.R_slice HO572.out
         (first | subst eo39 | (injection eo39 with f1_ f2_ f3_; have f4_ := f1_.symm; have f5_ := f3_.symm; clear f1_ f2_ f3_; subst f4_; subst f5_))
         have p574 : 0 ≤ (a3 : Int) := od_
         have q574 : a3 < (t570.length : Int) := od_
         obtain ⟨ad574, e574, hx574_0⟩ := Kd.at_int (Kd.R_reads' HO572.out).2.2 a3 p574 q574
         cases e574
         replace p574 := eq_true p574
         replace q574 := eq_true q574
         refine start_ (n := 17) (S := fun w' => w'.cell? ⟨gb558, 0, none⟩ = some (.int .i64 a0_0) ∧ w'.cell? ⟨gb558, 1, none⟩ = some (.int .i64 a0_1) ∧ w'.cell? ⟨gb558, 2, none⟩ = some (.slice A0_2 l0_2.length c0_2) ∧ w'.cell? (ad573.add (a2).toNat) = some (.int .i64 (rd t567 a2)) ∧ w'.cell? (ad574.add (a3).toNat) = some (.int .i64 (rd t570 a3))) (ds := []) (Fn.bl 17 0) (by kernel_rfl) rfl rfl ⟨(blk_cell BK558.out 0).trans rfl, (blk_cell BK558.out 1).trans rfl, (blk_cell BK558.out 2).trans rfl, hx573_0, hx574_0⟩ (fun hHeld => ?_); refine with_tabW impl_CellOfColour.tab5 impl_CellOfColour.bits5 (fun HT_ HW_ => ?_)
         generalize w36.drew = w37 at HO_566002 HO569 HO572 BK558 BK565 HB hx573_0 hx574_0 hHeld ⊢
         refine pq_ 1 (some 40) (Fn.bl 17 2) HT_.out ?_
         refine pq_ 2 (some 41) (Fn.bl 17 6) HT_.out ?_
         refine pq_ 3 (some 42) (Fn.bl 17 14) HT_.out ?_
         refine pq_ 5 (some 44) (Fn.bl 17 46) HT_.out ?_
         refine pq_ 6 (some 45) (Fn.bl 17 110) HT_.out ?_
         refine pq_ 7 (some 46) (Fn.bl 17 238) HT_.out ?_
         refine tq_ 0 (some 39) (Fn.bl 17 239) HT_.out HW_.out hHeld ?_ (hy0 := by rintro w' ⟨s0, s1, s2, s3, s4⟩; go_simp; with_reducible rfl)
         refine tq_ 4 (some 43) (Fn.bl 17 255) HT_.out HW_.out hHeld ?_ (hy0 := by rintro w' ⟨s0, s1, s2, s3, s4⟩; go_simp; with_reducible rfl)
         refine tq_ 8 (some 47) (Fn.bl 17 511) HT_.out HW_.out hHeld ?_ (hy0 := by rintro w' ⟨s0, s1, s2, s3, s4⟩; go_simp; with_reducible rfl)
         refine one_ (i := 9) (N := some 48) (Fn.bl 17 1023) rfl rfl (one_of HT_.out (by kernel_rfl)) (by decide) (fun K hK => ?_)
         refine goes_ Try.func91 (by kernel_rfl) rfl #[.agg #[.int .i64 a0_0, .int .i64 a0_1, .slice A0_2 l0_2.length c0_2], .int .i64 (rd t567 a2), .int .i64 (rd t570 a3)] (by rfl) rfl rfl ta_ ?_
         with_reducible refine (impl_Board_crossing.calls a0_0 a0_1 _ _ l0_2 (rd t567 a2) (rd t570 a3) t575 t576 false _ ?side1 ?side2 A25.out).mono ?_
         (case side1 => exact tc_ HR0_2.out)
         (case side2 => exact HC0_2.out)
         rintro e w40 ⟨rfl, hb⟩
         have HS3_ := (hb.cell (World.block_lt_of_cell? _ _ (hHeld.2.2.2.1))).trans (hHeld.2.2.2.1)
         have HS4_ := (hb.cell (World.block_lt_of_cell? _ _ (hHeld.2.2.2.2))).trans (hHeld.2.2.2.2)
         refine ⟨_, rfl, ?_⟩
         have n0_ := A_ (Kd.R_below (tr_x HO_566002.out) hb)
         have n1_ := A_ (Kd.R_below (tr_x HO569.out) hb)
         have n2_ := A_ (Kd.R_below (tr_x HO572.out) hb)
         have n3_ := A_ (blk_below (g := gb558) (o := .cells #[.int .i64 a0_0, .int .i64 a0_1, .slice A0_2 l0_2.length c0_2] 26 (0, 0)) (tk_ BK558) hb)
         have n4_ := A_ (blk_below (g := gb565) (o := .cells #[.int .i64 t559, .int .i64 t560, .slice Ao13 t561.length co13] 26 (0, 0)) (tk_ BK565) hb)
         have n5_ := A_ (below_step tb_ hb)
         clear HO_566002
         clear HO569
         clear HO572
         clear BK558
         clear BK565
         clear HB
         have HO_566002 := n0_
         have HO569 := n1_
         have HO572 := n2_
         have BK558 := n3_
         have BK565 := n4_
         have HB := n5_
         clear n0_ n1_ n2_ n3_ n4_ n5_
         (try clear hb)
         (try clear hb2)
         (try clear hk)
         (try clear hi)
         refine hK.out _ _ ⟨(blk_cell BK558.out 0).trans rfl, (blk_cell BK558.out 1).trans rfl, (blk_cell BK558.out 2).trans rfl, HS3_, HS4_⟩ (fun hHeld => ?_)
         clear hK K
         refine norm_ (a' := ?_) ?_ ?_
         rotate_left
         ·
          show Act.put _ (some 48) _ = _
          simp only [Act.put, List.setIfInBounds_toArray, List.set_cons_zero, List.set_cons_succ, i64_w, i32_w]
          rfl
         refine pq_ 10 (some 38) (Fn.bl 17 2047) HT_.out ?_
         refine pq_ 11 (some 49) (Fn.bl 17 4095) HT_.out ?_
         refine pq_ 12 (some 50) (Fn.bl 17 8191) HT_.out ?_
         refine pq_ 13 (some 51) (Fn.bl 17 16383) HT_.out ?_
         refine pq_ 14 (some 15) (Fn.bl 17 32767) HT_.out ?_
         refine pq_ 15 (some 16) (Fn.bl 17 65535) HT_.out ?_
         refine pq_ 16 (some 12) (Fn.bl 17 131071) HT_.out ?_
         refine done_ (done_of HT_.out (by kernel_rfl)) ?_
         try go_wp2
         go_ret3
         exact ⟨te_, tb_⟩
       ·
        rw [if_neg c24] at H
        exact absurd H (by simp)
      ·
       rw [if_neg c23] at H
       exact absurd H (by simp)
     ·
      rw [if_neg c22] at H
      exact absurd H (by simp)
    ·
     rw [if_neg c21] at H
     exact absurd H (by simp)

/-! ### spec_biColour: function 92 -/
def spec_biColour.f (a0 : Int) : Option (Bool) := (spec_l1In.f a0 0 1).bind fun t578 => (some t578)
theorem spec_biColour.calls (a0 : Int) (r : Bool) (w : World) (h : spec_biColour.f a0 = some r) :
  Calls Try.prog 92 #[.int .i64 a0] w fun e w' => e = .returned (.bool r) ∧ Drawn0 w w' := by
 have H : ((spec_l1In.f a0 0 1).bind fun t578 => (some t578)) = some r := h
 clear h
 replace H := Option.bind_eq_some_iff.mp H
 obtain ⟨t578, A20, H⟩ := H
 replace H : (some t578) = some r := H
 have A2 := A_ A20
 clear A20
 obtain rfl := Option.some.inj H
 go_enter Try.func92, Try.ntmps92
 go_wp2_with (first | (refine gc_ 105 ?_; refine goesT_ (some 4) Try.func105 #[.int .i64 a0, .int .i64 0, .int .i64 1] ?_; (with_reducible refine (spec_l1In.calls a0 0 1 t578 _ A2.out).mono ?_); rintro e w' ⟨rfl, ⟨nd, rfl⟩⟩; refine ⟨_, rfl, ?_⟩))
 go_ret
 exact ⟨tf_, dr_⟩

end
end Go.Proofs.Ytjjfcghoikdopaa.P
