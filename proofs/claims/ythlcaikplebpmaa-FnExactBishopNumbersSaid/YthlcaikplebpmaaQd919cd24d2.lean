-- printed functions (wip/slim.py)
import Derived.Test.YthlcaikplebpmaaPx0
import Derived.Test.YthlcaikplebpmaaQb269d509c4
import Derived.Test.YthlcaikplebpmaaQ53cef9bec4
import Derived.Test.YthlcaikplebpmaaQ494f91a220
import Derived.Test.YthlcaikplebpmaaQ55a3c8de3f
namespace Go.Proofs.Ythlcaikplebpmaa.P
noncomputable section
set_option maxHeartbeats 8000000
set_option maxRecDepth 100000
open Go.RowKit Go.Proofs.YthlcaikplebpmaaW.PrintWords Go.Proofs.YthlcaikplebpmaaW.PrintLast Go.Proofs.YthlcaikplebpmaaW.PrintMore
attribute [local go_sem] max2_int min2_int max_two min_two max_three min_three max_four min_four   -- for this text's walks alone
set_option linter.unusedVariables false
set_option linter.unusedSimpArgs false

/-! ### laws_FnExactBishopNumbers: function 5 -/
mutual
def laws_FnExactBishopNumbers.j0 : Nat → List Int → Bool → List Int → Bool → Bool → Int → Int → List Int → Int → Int → List Int → Option (Bool)
 | 0, _, _, _, _, _, _, _, _, _, _, _ => none
 | k + 1, x4, x5, x7, x8, x40, x628000, x628001, x628002, x644000, x644001, x644002 => if x40 = true then (some false) else ((laws_toBoard.f k x628000 x628001 x628002).bind fun bt649 => ((laws_eqBoard.f k x644000 x644001 x644002 bt649.1 bt649.2.1 bt649.2.2).bind fun t654 => (if t654 = true then ((laws_markBoard.f k x644000 x644001 x644002 1).bind fun bt655 => (if bt655.1 < 0 then (laws_FnExactBishopNumbers.j1 k x4 x5 x7 true x628000 x628001 x628002) else ((laws_eqIntS.f k x7 x4).bind fun t657 => (if t657 = true then (laws_FnExactBishopNumbers.j1 k x4 x5 x7 (x8 != x5) x628000 x628001 x628002) else (laws_FnExactBishopNumbers.j1 k x4 x5 x7 true x628000 x628001 x628002))))) else (some false))))
def laws_FnExactBishopNumbers.j1 : Nat → List Int → Bool → List Int → Bool → Int → Int → List Int → Option (Bool)
 | 0, _, _, _, _, _, _, _ => none
 | k + 1, x4, x5, x7, x61, x628000, x628001, x628002 => if x61 = true then (some false) else ((laws_markIntS.f k x7 1).bind fun bt658 => ((laws_heldIntS.f k bt658.2 1).bind fun t660 => (if t660 < 0 then (some false) else (if t660 = bt658.1 then ((laws_toBoard.f k x628000 x628001 x628002).bind fun bt661 => ((impl_BishopNumbers.f k bt661.1 bt661.2.1 bt661.2.2).bind fun bt666 => ((laws_eqIntS.f k bt666.1 x4).bind fun t670 => (if t670 = true then (laws_FnExactBishopNumbers.j2 k bt658.2 bt658.1 (bt666.2 != x5)) else (laws_FnExactBishopNumbers.j2 k bt658.2 bt658.1 true))))) else (some false)))))
def laws_FnExactBishopNumbers.j2 : Nat → List Int → Int → Bool → Option (Bool)
 | 0, _, _, _ => none
 | k + 1, x7, x10, x87 => if x87 = true then (some false) else ((laws_heldIntS.f k x7 1).bind fun t671 => (if t671 < 0 then (some false) else (if t671 = x10 then (some true) else (some false))))
end
def laws_FnExactBishopNumbers.f (k : Nat) (a0_0 : Int) (a0_1 : Int) (l0_2 : List Int) : Option (Bool) := (laws_szBoard.f a0_0 a0_1 l0_2 1048576).bind fun t628 => (if t628 < 0 then (some true) else ((laws_toBoard.f k a0_0 a0_1 l0_2).bind fun bt629 => ((spec_BishopNumbers.f k bt629.1 bt629.2.1 bt629.2.2).bind fun bt634 => ((laws_toBoard.f k a0_0 a0_1 l0_2).bind fun bt638 => ((impl_BishopNumbers.f k bt638.1 bt638.2.1 bt638.2.2).bind fun bt644 => ((laws_eqIntS.f k bt644.1 bt634.1).bind fun t648 => (if t648 = true then (laws_FnExactBishopNumbers.j0 k bt634.1 bt634.2 bt644.1 bt644.2 (bt644.2 != bt634.2) a0_0 a0_1 l0_2 bt638.1 bt638.2.1 bt638.2.2) else (laws_FnExactBishopNumbers.j0 k bt634.1 bt634.2 bt644.1 bt644.2 true a0_0 a0_1 l0_2 bt638.1 bt638.2.1 bt638.2.2))))))))
theorem laws_FnExactBishopNumbers.mono_l : ∀ k, (∀ y0 y1 y2 y3 y4 y5 y6 y7 y8 y9 y10, LeO (laws_FnExactBishopNumbers.j0 k y0 y1 y2 y3 y4 y5 y6 y7 y8 y9 y10) (laws_FnExactBishopNumbers.j0 (k + 1) y0 y1 y2 y3 y4 y5 y6 y7 y8 y9 y10)) ∧ (∀ y0 y1 y2 y3 y4 y5 y6, LeO (laws_FnExactBishopNumbers.j1 k y0 y1 y2 y3 y4 y5 y6) (laws_FnExactBishopNumbers.j1 (k + 1) y0 y1 y2 y3 y4 y5 y6)) ∧ (∀ y0 y1 y2, LeO (laws_FnExactBishopNumbers.j2 k y0 y1 y2) (laws_FnExactBishopNumbers.j2 (k + 1) y0 y1 y2))
 | 0 => ⟨fun _ _ _ _ _ _ _ _ _ _ _ r h => by simp [laws_FnExactBishopNumbers.j0] at h, fun _ _ _ _ _ _ _ r h => by simp [laws_FnExactBishopNumbers.j1] at h, fun _ _ _ r h => by simp [laws_FnExactBishopNumbers.j2] at h⟩
 | k + 1 => by
  obtain ⟨ih0, ih1, ih2⟩ := laws_FnExactBishopNumbers.mono_l k
  refine ⟨?_, ?_, ?_⟩
  ·
   intro y0 y1 y2 y3 y4 y5 y6 y7 y8 y9 y10
   unfold laws_FnExactBishopNumbers.j0
   repeat' first | (with_reducible first | exact ih0 _ _ _ _ _ _ _ _ _ _ _ | exact ih1 _ _ _ _ _ _ _ | exact ih2 _ _ _ | exact impl_BishopNumbers.mono _ _ _ _ | exact laws_eqBoard.mono _ _ _ _ _ _ _ | exact laws_eqIntS.mono _ _ _ | exact laws_heldIntS.mono _ _ _ | exact laws_markBoard.mono _ _ _ _ _ | exact laws_markIntS.mono _ _ _ | exact laws_toBoard.mono _ _ _ _ | exact spec_BishopNumbers.mono _ _ _ _ | exact LeO.refl _ | exact LeO.none _ | refine LeO.ite ?_ ?_ | refine LeO.bind ?_ (fun _ => ?_)) | exact ih0 _ _ _ _ _ _ _ _ _ _ _ | exact ih1 _ _ _ _ _ _ _ | exact ih2 _ _ _ | exact impl_BishopNumbers.mono _ _ _ _ | exact laws_eqBoard.mono _ _ _ _ _ _ _ | exact laws_eqIntS.mono _ _ _ | exact laws_heldIntS.mono _ _ _ | exact laws_markBoard.mono _ _ _ _ _ | exact laws_markIntS.mono _ _ _ | exact laws_toBoard.mono _ _ _ _ | exact spec_BishopNumbers.mono _ _ _ _ | exact LeO.none _ | refine LeO.ite ?_ ?_ | refine LeO.bind ?_ (fun _ => ?_)
  ·
   intro y0 y1 y2 y3 y4 y5 y6
   unfold laws_FnExactBishopNumbers.j1
   repeat' first | (with_reducible first | exact ih0 _ _ _ _ _ _ _ _ _ _ _ | exact ih1 _ _ _ _ _ _ _ | exact ih2 _ _ _ | exact impl_BishopNumbers.mono _ _ _ _ | exact laws_eqBoard.mono _ _ _ _ _ _ _ | exact laws_eqIntS.mono _ _ _ | exact laws_heldIntS.mono _ _ _ | exact laws_markBoard.mono _ _ _ _ _ | exact laws_markIntS.mono _ _ _ | exact laws_toBoard.mono _ _ _ _ | exact spec_BishopNumbers.mono _ _ _ _ | exact LeO.refl _ | exact LeO.none _ | refine LeO.ite ?_ ?_ | refine LeO.bind ?_ (fun _ => ?_)) | exact ih0 _ _ _ _ _ _ _ _ _ _ _ | exact ih1 _ _ _ _ _ _ _ | exact ih2 _ _ _ | exact impl_BishopNumbers.mono _ _ _ _ | exact laws_eqBoard.mono _ _ _ _ _ _ _ | exact laws_eqIntS.mono _ _ _ | exact laws_heldIntS.mono _ _ _ | exact laws_markBoard.mono _ _ _ _ _ | exact laws_markIntS.mono _ _ _ | exact laws_toBoard.mono _ _ _ _ | exact spec_BishopNumbers.mono _ _ _ _ | exact LeO.none _ | refine LeO.ite ?_ ?_ | refine LeO.bind ?_ (fun _ => ?_)
  ·
   intro y0 y1 y2
   unfold laws_FnExactBishopNumbers.j2
   repeat' first | (with_reducible first | exact ih0 _ _ _ _ _ _ _ _ _ _ _ | exact ih1 _ _ _ _ _ _ _ | exact ih2 _ _ _ | exact impl_BishopNumbers.mono _ _ _ _ | exact laws_eqBoard.mono _ _ _ _ _ _ _ | exact laws_eqIntS.mono _ _ _ | exact laws_heldIntS.mono _ _ _ | exact laws_markBoard.mono _ _ _ _ _ | exact laws_markIntS.mono _ _ _ | exact laws_toBoard.mono _ _ _ _ | exact spec_BishopNumbers.mono _ _ _ _ | exact LeO.refl _ | exact LeO.none _ | refine LeO.ite ?_ ?_ | refine LeO.bind ?_ (fun _ => ?_)) | exact ih0 _ _ _ _ _ _ _ _ _ _ _ | exact ih1 _ _ _ _ _ _ _ | exact ih2 _ _ _ | exact impl_BishopNumbers.mono _ _ _ _ | exact laws_eqBoard.mono _ _ _ _ _ _ _ | exact laws_eqIntS.mono _ _ _ | exact laws_heldIntS.mono _ _ _ | exact laws_markBoard.mono _ _ _ _ _ | exact laws_markIntS.mono _ _ _ | exact laws_toBoard.mono _ _ _ _ | exact spec_BishopNumbers.mono _ _ _ _ | exact LeO.none _ | refine LeO.ite ?_ ?_ | refine LeO.bind ?_ (fun _ => ?_)
theorem laws_FnExactBishopNumbers.mono : ∀ a0 a1 a2 k, LeO (laws_FnExactBishopNumbers.f k a0 a1 a2) (laws_FnExactBishopNumbers.f (k + 1) a0 a1 a2) := by
 intro a0 a1 a2 k
 obtain ⟨ih0, ih1, ih2⟩ := laws_FnExactBishopNumbers.mono_l k
 unfold laws_FnExactBishopNumbers.f
 repeat' first | (with_reducible first | exact ih0 _ _ _ _ _ _ _ _ _ _ _ | exact ih1 _ _ _ _ _ _ _ | exact ih2 _ _ _ | exact impl_BishopNumbers.mono _ _ _ _ | exact laws_eqBoard.mono _ _ _ _ _ _ _ | exact laws_eqIntS.mono _ _ _ | exact laws_heldIntS.mono _ _ _ | exact laws_markBoard.mono _ _ _ _ _ | exact laws_markIntS.mono _ _ _ | exact laws_toBoard.mono _ _ _ _ | exact spec_BishopNumbers.mono _ _ _ _ | exact LeO.refl _ | exact LeO.none _ | refine LeO.ite ?_ ?_ | refine LeO.bind ?_ (fun _ => ?_)) | exact ih0 _ _ _ _ _ _ _ _ _ _ _ | exact ih1 _ _ _ _ _ _ _ | exact ih2 _ _ _ | exact impl_BishopNumbers.mono _ _ _ _ | exact laws_eqBoard.mono _ _ _ _ _ _ _ | exact laws_eqIntS.mono _ _ _ | exact laws_heldIntS.mono _ _ _ | exact laws_markBoard.mono _ _ _ _ _ | exact laws_markIntS.mono _ _ _ | exact laws_toBoard.mono _ _ _ _ | exact spec_BishopNumbers.mono _ _ _ _ | exact LeO.none _ | refine LeO.ite ?_ ?_ | refine LeO.bind ?_ (fun _ => ?_)
theorem laws_FnExactBishopNumbers.calls (k : Nat) (a0_0 : Int) (a0_1 : Int) (A0_2 : Option Addr) (c0_2 : Nat) (l0_2 : List Int) (r : Bool) (w : World) (hr0_2 : Kd.C (Kd.int .i64) w A0_2 l0_2.length l0_2) (hc0_2 : l0_2.length ≤ c0_2) (h : laws_FnExactBishopNumbers.f k a0_0 a0_1 l0_2 = some r) :
  Calls Try.prog 5 #[.agg #[.int .i64 a0_0, .int .i64 a0_1, .slice A0_2 l0_2.length c0_2]] w fun e w' => e = .returned (.bool r) ∧ Below w.heap.size w w' := by
 have hu24 := Try.underlying24
 have hu26 := Try.underlying26
 have HR0_2 := A_ hr0_2
 have HC0_2 := A_ hc0_2
 clear hr0_2 hc0_2
 have HB := A_ (Below.refl w.heap.size w)
 have H : ((laws_szBoard.f a0_0 a0_1 l0_2 1048576).bind fun t628 => (if t628 < 0 then (some true) else ((laws_toBoard.f k a0_0 a0_1 l0_2).bind fun bt629 => ((spec_BishopNumbers.f k bt629.1 bt629.2.1 bt629.2.2).bind fun bt634 => ((laws_toBoard.f k a0_0 a0_1 l0_2).bind fun bt638 => ((impl_BishopNumbers.f k bt638.1 bt638.2.1 bt638.2.2).bind fun bt644 => ((laws_eqIntS.f k bt644.1 bt634.1).bind fun t648 => (if t648 = true then (laws_FnExactBishopNumbers.j0 k bt634.1 bt634.2 bt644.1 bt644.2 (bt644.2 != bt634.2) a0_0 a0_1 l0_2 bt638.1 bt638.2.1 bt638.2.2) else (laws_FnExactBishopNumbers.j0 k bt634.1 bt634.2 bt644.1 bt644.2 true a0_0 a0_1 l0_2 bt638.1 bt638.2.1 bt638.2.2))))))))) = some r := h
 clear h
 replace H := Option.bind_eq_some_iff.mp H
 obtain ⟨t628, A20, H⟩ := H
 replace H : (if t628 < 0 then (some true) else ((laws_toBoard.f k a0_0 a0_1 l0_2).bind fun bt629 => ((spec_BishopNumbers.f k bt629.1 bt629.2.1 bt629.2.2).bind fun bt634 => ((laws_toBoard.f k a0_0 a0_1 l0_2).bind fun bt638 => ((impl_BishopNumbers.f k bt638.1 bt638.2.1 bt638.2.2).bind fun bt644 => ((laws_eqIntS.f k bt644.1 bt634.1).bind fun t648 => (if t648 = true then (laws_FnExactBishopNumbers.j0 k bt634.1 bt634.2 bt644.1 bt644.2 (bt644.2 != bt634.2) a0_0 a0_1 l0_2 bt638.1 bt638.2.1 bt638.2.2) else (laws_FnExactBishopNumbers.j0 k bt634.1 bt634.2 bt644.1 bt644.2 true a0_0 a0_1 l0_2 bt638.1 bt638.2.1 bt638.2.2)))))))) = some r := H
 have A2 := A_ A20
 clear A20
 by_cases c3 : t628 < 0
 ·
  rw [if_pos c3] at H
  have c3b0 := decide_eq_true c3
  clear c3
  obtain rfl := Option.some.inj H
  go_enter Try.func5, Try.ntmps5
  go_wp2_with (first | (refine gd_ 1 ?_; refine bx_ 1 #[.int .i64 a0_0, .int .i64 a0_1, .slice A0_2 l0_2.length c0_2] 24 ?_; intro gb627 hg w4 hbox hb; have BK627 := A_ (hbox); have GW627 := A_ ((ts_ hg : w.heap.size ≤ gb627)); have GE627 := A_ ((ts_ hg : w.heap.size ≤ gb627)); replace HB := A_ (below_step tb_ hb); clear hb hbox hg; obtain ⟨hcz5_0, hcz5_1, hcz5_2, hfz5_0, hfz5_1, hfz5_2⟩ := cf3_ BK627.out) | (refine gc_ 17 ?_; refine goesT_ (some 16) Try.func17 #[.agg #[.int .i64 a0_0, .int .i64 a0_1, .slice A0_2 l0_2.length c0_2], .int .i64 1048576] ?_; (with_reducible refine (laws_szBoard.calls a0_0 a0_1 _ _ l0_2 1048576 t628 _ ?side1 ?side2 A2.out).mono ?_); (case side1 => exact tc_ HR0_2.out); (case side2 => exact HC0_2.out); rintro e w6 ⟨rfl, hb⟩; refine ⟨_, rfl, ?_⟩; replace BK627 := A_ (blk_below (g := gb627) (o := .cells #[.int .i64 a0_0, .int .i64 a0_1, .slice A0_2 l0_2.length c0_2] 24 (0, 0)) (tk_ BK627) hb); replace HB := A_ (below_step tb_ hb); (try clear hb)))
  go_ret
  exact ⟨te_, tb_⟩
 ·
  rw [if_neg c3] at H
  have c3b0 := decide_eq_false c3
  clear c3
  replace H := Option.bind_eq_some_iff.mp H
  obtain ⟨⟨t629, t630, t631⟩, A70, H⟩ := H
  replace H : ((spec_BishopNumbers.f k t629 t630 t631).bind fun bt634 => ((laws_toBoard.f k a0_0 a0_1 l0_2).bind fun bt638 => ((impl_BishopNumbers.f k bt638.1 bt638.2.1 bt638.2.2).bind fun bt644 => ((laws_eqIntS.f k bt644.1 bt634.1).bind fun t648 => (if t648 = true then (laws_FnExactBishopNumbers.j0 k bt634.1 bt634.2 bt644.1 bt644.2 (bt644.2 != bt634.2) a0_0 a0_1 l0_2 bt638.1 bt638.2.1 bt638.2.2) else (laws_FnExactBishopNumbers.j0 k bt634.1 bt634.2 bt644.1 bt644.2 true a0_0 a0_1 l0_2 bt638.1 bt638.2.1 bt638.2.2)))))) = some r := H
  have A7 := A_ A70
  clear A70
  replace H := Option.bind_eq_some_iff.mp H
  obtain ⟨⟨t634, t637⟩, A80, H⟩ := H
  replace H : ((laws_toBoard.f k a0_0 a0_1 l0_2).bind fun bt638 => ((impl_BishopNumbers.f k bt638.1 bt638.2.1 bt638.2.2).bind fun bt644 => ((laws_eqIntS.f k bt644.1 t634).bind fun t648 => (if t648 = true then (laws_FnExactBishopNumbers.j0 k t634 t637 bt644.1 bt644.2 (bt644.2 != t637) a0_0 a0_1 l0_2 bt638.1 bt638.2.1 bt638.2.2) else (laws_FnExactBishopNumbers.j0 k t634 t637 bt644.1 bt644.2 true a0_0 a0_1 l0_2 bt638.1 bt638.2.1 bt638.2.2))))) = some r := H
  have A8 := A_ A80
  clear A80
  replace H := Option.bind_eq_some_iff.mp H
  obtain ⟨⟨t638, t639, t640⟩, A90, H⟩ := H
  replace H : ((impl_BishopNumbers.f k t638 t639 t640).bind fun bt644 => ((laws_eqIntS.f k bt644.1 t634).bind fun t648 => (if t648 = true then (laws_FnExactBishopNumbers.j0 k t634 t637 bt644.1 bt644.2 (bt644.2 != t637) a0_0 a0_1 l0_2 t638 t639 t640) else (laws_FnExactBishopNumbers.j0 k t634 t637 bt644.1 bt644.2 true a0_0 a0_1 l0_2 t638 t639 t640)))) = some r := H
  have A9 := A_ A90
  clear A90
  replace H := Option.bind_eq_some_iff.mp H
  obtain ⟨⟨t644, t647⟩, A100, H⟩ := H
  replace H : ((laws_eqIntS.f k t644 t634).bind fun t648 => (if t648 = true then (laws_FnExactBishopNumbers.j0 k t634 t637 t644 t647 (t647 != t637) a0_0 a0_1 l0_2 t638 t639 t640) else (laws_FnExactBishopNumbers.j0 k t634 t637 t644 t647 true a0_0 a0_1 l0_2 t638 t639 t640))) = some r := H
  have A10 := A_ A100
  clear A100
  have HC11 := A_ H
  clear H
  go_enter Try.func5, Try.ntmps5
  go_upto_region 8 with (first | (refine gd_ 1 ?_; refine bx_ 1 #[.int .i64 a0_0, .int .i64 a0_1, .slice A0_2 l0_2.length c0_2] 24 ?_; intro gb627 hg w12 hbox hb; have BK627 := A_ (hbox); have GW627 := A_ ((ts_ hg : w.heap.size ≤ gb627)); have GE627 := A_ ((ts_ hg : w.heap.size ≤ gb627)); replace HB := A_ (below_step tb_ hb); clear hb hbox hg; obtain ⟨hcz13_0, hcz13_1, hcz13_2, hfz13_0, hfz13_1, hfz13_2⟩ := cf3_ BK627.out) | (refine gc_ 17 ?_; refine goesT_ (some 16) Try.func17 #[.agg #[.int .i64 a0_0, .int .i64 a0_1, .slice A0_2 l0_2.length c0_2], .int .i64 1048576] ?_; (with_reducible refine (laws_szBoard.calls a0_0 a0_1 _ _ l0_2 1048576 t628 _ ?side1 ?side2 A2.out).mono ?_); (case side1 => exact tc_ HR0_2.out); (case side2 => exact HC0_2.out); rintro e w14 ⟨rfl, hb⟩; refine ⟨_, rfl, ?_⟩; replace BK627 := A_ (blk_below (g := gb627) (o := .cells #[.int .i64 a0_0, .int .i64 a0_1, .slice A0_2 l0_2.length c0_2] 24 (0, 0)) (tk_ BK627) hb); replace HB := A_ (below_step tb_ hb); (try clear hb); obtain ⟨hcz15_0, hcz15_1, hcz15_2, hfz15_0, hfz15_1, hfz15_2⟩ := cf3_ BK627.out) | (refine gc_ 19 ?_; refine goesT_ (some 21) Try.func19 #[.agg #[.int .i64 a0_0, .int .i64 a0_1, .slice A0_2 l0_2.length c0_2]] ?_; (with_reducible refine (laws_toBoard.calls k a0_0 a0_1 _ _ l0_2 t629 t630 t631 _ ?side1 ?side2 A7.out).mono ?_); (case side1 => exact tc_ HR0_2.out); (case side2 => exact HC0_2.out); rintro e w16 ⟨v632, rfl, ho0, hb⟩; refine ⟨_, rfl, ?_⟩; have HO633 := A_ (Kd.R_lower ho0 (below_size tb_)); replace BK627 := A_ (blk_below (g := gb627) (o := .cells #[.int .i64 a0_0, .int .i64 a0_1, .slice A0_2 l0_2.length c0_2] 24 (0, 0)) (tk_ BK627) hb); replace HB := A_ (below_step tb_ hb); (try clear hb); (try clear ho0); obtain ⟨Ao17, co17, eo17⟩ := Kd.R_slice HO633.out; subst eo17) | (refine gc_ 26 ?_; refine goesT_ (some 22) Try.func26 #[.agg #[.int .i64 t629, .int .i64 t630, .slice Ao17 t631.length co17]] ?_; (with_reducible refine (spec_BishopNumbers.calls k t629 t630 _ _ t631 t634 t637 _ ?side1 ?side2 A8.out).mono ?_); (case side1 => exact tc0_ (Kd.R_reads' HO633.out).2.2); (case side2 => exact (Kd.R_reads' HO633.out).2.1); rintro e w18 ⟨v635, rfl, ho0, hb⟩; refine ⟨_, rfl, ?_⟩; have HO636 := A_ (Kd.R_lower (Kd.R_new' ho0 (Kd.R_lt (tr_x HO633.out))) (below_size tb_)); replace HO633 := A_ (Kd.R_elder' (tr_x HO633.out) (Kd.R_base ho0) hb); replace BK627 := A_ (blk_below (g := gb627) (o := .cells #[.int .i64 a0_0, .int .i64 a0_1, .slice A0_2 l0_2.length c0_2] 24 (0, 0)) (tk_ BK627) hb); replace HB := A_ (below_step tb_ hb); (try clear hb); (try clear ho0); obtain ⟨hcz19_0, hcz19_1, hcz19_2, hfz19_0, hfz19_1, hfz19_2⟩ := cf3_ BK627.out) | (refine gc_ 19 ?_; refine goesT_ (some 26) Try.func19 #[.agg #[.int .i64 a0_0, .int .i64 a0_1, .slice A0_2 l0_2.length c0_2]] ?_; (with_reducible refine (laws_toBoard.calls k a0_0 a0_1 _ _ l0_2 t638 t639 t640 _ ?side1 ?side2 A9.out).mono ?_); (case side1 => exact tc_ HR0_2.out); (case side2 => exact HC0_2.out); rintro e w20 ⟨v641, rfl, ho0, hb⟩; refine ⟨_, rfl, ?_⟩; have HO642 := A_ (Kd.R_lower (Kd.R_new' (Kd.R_new' ho0 (Kd.R_lt (tr_x HO633.out))) (Kd.R_lt (tr_x HO636.out))) (below_size tb_)); replace HO633 := A_ (Kd.R_elder' (tr_x HO633.out) (Kd.R_base ho0) hb); replace HO636 := A_ (Kd.R_elder' (tr_x HO636.out) (Kd.R_base ho0) hb); replace BK627 := A_ (blk_below (g := gb627) (o := .cells #[.int .i64 a0_0, .int .i64 a0_1, .slice A0_2 l0_2.length c0_2] 24 (0, 0)) (tk_ BK627) hb); replace HB := A_ (below_step tb_ hb); (try clear hb); (try clear ho0)) | (refine gd_ 6 ?_; refine bx_ 6 #[.int .i64 0, .int .i64 0, .slice none 0 0] 26 ?_; intro gb643 hg w21 hbox hb; replace HO633 := A_ (Kd.R_below (tr_x HO633.out) hb); replace HO636 := A_ (Kd.R_below (tr_x HO636.out) hb); replace HO642 := A_ (Kd.R_below (tr_x HO642.out) hb); have BK643 := A_ (hbox); have GW643 := A_ ((ts_ hg : w.heap.size ≤ gb643)); have GE643 := A_ ((ts_ hg : w.heap.size ≤ gb643)); replace HB := A_ (below_step tb_ hb); have NB627_643 := A_ ((by rw [hg]; exact Nat.ne_of_lt (blk_lt (g := gb627) (o := .cells #[.int .i64 a0_0, .int .i64 a0_1, .slice A0_2 l0_2.length c0_2] 24 (0, 0)) (tk_ BK627)) : gb627 ≠ gb643)); have NB643_627 := A_ ((by rw [hg]; exact Nat.ne_of_gt (blk_lt (g := gb627) (o := .cells #[.int .i64 a0_0, .int .i64 a0_1, .slice A0_2 l0_2.length c0_2] 24 (0, 0)) (tk_ BK627)) : gb643 ≠ gb627)); replace BK627 := A_ (blk_below (g := gb627) (o := .cells #[.int .i64 a0_0, .int .i64 a0_1, .slice A0_2 l0_2.length c0_2] 24 (0, 0)) (tk_ BK627) hb); clear hb hbox hg; have hnb22 := NB643_627.out; have hnc22 := NB627_643.out; obtain ⟨hcz23_0, hcz23_1, hcz23_2, hfz23_0, hfz23_1, hfz23_2⟩ := cf3_ BK643.out; obtain ⟨Ao24, co24, eo24⟩ := Kd.R_slice HO642.out; subst eo24) | (refine gc_ 27 ?_; refine goesT_ (some 29) Try.func27 #[.agg #[.int .i64 t638, .int .i64 t639, .slice Ao24 t640.length co24]] ?_; (with_reducible refine (impl_BishopNumbers.calls k t638 t639 _ _ t640 t644 t647 _ ?side1 ?side2 A10.out).mono ?_); (case side1 => refine (Kd.R_reads' (e := 3) (base := w.heap.size) (ok := fun k_ => ((True ∧ some k_ ≠ (.slice Ao17 t631.length co17 : Value).ownBlock) ∧ some k_ ≠ (v635 : Value).ownBlock)) (n := t640.length) (c := co24) ?_).2.2; exact (tr_ (h := by exact (Kd.R_mono (Kd.R_far (p := ⟨gb643, 2, none⟩) (Kd.R_far (p := ⟨gb643, 1, none⟩) (Kd.R_far (p := ⟨gb643, 0, none⟩) (Kd.R_types HO642.out BK643.out (by decide)) (fun _ hk => hk.2) (.int .i64 t638)) (fun _ hk => hk.2) (.int .i64 t639)) (fun _ hk => hk.2) (.slice Ao24 t640.length co24)) (fun _ h_ => h_.1))))); (case side2 => exact (Kd.R_reads' HO642.out).2.1); rintro e w25 ⟨v645, rfl, ho0, hb⟩; refine ⟨_, rfl, ?_⟩; have HO646 := A_ (Kd.R_lower (Kd.R_new' (Kd.R_new' (Kd.R_new' ho0 (Kd.R_lt (tr_ (h := by exact (Kd.R_mono (Kd.R_far (p := ⟨gb643, 2, none⟩) (Kd.R_far (p := ⟨gb643, 1, none⟩) (Kd.R_far (p := ⟨gb643, 0, none⟩) (Kd.R_types HO633.out BK643.out (by decide)) (fun _ hk => hk.2) (.int .i64 t638)) (fun _ hk => hk.2) (.int .i64 t639)) (fun _ hk => hk.2) (.slice Ao24 t640.length co24)) (fun _ h_ => h_.1)))))) (Kd.R_lt (tr_ (h := by exact (Kd.R_mono (Kd.R_far (p := ⟨gb643, 2, none⟩) (Kd.R_far (p := ⟨gb643, 1, none⟩) (Kd.R_far (p := ⟨gb643, 0, none⟩) (Kd.R_types HO636.out BK643.out (by decide)) (fun _ hk => hk.2) (.int .i64 t638)) (fun _ hk => hk.2) (.int .i64 t639)) (fun _ hk => hk.2) (.slice Ao24 t640.length co24)) (fun _ h_ => h_.1)))))) (Kd.R_lt (tr_ (h := by exact (Kd.R_mono (Kd.R_far (p := ⟨gb643, 2, none⟩) (Kd.R_far (p := ⟨gb643, 1, none⟩) (Kd.R_far (p := ⟨gb643, 0, none⟩) (Kd.R_types HO642.out BK643.out (by decide)) (fun _ hk => hk.2) (.int .i64 t638)) (fun _ hk => hk.2) (.int .i64 t639)) (fun _ hk => hk.2) (.slice Ao24 t640.length co24)) (fun _ h_ => h_.1)))))) (below_size tb_)); replace HO633 := A_ (Kd.R_elder' (tr_ (h := by exact (Kd.R_mono (Kd.R_far (p := ⟨gb643, 2, none⟩) (Kd.R_far (p := ⟨gb643, 1, none⟩) (Kd.R_far (p := ⟨gb643, 0, none⟩) (Kd.R_types HO633.out BK643.out (by decide)) (fun _ hk => hk.2) (.int .i64 t638)) (fun _ hk => hk.2) (.int .i64 t639)) (fun _ hk => hk.2) (.slice Ao24 t640.length co24)) (fun _ h_ => h_.1)))) (Kd.R_base ho0) hb); replace HO636 := A_ (Kd.R_elder' (tr_ (h := by exact (Kd.R_mono (Kd.R_far (p := ⟨gb643, 2, none⟩) (Kd.R_far (p := ⟨gb643, 1, none⟩) (Kd.R_far (p := ⟨gb643, 0, none⟩) (Kd.R_types HO636.out BK643.out (by decide)) (fun _ hk => hk.2) (.int .i64 t638)) (fun _ hk => hk.2) (.int .i64 t639)) (fun _ hk => hk.2) (.slice Ao24 t640.length co24)) (fun _ h_ => h_.1)))) (Kd.R_base ho0) hb); replace HO642 := A_ (Kd.R_elder' (tr_ (h := by exact (Kd.R_mono (Kd.R_far (p := ⟨gb643, 2, none⟩) (Kd.R_far (p := ⟨gb643, 1, none⟩) (Kd.R_far (p := ⟨gb643, 0, none⟩) (Kd.R_types HO642.out BK643.out (by decide)) (fun _ hk => hk.2) (.int .i64 t638)) (fun _ hk => hk.2) (.int .i64 t639)) (fun _ hk => hk.2) (.slice Ao24 t640.length co24)) (fun _ h_ => h_.1)))) (Kd.R_base ho0) hb); replace BK627 := A_ (blk_below (g := gb627) (o := .cells #[.int .i64 a0_0, .int .i64 a0_1, .slice A0_2 l0_2.length c0_2] 24 (0, 0)) (tk_ BK627) hb); replace BK643 := A_ (blk_below (g := gb643) (o := .cells #[.int .i64 t638, .int .i64 t639, .slice Ao24 t640.length co24] 26 (0, 0)) (by (with_reducible repeat (first | refine blk_drewN ?_ _ | refine blk_drew ?_ | refine blk_alloc ?_ _)); refine blk_put (cs := #[.int .i64 t638, .int .i64 t639, .slice none 0 0]) ?_ 2 _ rfl; (with_reducible repeat (first | refine blk_drewN ?_ _ | refine blk_drew ?_ | refine blk_alloc ?_ _)); refine blk_put (cs := #[.int .i64 t638, .int .i64 0, .slice none 0 0]) ?_ 1 _ rfl; (with_reducible repeat (first | refine blk_drewN ?_ _ | refine blk_drew ?_ | refine blk_alloc ?_ _)); refine blk_put (cs := #[.int .i64 0, .int .i64 0, .slice none 0 0]) ?_ 0 _ rfl; (with_reducible repeat (first | refine blk_drewN ?_ _ | refine blk_drew ?_ | refine blk_alloc ?_ _)); exact BK643.out) hb); replace HB := A_ (below_step tb_ hb); (try clear hb); (try clear ho0)))
  (try simp only [Act.put, List.setIfInBounds_toArray, List.set_cons_zero, List.set_cons_succ])
  go_cut [40] (fun v40 wc => ∃ (kq : Nat) (x40_10 : Bool), v40 = .bool x40_10 ∧ Aside0 (laws_FnExactBishopNumbers.j0 kq t634 t637 t644 t647 x40_10 a0_0 a0_1 l0_2 t638 t639 t640 = some r) ∧ Aside0 (kq ≤ k) ∧ Aside0 (Kd.R (Kd.int .i64) 3 wc w.heap.size (fun k_ => some k_ ≠ (v645 : Value).ownBlock ∧ some k_ ≠ ((.slice Ao24 t640.length co24) : Value).ownBlock) v635 t634) ∧ Aside0 (Kd.R (Kd.int .i64) 3 wc w.heap.size (fun k_ => some k_ ≠ (v635 : Value).ownBlock ∧ some k_ ≠ ((.slice Ao24 t640.length co24) : Value).ownBlock) v645 t644) ∧ Aside0 (Kd.R (Kd.int .i64) 3 wc w.heap.size (fun k_ => some k_ ≠ (v635 : Value).ownBlock ∧ some k_ ≠ (v645 : Value).ownBlock) (.slice Ao24 t640.length co24) t640) ∧ Aside0 (wc.heap[gb627]? = some (.cells #[.int .i64 a0_0, .int .i64 a0_1, (.slice A0_2 l0_2.length c0_2)] 24 (0, 0))) ∧ Aside0 (wc.heap[gb643]? = some (.cells #[.int .i64 t638, .int .i64 t639, (.slice Ao24 t640.length co24)] 26 (0, 0))) ∧ Aside0 (Below w.heap.size w wc))
  case first =>
   have H := HC11.out
   clear HC11
   replace H := Option.bind_eq_some_iff.mp H
   obtain ⟨t648, A260, H⟩ := H
   replace H : (if t648 = true then (laws_FnExactBishopNumbers.j0 k t634 t637 t644 t647 (t647 != t637) a0_0 a0_1 l0_2 t638 t639 t640) else (laws_FnExactBishopNumbers.j0 k t634 t637 t644 t647 true a0_0 a0_1 l0_2 t638 t639 t640)) = some r := H
   have A26 := A_ A260
   clear A260
   by_cases c27 : t648 = true
   ·
    subst c27
    have H1 : (laws_FnExactBishopNumbers.j0 k t634 t637 t644 t647 (t647 != t637) a0_0 a0_1 l0_2 t638 t639 t640) = some r := by rw [if_pos rfl] at H; exact H
    clear H
    have H := H1
    clear H1
    have H' := A_ H
    clear H
    obtain ⟨Ao28, co28, eo28⟩ := Kd.R_slice HO646.out
    subst eo28
    obtain ⟨Ao29, co29, eo29⟩ := Kd.R_slice HO636.out
    subst eo29
    go_wp2_with (first | (refine gc_ 28 ?_; refine goesT_ (some 34) Try.func28 #[.slice Ao28 t644.length co28, .slice Ao29 t634.length co29] ?_; (with_reducible refine (laws_eqIntS.calls k _ _ t644 _ _ t634 true _ ?side1 ?side2 ?side3 ?side4 A26.out).mono ?_); (case side1 => exact tc0_ (Kd.R_reads' HO646.out).2.2); (case side2 => exact (Kd.R_reads' HO646.out).2.1); (case side3 => exact tc0_ (Kd.R_reads' HO636.out).2.2); (case side4 => exact (Kd.R_reads' HO636.out).2.1); rintro e w' ⟨rfl, ⟨nd, rfl⟩⟩; refine ⟨_, rfl, ?_⟩))
    go_meet
    case rel => exact ⟨_, ((t647 != t637)), tf_, H', ⟨by first | omega | exact Nat.le_refl _⟩, ⟨by (with_reducible repeat (first | apply Kd.R_alloc | apply Kd.R_drewN | apply Kd.R_drew)); exact Kd.R_mono HO636.out om_⟩, ⟨by (with_reducible repeat (first | apply Kd.R_alloc | apply Kd.R_drewN | apply Kd.R_drew)); exact Kd.R_mono HO646.out om_⟩, ⟨by (with_reducible repeat (first | apply Kd.R_alloc | apply Kd.R_drewN | apply Kd.R_drew)); exact Kd.R_mono HO642.out om_⟩, ⟨tk_ BK627⟩, ⟨tk_ BK643⟩, ⟨tb_⟩⟩
   ·
    replace c27 := Bool.eq_false_iff.mpr c27
    subst c27
    have H1 : (laws_FnExactBishopNumbers.j0 k t634 t637 t644 t647 true a0_0 a0_1 l0_2 t638 t639 t640) = some r := by rw [if_neg (show ¬ (false = true) by decide)] at H; exact H
    clear H
    have H := H1
    clear H1
    have H' := A_ H
    clear H
    obtain ⟨Ao30, co30, eo30⟩ := Kd.R_slice HO646.out
    subst eo30
    obtain ⟨Ao31, co31, eo31⟩ := Kd.R_slice HO636.out
    subst eo31
    go_wp2_with (first | (refine gc_ 28 ?_; refine goesT_ (some 34) Try.func28 #[.slice Ao30 t644.length co30, .slice Ao31 t634.length co31] ?_; (with_reducible refine (laws_eqIntS.calls k _ _ t644 _ _ t634 false _ ?side1 ?side2 ?side3 ?side4 A26.out).mono ?_); (case side1 => exact tc0_ (Kd.R_reads' HO646.out).2.2); (case side2 => exact (Kd.R_reads' HO646.out).2.1); (case side3 => exact tc0_ (Kd.R_reads' HO636.out).2.2); (case side4 => exact (Kd.R_reads' HO636.out).2.1); rintro e w' ⟨rfl, ⟨nd, rfl⟩⟩; refine ⟨_, rfl, ?_⟩))
    go_meet
    case rel => exact ⟨_, (true), tf_, H', ⟨by first | omega | exact Nat.le_refl _⟩, ⟨by (with_reducible repeat (first | apply Kd.R_alloc | apply Kd.R_drewN | apply Kd.R_drew)); exact Kd.R_mono HO636.out om_⟩, ⟨by (with_reducible repeat (first | apply Kd.R_alloc | apply Kd.R_drewN | apply Kd.R_drew)); exact Kd.R_mono HO646.out om_⟩, ⟨by (with_reducible repeat (first | apply Kd.R_alloc | apply Kd.R_drewN | apply Kd.R_drew)); exact Kd.R_mono HO642.out om_⟩, ⟨tk_ BK627⟩, ⟨tk_ BK643⟩, ⟨tb_⟩⟩
  case rest =>
   clear HC11
   try clear c1
   try clear c2
   try clear p2
   try clear c3
   try clear c3b0
   try clear c5
   try clear c17
   try clear c19
   try clear c22
   try clear c26
   try clear c27
   try clear c28
   try clear hcz13_0
   try clear hcz13_1
   try clear hcz13_2
   try clear hcz15_0
   try clear hcz15_1
   try clear hcz15_2
   try clear hcz19_0
   try clear hcz19_1
   try clear hcz19_2
   try clear hcz23_0
   try clear hcz23_1
   try clear hcz23_2
   try clear hcz5_0
   try clear hcz5_1
   try clear hcz5_2
   try clear hfz13_0
   try clear hfz13_1
   try clear hfz13_2
   try clear hfz15_0
   try clear hfz15_1
   try clear hfz15_2
   try clear hfz19_0
   try clear hfz19_1
   try clear hfz19_2
   try clear hfz23_0
   try clear hfz23_1
   try clear hfz23_2
   try clear hfz5_0
   try clear hfz5_1
   try clear hfz5_2
   obtain ⟨kq, x40_10, rfl, HA, HJ10, HO_4, HO_7, HO_644002, BK627, BK643, HB⟩ := hcut
   cases kq with
   | zero => exact absurd HA.out (by simp [laws_FnExactBishopNumbers.j0])
   | succ kj10 =>
    have H := HA.out
    clear HA
    simp only [laws_FnExactBishopNumbers.j0] at H
    by_cases c32 : x40_10 = true
    ·
     subst c32
     have H1 : (some false) = some r := by rw [if_pos rfl] at H; exact H
     clear H
     have H := H1
     clear H1
     obtain rfl := Option.some.inj H
     go_wp2
     go_ret
     exact ⟨te_, tb_⟩
    ·
     replace c32 := Bool.eq_false_iff.mpr c32
     subst c32
     have H1 : ((laws_toBoard.f kj10 a0_0 a0_1 l0_2).bind fun bt649 => ((laws_eqBoard.f kj10 t638 t639 t640 bt649.1 bt649.2.1 bt649.2.2).bind fun t654 => (if t654 = true then ((laws_markBoard.f kj10 t638 t639 t640 1).bind fun bt655 => (if bt655.1 < 0 then (laws_FnExactBishopNumbers.j1 kj10 t634 t637 t644 true a0_0 a0_1 l0_2) else ((laws_eqIntS.f kj10 t644 t634).bind fun t657 => (if t657 = true then (laws_FnExactBishopNumbers.j1 kj10 t634 t637 t644 (t647 != t637) a0_0 a0_1 l0_2) else (laws_FnExactBishopNumbers.j1 kj10 t634 t637 t644 true a0_0 a0_1 l0_2))))) else (some false)))) = some r := by rw [if_neg (show ¬ (false = true) by decide)] at H; exact H
     clear H
     have H := H1
     clear H1
     replace H := Option.bind_eq_some_iff.mp H
     obtain ⟨⟨t649, t650, t651⟩, A330, H⟩ := H
     replace H : ((laws_eqBoard.f kj10 t638 t639 t640 t649 t650 t651).bind fun t654 => (if t654 = true then ((laws_markBoard.f kj10 t638 t639 t640 1).bind fun bt655 => (if bt655.1 < 0 then (laws_FnExactBishopNumbers.j1 kj10 t634 t637 t644 true a0_0 a0_1 l0_2) else ((laws_eqIntS.f kj10 t644 t634).bind fun t657 => (if t657 = true then (laws_FnExactBishopNumbers.j1 kj10 t634 t637 t644 (t647 != t637) a0_0 a0_1 l0_2) else (laws_FnExactBishopNumbers.j1 kj10 t634 t637 t644 true a0_0 a0_1 l0_2))))) else (some false))) = some r := H
     have A33 := A_ A330
     clear A330
     replace H := Option.bind_eq_some_iff.mp H
     obtain ⟨t654, A340, H⟩ := H
     replace H : (if t654 = true then ((laws_markBoard.f kj10 t638 t639 t640 1).bind fun bt655 => (if bt655.1 < 0 then (laws_FnExactBishopNumbers.j1 kj10 t634 t637 t644 true a0_0 a0_1 l0_2) else ((laws_eqIntS.f kj10 t644 t634).bind fun t657 => (if t657 = true then (laws_FnExactBishopNumbers.j1 kj10 t634 t637 t644 (t647 != t637) a0_0 a0_1 l0_2) else (laws_FnExactBishopNumbers.j1 kj10 t634 t637 t644 true a0_0 a0_1 l0_2))))) else (some false)) = some r := H
     have A34 := A_ A340
     clear A340
     by_cases c35 : t654 = true
     ·
      subst c35
      have H1 : ((laws_markBoard.f kj10 t638 t639 t640 1).bind fun bt655 => (if bt655.1 < 0 then (laws_FnExactBishopNumbers.j1 kj10 t634 t637 t644 true a0_0 a0_1 l0_2) else ((laws_eqIntS.f kj10 t644 t634).bind fun t657 => (if t657 = true then (laws_FnExactBishopNumbers.j1 kj10 t634 t637 t644 (t647 != t637) a0_0 a0_1 l0_2) else (laws_FnExactBishopNumbers.j1 kj10 t634 t637 t644 true a0_0 a0_1 l0_2))))) = some r := by rw [if_pos rfl] at H; exact H
      clear H
      have H := H1
      clear H1
      replace H := Option.bind_eq_some_iff.mp H
      obtain ⟨⟨t655, t656⟩, A360, H⟩ := H
      replace H : (if t655 < 0 then (laws_FnExactBishopNumbers.j1 kj10 t634 t637 t644 true a0_0 a0_1 l0_2) else ((laws_eqIntS.f kj10 t644 t634).bind fun t657 => (if t657 = true then (laws_FnExactBishopNumbers.j1 kj10 t634 t637 t644 (t647 != t637) a0_0 a0_1 l0_2) else (laws_FnExactBishopNumbers.j1 kj10 t634 t637 t644 true a0_0 a0_1 l0_2)))) = some r := H
      have A36 := A_ A360
      clear A360
      have HC37 := A_ H
      clear H
      try go_wp2
      have n0_ := A_ (Kd.R_drew HO_4.out)
      have n1_ := A_ (Kd.R_drew HO_7.out)
      have n2_ := A_ (Kd.R_drew HO_644002.out)
      have n3_ := A_ (blk_drew BK627.out)
      have n4_ := A_ (blk_drew BK643.out)
      have n5_ := A_ (below_drew1 HB.out)
      clear HO_4
      clear HO_7
      clear HO_644002
      clear BK627
      clear BK643
      clear HB
      have HO_4 := n0_
      have HO_7 := n1_
      have HO_644002 := n2_
      have BK627 := n3_
      have BK643 := n4_
      have HB := n5_
      clear n0_ n1_ n2_ n3_ n4_ n5_
      refine start_ (n := 5) (S := fun w' => w'.cell? ⟨gb643, 0, none⟩ = some (.int .i64 t638) ∧ w'.cell? ⟨gb643, 1, none⟩ = some (.int .i64 t639) ∧ w'.cell? ⟨gb643, 2, none⟩ = some (.slice Ao24 t640.length co24) ∧ w'.cell? ⟨gb627, 0, none⟩ = some (.int .i64 a0_0) ∧ w'.cell? ⟨gb627, 1, none⟩ = some (.int .i64 a0_1) ∧ w'.cell? ⟨gb627, 2, none⟩ = some (.slice A0_2 l0_2.length c0_2)) (ds := []) (Fn.bl 5 0) (by kernel_rfl) rfl rfl ⟨(blk_cell BK643.out 0).trans rfl, (blk_cell BK643.out 1).trans rfl, (blk_cell BK643.out 2).trans rfl, (blk_cell BK627.out 0).trans rfl, (blk_cell BK627.out 1).trans rfl, (blk_cell BK627.out 2).trans rfl⟩ (fun hHeld => ?_)
      generalize wc.drew = w38 at HO_4 HO_7 HO_644002 BK627 BK643 HB hHeld ⊢
      refine take_ (i := 0) (N := some 41) (v := ?_) (a' := ?_) (Fn.bl 5 1) rfl rfl (by kernel_rfl) (fun _ _ _ h => h) (Or.inl ⟨by rfl, ?_⟩) hHeld ?_ ?_
      rotate_left
      ·
       rintro w' ⟨s0, s1, s2, s3, s4, s5⟩
       go_simp
       with_reducible rfl
      rotate_left
      ·
       simp only [Act.put, List.setIfInBounds_toArray, List.set_cons_zero, List.set_cons_succ, i64_w, i32_w]
       rfl
      refine take_ (i := 1) (N := some 42) (v := ?_) (a' := ?_) (Fn.bl 5 3) rfl rfl (by kernel_rfl) (fun _ _ _ h => h) (Or.inl ⟨by rfl, ?_⟩) hHeld ?_ ?_
      rotate_left
      ·
       rintro w' ⟨s0, s1, s2, s3, s4, s5⟩
       go_simp
       with_reducible rfl
      rotate_left
      ·
       simp only [Act.put, List.setIfInBounds_toArray, List.set_cons_zero, List.set_cons_succ, i64_w, i32_w]
       rfl
      refine one_ (i := 2) (N := some 43) (Fn.bl 5 7) rfl rfl (by kernel_rfl) (by decide) (fun K hK => ?_)
      refine goes_ Try.func19 (by kernel_rfl) rfl #[.agg #[.int .i64 a0_0, .int .i64 a0_1, .slice A0_2 l0_2.length c0_2]] (by rfl) rfl rfl ta_ ?_
      with_reducible refine (laws_toBoard.calls kj10 a0_0 a0_1 _ _ l0_2 t649 t650 t651 _ ?side1 ?side2 A33.out).mono ?_
      (case side1 => exact tc_ HR0_2.out)
      (case side2 => exact HC0_2.out)
      rintro e w39 ⟨v652, rfl, ho0, hb⟩
      refine ⟨_, rfl, ?_⟩
      have n0_ := A_ (Kd.R_elder' (tr_x HO_4.out) (Kd.R_base ho0) hb)
      have n1_ := A_ (Kd.R_elder' (tr_x HO_7.out) (Kd.R_base ho0) hb)
      have n2_ := A_ (Kd.R_elder' (tr_x HO_644002.out) (Kd.R_base ho0) hb)
      have n3_ := A_ (Kd.R_lower (Kd.R_new' (Kd.R_new' (Kd.R_new' ho0 (Kd.R_lt (tr_x HO_4.out))) (Kd.R_lt (tr_x HO_7.out))) (Kd.R_lt (tr_x HO_644002.out))) (below_size tb_))
      have n4_ := A_ (blk_below (g := gb627) (o := .cells #[.int .i64 a0_0, .int .i64 a0_1, .slice A0_2 l0_2.length c0_2] 24 (0, 0)) (tk_ BK627) hb)
      have n5_ := A_ (blk_below (g := gb643) (o := .cells #[.int .i64 t638, .int .i64 t639, .slice Ao24 t640.length co24] 26 (0, 0)) (tk_ BK643) hb)
      have n6_ := A_ (below_step tb_ hb)
      clear HO_4
      clear HO_7
      clear HO_644002
      clear BK627
      clear BK643
      clear HB
      have HO_4 := n0_
      have HO_7 := n1_
      have HO_644002 := n2_
      have HO653 := n3_
      have BK627 := n4_
      have BK643 := n5_
      have HB := n6_
      clear n0_ n1_ n2_ n3_ n4_ n5_ n6_
      (try clear hb)
      (try clear hb2)
      (try clear hk)
      (try clear hi)
      (try clear ho0)
      obtain ⟨Ao40, co40, eo40⟩ := Kd.R_slice HO653.out
      (first | subst eo40 | (injection eo40 with f1_ f2_ f3_; have f4_ := f1_.symm; have f5_ := f3_.symm; clear f1_ f2_ f3_; subst f4_; subst f5_))
      refine hK.out _ _ ⟨(blk_cell BK643.out 0).trans rfl, (blk_cell BK643.out 1).trans rfl, (blk_cell BK643.out 2).trans rfl, (blk_cell BK627.out 0).trans rfl, (blk_cell BK627.out 1).trans rfl, (blk_cell BK627.out 2).trans rfl⟩ (fun hHeld => ?_)
      clear hK K
      refine norm_ (a' := ?_) ?_ ?_
      rotate_left
      ·
       show Act.put _ (some 43) _ = _
       simp only [Act.put, List.setIfInBounds_toArray, List.set_cons_zero, List.set_cons_succ, i64_w, i32_w]
       rfl
      refine one_ (i := 3) (N := some 44) (Fn.bl 5 15) rfl rfl (by kernel_rfl) (by decide) (fun K hK => ?_)
      refine goes_ Try.func21 (by kernel_rfl) rfl #[.agg #[.int .i64 t638, .int .i64 t639, .slice Ao24 t640.length co24], .agg #[.int .i64 t649, .int .i64 t650, .slice Ao40 t651.length co40]] (by rfl) rfl rfl ta_ ?_
      with_reducible refine (laws_eqBoard.calls kj10 t638 t639 _ _ t640 t649 t650 _ _ t651 true _ ?side1 ?side2 ?side3 ?side4 A34.out).mono ?_
      (case side1 => exact tc0_ (Kd.R_reads' HO_644002.out).2.2)
      (case side2 => exact (Kd.R_reads' HO_644002.out).2.1)
      (case side3 => exact tc0_ (Kd.R_reads' HO653.out).2.2)
      (case side4 => exact (Kd.R_reads' HO653.out).2.1)
      rintro e w41 ⟨rfl, hb⟩
      refine ⟨_, rfl, ?_⟩
      have n0_ := A_ (Kd.R_below (tr_x HO_4.out) hb)
      have n1_ := A_ (Kd.R_below (tr_x HO_7.out) hb)
      have n2_ := A_ (Kd.R_below (tr_x HO_644002.out) hb)
      have n3_ := A_ (Kd.R_below (tr_x HO653.out) hb)
      have n4_ := A_ (blk_below (g := gb627) (o := .cells #[.int .i64 a0_0, .int .i64 a0_1, .slice A0_2 l0_2.length c0_2] 24 (0, 0)) (tk_ BK627) hb)
      have n5_ := A_ (blk_below (g := gb643) (o := .cells #[.int .i64 t638, .int .i64 t639, .slice Ao24 t640.length co24] 26 (0, 0)) (tk_ BK643) hb)
      have n6_ := A_ (below_step tb_ hb)
      clear HO_4
      clear HO_7
      clear HO_644002
      clear HO653
      clear BK627
      clear BK643
      clear HB
      have HO_4 := n0_
      have HO_7 := n1_
      have HO_644002 := n2_
      have HO653 := n3_
      have BK627 := n4_
      have BK643 := n5_
      have HB := n6_
      clear n0_ n1_ n2_ n3_ n4_ n5_ n6_
      (try clear hb)
      (try clear hb2)
      (try clear hk)
      (try clear hi)
      refine hK.out _ _ ⟨(blk_cell BK643.out 0).trans rfl, (blk_cell BK643.out 1).trans rfl, (blk_cell BK643.out 2).trans rfl, (blk_cell BK627.out 0).trans rfl, (blk_cell BK627.out 1).trans rfl, (blk_cell BK627.out 2).trans rfl⟩ (fun hHeld => ?_)
      clear hK K
      refine norm_ (a' := ?_) ?_ ?_
      rotate_left
      ·
       show Act.put _ (some 44) _ = _
       simp only [Act.put, List.setIfInBounds_toArray, List.set_cons_zero, List.set_cons_succ, i64_w, i32_w]
       rfl
      refine pk_ 4 (some 45) (Fn.bl 5 31) ?_
      refine done_ (by kernel_rfl) ?_
      have hnb42 := NB643_627.out
      have hnc42 := NB627_643.out
      obtain ⟨hcz43_0, hcz43_1, hcz43_2, hfz43_0, hfz43_1, hfz43_2⟩ := cf3_ BK643.out
      go_upto_region 14 with (first | (refine gc_ 22 ?_; refine goesT_ (some 48) Try.func22 #[.agg #[.int .i64 t638, .int .i64 t639, .slice Ao24 t640.length co24], .int .i64 1] ?_; (with_reducible refine (laws_markBoard.calls kj10 t638 t639 (fun k_ => some k_ = (.slice Ao24 t640.length co24 : Value).ownBlock) (.slice Ao24 t640.length co24) t640 1 t655 t656 w _ ?side1 ?side2 A36.out).mono ?_); (case side1 => repeat (first | (with_reducible first | exact HB.out | apply below_alloc | apply pw_below_drewN | apply below_drew1 | refine below_set ?_ GE627.out | refine below_set ?_ GE643.out) | exact HB.out)); (case side2 => exact Kd.R_tight rfl HO_644002.out); rintro e w44 ⟨rfl, hy0, hb, hkp⟩; refine ⟨_, rfl, ?_⟩; replace HO_4 := A_ (Kd.R_mono (ok' := fun k_ => some k_ ≠ (v645 : Value).ownBlock ∧ some k_ ≠ (.slice Ao24 t640.length co24 : Value).ownBlock ∧ some k_ ≠ (.slice Ao40 t651.length co40 : Value).ownBlock) (Kd.R_keptB (HO_4.out) hkp (fun k_ hk_ hs_ => (hk_.1.2) hs_)) (fun k_ hk_ => ⟨hk_.1.1.1, hk_.1.1.2, hk_.1.2⟩)); replace HO_7 := A_ (Kd.R_mono (ok' := fun k_ => some k_ ≠ (v635 : Value).ownBlock ∧ some k_ ≠ (.slice Ao24 t640.length co24 : Value).ownBlock ∧ some k_ ≠ (.slice Ao40 t651.length co40 : Value).ownBlock) (Kd.R_keptB (HO_7.out) hkp (fun k_ hk_ hs_ => (hk_.1.2) hs_)) (fun k_ hk_ => ⟨hk_.1.1.1, hk_.1.1.2, hk_.1.2⟩)); replace BK627 := A_ (blk_kept (tk_ BK627) hkp (fun hs_ => (fun e_ => (Kd.R_ne HO_644002.out BK627.out (by decide)) e_) hs_)); replace BK643 := A_ (blk_kept (tk_ BK643) hkp (fun hs_ => (fun e_ => (Kd.R_ne HO_644002.out BK643.out (by decide)) e_) hs_)); replace HO_644002 := A_ (Kd.R_reok rfl hy0 (fun k_ e_ => HO_644002.out.1 k_ e_)); replace HO653 := A_ (Kd.R_mono (ok' := fun k_ => some k_ ≠ (v635 : Value).ownBlock ∧ some k_ ≠ (v645 : Value).ownBlock ∧ some k_ ≠ (.slice Ao24 t640.length co24 : Value).ownBlock) (Kd.R_keptB (HO653.out) hkp (fun k_ hk_ hs_ => (hk_.2) hs_)) (fun k_ hk_ => ⟨hk_.1.1.1.2, hk_.1.1.2, hk_.1.2⟩)); replace HB := A_ (hb); (try clear hb); (try clear hkp); (try clear hy0)))
      (try simp only [Act.put, List.setIfInBounds_toArray, List.set_cons_zero, List.set_cons_succ])
      go_cut [61] (fun v61 wc => ∃ (kq : Nat) (x61_36 : Bool), v61 = .bool x61_36 ∧ Aside0 (laws_FnExactBishopNumbers.j1 kq t634 t637 t644 x61_36 a0_0 a0_1 l0_2 = some r) ∧ Aside0 (kq ≤ kj10) ∧ Aside0 (Kd.R (Kd.int .i64) 3 wc w.heap.size (fun k_ => some k_ ≠ (v645 : Value).ownBlock ∧ some k_ ≠ ((.slice Ao24 t640.length co24) : Value).ownBlock) v635 t634) ∧ Aside0 (Kd.R (Kd.int .i64) 3 wc w.heap.size (fun k_ => some k_ ≠ (v635 : Value).ownBlock ∧ some k_ ≠ ((.slice Ao24 t640.length co24) : Value).ownBlock) v645 t644) ∧ Aside0 (Kd.R (Kd.int .i64) 3 wc w.heap.size (fun k_ => some k_ ≠ (v635 : Value).ownBlock ∧ some k_ ≠ (v645 : Value).ownBlock) (.slice Ao24 t640.length co24) t656) ∧ Aside0 (wc.heap[gb627]? = some (.cells #[.int .i64 a0_0, .int .i64 a0_1, (.slice A0_2 l0_2.length c0_2)] 24 (0, 0))) ∧ Aside0 (wc.heap[gb643]? = some (.cells #[.int .i64 t638, .int .i64 t639, (.slice Ao24 t640.length co24)] 26 (0, 0))) ∧ Aside0 (Below w.heap.size w wc))
      case first =>
       have H := HC37.out
       clear HC37
       by_cases c45 : t655 < 0
       ·
        rw [if_pos c45] at H
        have c45b0 := decide_eq_true c45
        clear c45
        (first | rw [c45b0] | (simp only [i64_w, i32_w]; rw [c45b0]) | skip)
        have H' := A_ H
        clear H
        go_wp2
        go_meet
        case rel => exact ⟨_, (true), tf_, H', ⟨by have := HJ10.out; first | omega | exact Nat.le_refl _⟩, ⟨by (with_reducible repeat (first | apply Kd.R_alloc | apply Kd.R_drewN | apply Kd.R_drew)); exact Kd.R_mono HO_4.out om_⟩, ⟨by (with_reducible repeat (first | apply Kd.R_alloc | apply Kd.R_drewN | apply Kd.R_drew)); exact Kd.R_mono HO_7.out om_⟩, ⟨by (with_reducible repeat (first | apply Kd.R_alloc | apply Kd.R_drewN | apply Kd.R_drew)); exact Kd.R_mono HO_644002.out om_⟩, ⟨tk_ BK627⟩, ⟨tk_ BK643⟩, ⟨tb_⟩⟩
       ·
        rw [if_neg c45] at H
        have c45b0 := decide_eq_false c45
        clear c45
        (first | rw [c45b0] | (simp only [i64_w, i32_w]; rw [c45b0]) | skip)
        replace H := Option.bind_eq_some_iff.mp H
        obtain ⟨t657, A460, H⟩ := H
        replace H : (if t657 = true then (laws_FnExactBishopNumbers.j1 kj10 t634 t637 t644 (t647 != t637) a0_0 a0_1 l0_2) else (laws_FnExactBishopNumbers.j1 kj10 t634 t637 t644 true a0_0 a0_1 l0_2)) = some r := H
        have A46 := A_ A460
        clear A460
        by_cases c47 : t657 = true
        ·
         subst c47
         have H1 : (laws_FnExactBishopNumbers.j1 kj10 t634 t637 t644 (t647 != t637) a0_0 a0_1 l0_2) = some r := by rw [if_pos rfl] at H; exact H
         clear H
         have H := H1
         clear H1
         have H' := A_ H
         clear H
         obtain ⟨Ao48, co48, eo48⟩ := Kd.R_slice HO_7.out
         subst eo48
         obtain ⟨Ao49, co49, eo49⟩ := Kd.R_slice HO_4.out
         subst eo49
         go_wp2_with (first | (go_at_call 28; (with_reducible refine (laws_eqIntS.calls kj10 _ _ t644 _ _ t634 true _ ?side1 ?side2 ?side3 ?side4 A46.out).mono ?_); (case side1 => exact tc0_ (Kd.R_reads' HO_7.out).2.2); (case side2 => exact (Kd.R_reads' HO_7.out).2.1); (case side3 => exact tc0_ (Kd.R_reads' HO_4.out).2.2); (case side4 => exact (Kd.R_reads' HO_4.out).2.1); rintro e w' ⟨rfl, ⟨nd, rfl⟩⟩))
         go_meet
         case rel => exact ⟨_, ((t647 != t637)), tf_, H', ⟨by have := HJ10.out; first | omega | exact Nat.le_refl _⟩, ⟨by (with_reducible repeat (first | apply Kd.R_alloc | apply Kd.R_drewN | apply Kd.R_drew)); exact Kd.R_mono HO_4.out om_⟩, ⟨by (with_reducible repeat (first | apply Kd.R_alloc | apply Kd.R_drewN | apply Kd.R_drew)); exact Kd.R_mono HO_7.out om_⟩, ⟨by (with_reducible repeat (first | apply Kd.R_alloc | apply Kd.R_drewN | apply Kd.R_drew)); exact Kd.R_mono HO_644002.out om_⟩, ⟨tk_ BK627⟩, ⟨tk_ BK643⟩, ⟨tb_⟩⟩
        ·
         replace c47 := Bool.eq_false_iff.mpr c47
         subst c47
         have H1 : (laws_FnExactBishopNumbers.j1 kj10 t634 t637 t644 true a0_0 a0_1 l0_2) = some r := by rw [if_neg (show ¬ (false = true) by decide)] at H; exact H
         clear H
         have H := H1
         clear H1
         have H' := A_ H
         clear H
         obtain ⟨Ao50, co50, eo50⟩ := Kd.R_slice HO_7.out
         subst eo50
         obtain ⟨Ao51, co51, eo51⟩ := Kd.R_slice HO_4.out
         subst eo51
         go_wp2_with (first | (go_at_call 28; (with_reducible refine (laws_eqIntS.calls kj10 _ _ t644 _ _ t634 false _ ?side1 ?side2 ?side3 ?side4 A46.out).mono ?_); (case side1 => exact tc0_ (Kd.R_reads' HO_7.out).2.2); (case side2 => exact (Kd.R_reads' HO_7.out).2.1); (case side3 => exact tc0_ (Kd.R_reads' HO_4.out).2.2); (case side4 => exact (Kd.R_reads' HO_4.out).2.1); rintro e w' ⟨rfl, ⟨nd, rfl⟩⟩))
         go_meet
         case rel => exact ⟨_, (true), tf_, H', ⟨by have := HJ10.out; first | omega | exact Nat.le_refl _⟩, ⟨by (with_reducible repeat (first | apply Kd.R_alloc | apply Kd.R_drewN | apply Kd.R_drew)); exact Kd.R_mono HO_4.out om_⟩, ⟨by (with_reducible repeat (first | apply Kd.R_alloc | apply Kd.R_drewN | apply Kd.R_drew)); exact Kd.R_mono HO_7.out om_⟩, ⟨by (with_reducible repeat (first | apply Kd.R_alloc | apply Kd.R_drewN | apply Kd.R_drew)); exact Kd.R_mono HO_644002.out om_⟩, ⟨tk_ BK627⟩, ⟨tk_ BK643⟩, ⟨tb_⟩⟩
      case rest =>
       clear HC37
       try clear c1
       try clear c2
       try clear p2
       try clear c3
       try clear c3b0
       try clear c4
       try clear c5
       try clear c17
       try clear c19
       try clear c21
       try clear c22
       try clear c26
       try clear c27
       try clear c28
       try clear c32
       try clear c35
       try clear c42
       try clear c45
       try clear c45b0
       try clear c47
       try clear hcz13_0
       try clear hcz13_1
       try clear hcz13_2
       try clear hcz15_0
       try clear hcz15_1
       try clear hcz15_2
       try clear hcz19_0
       try clear hcz19_1
       try clear hcz19_2
       try clear hcz23_0
       try clear hcz23_1
       try clear hcz23_2
       try clear hcz43_0
       try clear hcz43_1
       try clear hcz43_2
       try clear hcz5_0
       try clear hcz5_1
       try clear hcz5_2
       try clear hfz13_0
       try clear hfz13_1
       try clear hfz13_2
       try clear hfz15_0
       try clear hfz15_1
       try clear hfz15_2
       try clear hfz19_0
       try clear hfz19_1
       try clear hfz19_2
       try clear hfz23_0
       try clear hfz23_1
       try clear hfz23_2
       try clear hfz43_0
       try clear hfz43_1
       try clear hfz43_2
       try clear hfz5_0
       try clear hfz5_1
       try clear hfz5_2
       try clear p2
       obtain ⟨kq, x61_36, rfl, HA, HJ36, HO_4, HO_7, HO_644002, BK627, BK643, HB⟩ := hcut
       have hl644002_36 := (Kd.R_reads' HO_644002.out).1
       rw [hl644002_36] at HO_644002
       (try simp only [hl644002_36])
       (try simp only [hl644002_36] at BK627)
       (try simp only [hl644002_36] at BK643)
       (try simp only [hl644002_36] at HO_4)
       (try simp only [hl644002_36] at HO_7)
       cases kq with
       | zero => exact absurd HA.out (by simp [laws_FnExactBishopNumbers.j1])
       | succ kj36 =>
        have H := HA.out
        clear HA
        simp only [laws_FnExactBishopNumbers.j1] at H
        by_cases c52 : x61_36 = true
        ·
         subst c52
         have H1 : (some false) = some r := by rw [if_pos rfl] at H; exact H
         clear H
         have H := H1
         clear H1
         obtain rfl := Option.some.inj H
         go_wp2
         go_ret
         exact ⟨te_, tb_⟩
        ·
         replace c52 := Bool.eq_false_iff.mpr c52
         subst c52
         have H1 : ((laws_markIntS.f kj36 t644 1).bind fun bt658 => ((laws_heldIntS.f kj36 bt658.2 1).bind fun t660 => (if t660 < 0 then (some false) else (if t660 = bt658.1 then ((laws_toBoard.f kj36 a0_0 a0_1 l0_2).bind fun bt661 => ((impl_BishopNumbers.f kj36 bt661.1 bt661.2.1 bt661.2.2).bind fun bt666 => ((laws_eqIntS.f kj36 bt666.1 t634).bind fun t670 => (if t670 = true then (laws_FnExactBishopNumbers.j2 kj36 bt658.2 bt658.1 (bt666.2 != t637)) else (laws_FnExactBishopNumbers.j2 kj36 bt658.2 bt658.1 true))))) else (some false))))) = some r := by rw [if_neg (show ¬ (false = true) by decide)] at H; exact H
         clear H
         have H := H1
         clear H1
         replace H := Option.bind_eq_some_iff.mp H
         obtain ⟨⟨t658, t659⟩, A530, H⟩ := H
         replace H : ((laws_heldIntS.f kj36 t659 1).bind fun t660 => (if t660 < 0 then (some false) else (if t660 = t658 then ((laws_toBoard.f kj36 a0_0 a0_1 l0_2).bind fun bt661 => ((impl_BishopNumbers.f kj36 bt661.1 bt661.2.1 bt661.2.2).bind fun bt666 => ((laws_eqIntS.f kj36 bt666.1 t634).bind fun t670 => (if t670 = true then (laws_FnExactBishopNumbers.j2 kj36 t659 t658 (bt666.2 != t637)) else (laws_FnExactBishopNumbers.j2 kj36 t659 t658 true))))) else (some false)))) = some r := H
         have A53 := A_ A530
         clear A530
         replace H := Option.bind_eq_some_iff.mp H
         obtain ⟨t660, A540, H⟩ := H
         replace H : (if t660 < 0 then (some false) else (if t660 = t658 then ((laws_toBoard.f kj36 a0_0 a0_1 l0_2).bind fun bt661 => ((impl_BishopNumbers.f kj36 bt661.1 bt661.2.1 bt661.2.2).bind fun bt666 => ((laws_eqIntS.f kj36 bt666.1 t634).bind fun t670 => (if t670 = true then (laws_FnExactBishopNumbers.j2 kj36 t659 t658 (bt666.2 != t637)) else (laws_FnExactBishopNumbers.j2 kj36 t659 t658 true))))) else (some false))) = some r := H
         have A54 := A_ A540
         clear A540
         by_cases c55 : t660 < 0
         ·
          rw [if_pos c55] at H
          have c55b0 := decide_eq_true c55
          clear c55
          obtain rfl := Option.some.inj H
          obtain ⟨Ao56, co56, eo56⟩ := Kd.R_slice HO_7.out
          subst eo56
          go_wp2_with (first | (refine gc_ 29 ?_; refine goesT_ (some 64) Try.func29 #[.slice Ao56 t644.length co56, .int .i64 1] ?_; (with_reducible refine (laws_markIntS.calls kj36 (fun k_ => some k_ = (.slice Ao56 t644.length co56 : Value).ownBlock) (.slice Ao56 t644.length co56) t644 1 t658 t659 w _ ?side1 ?side2 A53.out).mono ?_); (case side1 => repeat (first | (with_reducible first | exact HB.out | apply below_alloc | apply pw_below_drewN | apply below_drew1 | refine below_set ?_ GE627.out | refine below_set ?_ GE643.out) | exact HB.out)); (case side2 => exact Kd.R_tight rfl HO_7.out); rintro e w57 ⟨rfl, hy0, hb, hkp⟩; refine ⟨_, rfl, ?_⟩; replace HO_4 := A_ (Kd.R_mono (ok' := fun k_ => some k_ ≠ (.slice Ao56 t644.length co56 : Value).ownBlock ∧ some k_ ≠ (.slice Ao24 t656.length co24 : Value).ownBlock) (Kd.R_keptB (HO_4.out) hkp (fun k_ hk_ hs_ => (hk_.1) hs_)) (fun k_ hk_ => ⟨hk_.1.1, hk_.1.2⟩)); replace HO_644002 := A_ (Kd.R_mono (ok' := fun k_ => some k_ ≠ (v635 : Value).ownBlock ∧ some k_ ≠ (.slice Ao56 t644.length co56 : Value).ownBlock) (Kd.R_keptB (HO_644002.out) hkp (fun k_ hk_ hs_ => (hk_.2) hs_)) (fun k_ hk_ => ⟨hk_.1.1, hk_.1.2⟩)); replace BK627 := A_ (blk_kept (tk_ BK627) hkp (fun hs_ => (fun e_ => (Kd.R_ne HO_7.out BK627.out (by decide)) e_) hs_)); replace BK643 := A_ (blk_kept (tk_ BK643) hkp (fun hs_ => (fun e_ => (Kd.R_ne HO_7.out BK643.out (by decide)) e_) hs_)); replace HO_7 := A_ (Kd.R_reok rfl hy0 (fun k_ e_ => HO_7.out.1 k_ e_)); replace HB := A_ (hb); (try clear hb); (try clear hkp); (try clear hy0)) | (refine gc_ 30 ?_; refine goesL_ (some 67) rfl rfl Try.func30 (by kernel_rfl) rfl #[.slice Ao56 t659.length co56, .int .i64 1] rfl (by (try simp only [List.map_toArray, List.map_cons, List.map_nil]); first | done | (rw [show t659.length = t644.length from (Kd.R_reads' HO_7.out).1.symm] <;> rfl) | rfl | (simp only [List.length_drop, List.length_take]; rfl)) ?_; (with_reducible refine (laws_heldIntS.calls kj36 _ _ t659 1 t660 _ ?side1 ?side2 A54.out).mono ?_); (case side1 => exact tc0_ (Kd.R_reads' HO_7.out).2.2); (case side2 => rw [show t659.length = t644.length from (Kd.R_reads' HO_7.out).1.symm]; exact (Kd.R_reads' HO_7.out).2.1); rintro e w' ⟨rfl, ⟨nd, rfl⟩⟩; refine ⟨_, rfl, ?_⟩))
          go_ret
          exact ⟨te_, tb_⟩
         ·
          rw [if_neg c55] at H
          have c55b0 := decide_eq_false c55
          clear c55
          by_cases c58 : t660 = t658
          ·
           rw [if_pos c58] at H
           have c58b0 : (t660 == t658) = true := beq_iff_eq.mpr c58
           have c58b1 : (t660 != t658) = false := bne_eq_false_iff_eq.mpr c58
           clear c58
           replace H := Option.bind_eq_some_iff.mp H
           obtain ⟨⟨t661, t662, t663⟩, A590, H⟩ := H
           replace H : ((impl_BishopNumbers.f kj36 t661 t662 t663).bind fun bt666 => ((laws_eqIntS.f kj36 bt666.1 t634).bind fun t670 => (if t670 = true then (laws_FnExactBishopNumbers.j2 kj36 t659 t658 (bt666.2 != t637)) else (laws_FnExactBishopNumbers.j2 kj36 t659 t658 true)))) = some r := H
           have A59 := A_ A590
           clear A590
           replace H := Option.bind_eq_some_iff.mp H
           obtain ⟨⟨t666, t669⟩, A600, H⟩ := H
           replace H : ((laws_eqIntS.f kj36 t666 t634).bind fun t670 => (if t670 = true then (laws_FnExactBishopNumbers.j2 kj36 t659 t658 (t669 != t637)) else (laws_FnExactBishopNumbers.j2 kj36 t659 t658 true))) = some r := H
           have A60 := A_ A600
           clear A600
           have HC61 := A_ H
           clear H
           obtain ⟨Ao62, co62, eo62⟩ := Kd.R_slice HO_7.out
           subst eo62
           go_upto_region 25 with (first | (refine gc_ 29 ?_; refine goesT_ (some 64) Try.func29 #[.slice Ao62 t644.length co62, .int .i64 1] ?_; (with_reducible refine (laws_markIntS.calls kj36 (fun k_ => some k_ = (.slice Ao62 t644.length co62 : Value).ownBlock) (.slice Ao62 t644.length co62) t644 1 t658 t659 w _ ?side1 ?side2 A53.out).mono ?_); (case side1 => repeat (first | (with_reducible first | exact HB.out | apply below_alloc | apply pw_below_drewN | apply below_drew1 | refine below_set ?_ GE627.out | refine below_set ?_ GE643.out) | exact HB.out)); (case side2 => exact Kd.R_tight rfl HO_7.out); rintro e w63 ⟨rfl, hy0, hb, hkp⟩; refine ⟨_, rfl, ?_⟩; replace HO_4 := A_ (Kd.R_mono (ok' := fun k_ => some k_ ≠ (.slice Ao62 t644.length co62 : Value).ownBlock ∧ some k_ ≠ (.slice Ao24 t656.length co24 : Value).ownBlock) (Kd.R_keptB (HO_4.out) hkp (fun k_ hk_ hs_ => (hk_.1) hs_)) (fun k_ hk_ => ⟨hk_.1.1, hk_.1.2⟩)); replace HO_644002 := A_ (Kd.R_mono (ok' := fun k_ => some k_ ≠ (v635 : Value).ownBlock ∧ some k_ ≠ (.slice Ao62 t644.length co62 : Value).ownBlock) (Kd.R_keptB (HO_644002.out) hkp (fun k_ hk_ hs_ => (hk_.2) hs_)) (fun k_ hk_ => ⟨hk_.1.1, hk_.1.2⟩)); replace BK627 := A_ (blk_kept (tk_ BK627) hkp (fun hs_ => (fun e_ => (Kd.R_ne HO_7.out BK627.out (by decide)) e_) hs_)); replace BK643 := A_ (blk_kept (tk_ BK643) hkp (fun hs_ => (fun e_ => (Kd.R_ne HO_7.out BK643.out (by decide)) e_) hs_)); replace HO_7 := A_ (Kd.R_reok rfl hy0 (fun k_ e_ => HO_7.out.1 k_ e_)); replace HB := A_ (hb); (try clear hb); (try clear hkp); (try clear hy0)) | (refine gc_ 30 ?_; refine goesL_ (some 67) rfl rfl Try.func30 (by kernel_rfl) rfl #[.slice Ao62 t659.length co62, .int .i64 1] rfl (by (try simp only [List.map_toArray, List.map_cons, List.map_nil]); first | done | (rw [show t659.length = t644.length from (Kd.R_reads' HO_7.out).1.symm] <;> rfl) | rfl | (simp only [List.length_drop, List.length_take]; rfl)) ?_; (with_reducible refine (laws_heldIntS.calls kj36 _ _ t659 1 t660 _ ?side1 ?side2 A54.out).mono ?_); (case side1 => exact tc0_ (Kd.R_reads' HO_7.out).2.2); (case side2 => rw [show t659.length = t644.length from (Kd.R_reads' HO_7.out).1.symm]; exact (Kd.R_reads' HO_7.out).2.1); rintro e w' ⟨rfl, ⟨nd, rfl⟩⟩; refine ⟨_, rfl, ?_⟩; have hnb64 := NB627_643.out; have hnc64 := NB643_627.out; obtain ⟨hcz65_0, hcz65_1, hcz65_2, hfz65_0, hfz65_1, hfz65_2⟩ := cf3_ BK627.out) | (refine gc_ 19 ?_; refine goesT_ (some 75) Try.func19 #[.agg #[.int .i64 a0_0, .int .i64 a0_1, .slice A0_2 l0_2.length c0_2]] ?_; (with_reducible refine (laws_toBoard.calls kj36 a0_0 a0_1 _ _ l0_2 t661 t662 t663 _ ?side1 ?side2 A59.out).mono ?_); (case side1 => repeat (first | exact (Kd.C_below HR0_2.out tb_) | (with_reducible refine Kd.C_alloc ?_ _) | (with_reducible refine Kd.C_drewN ?_ _) | (with_reducible refine Kd.C_drew ?_))); (case side2 => exact HC0_2.out); rintro e w66 ⟨v664, rfl, ho0, hb⟩; refine ⟨_, rfl, ?_⟩; have HO665 := A_ (Kd.R_lower (Kd.R_new' (Kd.R_new' (Kd.R_new' ho0 (Kd.R_lt (tr_x HO_4.out))) (Kd.R_lt (tr_x HO_7.out))) (Kd.R_lt (tr_x HO_644002.out))) (below_size tb_)); replace HO_4 := A_ (Kd.R_elder' (tr_x HO_4.out) (Kd.R_base ho0) hb); replace HO_7 := A_ (Kd.R_elder' (tr_x HO_7.out) (Kd.R_base ho0) hb); replace HO_644002 := A_ (Kd.R_elder' (tr_x HO_644002.out) (Kd.R_base ho0) hb); replace BK627 := A_ (blk_below (g := gb627) (o := .cells #[.int .i64 a0_0, .int .i64 a0_1, .slice A0_2 l0_2.length c0_2] 24 (0, 0)) (tk_ BK627) hb); replace BK643 := A_ (blk_below (g := gb643) (o := .cells #[.int .i64 t638, .int .i64 t639, .slice Ao24 t656.length co24] 26 (0, 0)) (tk_ BK643) hb); replace HB := A_ (below_step tb_ hb); (try clear hb); (try clear ho0); obtain ⟨Ao67, co67, eo67⟩ := Kd.R_slice HO665.out; subst eo67) | (refine gc_ 27 ?_; refine goesT_ (some 76) Try.func27 #[.agg #[.int .i64 t661, .int .i64 t662, .slice Ao67 t663.length co67]] ?_; (with_reducible refine (impl_BishopNumbers.calls kj36 t661 t662 _ _ t663 t666 t669 _ ?side1 ?side2 A60.out).mono ?_); (case side1 => exact tc0_ (Kd.R_reads' HO665.out).2.2); (case side2 => exact (Kd.R_reads' HO665.out).2.1); rintro e w68 ⟨v667, rfl, ho0, hb⟩; refine ⟨_, rfl, ?_⟩; have HO668 := A_ (Kd.R_lower (Kd.R_new' (Kd.R_new' (Kd.R_new' (Kd.R_new' ho0 (Kd.R_lt (tr_x HO_4.out))) (Kd.R_lt (tr_x HO_7.out))) (Kd.R_lt (tr_x HO_644002.out))) (Kd.R_lt (tr_x HO665.out))) (below_size tb_)); replace HO_4 := A_ (Kd.R_elder' (tr_x HO_4.out) (Kd.R_base ho0) hb); replace HO_7 := A_ (Kd.R_elder' (tr_x HO_7.out) (Kd.R_base ho0) hb); replace HO_644002 := A_ (Kd.R_elder' (tr_x HO_644002.out) (Kd.R_base ho0) hb); replace HO665 := A_ (Kd.R_elder' (tr_x HO665.out) (Kd.R_base ho0) hb); replace BK627 := A_ (blk_below (g := gb627) (o := .cells #[.int .i64 a0_0, .int .i64 a0_1, .slice A0_2 l0_2.length c0_2] 24 (0, 0)) (tk_ BK627) hb); replace BK643 := A_ (blk_below (g := gb643) (o := .cells #[.int .i64 t638, .int .i64 t639, .slice Ao24 t656.length co24] 26 (0, 0)) (tk_ BK643) hb); replace HB := A_ (below_step tb_ hb); (try clear hb); (try clear ho0)))
           (try simp only [Act.put, List.setIfInBounds_toArray, List.set_cons_zero, List.set_cons_succ])
           go_cut [87] (fun v87 wc => ∃ (kq : Nat) (x87_60 : Bool), v87 = .bool x87_60 ∧ Aside0 (laws_FnExactBishopNumbers.j2 kq t659 t658 x87_60 = some r) ∧ Aside0 (kq ≤ kj36) ∧ Aside0 (Kd.R (Kd.int .i64) 3 wc w.heap.size (fun k_ => some k_ ≠ ((.slice Ao24 t656.length co24) : Value).ownBlock) (.slice Ao62 t644.length co62) t659) ∧ Aside0 (Kd.R (Kd.int .i64) 3 wc w.heap.size (fun k_ => some k_ ≠ ((.slice Ao62 t644.length co62) : Value).ownBlock) (.slice Ao24 t656.length co24) t656) ∧ Aside0 (wc.heap[gb627]? = some (.cells #[.int .i64 a0_0, .int .i64 a0_1, (.slice A0_2 l0_2.length c0_2)] 24 (0, 0))) ∧ Aside0 (wc.heap[gb643]? = some (.cells #[.int .i64 t638, .int .i64 t639, (.slice Ao24 t656.length co24)] 26 (0, 0))) ∧ Aside0 (Below w.heap.size w wc))
           case first =>
            have H := HC61.out
            clear HC61
            replace H := Option.bind_eq_some_iff.mp H
            obtain ⟨t670, A690, H⟩ := H
            replace H : (if t670 = true then (laws_FnExactBishopNumbers.j2 kj36 t659 t658 (t669 != t637)) else (laws_FnExactBishopNumbers.j2 kj36 t659 t658 true)) = some r := H
            have A69 := A_ A690
            clear A690
            by_cases c70 : t670 = true
            ·
             subst c70
             have H1 : (laws_FnExactBishopNumbers.j2 kj36 t659 t658 (t669 != t637)) = some r := by rw [if_pos rfl] at H; exact H
             clear H
             have H := H1
             clear H1
             have H' := A_ H
             clear H
             obtain ⟨Ao71, co71, eo71⟩ := Kd.R_slice HO668.out
             subst eo71
             obtain ⟨Ao72, co72, eo72⟩ := Kd.R_slice HO_4.out
             subst eo72
             go_wp2_with (first | (refine gc_ 28 ?_; refine goesT_ (some 81) Try.func28 #[.slice Ao71 t666.length co71, .slice Ao72 t634.length co72] ?_; (with_reducible refine (laws_eqIntS.calls kj36 _ _ t666 _ _ t634 true _ ?side1 ?side2 ?side3 ?side4 A69.out).mono ?_); (case side1 => exact tc0_ (Kd.R_reads' HO668.out).2.2); (case side2 => exact (Kd.R_reads' HO668.out).2.1); (case side3 => exact tc0_ (Kd.R_reads' HO_4.out).2.2); (case side4 => exact (Kd.R_reads' HO_4.out).2.1); rintro e w' ⟨rfl, ⟨nd, rfl⟩⟩; refine ⟨_, rfl, ?_⟩))
             go_meet
             case rel => exact ⟨_, ((t669 != t637)), tf_, H', ⟨by have := HJ10.out; have := HJ36.out; first | omega | exact Nat.le_refl _⟩, ⟨by (try simp only [hl644002_36]); (with_reducible repeat (first | apply Kd.R_alloc | apply Kd.R_drewN | apply Kd.R_drew)); exact Kd.R_mono HO_7.out (fun _ hk => hk.1.1.2)⟩, ⟨by (try simp only [hl644002_36]); (with_reducible repeat (first | apply Kd.R_alloc | apply Kd.R_drewN | apply Kd.R_drew)); exact Kd.R_mono HO_644002.out (fun _ hk => hk.1.1.2)⟩, ⟨by (try simp only [hl644002_36]); (with_reducible repeat (first | refine blk_drewN ?_ _ | refine blk_drew ?_ | refine blk_alloc ?_ _)); exact BK627.out⟩, ⟨by (try simp only [hl644002_36]); (with_reducible repeat (first | refine blk_drewN ?_ _ | refine blk_drew ?_ | refine blk_alloc ?_ _)); exact BK643.out⟩, ⟨tb_⟩⟩
            ·
             replace c70 := Bool.eq_false_iff.mpr c70
             subst c70
             have H1 : (laws_FnExactBishopNumbers.j2 kj36 t659 t658 true) = some r := by rw [if_neg (show ¬ (false = true) by decide)] at H; exact H
             clear H
             have H := H1
             clear H1
             have H' := A_ H
             clear H
             obtain ⟨Ao73, co73, eo73⟩ := Kd.R_slice HO668.out
             subst eo73
             obtain ⟨Ao74, co74, eo74⟩ := Kd.R_slice HO_4.out
             subst eo74
             go_wp2_with (first | (refine gc_ 28 ?_; refine goesT_ (some 81) Try.func28 #[.slice Ao73 t666.length co73, .slice Ao74 t634.length co74] ?_; (with_reducible refine (laws_eqIntS.calls kj36 _ _ t666 _ _ t634 false _ ?side1 ?side2 ?side3 ?side4 A69.out).mono ?_); (case side1 => exact tc0_ (Kd.R_reads' HO668.out).2.2); (case side2 => exact (Kd.R_reads' HO668.out).2.1); (case side3 => exact tc0_ (Kd.R_reads' HO_4.out).2.2); (case side4 => exact (Kd.R_reads' HO_4.out).2.1); rintro e w' ⟨rfl, ⟨nd, rfl⟩⟩; refine ⟨_, rfl, ?_⟩))
             go_meet
             case rel => exact ⟨_, (true), tf_, H', ⟨by have := HJ10.out; have := HJ36.out; first | omega | exact Nat.le_refl _⟩, ⟨by (try simp only [hl644002_36]); (with_reducible repeat (first | apply Kd.R_alloc | apply Kd.R_drewN | apply Kd.R_drew)); exact Kd.R_mono HO_7.out (fun _ hk => hk.1.1.2)⟩, ⟨by (try simp only [hl644002_36]); (with_reducible repeat (first | apply Kd.R_alloc | apply Kd.R_drewN | apply Kd.R_drew)); exact Kd.R_mono HO_644002.out (fun _ hk => hk.1.1.2)⟩, ⟨by (try simp only [hl644002_36]); (with_reducible repeat (first | refine blk_drewN ?_ _ | refine blk_drew ?_ | refine blk_alloc ?_ _)); exact BK627.out⟩, ⟨by (try simp only [hl644002_36]); (with_reducible repeat (first | refine blk_drewN ?_ _ | refine blk_drew ?_ | refine blk_alloc ?_ _)); exact BK643.out⟩, ⟨tb_⟩⟩
           case rest =>
            clear HC61
            try clear c1
            try clear c2
            try clear p2
            try clear c3
            try clear c3b0
            try clear c4
            try clear c5
            try clear c6
            try clear c7
            try clear c17
            try clear c19
            try clear c21
            try clear c22
            try clear c26
            try clear c27
            try clear c28
            try clear c29
            try clear c30
            try clear c32
            try clear c35
            try clear c42
            try clear c45
            try clear c45b0
            try clear c47
            try clear c52
            try clear c55
            try clear c55b0
            try clear c58
            try clear c58b0
            try clear c58b1
            try clear c64
            try clear c70
            try clear hcz13_0
            try clear hcz13_1
            try clear hcz13_2
            try clear hcz15_0
            try clear hcz15_1
            try clear hcz15_2
            try clear hcz19_0
            try clear hcz19_1
            try clear hcz19_2
            try clear hcz23_0
            try clear hcz23_1
            try clear hcz23_2
            try clear hcz43_0
            try clear hcz43_1
            try clear hcz43_2
            try clear hcz5_0
            try clear hcz5_1
            try clear hcz5_2
            try clear hcz65_0
            try clear hcz65_1
            try clear hcz65_2
            try clear hfz13_0
            try clear hfz13_1
            try clear hfz13_2
            try clear hfz15_0
            try clear hfz15_1
            try clear hfz15_2
            try clear hfz19_0
            try clear hfz19_1
            try clear hfz19_2
            try clear hfz23_0
            try clear hfz23_1
            try clear hfz23_2
            try clear hfz43_0
            try clear hfz43_1
            try clear hfz43_2
            try clear hfz5_0
            try clear hfz5_1
            try clear hfz5_2
            try clear hfz65_0
            try clear hfz65_1
            try clear hfz65_2
            try clear p2
            obtain ⟨kq, x87_60, rfl, HA, HJ60, HO_7, HO_644002, BK627, BK643, HB⟩ := hcut
            have hl7_60 := (Kd.R_reads' HO_7.out).1
            rw [hl7_60] at HO_7
            (try simp only [hl7_60])
            (try simp only [hl7_60] at BK627)
            (try simp only [hl7_60] at BK643)
            (try simp only [hl7_60] at HO_644002)
            cases kq with
            | zero => exact absurd HA.out (by simp [laws_FnExactBishopNumbers.j2])
            | succ kj60 =>
             have H := HA.out
             clear HA
             simp only [laws_FnExactBishopNumbers.j2] at H
             by_cases c75 : x87_60 = true
             ·
              subst c75
              have H1 : (some false) = some r := by rw [if_pos rfl] at H; exact H
              clear H
              have H := H1
              clear H1
              obtain rfl := Option.some.inj H
              go_wp2
              go_ret
              exact ⟨te_, tb_⟩
             ·
              replace c75 := Bool.eq_false_iff.mpr c75
              subst c75
              have H1 : ((laws_heldIntS.f kj60 t659 1).bind fun t671 => (if t671 < 0 then (some false) else (if t671 = t658 then (some true) else (some false)))) = some r := by rw [if_neg (show ¬ (false = true) by decide)] at H; exact H
              clear H
              have H := H1
              clear H1
              replace H := Option.bind_eq_some_iff.mp H
              obtain ⟨t671, A760, H⟩ := H
              replace H : (if t671 < 0 then (some false) else (if t671 = t658 then (some true) else (some false))) = some r := H
              have A76 := A_ A760
              clear A760
              by_cases c77 : t671 < 0
              ·
               rw [if_pos c77] at H
               have c77b0 := decide_eq_true c77
               clear c77
               obtain rfl := Option.some.inj H
               go_wp2_with (first | (refine gc_ 30 ?_; refine goesT_ (some 90) Try.func30 #[.slice Ao62 t659.length co62, .int .i64 1] ?_; (with_reducible refine (laws_heldIntS.calls kj60 _ _ t659 1 t671 _ ?side1 ?side2 A76.out).mono ?_); (case side1 => exact tc0_ (Kd.R_reads' HO_7.out).2.2); (case side2 => exact (Kd.R_reads' HO_7.out).2.1); rintro e w' ⟨rfl, ⟨nd, rfl⟩⟩; refine ⟨_, rfl, ?_⟩))
               go_ret
               exact ⟨te_, tb_⟩
              ·
               rw [if_neg c77] at H
               have c77b0 := decide_eq_false c77
               clear c77
               by_cases c78 : t671 = t658
               ·
                rw [if_pos c78] at H
                have c78b0 : (t671 == t658) = true := beq_iff_eq.mpr c78
                have c78b1 : (t671 != t658) = false := bne_eq_false_iff_eq.mpr c78
                clear c78
                obtain rfl := Option.some.inj H
                go_wp2_with (first | (refine gc_ 30 ?_; refine goesT_ (some 90) Try.func30 #[.slice Ao62 t659.length co62, .int .i64 1] ?_; (with_reducible refine (laws_heldIntS.calls kj60 _ _ t659 1 t671 _ ?side1 ?side2 A76.out).mono ?_); (case side1 => exact tc0_ (Kd.R_reads' HO_7.out).2.2); (case side2 => exact (Kd.R_reads' HO_7.out).2.1); rintro e w' ⟨rfl, ⟨nd, rfl⟩⟩; refine ⟨_, rfl, ?_⟩))
                go_ret
                exact ⟨te_, tb_⟩
               ·
                rw [if_neg c78] at H
                have c78b0 : (t671 == t658) = false := beq_eq_false_iff_ne.mpr c78
                have c78b1 : (t671 != t658) = true := bne_iff_ne.mpr c78
                obtain rfl := Option.some.inj H
                go_wp2_with (first | (refine gc_ 30 ?_; refine goesT_ (some 90) Try.func30 #[.slice Ao62 t659.length co62, .int .i64 1] ?_; (with_reducible refine (laws_heldIntS.calls kj60 _ _ t659 1 t671 _ ?side1 ?side2 A76.out).mono ?_); (case side1 => exact tc0_ (Kd.R_reads' HO_7.out).2.2); (case side2 => exact (Kd.R_reads' HO_7.out).2.1); rintro e w' ⟨rfl, ⟨nd, rfl⟩⟩; refine ⟨_, rfl, ?_⟩))
                go_ret
                exact ⟨te_, tb_⟩
          ·
           rw [if_neg c58] at H
           have c58b0 : (t660 == t658) = false := beq_eq_false_iff_ne.mpr c58
           have c58b1 : (t660 != t658) = true := bne_iff_ne.mpr c58
           obtain rfl := Option.some.inj H
           obtain ⟨Ao79, co79, eo79⟩ := Kd.R_slice HO_7.out
           subst eo79
           go_wp2_with (first | (refine gc_ 29 ?_; refine goesT_ (some 64) Try.func29 #[.slice Ao79 t644.length co79, .int .i64 1] ?_; (with_reducible refine (laws_markIntS.calls kj36 (fun k_ => some k_ = (.slice Ao79 t644.length co79 : Value).ownBlock) (.slice Ao79 t644.length co79) t644 1 t658 t659 w _ ?side1 ?side2 A53.out).mono ?_); (case side1 => repeat (first | (with_reducible first | exact HB.out | apply below_alloc | apply pw_below_drewN | apply below_drew1 | refine below_set ?_ GE627.out | refine below_set ?_ GE643.out) | exact HB.out)); (case side2 => exact Kd.R_tight rfl HO_7.out); rintro e w80 ⟨rfl, hy0, hb, hkp⟩; refine ⟨_, rfl, ?_⟩; replace HO_4 := A_ (Kd.R_mono (ok' := fun k_ => some k_ ≠ (.slice Ao79 t644.length co79 : Value).ownBlock ∧ some k_ ≠ (.slice Ao24 t656.length co24 : Value).ownBlock) (Kd.R_keptB (HO_4.out) hkp (fun k_ hk_ hs_ => (hk_.1) hs_)) (fun k_ hk_ => ⟨hk_.1.1, hk_.1.2⟩)); replace HO_644002 := A_ (Kd.R_mono (ok' := fun k_ => some k_ ≠ (v635 : Value).ownBlock ∧ some k_ ≠ (.slice Ao79 t644.length co79 : Value).ownBlock) (Kd.R_keptB (HO_644002.out) hkp (fun k_ hk_ hs_ => (hk_.2) hs_)) (fun k_ hk_ => ⟨hk_.1.1, hk_.1.2⟩)); replace BK627 := A_ (blk_kept (tk_ BK627) hkp (fun hs_ => (fun e_ => (Kd.R_ne HO_7.out BK627.out (by decide)) e_) hs_)); replace BK643 := A_ (blk_kept (tk_ BK643) hkp (fun hs_ => (fun e_ => (Kd.R_ne HO_7.out BK643.out (by decide)) e_) hs_)); replace HO_7 := A_ (Kd.R_reok rfl hy0 (fun k_ e_ => HO_7.out.1 k_ e_)); replace HB := A_ (hb); (try clear hb); (try clear hkp); (try clear hy0)) | (refine gc_ 30 ?_; refine goesL_ (some 67) rfl rfl Try.func30 (by kernel_rfl) rfl #[.slice Ao79 t659.length co79, .int .i64 1] rfl (by (try simp only [List.map_toArray, List.map_cons, List.map_nil]); first | done | (rw [show t659.length = t644.length from (Kd.R_reads' HO_7.out).1.symm] <;> rfl) | rfl | (simp only [List.length_drop, List.length_take]; rfl)) ?_; (with_reducible refine (laws_heldIntS.calls kj36 _ _ t659 1 t660 _ ?side1 ?side2 A54.out).mono ?_); (case side1 => exact tc0_ (Kd.R_reads' HO_7.out).2.2); (case side2 => rw [show t659.length = t644.length from (Kd.R_reads' HO_7.out).1.symm]; exact (Kd.R_reads' HO_7.out).2.1); rintro e w' ⟨rfl, ⟨nd, rfl⟩⟩; refine ⟨_, rfl, ?_⟩))
           go_ret
           exact ⟨te_, tb_⟩
     ·
      replace c35 := Bool.eq_false_iff.mpr c35
      subst c35
      have H1 : (some false) = some r := by rw [if_neg (show ¬ (false = true) by decide)] at H; exact H
      clear H
      have H := H1
      clear H1
      obtain rfl := Option.some.inj H
      try go_wp2
      have n0_ := A_ (Kd.R_drew HO_4.out)
      have n1_ := A_ (Kd.R_drew HO_7.out)
      have n2_ := A_ (Kd.R_drew HO_644002.out)
      have n3_ := A_ (blk_drew BK627.out)
      have n4_ := A_ (blk_drew BK643.out)
      have n5_ := A_ (below_drew1 HB.out)
      clear HO_4
      clear HO_7
      clear HO_644002
      clear BK627
      clear BK643
      clear HB
      have HO_4 := n0_
      have HO_7 := n1_
      have HO_644002 := n2_
      have BK627 := n3_
      have BK643 := n4_
      have HB := n5_
      clear n0_ n1_ n2_ n3_ n4_ n5_
      refine start_ (n := 5) (S := fun w' => w'.cell? ⟨gb643, 0, none⟩ = some (.int .i64 t638) ∧ w'.cell? ⟨gb643, 1, none⟩ = some (.int .i64 t639) ∧ w'.cell? ⟨gb643, 2, none⟩ = some (.slice Ao24 t640.length co24) ∧ w'.cell? ⟨gb627, 0, none⟩ = some (.int .i64 a0_0) ∧ w'.cell? ⟨gb627, 1, none⟩ = some (.int .i64 a0_1) ∧ w'.cell? ⟨gb627, 2, none⟩ = some (.slice A0_2 l0_2.length c0_2)) (ds := []) (Fn.bl 5 0) (by kernel_rfl) rfl rfl ⟨(blk_cell BK643.out 0).trans rfl, (blk_cell BK643.out 1).trans rfl, (blk_cell BK643.out 2).trans rfl, (blk_cell BK627.out 0).trans rfl, (blk_cell BK627.out 1).trans rfl, (blk_cell BK627.out 2).trans rfl⟩ (fun hHeld => ?_)
      generalize wc.drew = w81 at HO_4 HO_7 HO_644002 BK627 BK643 HB hHeld ⊢
      refine take_ (i := 0) (N := some 41) (v := ?_) (a' := ?_) (Fn.bl 5 1) rfl rfl (by kernel_rfl) (fun _ _ _ h => h) (Or.inl ⟨by rfl, ?_⟩) hHeld ?_ ?_
      rotate_left
      ·
       rintro w' ⟨s0, s1, s2, s3, s4, s5⟩
       go_simp
       with_reducible rfl
      rotate_left
      ·
       simp only [Act.put, List.setIfInBounds_toArray, List.set_cons_zero, List.set_cons_succ, i64_w, i32_w]
       rfl
      refine take_ (i := 1) (N := some 42) (v := ?_) (a' := ?_) (Fn.bl 5 3) rfl rfl (by kernel_rfl) (fun _ _ _ h => h) (Or.inl ⟨by rfl, ?_⟩) hHeld ?_ ?_
      rotate_left
      ·
       rintro w' ⟨s0, s1, s2, s3, s4, s5⟩
       go_simp
       with_reducible rfl
      rotate_left
      ·
       simp only [Act.put, List.setIfInBounds_toArray, List.set_cons_zero, List.set_cons_succ, i64_w, i32_w]
       rfl
      refine one_ (i := 2) (N := some 43) (Fn.bl 5 7) rfl rfl (by kernel_rfl) (by decide) (fun K hK => ?_)
      refine goes_ Try.func19 (by kernel_rfl) rfl #[.agg #[.int .i64 a0_0, .int .i64 a0_1, .slice A0_2 l0_2.length c0_2]] (by rfl) rfl rfl ta_ ?_
      with_reducible refine (laws_toBoard.calls kj10 a0_0 a0_1 _ _ l0_2 t649 t650 t651 _ ?side1 ?side2 A33.out).mono ?_
      (case side1 => exact tc_ HR0_2.out)
      (case side2 => exact HC0_2.out)
      rintro e w82 ⟨v652, rfl, ho0, hb⟩
      refine ⟨_, rfl, ?_⟩
      have n0_ := A_ (Kd.R_elder' (tr_x HO_4.out) (Kd.R_base ho0) hb)
      have n1_ := A_ (Kd.R_elder' (tr_x HO_7.out) (Kd.R_base ho0) hb)
      have n2_ := A_ (Kd.R_elder' (tr_x HO_644002.out) (Kd.R_base ho0) hb)
      have n3_ := A_ (Kd.R_lower (Kd.R_new' (Kd.R_new' (Kd.R_new' ho0 (Kd.R_lt (tr_x HO_4.out))) (Kd.R_lt (tr_x HO_7.out))) (Kd.R_lt (tr_x HO_644002.out))) (below_size tb_))
      have n4_ := A_ (blk_below (g := gb627) (o := .cells #[.int .i64 a0_0, .int .i64 a0_1, .slice A0_2 l0_2.length c0_2] 24 (0, 0)) (tk_ BK627) hb)
      have n5_ := A_ (blk_below (g := gb643) (o := .cells #[.int .i64 t638, .int .i64 t639, .slice Ao24 t640.length co24] 26 (0, 0)) (tk_ BK643) hb)
      have n6_ := A_ (below_step tb_ hb)
      clear HO_4
      clear HO_7
      clear HO_644002
      clear BK627
      clear BK643
      clear HB
      have HO_4 := n0_
      have HO_7 := n1_
      have HO_644002 := n2_
      have HO653 := n3_
      have BK627 := n4_
      have BK643 := n5_
      have HB := n6_
      clear n0_ n1_ n2_ n3_ n4_ n5_ n6_
      (try clear hb)
      (try clear hb2)
      (try clear hk)
      (try clear hi)
      (try clear ho0)
      obtain ⟨Ao83, co83, eo83⟩ := Kd.R_slice HO653.out
      (first | subst eo83 | (injection eo83 with f1_ f2_ f3_; have f4_ := f1_.symm; have f5_ := f3_.symm; clear f1_ f2_ f3_; subst f4_; subst f5_))
      refine hK.out _ _ ⟨(blk_cell BK643.out 0).trans rfl, (blk_cell BK643.out 1).trans rfl, (blk_cell BK643.out 2).trans rfl, (blk_cell BK627.out 0).trans rfl, (blk_cell BK627.out 1).trans rfl, (blk_cell BK627.out 2).trans rfl⟩ (fun hHeld => ?_)
      clear hK K
      refine norm_ (a' := ?_) ?_ ?_
      rotate_left
      ·
       show Act.put _ (some 43) _ = _
       simp only [Act.put, List.setIfInBounds_toArray, List.set_cons_zero, List.set_cons_succ, i64_w, i32_w]
       rfl
      refine one_ (i := 3) (N := some 44) (Fn.bl 5 15) rfl rfl (by kernel_rfl) (by decide) (fun K hK => ?_)
      refine goes_ Try.func21 (by kernel_rfl) rfl #[.agg #[.int .i64 t638, .int .i64 t639, .slice Ao24 t640.length co24], .agg #[.int .i64 t649, .int .i64 t650, .slice Ao83 t651.length co83]] (by rfl) rfl rfl ta_ ?_
      with_reducible refine (laws_eqBoard.calls kj10 t638 t639 _ _ t640 t649 t650 _ _ t651 false _ ?side1 ?side2 ?side3 ?side4 A34.out).mono ?_
      (case side1 => exact tc0_ (Kd.R_reads' HO_644002.out).2.2)
      (case side2 => exact (Kd.R_reads' HO_644002.out).2.1)
      (case side3 => exact tc0_ (Kd.R_reads' HO653.out).2.2)
      (case side4 => exact (Kd.R_reads' HO653.out).2.1)
      rintro e w84 ⟨rfl, hb⟩
      refine ⟨_, rfl, ?_⟩
      have n0_ := A_ (Kd.R_below (tr_x HO_4.out) hb)
      have n1_ := A_ (Kd.R_below (tr_x HO_7.out) hb)
      have n2_ := A_ (Kd.R_below (tr_x HO_644002.out) hb)
      have n3_ := A_ (Kd.R_below (tr_x HO653.out) hb)
      have n4_ := A_ (blk_below (g := gb627) (o := .cells #[.int .i64 a0_0, .int .i64 a0_1, .slice A0_2 l0_2.length c0_2] 24 (0, 0)) (tk_ BK627) hb)
      have n5_ := A_ (blk_below (g := gb643) (o := .cells #[.int .i64 t638, .int .i64 t639, .slice Ao24 t640.length co24] 26 (0, 0)) (tk_ BK643) hb)
      have n6_ := A_ (below_step tb_ hb)
      clear HO_4
      clear HO_7
      clear HO_644002
      clear HO653
      clear BK627
      clear BK643
      clear HB
      have HO_4 := n0_
      have HO_7 := n1_
      have HO_644002 := n2_
      have HO653 := n3_
      have BK627 := n4_
      have BK643 := n5_
      have HB := n6_
      clear n0_ n1_ n2_ n3_ n4_ n5_ n6_
      (try clear hb)
      (try clear hb2)
      (try clear hk)
      (try clear hi)
      refine hK.out _ _ ⟨(blk_cell BK643.out 0).trans rfl, (blk_cell BK643.out 1).trans rfl, (blk_cell BK643.out 2).trans rfl, (blk_cell BK627.out 0).trans rfl, (blk_cell BK627.out 1).trans rfl, (blk_cell BK627.out 2).trans rfl⟩ (fun hHeld => ?_)
      clear hK K
      refine norm_ (a' := ?_) ?_ ?_
      rotate_left
      ·
       show Act.put _ (some 44) _ = _
       simp only [Act.put, List.setIfInBounds_toArray, List.set_cons_zero, List.set_cons_succ, i64_w, i32_w]
       rfl
      refine pk_ 4 (some 45) (Fn.bl 5 31) ?_
      refine done_ (by kernel_rfl) ?_
      try go_wp2
      go_ret
      exact ⟨te_, tb_⟩

/-- THE ONE PURE STATEMENT of laws_FnExactBishopNumbers: yours. -/
def laws_FnExactBishopNumbers.Pure : Prop := ∀ (a0_0 : Int) (a0_1 : Int) (l0_2 : List Int), Fn.okI a0_0 → Fn.okI a0_1 → (Fn.okL Fn.okI) l0_2 → ∃ k, laws_FnExactBishopNumbers.f k a0_0 a0_1 l0_2 = some true

end
end Go.Proofs.Ythlcaikplebpmaa.P
