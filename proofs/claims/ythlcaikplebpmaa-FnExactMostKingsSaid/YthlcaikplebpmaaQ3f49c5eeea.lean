-- printed functions (wip/slim.py)
import Derived.Test.YthlcaikplebpmaaPx0
import Derived.Test.YthlcaikplebpmaaQ40da73bbfe
import Derived.Test.YthlcaikplebpmaaQ34e82370ee
namespace Go.Proofs.Ythlcaikplebpmaa.P
noncomputable section
set_option maxHeartbeats 8000000
set_option maxRecDepth 100000
open Go.RowKit Go.Proofs.YthlcaikplebpmaaW.PrintWords Go.Proofs.YthlcaikplebpmaaW.PrintLast Go.Proofs.YthlcaikplebpmaaW.PrintMore
attribute [local go_sem] max2_int min2_int max_two min_two max_three min_three max_four min_four   -- for this text's walks alone
set_option linter.unusedVariables false
set_option linter.unusedSimpArgs false

/-! ### laws_FnExactMostKings: function 10 -/
def laws_FnExactMostKings.j0 : Nat → Bool → Int → Int → List Int → Int → Int → List Int → Option (Bool)
 | 0, _, _, _, _, _, _, _ => none
 | k + 1, x34, x868000, x868001, x868002, x882000, x882001, x882002 => if x34 = true then (some false) else ((laws_toBoard.f k x868000 x868001 x868002).bind fun bt884 => ((laws_eqBoard.f k x882000 x882001 x882002 bt884.1 bt884.2.1 bt884.2.2).bind fun t889 => (if t889 = true then (some true) else (some false))))
def laws_FnExactMostKings.f (k : Nat) (a0_0 : Int) (a0_1 : Int) (l0_2 : List Int) : Option (Bool) := (laws_szBoard.f a0_0 a0_1 l0_2 1048576).bind fun t868 => (if t868 < 0 then (some true) else ((laws_toBoard.f k a0_0 a0_1 l0_2).bind fun bt869 => ((spec_MostKings.f k bt869.1 bt869.2.1 bt869.2.2).bind fun bt874 => ((laws_toBoard.f k a0_0 a0_1 l0_2).bind fun bt876 => ((impl_MostKings.f k bt876.1 bt876.2.1 bt876.2.2).bind fun bt882 => (if bt882.1 = bt874.1 then (laws_FnExactMostKings.j0 k (bt882.2 != bt874.2) a0_0 a0_1 l0_2 bt876.1 bt876.2.1 bt876.2.2) else (laws_FnExactMostKings.j0 k true a0_0 a0_1 l0_2 bt876.1 bt876.2.1 bt876.2.2)))))))
theorem laws_FnExactMostKings.mono_l : ∀ k, (∀ y0 y1 y2 y3 y4 y5 y6, LeO (laws_FnExactMostKings.j0 k y0 y1 y2 y3 y4 y5 y6) (laws_FnExactMostKings.j0 (k + 1) y0 y1 y2 y3 y4 y5 y6))
 | 0 => fun _ _ _ _ _ _ _ r h => by simp [laws_FnExactMostKings.j0] at h
 | k + 1 => by
  have ih0 := laws_FnExactMostKings.mono_l k
  ·
   intro y0 y1 y2 y3 y4 y5 y6
   unfold laws_FnExactMostKings.j0
   repeat' first | (with_reducible first | exact ih0 _ _ _ _ _ _ _ | exact impl_MostKings.mono _ _ _ _ | exact laws_eqBoard.mono _ _ _ _ _ _ _ | exact laws_toBoard.mono _ _ _ _ | exact spec_MostKings.mono _ _ _ _ | exact LeO.refl _ | exact LeO.none _ | refine LeO.ite ?_ ?_ | refine LeO.bind ?_ (fun _ => ?_)) | exact ih0 _ _ _ _ _ _ _ | exact impl_MostKings.mono _ _ _ _ | exact laws_eqBoard.mono _ _ _ _ _ _ _ | exact laws_toBoard.mono _ _ _ _ | exact spec_MostKings.mono _ _ _ _ | exact LeO.none _ | refine LeO.ite ?_ ?_ | refine LeO.bind ?_ (fun _ => ?_)
theorem laws_FnExactMostKings.mono : ∀ a0 a1 a2 k, LeO (laws_FnExactMostKings.f k a0 a1 a2) (laws_FnExactMostKings.f (k + 1) a0 a1 a2) := by
 intro a0 a1 a2 k
 have ih0 := laws_FnExactMostKings.mono_l k
 unfold laws_FnExactMostKings.f
 repeat' first | (with_reducible first | exact ih0 _ _ _ _ _ _ _ | exact impl_MostKings.mono _ _ _ _ | exact laws_eqBoard.mono _ _ _ _ _ _ _ | exact laws_toBoard.mono _ _ _ _ | exact spec_MostKings.mono _ _ _ _ | exact LeO.refl _ | exact LeO.none _ | refine LeO.ite ?_ ?_ | refine LeO.bind ?_ (fun _ => ?_)) | exact ih0 _ _ _ _ _ _ _ | exact impl_MostKings.mono _ _ _ _ | exact laws_eqBoard.mono _ _ _ _ _ _ _ | exact laws_toBoard.mono _ _ _ _ | exact spec_MostKings.mono _ _ _ _ | exact LeO.none _ | refine LeO.ite ?_ ?_ | refine LeO.bind ?_ (fun _ => ?_)
theorem laws_FnExactMostKings.calls (k : Nat) (a0_0 : Int) (a0_1 : Int) (A0_2 : Option Addr) (c0_2 : Nat) (l0_2 : List Int) (r : Bool) (w : World) (hr0_2 : Kd.C (Kd.int .i64) w A0_2 l0_2.length l0_2) (hc0_2 : l0_2.length ≤ c0_2) (h : laws_FnExactMostKings.f k a0_0 a0_1 l0_2 = some r) :
  Calls Try.prog 10 #[.agg #[.int .i64 a0_0, .int .i64 a0_1, .slice A0_2 l0_2.length c0_2]] w fun e w' => e = .returned (.bool r) ∧ Below w.heap.size w w' := by
 have hu24 := Try.underlying24
 have hu26 := Try.underlying26
 have HR0_2 := A_ hr0_2
 have HC0_2 := A_ hc0_2
 clear hr0_2 hc0_2
 have HB := A_ (Below.refl w.heap.size w)
 have H : ((laws_szBoard.f a0_0 a0_1 l0_2 1048576).bind fun t868 => (if t868 < 0 then (some true) else ((laws_toBoard.f k a0_0 a0_1 l0_2).bind fun bt869 => ((spec_MostKings.f k bt869.1 bt869.2.1 bt869.2.2).bind fun bt874 => ((laws_toBoard.f k a0_0 a0_1 l0_2).bind fun bt876 => ((impl_MostKings.f k bt876.1 bt876.2.1 bt876.2.2).bind fun bt882 => (if bt882.1 = bt874.1 then (laws_FnExactMostKings.j0 k (bt882.2 != bt874.2) a0_0 a0_1 l0_2 bt876.1 bt876.2.1 bt876.2.2) else (laws_FnExactMostKings.j0 k true a0_0 a0_1 l0_2 bt876.1 bt876.2.1 bt876.2.2)))))))) = some r := h
 clear h
 replace H := Option.bind_eq_some_iff.mp H
 obtain ⟨t868, A20, H⟩ := H
 replace H : (if t868 < 0 then (some true) else ((laws_toBoard.f k a0_0 a0_1 l0_2).bind fun bt869 => ((spec_MostKings.f k bt869.1 bt869.2.1 bt869.2.2).bind fun bt874 => ((laws_toBoard.f k a0_0 a0_1 l0_2).bind fun bt876 => ((impl_MostKings.f k bt876.1 bt876.2.1 bt876.2.2).bind fun bt882 => (if bt882.1 = bt874.1 then (laws_FnExactMostKings.j0 k (bt882.2 != bt874.2) a0_0 a0_1 l0_2 bt876.1 bt876.2.1 bt876.2.2) else (laws_FnExactMostKings.j0 k true a0_0 a0_1 l0_2 bt876.1 bt876.2.1 bt876.2.2))))))) = some r := H
 have A2 := A_ A20
 clear A20
 by_cases c3 : t868 < 0
 ·
  rw [if_pos c3] at H
  have c3b0 := decide_eq_true c3
  clear c3
  obtain rfl := Option.some.inj H
  go_enter Try.func10, Try.ntmps10
  go_wp2_with (first | (refine gd_ 1 ?_; refine bx_ 1 #[.int .i64 a0_0, .int .i64 a0_1, .slice A0_2 l0_2.length c0_2] 24 ?_; intro gb867 hg w4 hbox hb; have BK867 := A_ (hbox); have GW867 := A_ ((ts_ hg : w.heap.size ≤ gb867)); have GE867 := A_ ((ts_ hg : w.heap.size ≤ gb867)); replace HB := A_ (below_step tb_ hb); clear hb hbox hg; obtain ⟨hcz5_0, hcz5_1, hcz5_2, hfz5_0, hfz5_1, hfz5_2⟩ := cf3_ BK867.out) | (refine gc_ 17 ?_; refine goesT_ (some 11) Try.func17 #[.agg #[.int .i64 a0_0, .int .i64 a0_1, .slice A0_2 l0_2.length c0_2], .int .i64 1048576] ?_; (with_reducible refine (laws_szBoard.calls a0_0 a0_1 _ _ l0_2 1048576 t868 _ ?side1 ?side2 A2.out).mono ?_); (case side1 => exact tc_ HR0_2.out); (case side2 => exact HC0_2.out); rintro e w6 ⟨rfl, hb⟩; refine ⟨_, rfl, ?_⟩; replace BK867 := A_ (blk_below (g := gb867) (o := .cells #[.int .i64 a0_0, .int .i64 a0_1, .slice A0_2 l0_2.length c0_2] 24 (0, 0)) (tk_ BK867) hb); replace HB := A_ (below_step tb_ hb); (try clear hb)))
  go_ret
  exact ⟨te_, tb_⟩
 ·
  rw [if_neg c3] at H
  have c3b0 := decide_eq_false c3
  clear c3
  replace H := Option.bind_eq_some_iff.mp H
  obtain ⟨⟨t869, t870, t871⟩, A70, H⟩ := H
  replace H : ((spec_MostKings.f k t869 t870 t871).bind fun bt874 => ((laws_toBoard.f k a0_0 a0_1 l0_2).bind fun bt876 => ((impl_MostKings.f k bt876.1 bt876.2.1 bt876.2.2).bind fun bt882 => (if bt882.1 = bt874.1 then (laws_FnExactMostKings.j0 k (bt882.2 != bt874.2) a0_0 a0_1 l0_2 bt876.1 bt876.2.1 bt876.2.2) else (laws_FnExactMostKings.j0 k true a0_0 a0_1 l0_2 bt876.1 bt876.2.1 bt876.2.2))))) = some r := H
  have A7 := A_ A70
  clear A70
  replace H := Option.bind_eq_some_iff.mp H
  obtain ⟨⟨t874, t875⟩, A80, H⟩ := H
  replace H : ((laws_toBoard.f k a0_0 a0_1 l0_2).bind fun bt876 => ((impl_MostKings.f k bt876.1 bt876.2.1 bt876.2.2).bind fun bt882 => (if bt882.1 = t874 then (laws_FnExactMostKings.j0 k (bt882.2 != t875) a0_0 a0_1 l0_2 bt876.1 bt876.2.1 bt876.2.2) else (laws_FnExactMostKings.j0 k true a0_0 a0_1 l0_2 bt876.1 bt876.2.1 bt876.2.2)))) = some r := H
  have A8 := A_ A80
  clear A80
  replace H := Option.bind_eq_some_iff.mp H
  obtain ⟨⟨t876, t877, t878⟩, A90, H⟩ := H
  replace H : ((impl_MostKings.f k t876 t877 t878).bind fun bt882 => (if bt882.1 = t874 then (laws_FnExactMostKings.j0 k (bt882.2 != t875) a0_0 a0_1 l0_2 t876 t877 t878) else (laws_FnExactMostKings.j0 k true a0_0 a0_1 l0_2 t876 t877 t878))) = some r := H
  have A9 := A_ A90
  clear A90
  replace H := Option.bind_eq_some_iff.mp H
  obtain ⟨⟨t882, t883⟩, A100, H⟩ := H
  replace H : (if t882 = t874 then (laws_FnExactMostKings.j0 k (t883 != t875) a0_0 a0_1 l0_2 t876 t877 t878) else (laws_FnExactMostKings.j0 k true a0_0 a0_1 l0_2 t876 t877 t878)) = some r := H
  have A10 := A_ A100
  clear A100
  have HC11 := A_ H
  clear H
  go_enter Try.func10, Try.ntmps10
  go_upto_region 8 with (first | (refine gd_ 1 ?_; refine bx_ 1 #[.int .i64 a0_0, .int .i64 a0_1, .slice A0_2 l0_2.length c0_2] 24 ?_; intro gb867 hg w12 hbox hb; have BK867 := A_ (hbox); have GW867 := A_ ((ts_ hg : w.heap.size ≤ gb867)); have GE867 := A_ ((ts_ hg : w.heap.size ≤ gb867)); replace HB := A_ (below_step tb_ hb); clear hb hbox hg; obtain ⟨hcz13_0, hcz13_1, hcz13_2, hfz13_0, hfz13_1, hfz13_2⟩ := cf3_ BK867.out) | (refine gc_ 17 ?_; refine goesT_ (some 11) Try.func17 #[.agg #[.int .i64 a0_0, .int .i64 a0_1, .slice A0_2 l0_2.length c0_2], .int .i64 1048576] ?_; (with_reducible refine (laws_szBoard.calls a0_0 a0_1 _ _ l0_2 1048576 t868 _ ?side1 ?side2 A2.out).mono ?_); (case side1 => exact tc_ HR0_2.out); (case side2 => exact HC0_2.out); rintro e w14 ⟨rfl, hb⟩; refine ⟨_, rfl, ?_⟩; replace BK867 := A_ (blk_below (g := gb867) (o := .cells #[.int .i64 a0_0, .int .i64 a0_1, .slice A0_2 l0_2.length c0_2] 24 (0, 0)) (tk_ BK867) hb); replace HB := A_ (below_step tb_ hb); (try clear hb); obtain ⟨hcz15_0, hcz15_1, hcz15_2, hfz15_0, hfz15_1, hfz15_2⟩ := cf3_ BK867.out) | (refine gc_ 19 ?_; refine goesT_ (some 16) Try.func19 #[.agg #[.int .i64 a0_0, .int .i64 a0_1, .slice A0_2 l0_2.length c0_2]] ?_; (with_reducible refine (laws_toBoard.calls k a0_0 a0_1 _ _ l0_2 t869 t870 t871 _ ?side1 ?side2 A7.out).mono ?_); (case side1 => exact tc_ HR0_2.out); (case side2 => exact HC0_2.out); rintro e w16 ⟨v872, rfl, ho0, hb⟩; refine ⟨_, rfl, ?_⟩; have HO873 := A_ (Kd.R_lower ho0 (below_size tb_)); replace BK867 := A_ (blk_below (g := gb867) (o := .cells #[.int .i64 a0_0, .int .i64 a0_1, .slice A0_2 l0_2.length c0_2] 24 (0, 0)) (tk_ BK867) hb); replace HB := A_ (below_step tb_ hb); (try clear hb); (try clear ho0); obtain ⟨Ao17, co17, eo17⟩ := Kd.R_slice HO873.out; subst eo17) | (refine gc_ 42 ?_; refine goesT_ (some 17) Try.func42 #[.agg #[.int .i64 t869, .int .i64 t870, .slice Ao17 t871.length co17]] ?_; (with_reducible refine (spec_MostKings.calls k t869 t870 _ _ t871 t874 t875 _ ?side1 ?side2 A8.out).mono ?_); (case side1 => exact tc0_ (Kd.R_reads' HO873.out).2.2); (case side2 => exact (Kd.R_reads' HO873.out).2.1); rintro e w18 ⟨rfl, hb⟩; refine ⟨_, rfl, ?_⟩; replace HO873 := A_ (Kd.R_below (tr_x HO873.out) hb); replace BK867 := A_ (blk_below (g := gb867) (o := .cells #[.int .i64 a0_0, .int .i64 a0_1, .slice A0_2 l0_2.length c0_2] 24 (0, 0)) (tk_ BK867) hb); replace HB := A_ (below_step tb_ hb); (try clear hb); obtain ⟨hcz19_0, hcz19_1, hcz19_2, hfz19_0, hfz19_1, hfz19_2⟩ := cf3_ BK867.out) | (refine gc_ 19 ?_; refine goesT_ (some 21) Try.func19 #[.agg #[.int .i64 a0_0, .int .i64 a0_1, .slice A0_2 l0_2.length c0_2]] ?_; (with_reducible refine (laws_toBoard.calls k a0_0 a0_1 _ _ l0_2 t876 t877 t878 _ ?side1 ?side2 A9.out).mono ?_); (case side1 => exact tc_ HR0_2.out); (case side2 => exact HC0_2.out); rintro e w20 ⟨v879, rfl, ho0, hb⟩; refine ⟨_, rfl, ?_⟩; have HO880 := A_ (Kd.R_lower (Kd.R_new' ho0 (Kd.R_lt (tr_x HO873.out))) (below_size tb_)); replace HO873 := A_ (Kd.R_elder' (tr_x HO873.out) (Kd.R_base ho0) hb); replace BK867 := A_ (blk_below (g := gb867) (o := .cells #[.int .i64 a0_0, .int .i64 a0_1, .slice A0_2 l0_2.length c0_2] 24 (0, 0)) (tk_ BK867) hb); replace HB := A_ (below_step tb_ hb); (try clear hb); (try clear ho0)) | (refine gd_ 6 ?_; refine bx_ 6 #[.int .i64 0, .int .i64 0, .slice none 0 0] 26 ?_; intro gb881 hg w21 hbox hb; replace HO873 := A_ (Kd.R_below (tr_x HO873.out) hb); replace HO880 := A_ (Kd.R_below (tr_x HO880.out) hb); have BK881 := A_ (hbox); have GW881 := A_ ((ts_ hg : w.heap.size ≤ gb881)); have GE881 := A_ ((ts_ hg : w.heap.size ≤ gb881)); replace HB := A_ (below_step tb_ hb); have NB867_881 := A_ ((by rw [hg]; exact Nat.ne_of_lt (blk_lt (g := gb867) (o := .cells #[.int .i64 a0_0, .int .i64 a0_1, .slice A0_2 l0_2.length c0_2] 24 (0, 0)) (tk_ BK867)) : gb867 ≠ gb881)); have NB881_867 := A_ ((by rw [hg]; exact Nat.ne_of_gt (blk_lt (g := gb867) (o := .cells #[.int .i64 a0_0, .int .i64 a0_1, .slice A0_2 l0_2.length c0_2] 24 (0, 0)) (tk_ BK867)) : gb881 ≠ gb867)); replace BK867 := A_ (blk_below (g := gb867) (o := .cells #[.int .i64 a0_0, .int .i64 a0_1, .slice A0_2 l0_2.length c0_2] 24 (0, 0)) (tk_ BK867) hb); clear hb hbox hg; have hnb22 := NB881_867.out; have hnc22 := NB867_881.out; obtain ⟨hcz23_0, hcz23_1, hcz23_2, hfz23_0, hfz23_1, hfz23_2⟩ := cf3_ BK881.out; obtain ⟨Ao24, co24, eo24⟩ := Kd.R_slice HO880.out; subst eo24) | (refine gc_ 43 ?_; refine goesT_ (some 24) Try.func43 #[.agg #[.int .i64 t876, .int .i64 t877, .slice Ao24 t878.length co24]] ?_; (with_reducible refine (impl_MostKings.calls k t876 t877 _ _ t878 t882 t883 _ ?side1 ?side2 A10.out).mono ?_); (case side1 => refine (Kd.R_reads' (e := 3) (base := w.heap.size) (ok := fun k_ => (True ∧ some k_ ≠ (.slice Ao17 t871.length co17 : Value).ownBlock)) (n := t878.length) (c := co24) ?_).2.2; exact (tr_ (h := by exact (Kd.R_mono (Kd.R_far (p := ⟨gb881, 2, none⟩) (Kd.R_far (p := ⟨gb881, 1, none⟩) (Kd.R_far (p := ⟨gb881, 0, none⟩) (Kd.R_types HO880.out BK881.out (by decide)) (fun _ hk => hk.2) (.int .i64 t876)) (fun _ hk => hk.2) (.int .i64 t877)) (fun _ hk => hk.2) (.slice Ao24 t878.length co24)) (fun _ h_ => h_.1))))); (case side2 => exact (Kd.R_reads' HO880.out).2.1); rintro e w25 ⟨rfl, hb⟩; refine ⟨_, rfl, ?_⟩; replace HO873 := A_ (Kd.R_below (tr_ (h := by exact (Kd.R_mono (Kd.R_far (p := ⟨gb881, 2, none⟩) (Kd.R_far (p := ⟨gb881, 1, none⟩) (Kd.R_far (p := ⟨gb881, 0, none⟩) (Kd.R_types HO873.out BK881.out (by decide)) (fun _ hk => hk.2) (.int .i64 t876)) (fun _ hk => hk.2) (.int .i64 t877)) (fun _ hk => hk.2) (.slice Ao24 t878.length co24)) (fun _ h_ => h_.1)))) hb); replace HO880 := A_ (Kd.R_below (tr_ (h := by exact (Kd.R_mono (Kd.R_far (p := ⟨gb881, 2, none⟩) (Kd.R_far (p := ⟨gb881, 1, none⟩) (Kd.R_far (p := ⟨gb881, 0, none⟩) (Kd.R_types HO880.out BK881.out (by decide)) (fun _ hk => hk.2) (.int .i64 t876)) (fun _ hk => hk.2) (.int .i64 t877)) (fun _ hk => hk.2) (.slice Ao24 t878.length co24)) (fun _ h_ => h_.1)))) hb); replace BK867 := A_ (blk_below (g := gb867) (o := .cells #[.int .i64 a0_0, .int .i64 a0_1, .slice A0_2 l0_2.length c0_2] 24 (0, 0)) (tk_ BK867) hb); replace BK881 := A_ (blk_below (g := gb881) (o := .cells #[.int .i64 t876, .int .i64 t877, .slice Ao24 t878.length co24] 26 (0, 0)) (by (with_reducible repeat (first | refine blk_drewN ?_ _ | refine blk_drew ?_ | refine blk_alloc ?_ _)); refine blk_put (cs := #[.int .i64 t876, .int .i64 t877, .slice none 0 0]) ?_ 2 _ rfl; (with_reducible repeat (first | refine blk_drewN ?_ _ | refine blk_drew ?_ | refine blk_alloc ?_ _)); refine blk_put (cs := #[.int .i64 t876, .int .i64 0, .slice none 0 0]) ?_ 1 _ rfl; (with_reducible repeat (first | refine blk_drewN ?_ _ | refine blk_drew ?_ | refine blk_alloc ?_ _)); refine blk_put (cs := #[.int .i64 0, .int .i64 0, .slice none 0 0]) ?_ 0 _ rfl; (with_reducible repeat (first | refine blk_drewN ?_ _ | refine blk_drew ?_ | refine blk_alloc ?_ _)); exact BK881.out) hb); replace HB := A_ (below_step tb_ hb); (try clear hb)))
  (try simp only [Act.put, List.setIfInBounds_toArray, List.set_cons_zero, List.set_cons_succ])
  go_cut [34] (fun v34 wc => ∃ (kq : Nat) (x34_10 : Bool), v34 = .bool x34_10 ∧ Aside0 (laws_FnExactMostKings.j0 kq x34_10 a0_0 a0_1 l0_2 t876 t877 t878 = some r) ∧ Aside0 (kq ≤ k) ∧ Aside0 (Kd.R (Kd.int .i64) 3 wc w.heap.size (fun _ => True) (.slice Ao24 t878.length co24) t878) ∧ Aside0 (wc.heap[gb867]? = some (.cells #[.int .i64 a0_0, .int .i64 a0_1, (.slice A0_2 l0_2.length c0_2)] 24 (0, 0))) ∧ Aside0 (wc.heap[gb881]? = some (.cells #[.int .i64 t876, .int .i64 t877, (.slice Ao24 t878.length co24)] 26 (0, 0))) ∧ Aside0 (Below w.heap.size w wc))
  case first =>
   have H := HC11.out
   clear HC11
   by_cases c26 : t882 = t874
   ·
    rw [if_pos c26] at H
    have c26b0 : (t882 == t874) = true := beq_iff_eq.mpr c26
    have c26b1 : (t882 != t874) = false := bne_eq_false_iff_eq.mpr c26
    clear c26
    (first | rw [c26b0] | rw [c26b1] | (simp only [i64_w, i32_w]; rw [c26b0]) | skip)
    have H' := A_ H
    clear H
    go_wp2
    go_meet
    case rel => exact ⟨_, ((t883 != t875)), tf_, H', ⟨by first | omega | exact Nat.le_refl _⟩, ⟨by (with_reducible repeat (first | apply Kd.R_alloc | apply Kd.R_drewN | apply Kd.R_drew)); exact Kd.R_mono HO880.out (fun _ hk => trivial)⟩, ⟨tk_ BK867⟩, ⟨tk_ BK881⟩, ⟨tb_⟩⟩
   ·
    rw [if_neg c26] at H
    have c26b0 : (t882 == t874) = false := beq_eq_false_iff_ne.mpr c26
    have c26b1 : (t882 != t874) = true := bne_iff_ne.mpr c26
    (first | rw [c26b0] | rw [c26b1] | (simp only [i64_w, i32_w]; rw [c26b0]) | skip)
    have H' := A_ H
    clear H
    go_wp2
    go_meet
    case rel => exact ⟨_, (true), tf_, H', ⟨by first | omega | exact Nat.le_refl _⟩, ⟨by (with_reducible repeat (first | apply Kd.R_alloc | apply Kd.R_drewN | apply Kd.R_drew)); exact Kd.R_mono HO880.out (fun _ hk => trivial)⟩, ⟨tk_ BK867⟩, ⟨tk_ BK881⟩, ⟨tb_⟩⟩
  case rest =>
   clear HC11
   try clear c1
   try clear c2
   try clear p2
   try clear c3
   try clear c3b0
   try clear c4
   try clear c10
   try clear c17
   try clear c19
   try clear c22
   try clear c26
   try clear c26b0
   try clear c26b1
   try clear hcz13_0
   try clear hcz13_1
   try clear hcz13_2
   try clear hcz15_0
   try clear hcz15_1
   try clear hcz15_2
   try clear hcz19_0
   try clear hcz19_1
   try clear hcz19_2
   try clear hcz23_0
   try clear hcz23_1
   try clear hcz23_2
   try clear hcz5_0
   try clear hcz5_1
   try clear hcz5_2
   try clear hfz13_0
   try clear hfz13_1
   try clear hfz13_2
   try clear hfz15_0
   try clear hfz15_1
   try clear hfz15_2
   try clear hfz19_0
   try clear hfz19_1
   try clear hfz19_2
   try clear hfz23_0
   try clear hfz23_1
   try clear hfz23_2
   try clear hfz5_0
   try clear hfz5_1
   try clear hfz5_2
   obtain ⟨kq, x34_10, rfl, HA, HJ10, HO_882002, BK867, BK881, HB⟩ := hcut
   cases kq with
   | zero => exact absurd HA.out (by simp [laws_FnExactMostKings.j0])
   | succ kj10 =>
    have H := HA.out
    clear HA
    simp only [laws_FnExactMostKings.j0] at H
    by_cases c27 : x34_10 = true
    ·
     subst c27
     have H1 : (some false) = some r := by rw [if_pos rfl] at H; exact H
     clear H
     have H := H1
     clear H1
     obtain rfl := Option.some.inj H
     go_wp2
     go_ret
     exact ⟨te_, tb_⟩
    ·
     replace c27 := Bool.eq_false_iff.mpr c27
     subst c27
     have H1 : ((laws_toBoard.f kj10 a0_0 a0_1 l0_2).bind fun bt884 => ((laws_eqBoard.f kj10 t876 t877 t878 bt884.1 bt884.2.1 bt884.2.2).bind fun t889 => (if t889 = true then (some true) else (some false)))) = some r := by rw [if_neg (show ¬ (false = true) by decide)] at H; exact H
     clear H
     have H := H1
     clear H1
     replace H := Option.bind_eq_some_iff.mp H
     obtain ⟨⟨t884, t885, t886⟩, A280, H⟩ := H
     replace H : ((laws_eqBoard.f kj10 t876 t877 t878 t884 t885 t886).bind fun t889 => (if t889 = true then (some true) else (some false))) = some r := H
     have A28 := A_ A280
     clear A280
     replace H := Option.bind_eq_some_iff.mp H
     obtain ⟨t889, A290, H⟩ := H
     replace H : (if t889 = true then (some true) else (some false)) = some r := H
     have A29 := A_ A290
     clear A290
     by_cases c30 : t889 = true
     ·
      subst c30
      have H1 : (some true) = some r := by rw [if_pos rfl] at H; exact H
      clear H
      have H := H1
      clear H1
      obtain rfl := Option.some.inj H
      try go_wp2
      have n0_ := A_ (Kd.R_drew HO_882002.out)
      have n1_ := A_ (blk_drew BK867.out)
      have n2_ := A_ (blk_drew BK881.out)
      have n3_ := A_ (below_drew1 HB.out)
      clear HO_882002
      clear BK867
      clear BK881
      clear HB
      have HO_882002 := n0_
      have BK867 := n1_
      have BK881 := n2_
      have HB := n3_
      clear n0_ n1_ n2_ n3_
      refine start_ (n := 5) (S := fun w' => w'.cell? ⟨gb881, 0, none⟩ = some (.int .i64 t876) ∧ w'.cell? ⟨gb881, 1, none⟩ = some (.int .i64 t877) ∧ w'.cell? ⟨gb881, 2, none⟩ = some (.slice Ao24 t878.length co24) ∧ w'.cell? ⟨gb867, 0, none⟩ = some (.int .i64 a0_0) ∧ w'.cell? ⟨gb867, 1, none⟩ = some (.int .i64 a0_1) ∧ w'.cell? ⟨gb867, 2, none⟩ = some (.slice A0_2 l0_2.length c0_2)) (ds := []) (Fn.bl 5 0) (by kernel_rfl) rfl rfl ⟨(blk_cell BK881.out 0).trans rfl, (blk_cell BK881.out 1).trans rfl, (blk_cell BK881.out 2).trans rfl, (blk_cell BK867.out 0).trans rfl, (blk_cell BK867.out 1).trans rfl, (blk_cell BK867.out 2).trans rfl⟩ (fun hHeld => ?_)
      generalize wc.drew = w31 at HO_882002 BK867 BK881 HB hHeld ⊢
      refine take_ (i := 0) (N := some 35) (v := ?_) (a' := ?_) (Fn.bl 5 1) rfl rfl (by kernel_rfl) (fun _ _ _ h => h) (Or.inl ⟨by rfl, ?_⟩) hHeld ?_ ?_
      rotate_left
      ·
       rintro w' ⟨s0, s1, s2, s3, s4, s5⟩
       go_simp
       with_reducible rfl
      rotate_left
      ·
       simp only [Act.put, List.setIfInBounds_toArray, List.set_cons_zero, List.set_cons_succ, i64_w, i32_w]
       rfl
      refine take_ (i := 1) (N := some 36) (v := ?_) (a' := ?_) (Fn.bl 5 3) rfl rfl (by kernel_rfl) (fun _ _ _ h => h) (Or.inl ⟨by rfl, ?_⟩) hHeld ?_ ?_
      rotate_left
      ·
       rintro w' ⟨s0, s1, s2, s3, s4, s5⟩
       go_simp
       with_reducible rfl
      rotate_left
      ·
       simp only [Act.put, List.setIfInBounds_toArray, List.set_cons_zero, List.set_cons_succ, i64_w, i32_w]
       rfl
      refine one_ (i := 2) (N := some 37) (Fn.bl 5 7) rfl rfl (by kernel_rfl) (by decide) (fun K hK => ?_)
      refine goes_ Try.func19 (by kernel_rfl) rfl #[.agg #[.int .i64 a0_0, .int .i64 a0_1, .slice A0_2 l0_2.length c0_2]] (by rfl) rfl rfl ta_ ?_
      with_reducible refine (laws_toBoard.calls kj10 a0_0 a0_1 _ _ l0_2 t884 t885 t886 _ ?side1 ?side2 A28.out).mono ?_
      (case side1 => exact tc_ HR0_2.out)
      (case side2 => exact HC0_2.out)
      rintro e w32 ⟨v887, rfl, ho0, hb⟩
      refine ⟨_, rfl, ?_⟩
      have n0_ := A_ (Kd.R_elder' (tr_x HO_882002.out) (Kd.R_base ho0) hb)
      have n1_ := A_ (Kd.R_lower (Kd.R_new' ho0 (Kd.R_lt (tr_x HO_882002.out))) (below_size tb_))
      have n2_ := A_ (blk_below (g := gb867) (o := .cells #[.int .i64 a0_0, .int .i64 a0_1, .slice A0_2 l0_2.length c0_2] 24 (0, 0)) (tk_ BK867) hb)
      have n3_ := A_ (blk_below (g := gb881) (o := .cells #[.int .i64 t876, .int .i64 t877, .slice Ao24 t878.length co24] 26 (0, 0)) (tk_ BK881) hb)
      have n4_ := A_ (below_step tb_ hb)
      clear HO_882002
      clear BK867
      clear BK881
      clear HB
      have HO_882002 := n0_
      have HO888 := n1_
      have BK867 := n2_
      have BK881 := n3_
      have HB := n4_
      clear n0_ n1_ n2_ n3_ n4_
      (try clear hb)
      (try clear hb2)
      (try clear hk)
      (try clear hi)
      (try clear ho0)
      obtain ⟨Ao33, co33, eo33⟩ := Kd.R_slice HO888.out
      (first | subst eo33 | (injection eo33 with f1_ f2_ f3_; have f4_ := f1_.symm; have f5_ := f3_.symm; clear f1_ f2_ f3_; subst f4_; subst f5_))
      refine hK.out _ _ ⟨(blk_cell BK881.out 0).trans rfl, (blk_cell BK881.out 1).trans rfl, (blk_cell BK881.out 2).trans rfl, (blk_cell BK867.out 0).trans rfl, (blk_cell BK867.out 1).trans rfl, (blk_cell BK867.out 2).trans rfl⟩ (fun hHeld => ?_)
      clear hK K
      refine norm_ (a' := ?_) ?_ ?_
      rotate_left
      ·
       show Act.put _ (some 37) _ = _
       simp only [Act.put, List.setIfInBounds_toArray, List.set_cons_zero, List.set_cons_succ, i64_w, i32_w]
       rfl
      refine one_ (i := 3) (N := some 38) (Fn.bl 5 15) rfl rfl (by kernel_rfl) (by decide) (fun K hK => ?_)
      refine goes_ Try.func21 (by kernel_rfl) rfl #[.agg #[.int .i64 t876, .int .i64 t877, .slice Ao24 t878.length co24], .agg #[.int .i64 t884, .int .i64 t885, .slice Ao33 t886.length co33]] (by rfl) rfl rfl ta_ ?_
      with_reducible refine (laws_eqBoard.calls kj10 t876 t877 _ _ t878 t884 t885 _ _ t886 true _ ?side1 ?side2 ?side3 ?side4 A29.out).mono ?_
      (case side1 => exact tc0_ (Kd.R_reads' HO_882002.out).2.2)
      (case side2 => exact (Kd.R_reads' HO_882002.out).2.1)
      (case side3 => exact tc0_ (Kd.R_reads' HO888.out).2.2)
      (case side4 => exact (Kd.R_reads' HO888.out).2.1)
      rintro e w34 ⟨rfl, hb⟩
      refine ⟨_, rfl, ?_⟩
      have n0_ := A_ (Kd.R_below (tr_x HO_882002.out) hb)
      have n1_ := A_ (Kd.R_below (tr_x HO888.out) hb)
      have n2_ := A_ (blk_below (g := gb867) (o := .cells #[.int .i64 a0_0, .int .i64 a0_1, .slice A0_2 l0_2.length c0_2] 24 (0, 0)) (tk_ BK867) hb)
      have n3_ := A_ (blk_below (g := gb881) (o := .cells #[.int .i64 t876, .int .i64 t877, .slice Ao24 t878.length co24] 26 (0, 0)) (tk_ BK881) hb)
      have n4_ := A_ (below_step tb_ hb)
      clear HO_882002
      clear HO888
      clear BK867
      clear BK881
      clear HB
      have HO_882002 := n0_
      have HO888 := n1_
      have BK867 := n2_
      have BK881 := n3_
      have HB := n4_
      clear n0_ n1_ n2_ n3_ n4_
      (try clear hb)
      (try clear hb2)
      (try clear hk)
      (try clear hi)
      refine hK.out _ _ ⟨(blk_cell BK881.out 0).trans rfl, (blk_cell BK881.out 1).trans rfl, (blk_cell BK881.out 2).trans rfl, (blk_cell BK867.out 0).trans rfl, (blk_cell BK867.out 1).trans rfl, (blk_cell BK867.out 2).trans rfl⟩ (fun hHeld => ?_)
      clear hK K
      refine norm_ (a' := ?_) ?_ ?_
      rotate_left
      ·
       show Act.put _ (some 38) _ = _
       simp only [Act.put, List.setIfInBounds_toArray, List.set_cons_zero, List.set_cons_succ, i64_w, i32_w]
       rfl
      refine pk_ 4 (some 39) (Fn.bl 5 31) ?_
      refine done_ (by kernel_rfl) ?_
      try go_wp2
      go_ret
      exact ⟨te_, tb_⟩
     ·
      replace c30 := Bool.eq_false_iff.mpr c30
      subst c30
      have H1 : (some false) = some r := by rw [if_neg (show ¬ (false = true) by decide)] at H; exact H
      clear H
      have H := H1
      clear H1
      obtain rfl := Option.some.inj H
      try go_wp2
      have n0_ := A_ (Kd.R_drew HO_882002.out)
      have n1_ := A_ (blk_drew BK867.out)
      have n2_ := A_ (blk_drew BK881.out)
      have n3_ := A_ (below_drew1 HB.out)
      clear HO_882002
      clear BK867
      clear BK881
      clear HB
      have HO_882002 := n0_
      have BK867 := n1_
      have BK881 := n2_
      have HB := n3_
      clear n0_ n1_ n2_ n3_
      refine start_ (n := 5) (S := fun w' => w'.cell? ⟨gb881, 0, none⟩ = some (.int .i64 t876) ∧ w'.cell? ⟨gb881, 1, none⟩ = some (.int .i64 t877) ∧ w'.cell? ⟨gb881, 2, none⟩ = some (.slice Ao24 t878.length co24) ∧ w'.cell? ⟨gb867, 0, none⟩ = some (.int .i64 a0_0) ∧ w'.cell? ⟨gb867, 1, none⟩ = some (.int .i64 a0_1) ∧ w'.cell? ⟨gb867, 2, none⟩ = some (.slice A0_2 l0_2.length c0_2)) (ds := []) (Fn.bl 5 0) (by kernel_rfl) rfl rfl ⟨(blk_cell BK881.out 0).trans rfl, (blk_cell BK881.out 1).trans rfl, (blk_cell BK881.out 2).trans rfl, (blk_cell BK867.out 0).trans rfl, (blk_cell BK867.out 1).trans rfl, (blk_cell BK867.out 2).trans rfl⟩ (fun hHeld => ?_)
      generalize wc.drew = w35 at HO_882002 BK867 BK881 HB hHeld ⊢
      refine take_ (i := 0) (N := some 35) (v := ?_) (a' := ?_) (Fn.bl 5 1) rfl rfl (by kernel_rfl) (fun _ _ _ h => h) (Or.inl ⟨by rfl, ?_⟩) hHeld ?_ ?_
      rotate_left
      ·
       rintro w' ⟨s0, s1, s2, s3, s4, s5⟩
       go_simp
       with_reducible rfl
      rotate_left
      ·
       simp only [Act.put, List.setIfInBounds_toArray, List.set_cons_zero, List.set_cons_succ, i64_w, i32_w]
       rfl
      refine take_ (i := 1) (N := some 36) (v := ?_) (a' := ?_) (Fn.bl 5 3) rfl rfl (by kernel_rfl) (fun _ _ _ h => h) (Or.inl ⟨by rfl, ?_⟩) hHeld ?_ ?_
      rotate_left
      ·
       rintro w' ⟨s0, s1, s2, s3, s4, s5⟩
       go_simp
       with_reducible rfl
      rotate_left
      ·
       simp only [Act.put, List.setIfInBounds_toArray, List.set_cons_zero, List.set_cons_succ, i64_w, i32_w]
       rfl
      refine one_ (i := 2) (N := some 37) (Fn.bl 5 7) rfl rfl (by kernel_rfl) (by decide) (fun K hK => ?_)
      refine goes_ Try.func19 (by kernel_rfl) rfl #[.agg #[.int .i64 a0_0, .int .i64 a0_1, .slice A0_2 l0_2.length c0_2]] (by rfl) rfl rfl ta_ ?_
      with_reducible refine (laws_toBoard.calls kj10 a0_0 a0_1 _ _ l0_2 t884 t885 t886 _ ?side1 ?side2 A28.out).mono ?_
      (case side1 => exact tc_ HR0_2.out)
      (case side2 => exact HC0_2.out)
      rintro e w36 ⟨v887, rfl, ho0, hb⟩
      refine ⟨_, rfl, ?_⟩
      have n0_ := A_ (Kd.R_elder' (tr_x HO_882002.out) (Kd.R_base ho0) hb)
      have n1_ := A_ (Kd.R_lower (Kd.R_new' ho0 (Kd.R_lt (tr_x HO_882002.out))) (below_size tb_))
      have n2_ := A_ (blk_below (g := gb867) (o := .cells #[.int .i64 a0_0, .int .i64 a0_1, .slice A0_2 l0_2.length c0_2] 24 (0, 0)) (tk_ BK867) hb)
      have n3_ := A_ (blk_below (g := gb881) (o := .cells #[.int .i64 t876, .int .i64 t877, .slice Ao24 t878.length co24] 26 (0, 0)) (tk_ BK881) hb)
      have n4_ := A_ (below_step tb_ hb)
      clear HO_882002
      clear BK867
      clear BK881
      clear HB
      have HO_882002 := n0_
      have HO888 := n1_
      have BK867 := n2_
      have BK881 := n3_
      have HB := n4_
      clear n0_ n1_ n2_ n3_ n4_
      (try clear hb)
      (try clear hb2)
      (try clear hk)
      (try clear hi)
      (try clear ho0)
      obtain ⟨Ao37, co37, eo37⟩ := Kd.R_slice HO888.out
      (first | subst eo37 | (injection eo37 with f1_ f2_ f3_; have f4_ := f1_.symm; have f5_ := f3_.symm; clear f1_ f2_ f3_; subst f4_; subst f5_))
      refine hK.out _ _ ⟨(blk_cell BK881.out 0).trans rfl, (blk_cell BK881.out 1).trans rfl, (blk_cell BK881.out 2).trans rfl, (blk_cell BK867.out 0).trans rfl, (blk_cell BK867.out 1).trans rfl, (blk_cell BK867.out 2).trans rfl⟩ (fun hHeld => ?_)
      clear hK K
      refine norm_ (a' := ?_) ?_ ?_
      rotate_left
      ·
       show Act.put _ (some 37) _ = _
       simp only [Act.put, List.setIfInBounds_toArray, List.set_cons_zero, List.set_cons_succ, i64_w, i32_w]
       rfl
      refine one_ (i := 3) (N := some 38) (Fn.bl 5 15) rfl rfl (by kernel_rfl) (by decide) (fun K hK => ?_)
      refine goes_ Try.func21 (by kernel_rfl) rfl #[.agg #[.int .i64 t876, .int .i64 t877, .slice Ao24 t878.length co24], .agg #[.int .i64 t884, .int .i64 t885, .slice Ao37 t886.length co37]] (by rfl) rfl rfl ta_ ?_
      with_reducible refine (laws_eqBoard.calls kj10 t876 t877 _ _ t878 t884 t885 _ _ t886 false _ ?side1 ?side2 ?side3 ?side4 A29.out).mono ?_
      (case side1 => exact tc0_ (Kd.R_reads' HO_882002.out).2.2)
      (case side2 => exact (Kd.R_reads' HO_882002.out).2.1)
      (case side3 => exact tc0_ (Kd.R_reads' HO888.out).2.2)
      (case side4 => exact (Kd.R_reads' HO888.out).2.1)
      rintro e w38 ⟨rfl, hb⟩
      refine ⟨_, rfl, ?_⟩
      have n0_ := A_ (Kd.R_below (tr_x HO_882002.out) hb)
      have n1_ := A_ (Kd.R_below (tr_x HO888.out) hb)
      have n2_ := A_ (blk_below (g := gb867) (o := .cells #[.int .i64 a0_0, .int .i64 a0_1, .slice A0_2 l0_2.length c0_2] 24 (0, 0)) (tk_ BK867) hb)
      have n3_ := A_ (blk_below (g := gb881) (o := .cells #[.int .i64 t876, .int .i64 t877, .slice Ao24 t878.length co24] 26 (0, 0)) (tk_ BK881) hb)
      have n4_ := A_ (below_step tb_ hb)
      clear HO_882002
      clear HO888
      clear BK867
      clear BK881
      clear HB
      have HO_882002 := n0_
      have HO888 := n1_
      have BK867 := n2_
      have BK881 := n3_
      have HB := n4_
      clear n0_ n1_ n2_ n3_ n4_
      (try clear hb)
      (try clear hb2)
      (try clear hk)
      (try clear hi)
      refine hK.out _ _ ⟨(blk_cell BK881.out 0).trans rfl, (blk_cell BK881.out 1).trans rfl, (blk_cell BK881.out 2).trans rfl, (blk_cell BK867.out 0).trans rfl, (blk_cell BK867.out 1).trans rfl, (blk_cell BK867.out 2).trans rfl⟩ (fun hHeld => ?_)
      clear hK K
      refine norm_ (a' := ?_) ?_ ?_
      rotate_left
      ·
       show Act.put _ (some 38) _ = _
       simp only [Act.put, List.setIfInBounds_toArray, List.set_cons_zero, List.set_cons_succ, i64_w, i32_w]
       rfl
      refine pk_ 4 (some 39) (Fn.bl 5 31) ?_
      refine done_ (by kernel_rfl) ?_
      try go_wp2
      go_ret
      exact ⟨te_, tb_⟩

/-- THE ONE PURE STATEMENT of laws_FnExactMostKings: yours. -/
def laws_FnExactMostKings.Pure : Prop := ∀ (a0_0 : Int) (a0_1 : Int) (l0_2 : List Int), Fn.okI a0_0 → Fn.okI a0_1 → (Fn.okL Fn.okI) l0_2 → ∃ k, laws_FnExactMostKings.f k a0_0 a0_1 l0_2 = some true

end
end Go.Proofs.Ythlcaikplebpmaa.P
