-- printed functions (wip/slim.py)
import Derived.Test.YthlcaikplebpmaaPx0
import Derived.Test.YthlcaikplebpmaaQ0ad70cf82f
import Derived.Test.YthlcaikplebpmaaQ273d9cce65
namespace Go.Proofs.Ythlcaikplebpmaa.P
noncomputable section
set_option maxHeartbeats 8000000
set_option maxRecDepth 100000
open Go.RowKit Go.Proofs.YthlcaikplebpmaaW.PrintWords Go.Proofs.YthlcaikplebpmaaW.PrintLast Go.Proofs.YthlcaikplebpmaaW.PrintMore
attribute [local go_sem] max2_int min2_int max_two min_two max_three min_three max_four min_four   -- for this text's walks alone
set_option linter.unusedVariables false
set_option linter.unusedSimpArgs false

/-! ### laws_FnExactKingNumbers: function 11 -/
mutual
def laws_FnExactKingNumbers.j0 : Nat → List Int → Bool → List Int → Bool → Bool → Int → Int → List Int → Int → Int → List Int → Option (Bool)
 | 0, _, _, _, _, _, _, _, _, _, _, _ => none
 | k + 1, x4, x5, x7, x8, x40, x887000, x887001, x887002, x903000, x903001, x903002 => if x40 = true then (some false) else ((laws_toBoard.f k x887000 x887001 x887002).bind fun bt908 => ((laws_eqBoard.f k x903000 x903001 x903002 bt908.1 bt908.2.1 bt908.2.2).bind fun t913 => (if t913 = true then ((laws_markBoard.f k x903000 x903001 x903002 1).bind fun bt914 => (if bt914.1 < 0 then (laws_FnExactKingNumbers.j1 k x4 x5 x7 true x887000 x887001 x887002) else ((laws_eqIntS.f k x7 x4).bind fun t916 => (if t916 = true then (laws_FnExactKingNumbers.j1 k x4 x5 x7 (x8 != x5) x887000 x887001 x887002) else (laws_FnExactKingNumbers.j1 k x4 x5 x7 true x887000 x887001 x887002))))) else (some false))))
def laws_FnExactKingNumbers.j1 : Nat → List Int → Bool → List Int → Bool → Int → Int → List Int → Option (Bool)
 | 0, _, _, _, _, _, _, _ => none
 | k + 1, x4, x5, x7, x61, x887000, x887001, x887002 => if x61 = true then (some false) else ((laws_markIntS.f k x7 1).bind fun bt917 => ((laws_heldIntS.f k bt917.2 1).bind fun t919 => (if t919 < 0 then (some false) else (if t919 = bt917.1 then ((laws_toBoard.f k x887000 x887001 x887002).bind fun bt920 => ((impl_KingNumbers.f k bt920.1 bt920.2.1 bt920.2.2).bind fun bt925 => ((laws_eqIntS.f k bt925.1 x4).bind fun t929 => (if t929 = true then (laws_FnExactKingNumbers.j2 k bt917.2 bt917.1 (bt925.2 != x5)) else (laws_FnExactKingNumbers.j2 k bt917.2 bt917.1 true))))) else (some false)))))
def laws_FnExactKingNumbers.j2 : Nat → List Int → Int → Bool → Option (Bool)
 | 0, _, _, _ => none
 | k + 1, x7, x10, x87 => if x87 = true then (some false) else ((laws_heldIntS.f k x7 1).bind fun t930 => (if t930 < 0 then (some false) else (if t930 = x10 then (some true) else (some false))))
end
def laws_FnExactKingNumbers.f (k : Nat) (a0_0 : Int) (a0_1 : Int) (l0_2 : List Int) : Option (Bool) := (laws_szBoard.f a0_0 a0_1 l0_2 1048576).bind fun t887 => (if t887 < 0 then (some true) else ((laws_toBoard.f k a0_0 a0_1 l0_2).bind fun bt888 => ((spec_KingNumbers.f k bt888.1 bt888.2.1 bt888.2.2).bind fun bt893 => ((laws_toBoard.f k a0_0 a0_1 l0_2).bind fun bt897 => ((impl_KingNumbers.f k bt897.1 bt897.2.1 bt897.2.2).bind fun bt903 => ((laws_eqIntS.f k bt903.1 bt893.1).bind fun t907 => (if t907 = true then (laws_FnExactKingNumbers.j0 k bt893.1 bt893.2 bt903.1 bt903.2 (bt903.2 != bt893.2) a0_0 a0_1 l0_2 bt897.1 bt897.2.1 bt897.2.2) else (laws_FnExactKingNumbers.j0 k bt893.1 bt893.2 bt903.1 bt903.2 true a0_0 a0_1 l0_2 bt897.1 bt897.2.1 bt897.2.2))))))))
theorem laws_FnExactKingNumbers.mono_l : ∀ k, (∀ y0 y1 y2 y3 y4 y5 y6 y7 y8 y9 y10, LeO (laws_FnExactKingNumbers.j0 k y0 y1 y2 y3 y4 y5 y6 y7 y8 y9 y10) (laws_FnExactKingNumbers.j0 (k + 1) y0 y1 y2 y3 y4 y5 y6 y7 y8 y9 y10)) ∧ (∀ y0 y1 y2 y3 y4 y5 y6, LeO (laws_FnExactKingNumbers.j1 k y0 y1 y2 y3 y4 y5 y6) (laws_FnExactKingNumbers.j1 (k + 1) y0 y1 y2 y3 y4 y5 y6)) ∧ (∀ y0 y1 y2, LeO (laws_FnExactKingNumbers.j2 k y0 y1 y2) (laws_FnExactKingNumbers.j2 (k + 1) y0 y1 y2))
 | 0 => ⟨fun _ _ _ _ _ _ _ _ _ _ _ r h => by simp [laws_FnExactKingNumbers.j0] at h, fun _ _ _ _ _ _ _ r h => by simp [laws_FnExactKingNumbers.j1] at h, fun _ _ _ r h => by simp [laws_FnExactKingNumbers.j2] at h⟩
 | k + 1 => by
  obtain ⟨ih0, ih1, ih2⟩ := laws_FnExactKingNumbers.mono_l k
  refine ⟨?_, ?_, ?_⟩
  ·
   intro y0 y1 y2 y3 y4 y5 y6 y7 y8 y9 y10
   unfold laws_FnExactKingNumbers.j0
   repeat' first | (with_reducible first | exact ih0 _ _ _ _ _ _ _ _ _ _ _ | exact ih1 _ _ _ _ _ _ _ | exact ih2 _ _ _ | exact impl_KingNumbers.mono _ _ _ _ | exact laws_eqBoard.mono _ _ _ _ _ _ _ | exact laws_eqIntS.mono _ _ _ | exact laws_heldIntS.mono _ _ _ | exact laws_markBoard.mono _ _ _ _ _ | exact laws_markIntS.mono _ _ _ | exact laws_toBoard.mono _ _ _ _ | exact spec_KingNumbers.mono _ _ _ _ | exact LeO.refl _ | exact LeO.none _ | refine LeO.ite ?_ ?_ | refine LeO.bind ?_ (fun _ => ?_)) | exact ih0 _ _ _ _ _ _ _ _ _ _ _ | exact ih1 _ _ _ _ _ _ _ | exact ih2 _ _ _ | exact impl_KingNumbers.mono _ _ _ _ | exact laws_eqBoard.mono _ _ _ _ _ _ _ | exact laws_eqIntS.mono _ _ _ | exact laws_heldIntS.mono _ _ _ | exact laws_markBoard.mono _ _ _ _ _ | exact laws_markIntS.mono _ _ _ | exact laws_toBoard.mono _ _ _ _ | exact spec_KingNumbers.mono _ _ _ _ | exact LeO.none _ | refine LeO.ite ?_ ?_ | refine LeO.bind ?_ (fun _ => ?_)
  ·
   intro y0 y1 y2 y3 y4 y5 y6
   unfold laws_FnExactKingNumbers.j1
   repeat' first | (with_reducible first | exact ih0 _ _ _ _ _ _ _ _ _ _ _ | exact ih1 _ _ _ _ _ _ _ | exact ih2 _ _ _ | exact impl_KingNumbers.mono _ _ _ _ | exact laws_eqBoard.mono _ _ _ _ _ _ _ | exact laws_eqIntS.mono _ _ _ | exact laws_heldIntS.mono _ _ _ | exact laws_markBoard.mono _ _ _ _ _ | exact laws_markIntS.mono _ _ _ | exact laws_toBoard.mono _ _ _ _ | exact spec_KingNumbers.mono _ _ _ _ | exact LeO.refl _ | exact LeO.none _ | refine LeO.ite ?_ ?_ | refine LeO.bind ?_ (fun _ => ?_)) | exact ih0 _ _ _ _ _ _ _ _ _ _ _ | exact ih1 _ _ _ _ _ _ _ | exact ih2 _ _ _ | exact impl_KingNumbers.mono _ _ _ _ | exact laws_eqBoard.mono _ _ _ _ _ _ _ | exact laws_eqIntS.mono _ _ _ | exact laws_heldIntS.mono _ _ _ | exact laws_markBoard.mono _ _ _ _ _ | exact laws_markIntS.mono _ _ _ | exact laws_toBoard.mono _ _ _ _ | exact spec_KingNumbers.mono _ _ _ _ | exact LeO.none _ | refine LeO.ite ?_ ?_ | refine LeO.bind ?_ (fun _ => ?_)
  ·
   intro y0 y1 y2
   unfold laws_FnExactKingNumbers.j2
   repeat' first | (with_reducible first | exact ih0 _ _ _ _ _ _ _ _ _ _ _ | exact ih1 _ _ _ _ _ _ _ | exact ih2 _ _ _ | exact impl_KingNumbers.mono _ _ _ _ | exact laws_eqBoard.mono _ _ _ _ _ _ _ | exact laws_eqIntS.mono _ _ _ | exact laws_heldIntS.mono _ _ _ | exact laws_markBoard.mono _ _ _ _ _ | exact laws_markIntS.mono _ _ _ | exact laws_toBoard.mono _ _ _ _ | exact spec_KingNumbers.mono _ _ _ _ | exact LeO.refl _ | exact LeO.none _ | refine LeO.ite ?_ ?_ | refine LeO.bind ?_ (fun _ => ?_)) | exact ih0 _ _ _ _ _ _ _ _ _ _ _ | exact ih1 _ _ _ _ _ _ _ | exact ih2 _ _ _ | exact impl_KingNumbers.mono _ _ _ _ | exact laws_eqBoard.mono _ _ _ _ _ _ _ | exact laws_eqIntS.mono _ _ _ | exact laws_heldIntS.mono _ _ _ | exact laws_markBoard.mono _ _ _ _ _ | exact laws_markIntS.mono _ _ _ | exact laws_toBoard.mono _ _ _ _ | exact spec_KingNumbers.mono _ _ _ _ | exact LeO.none _ | refine LeO.ite ?_ ?_ | refine LeO.bind ?_ (fun _ => ?_)
theorem laws_FnExactKingNumbers.mono : ∀ a0 a1 a2 k, LeO (laws_FnExactKingNumbers.f k a0 a1 a2) (laws_FnExactKingNumbers.f (k + 1) a0 a1 a2) := by
 intro a0 a1 a2 k
 obtain ⟨ih0, ih1, ih2⟩ := laws_FnExactKingNumbers.mono_l k
 unfold laws_FnExactKingNumbers.f
 repeat' first | (with_reducible first | exact ih0 _ _ _ _ _ _ _ _ _ _ _ | exact ih1 _ _ _ _ _ _ _ | exact ih2 _ _ _ | exact impl_KingNumbers.mono _ _ _ _ | exact laws_eqBoard.mono _ _ _ _ _ _ _ | exact laws_eqIntS.mono _ _ _ | exact laws_heldIntS.mono _ _ _ | exact laws_markBoard.mono _ _ _ _ _ | exact laws_markIntS.mono _ _ _ | exact laws_toBoard.mono _ _ _ _ | exact spec_KingNumbers.mono _ _ _ _ | exact LeO.refl _ | exact LeO.none _ | refine LeO.ite ?_ ?_ | refine LeO.bind ?_ (fun _ => ?_)) | exact ih0 _ _ _ _ _ _ _ _ _ _ _ | exact ih1 _ _ _ _ _ _ _ | exact ih2 _ _ _ | exact impl_KingNumbers.mono _ _ _ _ | exact laws_eqBoard.mono _ _ _ _ _ _ _ | exact laws_eqIntS.mono _ _ _ | exact laws_heldIntS.mono _ _ _ | exact laws_markBoard.mono _ _ _ _ _ | exact laws_markIntS.mono _ _ _ | exact laws_toBoard.mono _ _ _ _ | exact spec_KingNumbers.mono _ _ _ _ | exact LeO.none _ | refine LeO.ite ?_ ?_ | refine LeO.bind ?_ (fun _ => ?_)
theorem laws_FnExactKingNumbers.calls (k : Nat) (a0_0 : Int) (a0_1 : Int) (A0_2 : Option Addr) (c0_2 : Nat) (l0_2 : List Int) (r : Bool) (w : World) (hr0_2 : Kd.C (Kd.int .i64) w A0_2 l0_2.length l0_2) (hc0_2 : l0_2.length ≤ c0_2) (h : laws_FnExactKingNumbers.f k a0_0 a0_1 l0_2 = some r) :
  Calls Try.prog 11 #[.agg #[.int .i64 a0_0, .int .i64 a0_1, .slice A0_2 l0_2.length c0_2]] w fun e w' => e = .returned (.bool r) ∧ Below w.heap.size w w' := by
 have hu24 := Try.underlying24
 have hu26 := Try.underlying26
 have HR0_2 := A_ hr0_2
 have HC0_2 := A_ hc0_2
 clear hr0_2 hc0_2
 have HB := A_ (Below.refl w.heap.size w)
 have H : ((laws_szBoard.f a0_0 a0_1 l0_2 1048576).bind fun t887 => (if t887 < 0 then (some true) else ((laws_toBoard.f k a0_0 a0_1 l0_2).bind fun bt888 => ((spec_KingNumbers.f k bt888.1 bt888.2.1 bt888.2.2).bind fun bt893 => ((laws_toBoard.f k a0_0 a0_1 l0_2).bind fun bt897 => ((impl_KingNumbers.f k bt897.1 bt897.2.1 bt897.2.2).bind fun bt903 => ((laws_eqIntS.f k bt903.1 bt893.1).bind fun t907 => (if t907 = true then (laws_FnExactKingNumbers.j0 k bt893.1 bt893.2 bt903.1 bt903.2 (bt903.2 != bt893.2) a0_0 a0_1 l0_2 bt897.1 bt897.2.1 bt897.2.2) else (laws_FnExactKingNumbers.j0 k bt893.1 bt893.2 bt903.1 bt903.2 true a0_0 a0_1 l0_2 bt897.1 bt897.2.1 bt897.2.2))))))))) = some r := h
 clear h
 replace H := Option.bind_eq_some_iff.mp H
 obtain ⟨t887, A20, H⟩ := H
 replace H : (if t887 < 0 then (some true) else ((laws_toBoard.f k a0_0 a0_1 l0_2).bind fun bt888 => ((spec_KingNumbers.f k bt888.1 bt888.2.1 bt888.2.2).bind fun bt893 => ((laws_toBoard.f k a0_0 a0_1 l0_2).bind fun bt897 => ((impl_KingNumbers.f k bt897.1 bt897.2.1 bt897.2.2).bind fun bt903 => ((laws_eqIntS.f k bt903.1 bt893.1).bind fun t907 => (if t907 = true then (laws_FnExactKingNumbers.j0 k bt893.1 bt893.2 bt903.1 bt903.2 (bt903.2 != bt893.2) a0_0 a0_1 l0_2 bt897.1 bt897.2.1 bt897.2.2) else (laws_FnExactKingNumbers.j0 k bt893.1 bt893.2 bt903.1 bt903.2 true a0_0 a0_1 l0_2 bt897.1 bt897.2.1 bt897.2.2)))))))) = some r := H
 have A2 := A_ A20
 clear A20
 by_cases c3 : t887 < 0
 ·
  rw [if_pos c3] at H
  have c3b0 := decide_eq_true c3
  clear c3
  obtain rfl := Option.some.inj H
  go_enter Try.func11, Try.ntmps11
  go_wp2_with (first | (refine gd_ 1 ?_; refine bx_ 1 #[.int .i64 a0_0, .int .i64 a0_1, .slice A0_2 l0_2.length c0_2] 24 ?_; intro gb886 hg w4 hbox hb; have BK886 := A_ (hbox); have GW886 := A_ ((ts_ hg : w.heap.size ≤ gb886)); have GE886 := A_ ((ts_ hg : w.heap.size ≤ gb886)); replace HB := A_ (below_step tb_ hb); clear hb hbox hg; obtain ⟨hcz5_0, hcz5_1, hcz5_2, hfz5_0, hfz5_1, hfz5_2⟩ := cf3_ BK886.out) | (refine gc_ 17 ?_; refine goesT_ (some 16) Try.func17 #[.agg #[.int .i64 a0_0, .int .i64 a0_1, .slice A0_2 l0_2.length c0_2], .int .i64 1048576] ?_; (with_reducible refine (laws_szBoard.calls a0_0 a0_1 _ _ l0_2 1048576 t887 _ ?side1 ?side2 A2.out).mono ?_); (case side1 => exact tc_ HR0_2.out); (case side2 => exact HC0_2.out); rintro e w6 ⟨rfl, hb⟩; refine ⟨_, rfl, ?_⟩; replace BK886 := A_ (blk_below (g := gb886) (o := .cells #[.int .i64 a0_0, .int .i64 a0_1, .slice A0_2 l0_2.length c0_2] 24 (0, 0)) (tk_ BK886) hb); replace HB := A_ (below_step tb_ hb); (try clear hb)))
  go_ret
  exact ⟨te_, tb_⟩
 ·
  rw [if_neg c3] at H
  have c3b0 := decide_eq_false c3
  clear c3
  replace H := Option.bind_eq_some_iff.mp H
  obtain ⟨⟨t888, t889, t890⟩, A70, H⟩ := H
  replace H : ((spec_KingNumbers.f k t888 t889 t890).bind fun bt893 => ((laws_toBoard.f k a0_0 a0_1 l0_2).bind fun bt897 => ((impl_KingNumbers.f k bt897.1 bt897.2.1 bt897.2.2).bind fun bt903 => ((laws_eqIntS.f k bt903.1 bt893.1).bind fun t907 => (if t907 = true then (laws_FnExactKingNumbers.j0 k bt893.1 bt893.2 bt903.1 bt903.2 (bt903.2 != bt893.2) a0_0 a0_1 l0_2 bt897.1 bt897.2.1 bt897.2.2) else (laws_FnExactKingNumbers.j0 k bt893.1 bt893.2 bt903.1 bt903.2 true a0_0 a0_1 l0_2 bt897.1 bt897.2.1 bt897.2.2)))))) = some r := H
  have A7 := A_ A70
  clear A70
  replace H := Option.bind_eq_some_iff.mp H
  obtain ⟨⟨t893, t896⟩, A80, H⟩ := H
  replace H : ((laws_toBoard.f k a0_0 a0_1 l0_2).bind fun bt897 => ((impl_KingNumbers.f k bt897.1 bt897.2.1 bt897.2.2).bind fun bt903 => ((laws_eqIntS.f k bt903.1 t893).bind fun t907 => (if t907 = true then (laws_FnExactKingNumbers.j0 k t893 t896 bt903.1 bt903.2 (bt903.2 != t896) a0_0 a0_1 l0_2 bt897.1 bt897.2.1 bt897.2.2) else (laws_FnExactKingNumbers.j0 k t893 t896 bt903.1 bt903.2 true a0_0 a0_1 l0_2 bt897.1 bt897.2.1 bt897.2.2))))) = some r := H
  have A8 := A_ A80
  clear A80
  replace H := Option.bind_eq_some_iff.mp H
  obtain ⟨⟨t897, t898, t899⟩, A90, H⟩ := H
  replace H : ((impl_KingNumbers.f k t897 t898 t899).bind fun bt903 => ((laws_eqIntS.f k bt903.1 t893).bind fun t907 => (if t907 = true then (laws_FnExactKingNumbers.j0 k t893 t896 bt903.1 bt903.2 (bt903.2 != t896) a0_0 a0_1 l0_2 t897 t898 t899) else (laws_FnExactKingNumbers.j0 k t893 t896 bt903.1 bt903.2 true a0_0 a0_1 l0_2 t897 t898 t899)))) = some r := H
  have A9 := A_ A90
  clear A90
  replace H := Option.bind_eq_some_iff.mp H
  obtain ⟨⟨t903, t906⟩, A100, H⟩ := H
  replace H : ((laws_eqIntS.f k t903 t893).bind fun t907 => (if t907 = true then (laws_FnExactKingNumbers.j0 k t893 t896 t903 t906 (t906 != t896) a0_0 a0_1 l0_2 t897 t898 t899) else (laws_FnExactKingNumbers.j0 k t893 t896 t903 t906 true a0_0 a0_1 l0_2 t897 t898 t899))) = some r := H
  have A10 := A_ A100
  clear A100
  have HC11 := A_ H
  clear H
  go_enter Try.func11, Try.ntmps11
  go_upto_region 8 with (first | (refine gd_ 1 ?_; refine bx_ 1 #[.int .i64 a0_0, .int .i64 a0_1, .slice A0_2 l0_2.length c0_2] 24 ?_; intro gb886 hg w12 hbox hb; have BK886 := A_ (hbox); have GW886 := A_ ((ts_ hg : w.heap.size ≤ gb886)); have GE886 := A_ ((ts_ hg : w.heap.size ≤ gb886)); replace HB := A_ (below_step tb_ hb); clear hb hbox hg; obtain ⟨hcz13_0, hcz13_1, hcz13_2, hfz13_0, hfz13_1, hfz13_2⟩ := cf3_ BK886.out) | (refine gc_ 17 ?_; refine goesT_ (some 16) Try.func17 #[.agg #[.int .i64 a0_0, .int .i64 a0_1, .slice A0_2 l0_2.length c0_2], .int .i64 1048576] ?_; (with_reducible refine (laws_szBoard.calls a0_0 a0_1 _ _ l0_2 1048576 t887 _ ?side1 ?side2 A2.out).mono ?_); (case side1 => exact tc_ HR0_2.out); (case side2 => exact HC0_2.out); rintro e w14 ⟨rfl, hb⟩; refine ⟨_, rfl, ?_⟩; replace BK886 := A_ (blk_below (g := gb886) (o := .cells #[.int .i64 a0_0, .int .i64 a0_1, .slice A0_2 l0_2.length c0_2] 24 (0, 0)) (tk_ BK886) hb); replace HB := A_ (below_step tb_ hb); (try clear hb); obtain ⟨hcz15_0, hcz15_1, hcz15_2, hfz15_0, hfz15_1, hfz15_2⟩ := cf3_ BK886.out) | (refine gc_ 19 ?_; refine goesT_ (some 21) Try.func19 #[.agg #[.int .i64 a0_0, .int .i64 a0_1, .slice A0_2 l0_2.length c0_2]] ?_; (with_reducible refine (laws_toBoard.calls k a0_0 a0_1 _ _ l0_2 t888 t889 t890 _ ?side1 ?side2 A7.out).mono ?_); (case side1 => exact tc_ HR0_2.out); (case side2 => exact HC0_2.out); rintro e w16 ⟨v891, rfl, ho0, hb⟩; refine ⟨_, rfl, ?_⟩; have HO892 := A_ (Kd.R_lower ho0 (below_size tb_)); replace BK886 := A_ (blk_below (g := gb886) (o := .cells #[.int .i64 a0_0, .int .i64 a0_1, .slice A0_2 l0_2.length c0_2] 24 (0, 0)) (tk_ BK886) hb); replace HB := A_ (below_step tb_ hb); (try clear hb); (try clear ho0); obtain ⟨Ao17, co17, eo17⟩ := Kd.R_slice HO892.out; subst eo17) | (refine gc_ 44 ?_; refine goesT_ (some 22) Try.func44 #[.agg #[.int .i64 t888, .int .i64 t889, .slice Ao17 t890.length co17]] ?_; (with_reducible refine (spec_KingNumbers.calls k t888 t889 _ _ t890 t893 t896 _ ?side1 ?side2 A8.out).mono ?_); (case side1 => exact tc0_ (Kd.R_reads' HO892.out).2.2); (case side2 => exact (Kd.R_reads' HO892.out).2.1); rintro e w18 ⟨v894, rfl, ho0, hb⟩; refine ⟨_, rfl, ?_⟩; have HO895 := A_ (Kd.R_lower (Kd.R_new' ho0 (Kd.R_lt (tr_x HO892.out))) (below_size tb_)); replace HO892 := A_ (Kd.R_elder' (tr_x HO892.out) (Kd.R_base ho0) hb); replace BK886 := A_ (blk_below (g := gb886) (o := .cells #[.int .i64 a0_0, .int .i64 a0_1, .slice A0_2 l0_2.length c0_2] 24 (0, 0)) (tk_ BK886) hb); replace HB := A_ (below_step tb_ hb); (try clear hb); (try clear ho0); obtain ⟨hcz19_0, hcz19_1, hcz19_2, hfz19_0, hfz19_1, hfz19_2⟩ := cf3_ BK886.out) | (refine gc_ 19 ?_; refine goesT_ (some 26) Try.func19 #[.agg #[.int .i64 a0_0, .int .i64 a0_1, .slice A0_2 l0_2.length c0_2]] ?_; (with_reducible refine (laws_toBoard.calls k a0_0 a0_1 _ _ l0_2 t897 t898 t899 _ ?side1 ?side2 A9.out).mono ?_); (case side1 => exact tc_ HR0_2.out); (case side2 => exact HC0_2.out); rintro e w20 ⟨v900, rfl, ho0, hb⟩; refine ⟨_, rfl, ?_⟩; have HO901 := A_ (Kd.R_lower (Kd.R_new' (Kd.R_new' ho0 (Kd.R_lt (tr_x HO892.out))) (Kd.R_lt (tr_x HO895.out))) (below_size tb_)); replace HO892 := A_ (Kd.R_elder' (tr_x HO892.out) (Kd.R_base ho0) hb); replace HO895 := A_ (Kd.R_elder' (tr_x HO895.out) (Kd.R_base ho0) hb); replace BK886 := A_ (blk_below (g := gb886) (o := .cells #[.int .i64 a0_0, .int .i64 a0_1, .slice A0_2 l0_2.length c0_2] 24 (0, 0)) (tk_ BK886) hb); replace HB := A_ (below_step tb_ hb); (try clear hb); (try clear ho0)) | (refine gd_ 6 ?_; refine bx_ 6 #[.int .i64 0, .int .i64 0, .slice none 0 0] 26 ?_; intro gb902 hg w21 hbox hb; replace HO892 := A_ (Kd.R_below (tr_x HO892.out) hb); replace HO895 := A_ (Kd.R_below (tr_x HO895.out) hb); replace HO901 := A_ (Kd.R_below (tr_x HO901.out) hb); have BK902 := A_ (hbox); have GW902 := A_ ((ts_ hg : w.heap.size ≤ gb902)); have GE902 := A_ ((ts_ hg : w.heap.size ≤ gb902)); replace HB := A_ (below_step tb_ hb); have NB886_902 := A_ ((by rw [hg]; exact Nat.ne_of_lt (blk_lt (g := gb886) (o := .cells #[.int .i64 a0_0, .int .i64 a0_1, .slice A0_2 l0_2.length c0_2] 24 (0, 0)) (tk_ BK886)) : gb886 ≠ gb902)); have NB902_886 := A_ ((by rw [hg]; exact Nat.ne_of_gt (blk_lt (g := gb886) (o := .cells #[.int .i64 a0_0, .int .i64 a0_1, .slice A0_2 l0_2.length c0_2] 24 (0, 0)) (tk_ BK886)) : gb902 ≠ gb886)); replace BK886 := A_ (blk_below (g := gb886) (o := .cells #[.int .i64 a0_0, .int .i64 a0_1, .slice A0_2 l0_2.length c0_2] 24 (0, 0)) (tk_ BK886) hb); clear hb hbox hg; have hnb22 := NB902_886.out; have hnc22 := NB886_902.out; obtain ⟨hcz23_0, hcz23_1, hcz23_2, hfz23_0, hfz23_1, hfz23_2⟩ := cf3_ BK902.out; obtain ⟨Ao24, co24, eo24⟩ := Kd.R_slice HO901.out; subst eo24) | (refine gc_ 45 ?_; refine goesT_ (some 29) Try.func45 #[.agg #[.int .i64 t897, .int .i64 t898, .slice Ao24 t899.length co24]] ?_; (with_reducible refine (impl_KingNumbers.calls k t897 t898 _ _ t899 t903 t906 _ ?side1 ?side2 A10.out).mono ?_); (case side1 => refine (Kd.R_reads' (e := 3) (base := w.heap.size) (ok := fun k_ => ((True ∧ some k_ ≠ (.slice Ao17 t890.length co17 : Value).ownBlock) ∧ some k_ ≠ (v894 : Value).ownBlock)) (n := t899.length) (c := co24) ?_).2.2; exact (tr_ (h := by exact (Kd.R_mono (Kd.R_far (p := ⟨gb902, 2, none⟩) (Kd.R_far (p := ⟨gb902, 1, none⟩) (Kd.R_far (p := ⟨gb902, 0, none⟩) (Kd.R_types HO901.out BK902.out (by decide)) (fun _ hk => hk.2) (.int .i64 t897)) (fun _ hk => hk.2) (.int .i64 t898)) (fun _ hk => hk.2) (.slice Ao24 t899.length co24)) (fun _ h_ => h_.1))))); (case side2 => exact (Kd.R_reads' HO901.out).2.1); rintro e w25 ⟨v904, rfl, ho0, hb⟩; refine ⟨_, rfl, ?_⟩; have HO905 := A_ (Kd.R_lower (Kd.R_new' (Kd.R_new' (Kd.R_new' ho0 (Kd.R_lt (tr_ (h := by exact (Kd.R_mono (Kd.R_far (p := ⟨gb902, 2, none⟩) (Kd.R_far (p := ⟨gb902, 1, none⟩) (Kd.R_far (p := ⟨gb902, 0, none⟩) (Kd.R_types HO892.out BK902.out (by decide)) (fun _ hk => hk.2) (.int .i64 t897)) (fun _ hk => hk.2) (.int .i64 t898)) (fun _ hk => hk.2) (.slice Ao24 t899.length co24)) (fun _ h_ => h_.1)))))) (Kd.R_lt (tr_ (h := by exact (Kd.R_mono (Kd.R_far (p := ⟨gb902, 2, none⟩) (Kd.R_far (p := ⟨gb902, 1, none⟩) (Kd.R_far (p := ⟨gb902, 0, none⟩) (Kd.R_types HO895.out BK902.out (by decide)) (fun _ hk => hk.2) (.int .i64 t897)) (fun _ hk => hk.2) (.int .i64 t898)) (fun _ hk => hk.2) (.slice Ao24 t899.length co24)) (fun _ h_ => h_.1)))))) (Kd.R_lt (tr_ (h := by exact (Kd.R_mono (Kd.R_far (p := ⟨gb902, 2, none⟩) (Kd.R_far (p := ⟨gb902, 1, none⟩) (Kd.R_far (p := ⟨gb902, 0, none⟩) (Kd.R_types HO901.out BK902.out (by decide)) (fun _ hk => hk.2) (.int .i64 t897)) (fun _ hk => hk.2) (.int .i64 t898)) (fun _ hk => hk.2) (.slice Ao24 t899.length co24)) (fun _ h_ => h_.1)))))) (below_size tb_)); replace HO892 := A_ (Kd.R_elder' (tr_ (h := by exact (Kd.R_mono (Kd.R_far (p := ⟨gb902, 2, none⟩) (Kd.R_far (p := ⟨gb902, 1, none⟩) (Kd.R_far (p := ⟨gb902, 0, none⟩) (Kd.R_types HO892.out BK902.out (by decide)) (fun _ hk => hk.2) (.int .i64 t897)) (fun _ hk => hk.2) (.int .i64 t898)) (fun _ hk => hk.2) (.slice Ao24 t899.length co24)) (fun _ h_ => h_.1)))) (Kd.R_base ho0) hb); replace HO895 := A_ (Kd.R_elder' (tr_ (h := by exact (Kd.R_mono (Kd.R_far (p := ⟨gb902, 2, none⟩) (Kd.R_far (p := ⟨gb902, 1, none⟩) (Kd.R_far (p := ⟨gb902, 0, none⟩) (Kd.R_types HO895.out BK902.out (by decide)) (fun _ hk => hk.2) (.int .i64 t897)) (fun _ hk => hk.2) (.int .i64 t898)) (fun _ hk => hk.2) (.slice Ao24 t899.length co24)) (fun _ h_ => h_.1)))) (Kd.R_base ho0) hb); replace HO901 := A_ (Kd.R_elder' (tr_ (h := by exact (Kd.R_mono (Kd.R_far (p := ⟨gb902, 2, none⟩) (Kd.R_far (p := ⟨gb902, 1, none⟩) (Kd.R_far (p := ⟨gb902, 0, none⟩) (Kd.R_types HO901.out BK902.out (by decide)) (fun _ hk => hk.2) (.int .i64 t897)) (fun _ hk => hk.2) (.int .i64 t898)) (fun _ hk => hk.2) (.slice Ao24 t899.length co24)) (fun _ h_ => h_.1)))) (Kd.R_base ho0) hb); replace BK886 := A_ (blk_below (g := gb886) (o := .cells #[.int .i64 a0_0, .int .i64 a0_1, .slice A0_2 l0_2.length c0_2] 24 (0, 0)) (tk_ BK886) hb); replace BK902 := A_ (blk_below (g := gb902) (o := .cells #[.int .i64 t897, .int .i64 t898, .slice Ao24 t899.length co24] 26 (0, 0)) (by (with_reducible repeat (first | refine blk_drewN ?_ _ | refine blk_drew ?_ | refine blk_alloc ?_ _)); refine blk_put (cs := #[.int .i64 t897, .int .i64 t898, .slice none 0 0]) ?_ 2 _ rfl; (with_reducible repeat (first | refine blk_drewN ?_ _ | refine blk_drew ?_ | refine blk_alloc ?_ _)); refine blk_put (cs := #[.int .i64 t897, .int .i64 0, .slice none 0 0]) ?_ 1 _ rfl; (with_reducible repeat (first | refine blk_drewN ?_ _ | refine blk_drew ?_ | refine blk_alloc ?_ _)); refine blk_put (cs := #[.int .i64 0, .int .i64 0, .slice none 0 0]) ?_ 0 _ rfl; (with_reducible repeat (first | refine blk_drewN ?_ _ | refine blk_drew ?_ | refine blk_alloc ?_ _)); exact BK902.out) hb); replace HB := A_ (below_step tb_ hb); (try clear hb); (try clear ho0)))
  (try simp only [Act.put, List.setIfInBounds_toArray, List.set_cons_zero, List.set_cons_succ])
  go_cut [40] (fun v40 wc => ∃ (kq : Nat) (x40_10 : Bool), v40 = .bool x40_10 ∧ Aside0 (laws_FnExactKingNumbers.j0 kq t893 t896 t903 t906 x40_10 a0_0 a0_1 l0_2 t897 t898 t899 = some r) ∧ Aside0 (kq ≤ k) ∧ Aside0 (Kd.R (Kd.int .i64) 3 wc w.heap.size (fun k_ => some k_ ≠ (v904 : Value).ownBlock ∧ some k_ ≠ ((.slice Ao24 t899.length co24) : Value).ownBlock) v894 t893) ∧ Aside0 (Kd.R (Kd.int .i64) 3 wc w.heap.size (fun k_ => some k_ ≠ (v894 : Value).ownBlock ∧ some k_ ≠ ((.slice Ao24 t899.length co24) : Value).ownBlock) v904 t903) ∧ Aside0 (Kd.R (Kd.int .i64) 3 wc w.heap.size (fun k_ => some k_ ≠ (v894 : Value).ownBlock ∧ some k_ ≠ (v904 : Value).ownBlock) (.slice Ao24 t899.length co24) t899) ∧ Aside0 (wc.heap[gb886]? = some (.cells #[.int .i64 a0_0, .int .i64 a0_1, (.slice A0_2 l0_2.length c0_2)] 24 (0, 0))) ∧ Aside0 (wc.heap[gb902]? = some (.cells #[.int .i64 t897, .int .i64 t898, (.slice Ao24 t899.length co24)] 26 (0, 0))) ∧ Aside0 (Below w.heap.size w wc))
  case first =>
   have H := HC11.out
   clear HC11
   replace H := Option.bind_eq_some_iff.mp H
   obtain ⟨t907, A260, H⟩ := H
   replace H : (if t907 = true then (laws_FnExactKingNumbers.j0 k t893 t896 t903 t906 (t906 != t896) a0_0 a0_1 l0_2 t897 t898 t899) else (laws_FnExactKingNumbers.j0 k t893 t896 t903 t906 true a0_0 a0_1 l0_2 t897 t898 t899)) = some r := H
   have A26 := A_ A260
   clear A260
   by_cases c27 : t907 = true
   ·
    subst c27
    have H1 : (laws_FnExactKingNumbers.j0 k t893 t896 t903 t906 (t906 != t896) a0_0 a0_1 l0_2 t897 t898 t899) = some r := by rw [if_pos rfl] at H; exact H
    clear H
    have H := H1
    clear H1
    have H' := A_ H
    clear H
    obtain ⟨Ao28, co28, eo28⟩ := Kd.R_slice HO905.out
    subst eo28
    obtain ⟨Ao29, co29, eo29⟩ := Kd.R_slice HO895.out
    subst eo29
    go_wp2_with (first | (refine gc_ 28 ?_; refine goesT_ (some 34) Try.func28 #[.slice Ao28 t903.length co28, .slice Ao29 t893.length co29] ?_; (with_reducible refine (laws_eqIntS.calls k _ _ t903 _ _ t893 true _ ?side1 ?side2 ?side3 ?side4 A26.out).mono ?_); (case side1 => exact tc0_ (Kd.R_reads' HO905.out).2.2); (case side2 => exact (Kd.R_reads' HO905.out).2.1); (case side3 => exact tc0_ (Kd.R_reads' HO895.out).2.2); (case side4 => exact (Kd.R_reads' HO895.out).2.1); rintro e w' ⟨rfl, ⟨nd, rfl⟩⟩; refine ⟨_, rfl, ?_⟩))
    go_meet
    case rel => exact ⟨_, ((t906 != t896)), tf_, H', ⟨by first | omega | exact Nat.le_refl _⟩, ⟨by (with_reducible repeat (first | apply Kd.R_alloc | apply Kd.R_drewN | apply Kd.R_drew)); exact Kd.R_mono HO895.out om_⟩, ⟨by (with_reducible repeat (first | apply Kd.R_alloc | apply Kd.R_drewN | apply Kd.R_drew)); exact Kd.R_mono HO905.out om_⟩, ⟨by (with_reducible repeat (first | apply Kd.R_alloc | apply Kd.R_drewN | apply Kd.R_drew)); exact Kd.R_mono HO901.out om_⟩, ⟨tk_ BK886⟩, ⟨tk_ BK902⟩, ⟨tb_⟩⟩
   ·
    replace c27 := Bool.eq_false_iff.mpr c27
    subst c27
    have H1 : (laws_FnExactKingNumbers.j0 k t893 t896 t903 t906 true a0_0 a0_1 l0_2 t897 t898 t899) = some r := by rw [if_neg (show ¬ (false = true) by decide)] at H; exact H
    clear H
    have H := H1
    clear H1
    have H' := A_ H
    clear H
    obtain ⟨Ao30, co30, eo30⟩ := Kd.R_slice HO905.out
    subst eo30
    obtain ⟨Ao31, co31, eo31⟩ := Kd.R_slice HO895.out
    subst eo31
    go_wp2_with (first | (refine gc_ 28 ?_; refine goesT_ (some 34) Try.func28 #[.slice Ao30 t903.length co30, .slice Ao31 t893.length co31] ?_; (with_reducible refine (laws_eqIntS.calls k _ _ t903 _ _ t893 false _ ?side1 ?side2 ?side3 ?side4 A26.out).mono ?_); (case side1 => exact tc0_ (Kd.R_reads' HO905.out).2.2); (case side2 => exact (Kd.R_reads' HO905.out).2.1); (case side3 => exact tc0_ (Kd.R_reads' HO895.out).2.2); (case side4 => exact (Kd.R_reads' HO895.out).2.1); rintro e w' ⟨rfl, ⟨nd, rfl⟩⟩; refine ⟨_, rfl, ?_⟩))
    go_meet
    case rel => exact ⟨_, (true), tf_, H', ⟨by first | omega | exact Nat.le_refl _⟩, ⟨by (with_reducible repeat (first | apply Kd.R_alloc | apply Kd.R_drewN | apply Kd.R_drew)); exact Kd.R_mono HO895.out om_⟩, ⟨by (with_reducible repeat (first | apply Kd.R_alloc | apply Kd.R_drewN | apply Kd.R_drew)); exact Kd.R_mono HO905.out om_⟩, ⟨by (with_reducible repeat (first | apply Kd.R_alloc | apply Kd.R_drewN | apply Kd.R_drew)); exact Kd.R_mono HO901.out om_⟩, ⟨tk_ BK886⟩, ⟨tk_ BK902⟩, ⟨tb_⟩⟩
  case rest =>
   clear HC11
   try clear c1
   try clear c2
   try clear p2
   try clear c3
   try clear c3b0
   try clear c4
   try clear c11
   try clear c17
   try clear c19
   try clear c22
   try clear c27
   try clear c28
   try clear hcz13_0
   try clear hcz13_1
   try clear hcz13_2
   try clear hcz15_0
   try clear hcz15_1
   try clear hcz15_2
   try clear hcz19_0
   try clear hcz19_1
   try clear hcz19_2
   try clear hcz23_0
   try clear hcz23_1
   try clear hcz23_2
   try clear hcz5_0
   try clear hcz5_1
   try clear hcz5_2
   try clear hfz13_0
   try clear hfz13_1
   try clear hfz13_2
   try clear hfz15_0
   try clear hfz15_1
   try clear hfz15_2
   try clear hfz19_0
   try clear hfz19_1
   try clear hfz19_2
   try clear hfz23_0
   try clear hfz23_1
   try clear hfz23_2
   try clear hfz5_0
   try clear hfz5_1
   try clear hfz5_2
   obtain ⟨kq, x40_10, rfl, HA, HJ10, HO_4, HO_7, HO_903002, BK886, BK902, HB⟩ := hcut
   cases kq with
   | zero => exact absurd HA.out (by simp [laws_FnExactKingNumbers.j0])
   | succ kj10 =>
    have H := HA.out
    clear HA
    simp only [laws_FnExactKingNumbers.j0] at H
    by_cases c32 : x40_10 = true
    ·
     subst c32
     have H1 : (some false) = some r := by rw [if_pos rfl] at H; exact H
     clear H
     have H := H1
     clear H1
     obtain rfl := Option.some.inj H
     go_wp2
     go_ret
     exact ⟨te_, tb_⟩
    ·
     replace c32 := Bool.eq_false_iff.mpr c32
     subst c32
     have H1 : ((laws_toBoard.f kj10 a0_0 a0_1 l0_2).bind fun bt908 => ((laws_eqBoard.f kj10 t897 t898 t899 bt908.1 bt908.2.1 bt908.2.2).bind fun t913 => (if t913 = true then ((laws_markBoard.f kj10 t897 t898 t899 1).bind fun bt914 => (if bt914.1 < 0 then (laws_FnExactKingNumbers.j1 kj10 t893 t896 t903 true a0_0 a0_1 l0_2) else ((laws_eqIntS.f kj10 t903 t893).bind fun t916 => (if t916 = true then (laws_FnExactKingNumbers.j1 kj10 t893 t896 t903 (t906 != t896) a0_0 a0_1 l0_2) else (laws_FnExactKingNumbers.j1 kj10 t893 t896 t903 true a0_0 a0_1 l0_2))))) else (some false)))) = some r := by rw [if_neg (show ¬ (false = true) by decide)] at H; exact H
     clear H
     have H := H1
     clear H1
     replace H := Option.bind_eq_some_iff.mp H
     obtain ⟨⟨t908, t909, t910⟩, A330, H⟩ := H
     replace H : ((laws_eqBoard.f kj10 t897 t898 t899 t908 t909 t910).bind fun t913 => (if t913 = true then ((laws_markBoard.f kj10 t897 t898 t899 1).bind fun bt914 => (if bt914.1 < 0 then (laws_FnExactKingNumbers.j1 kj10 t893 t896 t903 true a0_0 a0_1 l0_2) else ((laws_eqIntS.f kj10 t903 t893).bind fun t916 => (if t916 = true then (laws_FnExactKingNumbers.j1 kj10 t893 t896 t903 (t906 != t896) a0_0 a0_1 l0_2) else (laws_FnExactKingNumbers.j1 kj10 t893 t896 t903 true a0_0 a0_1 l0_2))))) else (some false))) = some r := H
     have A33 := A_ A330
     clear A330
     replace H := Option.bind_eq_some_iff.mp H
     obtain ⟨t913, A340, H⟩ := H
     replace H : (if t913 = true then ((laws_markBoard.f kj10 t897 t898 t899 1).bind fun bt914 => (if bt914.1 < 0 then (laws_FnExactKingNumbers.j1 kj10 t893 t896 t903 true a0_0 a0_1 l0_2) else ((laws_eqIntS.f kj10 t903 t893).bind fun t916 => (if t916 = true then (laws_FnExactKingNumbers.j1 kj10 t893 t896 t903 (t906 != t896) a0_0 a0_1 l0_2) else (laws_FnExactKingNumbers.j1 kj10 t893 t896 t903 true a0_0 a0_1 l0_2))))) else (some false)) = some r := H
     have A34 := A_ A340
     clear A340
     by_cases c35 : t913 = true
     ·
      subst c35
      have H1 : ((laws_markBoard.f kj10 t897 t898 t899 1).bind fun bt914 => (if bt914.1 < 0 then (laws_FnExactKingNumbers.j1 kj10 t893 t896 t903 true a0_0 a0_1 l0_2) else ((laws_eqIntS.f kj10 t903 t893).bind fun t916 => (if t916 = true then (laws_FnExactKingNumbers.j1 kj10 t893 t896 t903 (t906 != t896) a0_0 a0_1 l0_2) else (laws_FnExactKingNumbers.j1 kj10 t893 t896 t903 true a0_0 a0_1 l0_2))))) = some r := by rw [if_pos rfl] at H; exact H
      clear H
      have H := H1
      clear H1
      replace H := Option.bind_eq_some_iff.mp H
      obtain ⟨⟨t914, t915⟩, A360, H⟩ := H
      replace H : (if t914 < 0 then (laws_FnExactKingNumbers.j1 kj10 t893 t896 t903 true a0_0 a0_1 l0_2) else ((laws_eqIntS.f kj10 t903 t893).bind fun t916 => (if t916 = true then (laws_FnExactKingNumbers.j1 kj10 t893 t896 t903 (t906 != t896) a0_0 a0_1 l0_2) else (laws_FnExactKingNumbers.j1 kj10 t893 t896 t903 true a0_0 a0_1 l0_2)))) = some r := H
      have A36 := A_ A360
      clear A360
      have HC37 := A_ H
      clear H
      try go_wp2
      have n0_ := A_ (Kd.R_drew HO_4.out)
      have n1_ := A_ (Kd.R_drew HO_7.out)
      have n2_ := A_ (Kd.R_drew HO_903002.out)
      have n3_ := A_ (blk_drew BK886.out)
      have n4_ := A_ (blk_drew BK902.out)
      have n5_ := A_ (below_drew1 HB.out)
      clear HO_4
      clear HO_7
      clear HO_903002
      clear BK886
      clear BK902
      clear HB
      have HO_4 := n0_
      have HO_7 := n1_
      have HO_903002 := n2_
      have BK886 := n3_
      have BK902 := n4_
      have HB := n5_
      clear n0_ n1_ n2_ n3_ n4_ n5_
      refine start_ (n := 5) (S := fun w' => w'.cell? ⟨gb902, 0, none⟩ = some (.int .i64 t897) ∧ w'.cell? ⟨gb902, 1, none⟩ = some (.int .i64 t898) ∧ w'.cell? ⟨gb902, 2, none⟩ = some (.slice Ao24 t899.length co24) ∧ w'.cell? ⟨gb886, 0, none⟩ = some (.int .i64 a0_0) ∧ w'.cell? ⟨gb886, 1, none⟩ = some (.int .i64 a0_1) ∧ w'.cell? ⟨gb886, 2, none⟩ = some (.slice A0_2 l0_2.length c0_2)) (ds := []) (Fn.bl 5 0) (by kernel_rfl) rfl rfl ⟨(blk_cell BK902.out 0).trans rfl, (blk_cell BK902.out 1).trans rfl, (blk_cell BK902.out 2).trans rfl, (blk_cell BK886.out 0).trans rfl, (blk_cell BK886.out 1).trans rfl, (blk_cell BK886.out 2).trans rfl⟩ (fun hHeld => ?_)
      generalize wc.drew = w38 at HO_4 HO_7 HO_903002 BK886 BK902 HB hHeld ⊢
      refine take_ (i := 0) (N := some 41) (v := ?_) (a' := ?_) (Fn.bl 5 1) rfl rfl (by kernel_rfl) (fun _ _ _ h => h) (Or.inl ⟨by rfl, ?_⟩) hHeld ?_ ?_
      rotate_left
      ·
       rintro w' ⟨s0, s1, s2, s3, s4, s5⟩
       go_simp
       with_reducible rfl
      rotate_left
      ·
       simp only [Act.put, List.setIfInBounds_toArray, List.set_cons_zero, List.set_cons_succ, i64_w, i32_w]
       rfl
      refine take_ (i := 1) (N := some 42) (v := ?_) (a' := ?_) (Fn.bl 5 3) rfl rfl (by kernel_rfl) (fun _ _ _ h => h) (Or.inl ⟨by rfl, ?_⟩) hHeld ?_ ?_
      rotate_left
      ·
       rintro w' ⟨s0, s1, s2, s3, s4, s5⟩
       go_simp
       with_reducible rfl
      rotate_left
      ·
       simp only [Act.put, List.setIfInBounds_toArray, List.set_cons_zero, List.set_cons_succ, i64_w, i32_w]
       rfl
      refine one_ (i := 2) (N := some 43) (Fn.bl 5 7) rfl rfl (by kernel_rfl) (by decide) (fun K hK => ?_)
      refine goes_ Try.func19 (by kernel_rfl) rfl #[.agg #[.int .i64 a0_0, .int .i64 a0_1, .slice A0_2 l0_2.length c0_2]] (by rfl) rfl rfl ta_ ?_
      with_reducible refine (laws_toBoard.calls kj10 a0_0 a0_1 _ _ l0_2 t908 t909 t910 _ ?side1 ?side2 A33.out).mono ?_
      (case side1 => exact tc_ HR0_2.out)
      (case side2 => exact HC0_2.out)
      rintro e w39 ⟨v911, rfl, ho0, hb⟩
      refine ⟨_, rfl, ?_⟩
      have n0_ := A_ (Kd.R_elder' (tr_x HO_4.out) (Kd.R_base ho0) hb)
      have n1_ := A_ (Kd.R_elder' (tr_x HO_7.out) (Kd.R_base ho0) hb)
      have n2_ := A_ (Kd.R_elder' (tr_x HO_903002.out) (Kd.R_base ho0) hb)
      have n3_ := A_ (Kd.R_lower (Kd.R_new' (Kd.R_new' (Kd.R_new' ho0 (Kd.R_lt (tr_x HO_4.out))) (Kd.R_lt (tr_x HO_7.out))) (Kd.R_lt (tr_x HO_903002.out))) (below_size tb_))
      have n4_ := A_ (blk_below (g := gb886) (o := .cells #[.int .i64 a0_0, .int .i64 a0_1, .slice A0_2 l0_2.length c0_2] 24 (0, 0)) (tk_ BK886) hb)
      have n5_ := A_ (blk_below (g := gb902) (o := .cells #[.int .i64 t897, .int .i64 t898, .slice Ao24 t899.length co24] 26 (0, 0)) (tk_ BK902) hb)
      have n6_ := A_ (below_step tb_ hb)
      clear HO_4
      clear HO_7
      clear HO_903002
      clear BK886
      clear BK902
      clear HB
      have HO_4 := n0_
      have HO_7 := n1_
      have HO_903002 := n2_
      have HO912 := n3_
      have BK886 := n4_
      have BK902 := n5_
      have HB := n6_
      clear n0_ n1_ n2_ n3_ n4_ n5_ n6_
      (try clear hb)
      (try clear hb2)
      (try clear hk)
      (try clear hi)
      (try clear ho0)
      obtain ⟨Ao40, co40, eo40⟩ := Kd.R_slice HO912.out
      (first | subst eo40 | (injection eo40 with f1_ f2_ f3_; have f4_ := f1_.symm; have f5_ := f3_.symm; clear f1_ f2_ f3_; subst f4_; subst f5_))
      refine hK.out _ _ ⟨(blk_cell BK902.out 0).trans rfl, (blk_cell BK902.out 1).trans rfl, (blk_cell BK902.out 2).trans rfl, (blk_cell BK886.out 0).trans rfl, (blk_cell BK886.out 1).trans rfl, (blk_cell BK886.out 2).trans rfl⟩ (fun hHeld => ?_)
      clear hK K
      refine norm_ (a' := ?_) ?_ ?_
      rotate_left
      ·
       show Act.put _ (some 43) _ = _
       simp only [Act.put, List.setIfInBounds_toArray, List.set_cons_zero, List.set_cons_succ, i64_w, i32_w]
       rfl
      refine one_ (i := 3) (N := some 44) (Fn.bl 5 15) rfl rfl (by kernel_rfl) (by decide) (fun K hK => ?_)
      refine goes_ Try.func21 (by kernel_rfl) rfl #[.agg #[.int .i64 t897, .int .i64 t898, .slice Ao24 t899.length co24], .agg #[.int .i64 t908, .int .i64 t909, .slice Ao40 t910.length co40]] (by rfl) rfl rfl ta_ ?_
      with_reducible refine (laws_eqBoard.calls kj10 t897 t898 _ _ t899 t908 t909 _ _ t910 true _ ?side1 ?side2 ?side3 ?side4 A34.out).mono ?_
      (case side1 => exact tc0_ (Kd.R_reads' HO_903002.out).2.2)
      (case side2 => exact (Kd.R_reads' HO_903002.out).2.1)
      (case side3 => exact tc0_ (Kd.R_reads' HO912.out).2.2)
      (case side4 => exact (Kd.R_reads' HO912.out).2.1)
      rintro e w41 ⟨rfl, hb⟩
      refine ⟨_, rfl, ?_⟩
      have n0_ := A_ (Kd.R_below (tr_x HO_4.out) hb)
      have n1_ := A_ (Kd.R_below (tr_x HO_7.out) hb)
      have n2_ := A_ (Kd.R_below (tr_x HO_903002.out) hb)
      have n3_ := A_ (Kd.R_below (tr_x HO912.out) hb)
      have n4_ := A_ (blk_below (g := gb886) (o := .cells #[.int .i64 a0_0, .int .i64 a0_1, .slice A0_2 l0_2.length c0_2] 24 (0, 0)) (tk_ BK886) hb)
      have n5_ := A_ (blk_below (g := gb902) (o := .cells #[.int .i64 t897, .int .i64 t898, .slice Ao24 t899.length co24] 26 (0, 0)) (tk_ BK902) hb)
      have n6_ := A_ (below_step tb_ hb)
      clear HO_4
      clear HO_7
      clear HO_903002
      clear HO912
      clear BK886
      clear BK902
      clear HB
      have HO_4 := n0_
      have HO_7 := n1_
      have HO_903002 := n2_
      have HO912 := n3_
      have BK886 := n4_
      have BK902 := n5_
      have HB := n6_
      clear n0_ n1_ n2_ n3_ n4_ n5_ n6_
      (try clear hb)
      (try clear hb2)
      (try clear hk)
      (try clear hi)
      refine hK.out _ _ ⟨(blk_cell BK902.out 0).trans rfl, (blk_cell BK902.out 1).trans rfl, (blk_cell BK902.out 2).trans rfl, (blk_cell BK886.out 0).trans rfl, (blk_cell BK886.out 1).trans rfl, (blk_cell BK886.out 2).trans rfl⟩ (fun hHeld => ?_)
      clear hK K
      refine norm_ (a' := ?_) ?_ ?_
      rotate_left
      ·
       show Act.put _ (some 44) _ = _
       simp only [Act.put, List.setIfInBounds_toArray, List.set_cons_zero, List.set_cons_succ, i64_w, i32_w]
       rfl
      refine pk_ 4 (some 45) (Fn.bl 5 31) ?_
      refine done_ (by kernel_rfl) ?_
      have hnb42 := NB902_886.out
      have hnc42 := NB886_902.out
      obtain ⟨hcz43_0, hcz43_1, hcz43_2, hfz43_0, hfz43_1, hfz43_2⟩ := cf3_ BK902.out
      go_upto_region 14 with (first | (refine gc_ 22 ?_; refine goesT_ (some 48) Try.func22 #[.agg #[.int .i64 t897, .int .i64 t898, .slice Ao24 t899.length co24], .int .i64 1] ?_; (with_reducible refine (laws_markBoard.calls kj10 t897 t898 (fun k_ => some k_ = (.slice Ao24 t899.length co24 : Value).ownBlock) (.slice Ao24 t899.length co24) t899 1 t914 t915 w _ ?side1 ?side2 A36.out).mono ?_); (case side1 => repeat (first | (with_reducible first | exact HB.out | apply below_alloc | apply pw_below_drewN | apply below_drew1 | refine below_set ?_ GE886.out | refine below_set ?_ GE902.out) | exact HB.out)); (case side2 => exact Kd.R_tight rfl HO_903002.out); rintro e w44 ⟨rfl, hy0, hb, hkp⟩; refine ⟨_, rfl, ?_⟩; replace HO_4 := A_ (Kd.R_mono (ok' := fun k_ => some k_ ≠ (v904 : Value).ownBlock ∧ some k_ ≠ (.slice Ao24 t899.length co24 : Value).ownBlock ∧ some k_ ≠ (.slice Ao40 t910.length co40 : Value).ownBlock) (Kd.R_keptB (HO_4.out) hkp (fun k_ hk_ hs_ => (hk_.1.2) hs_)) (fun k_ hk_ => ⟨hk_.1.1.1, hk_.1.1.2, hk_.1.2⟩)); replace HO_7 := A_ (Kd.R_mono (ok' := fun k_ => some k_ ≠ (v894 : Value).ownBlock ∧ some k_ ≠ (.slice Ao24 t899.length co24 : Value).ownBlock ∧ some k_ ≠ (.slice Ao40 t910.length co40 : Value).ownBlock) (Kd.R_keptB (HO_7.out) hkp (fun k_ hk_ hs_ => (hk_.1.2) hs_)) (fun k_ hk_ => ⟨hk_.1.1.1, hk_.1.1.2, hk_.1.2⟩)); replace BK886 := A_ (blk_kept (tk_ BK886) hkp (fun hs_ => (fun e_ => (Kd.R_ne HO_903002.out BK886.out (by decide)) e_) hs_)); replace BK902 := A_ (blk_kept (tk_ BK902) hkp (fun hs_ => (fun e_ => (Kd.R_ne HO_903002.out BK902.out (by decide)) e_) hs_)); replace HO_903002 := A_ (Kd.R_reok rfl hy0 (fun k_ e_ => HO_903002.out.1 k_ e_)); replace HO912 := A_ (Kd.R_mono (ok' := fun k_ => some k_ ≠ (v894 : Value).ownBlock ∧ some k_ ≠ (v904 : Value).ownBlock ∧ some k_ ≠ (.slice Ao24 t899.length co24 : Value).ownBlock) (Kd.R_keptB (HO912.out) hkp (fun k_ hk_ hs_ => (hk_.2) hs_)) (fun k_ hk_ => ⟨hk_.1.1.1.2, hk_.1.1.2, hk_.1.2⟩)); replace HB := A_ (hb); (try clear hb); (try clear hkp); (try clear hy0)))
      (try simp only [Act.put, List.setIfInBounds_toArray, List.set_cons_zero, List.set_cons_succ])
      go_cut [61] (fun v61 wc => ∃ (kq : Nat) (x61_36 : Bool), v61 = .bool x61_36 ∧ Aside0 (laws_FnExactKingNumbers.j1 kq t893 t896 t903 x61_36 a0_0 a0_1 l0_2 = some r) ∧ Aside0 (kq ≤ kj10) ∧ Aside0 (Kd.R (Kd.int .i64) 3 wc w.heap.size (fun k_ => some k_ ≠ (v904 : Value).ownBlock ∧ some k_ ≠ ((.slice Ao24 t899.length co24) : Value).ownBlock) v894 t893) ∧ Aside0 (Kd.R (Kd.int .i64) 3 wc w.heap.size (fun k_ => some k_ ≠ (v894 : Value).ownBlock ∧ some k_ ≠ ((.slice Ao24 t899.length co24) : Value).ownBlock) v904 t903) ∧ Aside0 (Kd.R (Kd.int .i64) 3 wc w.heap.size (fun k_ => some k_ ≠ (v894 : Value).ownBlock ∧ some k_ ≠ (v904 : Value).ownBlock) (.slice Ao24 t899.length co24) t915) ∧ Aside0 (wc.heap[gb886]? = some (.cells #[.int .i64 a0_0, .int .i64 a0_1, (.slice A0_2 l0_2.length c0_2)] 24 (0, 0))) ∧ Aside0 (wc.heap[gb902]? = some (.cells #[.int .i64 t897, .int .i64 t898, (.slice Ao24 t899.length co24)] 26 (0, 0))) ∧ Aside0 (Below w.heap.size w wc))
      case first =>
       have H := HC37.out
       clear HC37
       by_cases c45 : t914 < 0
       ·
        rw [if_pos c45] at H
        have c45b0 := decide_eq_true c45
        clear c45
        (first | rw [c45b0] | rw [c45b1] | (simp only [i64_w, i32_w]; rw [c45b0]) | skip)
        have H' := A_ H
        clear H
        go_wp2
        go_meet
        case rel => exact ⟨_, (true), tf_, H', ⟨by have := HJ10.out; first | omega | exact Nat.le_refl _⟩, ⟨by (with_reducible repeat (first | apply Kd.R_alloc | apply Kd.R_drewN | apply Kd.R_drew)); exact Kd.R_mono HO_4.out om_⟩, ⟨by (with_reducible repeat (first | apply Kd.R_alloc | apply Kd.R_drewN | apply Kd.R_drew)); exact Kd.R_mono HO_7.out om_⟩, ⟨by (with_reducible repeat (first | apply Kd.R_alloc | apply Kd.R_drewN | apply Kd.R_drew)); exact Kd.R_mono HO_903002.out om_⟩, ⟨tk_ BK886⟩, ⟨tk_ BK902⟩, ⟨tb_⟩⟩
       ·
        rw [if_neg c45] at H
        have c45b0 := decide_eq_false c45
        clear c45
        (first | rw [c45b0] | rw [c45b1] | (simp only [i64_w, i32_w]; rw [c45b0]) | skip)
        replace H := Option.bind_eq_some_iff.mp H
        obtain ⟨t916, A460, H⟩ := H
        replace H : (if t916 = true then (laws_FnExactKingNumbers.j1 kj10 t893 t896 t903 (t906 != t896) a0_0 a0_1 l0_2) else (laws_FnExactKingNumbers.j1 kj10 t893 t896 t903 true a0_0 a0_1 l0_2)) = some r := H
        have A46 := A_ A460
        clear A460
        by_cases c47 : t916 = true
        ·
         subst c47
         have H1 : (laws_FnExactKingNumbers.j1 kj10 t893 t896 t903 (t906 != t896) a0_0 a0_1 l0_2) = some r := by rw [if_pos rfl] at H; exact H
         clear H
         have H := H1
         clear H1
         have H' := A_ H
         clear H
         obtain ⟨Ao48, co48, eo48⟩ := Kd.R_slice HO_7.out
         subst eo48
         obtain ⟨Ao49, co49, eo49⟩ := Kd.R_slice HO_4.out
         subst eo49
         go_wp2_with (first | (go_at_call 28; (with_reducible refine (laws_eqIntS.calls kj10 _ _ t903 _ _ t893 true _ ?side1 ?side2 ?side3 ?side4 A46.out).mono ?_); (case side1 => exact tc0_ (Kd.R_reads' HO_7.out).2.2); (case side2 => exact (Kd.R_reads' HO_7.out).2.1); (case side3 => exact tc0_ (Kd.R_reads' HO_4.out).2.2); (case side4 => exact (Kd.R_reads' HO_4.out).2.1); rintro e w' ⟨rfl, ⟨nd, rfl⟩⟩))
         go_meet
         case rel => exact ⟨_, ((t906 != t896)), tf_, H', ⟨by have := HJ10.out; first | omega | exact Nat.le_refl _⟩, ⟨by (with_reducible repeat (first | apply Kd.R_alloc | apply Kd.R_drewN | apply Kd.R_drew)); exact Kd.R_mono HO_4.out om_⟩, ⟨by (with_reducible repeat (first | apply Kd.R_alloc | apply Kd.R_drewN | apply Kd.R_drew)); exact Kd.R_mono HO_7.out om_⟩, ⟨by (with_reducible repeat (first | apply Kd.R_alloc | apply Kd.R_drewN | apply Kd.R_drew)); exact Kd.R_mono HO_903002.out om_⟩, ⟨tk_ BK886⟩, ⟨tk_ BK902⟩, ⟨tb_⟩⟩
        ·
         replace c47 := Bool.eq_false_iff.mpr c47
         subst c47
         have H1 : (laws_FnExactKingNumbers.j1 kj10 t893 t896 t903 true a0_0 a0_1 l0_2) = some r := by rw [if_neg (show ¬ (false = true) by decide)] at H; exact H
         clear H
         have H := H1
         clear H1
         have H' := A_ H
         clear H
         obtain ⟨Ao50, co50, eo50⟩ := Kd.R_slice HO_7.out
         subst eo50
         obtain ⟨Ao51, co51, eo51⟩ := Kd.R_slice HO_4.out
         subst eo51
         go_wp2_with (first | (go_at_call 28; (with_reducible refine (laws_eqIntS.calls kj10 _ _ t903 _ _ t893 false _ ?side1 ?side2 ?side3 ?side4 A46.out).mono ?_); (case side1 => exact tc0_ (Kd.R_reads' HO_7.out).2.2); (case side2 => exact (Kd.R_reads' HO_7.out).2.1); (case side3 => exact tc0_ (Kd.R_reads' HO_4.out).2.2); (case side4 => exact (Kd.R_reads' HO_4.out).2.1); rintro e w' ⟨rfl, ⟨nd, rfl⟩⟩))
         go_meet
         case rel => exact ⟨_, (true), tf_, H', ⟨by have := HJ10.out; first | omega | exact Nat.le_refl _⟩, ⟨by (with_reducible repeat (first | apply Kd.R_alloc | apply Kd.R_drewN | apply Kd.R_drew)); exact Kd.R_mono HO_4.out om_⟩, ⟨by (with_reducible repeat (first | apply Kd.R_alloc | apply Kd.R_drewN | apply Kd.R_drew)); exact Kd.R_mono HO_7.out om_⟩, ⟨by (with_reducible repeat (first | apply Kd.R_alloc | apply Kd.R_drewN | apply Kd.R_drew)); exact Kd.R_mono HO_903002.out om_⟩, ⟨tk_ BK886⟩, ⟨tk_ BK902⟩, ⟨tb_⟩⟩
      case rest =>
       clear HC37
       try clear c1
       try clear c2
       try clear p2
       try clear c3
       try clear c3b0
       try clear c4
       try clear c11
       try clear c17
       try clear c19
       try clear c21
       try clear c22
       try clear c27
       try clear c28
       try clear c32
       try clear c35
       try clear c42
       try clear c44
       try clear c45
       try clear c45b0
       try clear c47
       try clear hcz13_0
       try clear hcz13_1
       try clear hcz13_2
       try clear hcz15_0
       try clear hcz15_1
       try clear hcz15_2
       try clear hcz19_0
       try clear hcz19_1
       try clear hcz19_2
       try clear hcz23_0
       try clear hcz23_1
       try clear hcz23_2
       try clear hcz43_0
       try clear hcz43_1
       try clear hcz43_2
       try clear hcz5_0
       try clear hcz5_1
       try clear hcz5_2
       try clear hfz13_0
       try clear hfz13_1
       try clear hfz13_2
       try clear hfz15_0
       try clear hfz15_1
       try clear hfz15_2
       try clear hfz19_0
       try clear hfz19_1
       try clear hfz19_2
       try clear hfz23_0
       try clear hfz23_1
       try clear hfz23_2
       try clear hfz43_0
       try clear hfz43_1
       try clear hfz43_2
       try clear hfz5_0
       try clear hfz5_1
       try clear hfz5_2
       try clear p2
       obtain ⟨kq, x61_36, rfl, HA, HJ36, HO_4, HO_7, HO_903002, BK886, BK902, HB⟩ := hcut
       have hl903002_36 := (Kd.R_reads' HO_903002.out).1
       rw [hl903002_36] at HO_903002
       (try simp only [hl903002_36])
       (try simp only [hl903002_36] at BK886)
       (try simp only [hl903002_36] at BK902)
       (try simp only [hl903002_36] at HO_4)
       (try simp only [hl903002_36] at HO_7)
       cases kq with
       | zero => exact absurd HA.out (by simp [laws_FnExactKingNumbers.j1])
       | succ kj36 =>
        have H := HA.out
        clear HA
        simp only [laws_FnExactKingNumbers.j1] at H
        by_cases c52 : x61_36 = true
        ·
         subst c52
         have H1 : (some false) = some r := by rw [if_pos rfl] at H; exact H
         clear H
         have H := H1
         clear H1
         obtain rfl := Option.some.inj H
         go_wp2
         go_ret
         exact ⟨te_, tb_⟩
        ·
         replace c52 := Bool.eq_false_iff.mpr c52
         subst c52
         have H1 : ((laws_markIntS.f kj36 t903 1).bind fun bt917 => ((laws_heldIntS.f kj36 bt917.2 1).bind fun t919 => (if t919 < 0 then (some false) else (if t919 = bt917.1 then ((laws_toBoard.f kj36 a0_0 a0_1 l0_2).bind fun bt920 => ((impl_KingNumbers.f kj36 bt920.1 bt920.2.1 bt920.2.2).bind fun bt925 => ((laws_eqIntS.f kj36 bt925.1 t893).bind fun t929 => (if t929 = true then (laws_FnExactKingNumbers.j2 kj36 bt917.2 bt917.1 (bt925.2 != t896)) else (laws_FnExactKingNumbers.j2 kj36 bt917.2 bt917.1 true))))) else (some false))))) = some r := by rw [if_neg (show ¬ (false = true) by decide)] at H; exact H
         clear H
         have H := H1
         clear H1
         replace H := Option.bind_eq_some_iff.mp H
         obtain ⟨⟨t917, t918⟩, A530, H⟩ := H
         replace H : ((laws_heldIntS.f kj36 t918 1).bind fun t919 => (if t919 < 0 then (some false) else (if t919 = t917 then ((laws_toBoard.f kj36 a0_0 a0_1 l0_2).bind fun bt920 => ((impl_KingNumbers.f kj36 bt920.1 bt920.2.1 bt920.2.2).bind fun bt925 => ((laws_eqIntS.f kj36 bt925.1 t893).bind fun t929 => (if t929 = true then (laws_FnExactKingNumbers.j2 kj36 t918 t917 (bt925.2 != t896)) else (laws_FnExactKingNumbers.j2 kj36 t918 t917 true))))) else (some false)))) = some r := H
         have A53 := A_ A530
         clear A530
         replace H := Option.bind_eq_some_iff.mp H
         obtain ⟨t919, A540, H⟩ := H
         replace H : (if t919 < 0 then (some false) else (if t919 = t917 then ((laws_toBoard.f kj36 a0_0 a0_1 l0_2).bind fun bt920 => ((impl_KingNumbers.f kj36 bt920.1 bt920.2.1 bt920.2.2).bind fun bt925 => ((laws_eqIntS.f kj36 bt925.1 t893).bind fun t929 => (if t929 = true then (laws_FnExactKingNumbers.j2 kj36 t918 t917 (bt925.2 != t896)) else (laws_FnExactKingNumbers.j2 kj36 t918 t917 true))))) else (some false))) = some r := H
         have A54 := A_ A540
         clear A540
         by_cases c55 : t919 < 0
         ·
          rw [if_pos c55] at H
          have c55b0 := decide_eq_true c55
          clear c55
          obtain rfl := Option.some.inj H
          obtain ⟨Ao56, co56, eo56⟩ := Kd.R_slice HO_7.out
          subst eo56
          go_wp2_with (first | (refine gc_ 29 ?_; refine goesT_ (some 64) Try.func29 #[.slice Ao56 t903.length co56, .int .i64 1] ?_; (with_reducible refine (laws_markIntS.calls kj36 (fun k_ => some k_ = (.slice Ao56 t903.length co56 : Value).ownBlock) (.slice Ao56 t903.length co56) t903 1 t917 t918 w _ ?side1 ?side2 A53.out).mono ?_); (case side1 => repeat (first | (with_reducible first | exact HB.out | apply below_alloc | apply pw_below_drewN | apply below_drew1 | refine below_set ?_ GE886.out | refine below_set ?_ GE902.out) | exact HB.out)); (case side2 => exact Kd.R_tight rfl HO_7.out); rintro e w57 ⟨rfl, hy0, hb, hkp⟩; refine ⟨_, rfl, ?_⟩; replace HO_4 := A_ (Kd.R_mono (ok' := fun k_ => some k_ ≠ (.slice Ao56 t903.length co56 : Value).ownBlock ∧ some k_ ≠ (.slice Ao24 t915.length co24 : Value).ownBlock) (Kd.R_keptB (HO_4.out) hkp (fun k_ hk_ hs_ => (hk_.1) hs_)) (fun k_ hk_ => ⟨hk_.1.1, hk_.1.2⟩)); replace HO_903002 := A_ (Kd.R_mono (ok' := fun k_ => some k_ ≠ (v894 : Value).ownBlock ∧ some k_ ≠ (.slice Ao56 t903.length co56 : Value).ownBlock) (Kd.R_keptB (HO_903002.out) hkp (fun k_ hk_ hs_ => (hk_.2) hs_)) (fun k_ hk_ => ⟨hk_.1.1, hk_.1.2⟩)); replace BK886 := A_ (blk_kept (tk_ BK886) hkp (fun hs_ => (fun e_ => (Kd.R_ne HO_7.out BK886.out (by decide)) e_) hs_)); replace BK902 := A_ (blk_kept (tk_ BK902) hkp (fun hs_ => (fun e_ => (Kd.R_ne HO_7.out BK902.out (by decide)) e_) hs_)); replace HO_7 := A_ (Kd.R_reok rfl hy0 (fun k_ e_ => HO_7.out.1 k_ e_)); replace HB := A_ (hb); (try clear hb); (try clear hkp); (try clear hy0)) | (refine gc_ 30 ?_; refine goesL_ (some 67) rfl rfl Try.func30 (by kernel_rfl) rfl #[.slice Ao56 t918.length co56, .int .i64 1] rfl (by (try simp only [List.map_toArray, List.map_cons, List.map_nil]); first | done | (rw [show t918.length = t903.length from (Kd.R_reads' HO_7.out).1.symm] <;> rfl) | rfl | (simp only [List.length_drop, List.length_take]; rfl)) ?_; (with_reducible refine (laws_heldIntS.calls kj36 _ _ t918 1 t919 _ ?side1 ?side2 A54.out).mono ?_); (case side1 => exact tc0_ (Kd.R_reads' HO_7.out).2.2); (case side2 => rw [show t918.length = t903.length from (Kd.R_reads' HO_7.out).1.symm]; exact (Kd.R_reads' HO_7.out).2.1); rintro e w' ⟨rfl, ⟨nd, rfl⟩⟩; refine ⟨_, rfl, ?_⟩))
          go_ret
          exact ⟨te_, tb_⟩
         ·
          rw [if_neg c55] at H
          have c55b0 := decide_eq_false c55
          clear c55
          by_cases c58 : t919 = t917
          ·
           rw [if_pos c58] at H
           have c58b0 : (t919 == t917) = true := beq_iff_eq.mpr c58
           have c58b1 : (t919 != t917) = false := bne_eq_false_iff_eq.mpr c58
           clear c58
           replace H := Option.bind_eq_some_iff.mp H
           obtain ⟨⟨t920, t921, t922⟩, A590, H⟩ := H
           replace H : ((impl_KingNumbers.f kj36 t920 t921 t922).bind fun bt925 => ((laws_eqIntS.f kj36 bt925.1 t893).bind fun t929 => (if t929 = true then (laws_FnExactKingNumbers.j2 kj36 t918 t917 (bt925.2 != t896)) else (laws_FnExactKingNumbers.j2 kj36 t918 t917 true)))) = some r := H
           have A59 := A_ A590
           clear A590
           replace H := Option.bind_eq_some_iff.mp H
           obtain ⟨⟨t925, t928⟩, A600, H⟩ := H
           replace H : ((laws_eqIntS.f kj36 t925 t893).bind fun t929 => (if t929 = true then (laws_FnExactKingNumbers.j2 kj36 t918 t917 (t928 != t896)) else (laws_FnExactKingNumbers.j2 kj36 t918 t917 true))) = some r := H
           have A60 := A_ A600
           clear A600
           have HC61 := A_ H
           clear H
           obtain ⟨Ao62, co62, eo62⟩ := Kd.R_slice HO_7.out
           subst eo62
           go_upto_region 25 with (first | (refine gc_ 29 ?_; refine goesT_ (some 64) Try.func29 #[.slice Ao62 t903.length co62, .int .i64 1] ?_; (with_reducible refine (laws_markIntS.calls kj36 (fun k_ => some k_ = (.slice Ao62 t903.length co62 : Value).ownBlock) (.slice Ao62 t903.length co62) t903 1 t917 t918 w _ ?side1 ?side2 A53.out).mono ?_); (case side1 => repeat (first | (with_reducible first | exact HB.out | apply below_alloc | apply pw_below_drewN | apply below_drew1 | refine below_set ?_ GE886.out | refine below_set ?_ GE902.out) | exact HB.out)); (case side2 => exact Kd.R_tight rfl HO_7.out); rintro e w63 ⟨rfl, hy0, hb, hkp⟩; refine ⟨_, rfl, ?_⟩; replace HO_4 := A_ (Kd.R_mono (ok' := fun k_ => some k_ ≠ (.slice Ao62 t903.length co62 : Value).ownBlock ∧ some k_ ≠ (.slice Ao24 t915.length co24 : Value).ownBlock) (Kd.R_keptB (HO_4.out) hkp (fun k_ hk_ hs_ => (hk_.1) hs_)) (fun k_ hk_ => ⟨hk_.1.1, hk_.1.2⟩)); replace HO_903002 := A_ (Kd.R_mono (ok' := fun k_ => some k_ ≠ (v894 : Value).ownBlock ∧ some k_ ≠ (.slice Ao62 t903.length co62 : Value).ownBlock) (Kd.R_keptB (HO_903002.out) hkp (fun k_ hk_ hs_ => (hk_.2) hs_)) (fun k_ hk_ => ⟨hk_.1.1, hk_.1.2⟩)); replace BK886 := A_ (blk_kept (tk_ BK886) hkp (fun hs_ => (fun e_ => (Kd.R_ne HO_7.out BK886.out (by decide)) e_) hs_)); replace BK902 := A_ (blk_kept (tk_ BK902) hkp (fun hs_ => (fun e_ => (Kd.R_ne HO_7.out BK902.out (by decide)) e_) hs_)); replace HO_7 := A_ (Kd.R_reok rfl hy0 (fun k_ e_ => HO_7.out.1 k_ e_)); replace HB := A_ (hb); (try clear hb); (try clear hkp); (try clear hy0)) | (refine gc_ 30 ?_; refine goesL_ (some 67) rfl rfl Try.func30 (by kernel_rfl) rfl #[.slice Ao62 t918.length co62, .int .i64 1] rfl (by (try simp only [List.map_toArray, List.map_cons, List.map_nil]); first | done | (rw [show t918.length = t903.length from (Kd.R_reads' HO_7.out).1.symm] <;> rfl) | rfl | (simp only [List.length_drop, List.length_take]; rfl)) ?_; (with_reducible refine (laws_heldIntS.calls kj36 _ _ t918 1 t919 _ ?side1 ?side2 A54.out).mono ?_); (case side1 => exact tc0_ (Kd.R_reads' HO_7.out).2.2); (case side2 => rw [show t918.length = t903.length from (Kd.R_reads' HO_7.out).1.symm]; exact (Kd.R_reads' HO_7.out).2.1); rintro e w' ⟨rfl, ⟨nd, rfl⟩⟩; refine ⟨_, rfl, ?_⟩; have hnb64 := NB886_902.out; have hnc64 := NB902_886.out; obtain ⟨hcz65_0, hcz65_1, hcz65_2, hfz65_0, hfz65_1, hfz65_2⟩ := cf3_ BK886.out) | (refine gc_ 19 ?_; refine goesT_ (some 75) Try.func19 #[.agg #[.int .i64 a0_0, .int .i64 a0_1, .slice A0_2 l0_2.length c0_2]] ?_; (with_reducible refine (laws_toBoard.calls kj36 a0_0 a0_1 _ _ l0_2 t920 t921 t922 _ ?side1 ?side2 A59.out).mono ?_); (case side1 => repeat (first | exact (Kd.C_below HR0_2.out tb_) | (with_reducible refine Kd.C_alloc ?_ _) | (with_reducible refine Kd.C_drewN ?_ _) | (with_reducible refine Kd.C_drew ?_))); (case side2 => exact HC0_2.out); rintro e w66 ⟨v923, rfl, ho0, hb⟩; refine ⟨_, rfl, ?_⟩; have HO924 := A_ (Kd.R_lower (Kd.R_new' (Kd.R_new' (Kd.R_new' ho0 (Kd.R_lt (tr_x HO_4.out))) (Kd.R_lt (tr_x HO_7.out))) (Kd.R_lt (tr_x HO_903002.out))) (below_size tb_)); replace HO_4 := A_ (Kd.R_elder' (tr_x HO_4.out) (Kd.R_base ho0) hb); replace HO_7 := A_ (Kd.R_elder' (tr_x HO_7.out) (Kd.R_base ho0) hb); replace HO_903002 := A_ (Kd.R_elder' (tr_x HO_903002.out) (Kd.R_base ho0) hb); replace BK886 := A_ (blk_below (g := gb886) (o := .cells #[.int .i64 a0_0, .int .i64 a0_1, .slice A0_2 l0_2.length c0_2] 24 (0, 0)) (tk_ BK886) hb); replace BK902 := A_ (blk_below (g := gb902) (o := .cells #[.int .i64 t897, .int .i64 t898, .slice Ao24 t915.length co24] 26 (0, 0)) (tk_ BK902) hb); replace HB := A_ (below_step tb_ hb); (try clear hb); (try clear ho0); obtain ⟨Ao67, co67, eo67⟩ := Kd.R_slice HO924.out; subst eo67) | (refine gc_ 45 ?_; refine goesT_ (some 76) Try.func45 #[.agg #[.int .i64 t920, .int .i64 t921, .slice Ao67 t922.length co67]] ?_; (with_reducible refine (impl_KingNumbers.calls kj36 t920 t921 _ _ t922 t925 t928 _ ?side1 ?side2 A60.out).mono ?_); (case side1 => exact tc0_ (Kd.R_reads' HO924.out).2.2); (case side2 => exact (Kd.R_reads' HO924.out).2.1); rintro e w68 ⟨v926, rfl, ho0, hb⟩; refine ⟨_, rfl, ?_⟩; have HO927 := A_ (Kd.R_lower (Kd.R_new' (Kd.R_new' (Kd.R_new' (Kd.R_new' ho0 (Kd.R_lt (tr_x HO_4.out))) (Kd.R_lt (tr_x HO_7.out))) (Kd.R_lt (tr_x HO_903002.out))) (Kd.R_lt (tr_x HO924.out))) (below_size tb_)); replace HO_4 := A_ (Kd.R_elder' (tr_x HO_4.out) (Kd.R_base ho0) hb); replace HO_7 := A_ (Kd.R_elder' (tr_x HO_7.out) (Kd.R_base ho0) hb); replace HO_903002 := A_ (Kd.R_elder' (tr_x HO_903002.out) (Kd.R_base ho0) hb); replace HO924 := A_ (Kd.R_elder' (tr_x HO924.out) (Kd.R_base ho0) hb); replace BK886 := A_ (blk_below (g := gb886) (o := .cells #[.int .i64 a0_0, .int .i64 a0_1, .slice A0_2 l0_2.length c0_2] 24 (0, 0)) (tk_ BK886) hb); replace BK902 := A_ (blk_below (g := gb902) (o := .cells #[.int .i64 t897, .int .i64 t898, .slice Ao24 t915.length co24] 26 (0, 0)) (tk_ BK902) hb); replace HB := A_ (below_step tb_ hb); (try clear hb); (try clear ho0)))
           (try simp only [Act.put, List.setIfInBounds_toArray, List.set_cons_zero, List.set_cons_succ])
           go_cut [87] (fun v87 wc => ∃ (kq : Nat) (x87_60 : Bool), v87 = .bool x87_60 ∧ Aside0 (laws_FnExactKingNumbers.j2 kq t918 t917 x87_60 = some r) ∧ Aside0 (kq ≤ kj36) ∧ Aside0 (Kd.R (Kd.int .i64) 3 wc w.heap.size (fun k_ => some k_ ≠ ((.slice Ao24 t915.length co24) : Value).ownBlock) (.slice Ao62 t903.length co62) t918) ∧ Aside0 (Kd.R (Kd.int .i64) 3 wc w.heap.size (fun k_ => some k_ ≠ ((.slice Ao62 t903.length co62) : Value).ownBlock) (.slice Ao24 t915.length co24) t915) ∧ Aside0 (wc.heap[gb886]? = some (.cells #[.int .i64 a0_0, .int .i64 a0_1, (.slice A0_2 l0_2.length c0_2)] 24 (0, 0))) ∧ Aside0 (wc.heap[gb902]? = some (.cells #[.int .i64 t897, .int .i64 t898, (.slice Ao24 t915.length co24)] 26 (0, 0))) ∧ Aside0 (Below w.heap.size w wc))
           case first =>
            have H := HC61.out
            clear HC61
            replace H := Option.bind_eq_some_iff.mp H
            obtain ⟨t929, A690, H⟩ := H
            replace H : (if t929 = true then (laws_FnExactKingNumbers.j2 kj36 t918 t917 (t928 != t896)) else (laws_FnExactKingNumbers.j2 kj36 t918 t917 true)) = some r := H
            have A69 := A_ A690
            clear A690
            by_cases c70 : t929 = true
            ·
             subst c70
             have H1 : (laws_FnExactKingNumbers.j2 kj36 t918 t917 (t928 != t896)) = some r := by rw [if_pos rfl] at H; exact H
             clear H
             have H := H1
             clear H1
             have H' := A_ H
             clear H
             obtain ⟨Ao71, co71, eo71⟩ := Kd.R_slice HO927.out
             subst eo71
             obtain ⟨Ao72, co72, eo72⟩ := Kd.R_slice HO_4.out
             subst eo72
             go_wp2_with (first | (refine gc_ 28 ?_; refine goesT_ (some 81) Try.func28 #[.slice Ao71 t925.length co71, .slice Ao72 t893.length co72] ?_; (with_reducible refine (laws_eqIntS.calls kj36 _ _ t925 _ _ t893 true _ ?side1 ?side2 ?side3 ?side4 A69.out).mono ?_); (case side1 => exact tc0_ (Kd.R_reads' HO927.out).2.2); (case side2 => exact (Kd.R_reads' HO927.out).2.1); (case side3 => exact tc0_ (Kd.R_reads' HO_4.out).2.2); (case side4 => exact (Kd.R_reads' HO_4.out).2.1); rintro e w' ⟨rfl, ⟨nd, rfl⟩⟩; refine ⟨_, rfl, ?_⟩))
             go_meet
             case rel => exact ⟨_, ((t928 != t896)), tf_, H', ⟨by have := HJ10.out; have := HJ36.out; first | omega | exact Nat.le_refl _⟩, ⟨by (try simp only [hl903002_36]); (with_reducible repeat (first | apply Kd.R_alloc | apply Kd.R_drewN | apply Kd.R_drew)); exact Kd.R_mono HO_7.out (fun _ hk => hk.1.1.2)⟩, ⟨by (try simp only [hl903002_36]); (with_reducible repeat (first | apply Kd.R_alloc | apply Kd.R_drewN | apply Kd.R_drew)); exact Kd.R_mono HO_903002.out (fun _ hk => hk.1.1.2)⟩, ⟨by (try simp only [hl903002_36]); (with_reducible repeat (first | refine blk_drewN ?_ _ | refine blk_drew ?_ | refine blk_alloc ?_ _)); exact BK886.out⟩, ⟨by (try simp only [hl903002_36]); (with_reducible repeat (first | refine blk_drewN ?_ _ | refine blk_drew ?_ | refine blk_alloc ?_ _)); exact BK902.out⟩, ⟨tb_⟩⟩
            ·
             replace c70 := Bool.eq_false_iff.mpr c70
             subst c70
             have H1 : (laws_FnExactKingNumbers.j2 kj36 t918 t917 true) = some r := by rw [if_neg (show ¬ (false = true) by decide)] at H; exact H
             clear H
             have H := H1
             clear H1
             have H' := A_ H
             clear H
             obtain ⟨Ao73, co73, eo73⟩ := Kd.R_slice HO927.out
             subst eo73
             obtain ⟨Ao74, co74, eo74⟩ := Kd.R_slice HO_4.out
             subst eo74
             go_wp2_with (first | (refine gc_ 28 ?_; refine goesT_ (some 81) Try.func28 #[.slice Ao73 t925.length co73, .slice Ao74 t893.length co74] ?_; (with_reducible refine (laws_eqIntS.calls kj36 _ _ t925 _ _ t893 false _ ?side1 ?side2 ?side3 ?side4 A69.out).mono ?_); (case side1 => exact tc0_ (Kd.R_reads' HO927.out).2.2); (case side2 => exact (Kd.R_reads' HO927.out).2.1); (case side3 => exact tc0_ (Kd.R_reads' HO_4.out).2.2); (case side4 => exact (Kd.R_reads' HO_4.out).2.1); rintro e w' ⟨rfl, ⟨nd, rfl⟩⟩; refine ⟨_, rfl, ?_⟩))
             go_meet
             case rel => exact ⟨_, (true), tf_, H', ⟨by have := HJ10.out; have := HJ36.out; first | omega | exact Nat.le_refl _⟩, ⟨by (try simp only [hl903002_36]); (with_reducible repeat (first | apply Kd.R_alloc | apply Kd.R_drewN | apply Kd.R_drew)); exact Kd.R_mono HO_7.out (fun _ hk => hk.1.1.2)⟩, ⟨by (try simp only [hl903002_36]); (with_reducible repeat (first | apply Kd.R_alloc | apply Kd.R_drewN | apply Kd.R_drew)); exact Kd.R_mono HO_903002.out (fun _ hk => hk.1.1.2)⟩, ⟨by (try simp only [hl903002_36]); (with_reducible repeat (first | refine blk_drewN ?_ _ | refine blk_drew ?_ | refine blk_alloc ?_ _)); exact BK886.out⟩, ⟨by (try simp only [hl903002_36]); (with_reducible repeat (first | refine blk_drewN ?_ _ | refine blk_drew ?_ | refine blk_alloc ?_ _)); exact BK902.out⟩, ⟨tb_⟩⟩
           case rest =>
            clear HC61
            try clear c1
            try clear c2
            try clear p2
            try clear c3
            try clear c3b0
            try clear c4
            try clear c5
            try clear c6
            try clear c7
            try clear c11
            try clear c17
            try clear c19
            try clear c21
            try clear c22
            try clear c27
            try clear c28
            try clear c29
            try clear c30
            try clear c32
            try clear c35
            try clear c42
            try clear c44
            try clear c45
            try clear c45b0
            try clear c47
            try clear c52
            try clear c55
            try clear c55b0
            try clear c58
            try clear c58b0
            try clear c58b1
            try clear c64
            try clear c70
            try clear hcz13_0
            try clear hcz13_1
            try clear hcz13_2
            try clear hcz15_0
            try clear hcz15_1
            try clear hcz15_2
            try clear hcz19_0
            try clear hcz19_1
            try clear hcz19_2
            try clear hcz23_0
            try clear hcz23_1
            try clear hcz23_2
            try clear hcz43_0
            try clear hcz43_1
            try clear hcz43_2
            try clear hcz5_0
            try clear hcz5_1
            try clear hcz5_2
            try clear hcz65_0
            try clear hcz65_1
            try clear hcz65_2
            try clear hfz13_0
            try clear hfz13_1
            try clear hfz13_2
            try clear hfz15_0
            try clear hfz15_1
            try clear hfz15_2
            try clear hfz19_0
            try clear hfz19_1
            try clear hfz19_2
            try clear hfz23_0
            try clear hfz23_1
            try clear hfz23_2
            try clear hfz43_0
            try clear hfz43_1
            try clear hfz43_2
            try clear hfz5_0
            try clear hfz5_1
            try clear hfz5_2
            try clear hfz65_0
            try clear hfz65_1
            try clear hfz65_2
            try clear p2
            obtain ⟨kq, x87_60, rfl, HA, HJ60, HO_7, HO_903002, BK886, BK902, HB⟩ := hcut
            have hl7_60 := (Kd.R_reads' HO_7.out).1
            rw [hl7_60] at HO_7
            (try simp only [hl7_60])
            (try simp only [hl7_60] at BK886)
            (try simp only [hl7_60] at BK902)
            (try simp only [hl7_60] at HO_903002)
            cases kq with
            | zero => exact absurd HA.out (by simp [laws_FnExactKingNumbers.j2])
            | succ kj60 =>
             have H := HA.out
             clear HA
             simp only [laws_FnExactKingNumbers.j2] at H
             by_cases c75 : x87_60 = true
             ·
              subst c75
              have H1 : (some false) = some r := by rw [if_pos rfl] at H; exact H
              clear H
              have H := H1
              clear H1
              obtain rfl := Option.some.inj H
              go_wp2
              go_ret
              exact ⟨te_, tb_⟩
             ·
              replace c75 := Bool.eq_false_iff.mpr c75
              subst c75
              have H1 : ((laws_heldIntS.f kj60 t918 1).bind fun t930 => (if t930 < 0 then (some false) else (if t930 = t917 then (some true) else (some false)))) = some r := by rw [if_neg (show ¬ (false = true) by decide)] at H; exact H
              clear H
              have H := H1
              clear H1
              replace H := Option.bind_eq_some_iff.mp H
              obtain ⟨t930, A760, H⟩ := H
              replace H : (if t930 < 0 then (some false) else (if t930 = t917 then (some true) else (some false))) = some r := H
              have A76 := A_ A760
              clear A760
              by_cases c77 : t930 < 0
              ·
               rw [if_pos c77] at H
               have c77b0 := decide_eq_true c77
               clear c77
               obtain rfl := Option.some.inj H
               go_wp2_with (first | (refine gc_ 30 ?_; refine goesT_ (some 90) Try.func30 #[.slice Ao62 t918.length co62, .int .i64 1] ?_; (with_reducible refine (laws_heldIntS.calls kj60 _ _ t918 1 t930 _ ?side1 ?side2 A76.out).mono ?_); (case side1 => exact tc0_ (Kd.R_reads' HO_7.out).2.2); (case side2 => exact (Kd.R_reads' HO_7.out).2.1); rintro e w' ⟨rfl, ⟨nd, rfl⟩⟩; refine ⟨_, rfl, ?_⟩))
               go_ret
               exact ⟨te_, tb_⟩
              ·
               rw [if_neg c77] at H
               have c77b0 := decide_eq_false c77
               clear c77
               by_cases c78 : t930 = t917
               ·
                rw [if_pos c78] at H
                have c78b0 : (t930 == t917) = true := beq_iff_eq.mpr c78
                have c78b1 : (t930 != t917) = false := bne_eq_false_iff_eq.mpr c78
                clear c78
                obtain rfl := Option.some.inj H
                go_wp2_with (first | (refine gc_ 30 ?_; refine goesT_ (some 90) Try.func30 #[.slice Ao62 t918.length co62, .int .i64 1] ?_; (with_reducible refine (laws_heldIntS.calls kj60 _ _ t918 1 t930 _ ?side1 ?side2 A76.out).mono ?_); (case side1 => exact tc0_ (Kd.R_reads' HO_7.out).2.2); (case side2 => exact (Kd.R_reads' HO_7.out).2.1); rintro e w' ⟨rfl, ⟨nd, rfl⟩⟩; refine ⟨_, rfl, ?_⟩))
                go_ret
                exact ⟨te_, tb_⟩
               ·
                rw [if_neg c78] at H
                have c78b0 : (t930 == t917) = false := beq_eq_false_iff_ne.mpr c78
                have c78b1 : (t930 != t917) = true := bne_iff_ne.mpr c78
                obtain rfl := Option.some.inj H
                go_wp2_with (first | (refine gc_ 30 ?_; refine goesT_ (some 90) Try.func30 #[.slice Ao62 t918.length co62, .int .i64 1] ?_; (with_reducible refine (laws_heldIntS.calls kj60 _ _ t918 1 t930 _ ?side1 ?side2 A76.out).mono ?_); (case side1 => exact tc0_ (Kd.R_reads' HO_7.out).2.2); (case side2 => exact (Kd.R_reads' HO_7.out).2.1); rintro e w' ⟨rfl, ⟨nd, rfl⟩⟩; refine ⟨_, rfl, ?_⟩))
                go_ret
                exact ⟨te_, tb_⟩
          ·
           rw [if_neg c58] at H
           have c58b0 : (t919 == t917) = false := beq_eq_false_iff_ne.mpr c58
           have c58b1 : (t919 != t917) = true := bne_iff_ne.mpr c58
           obtain rfl := Option.some.inj H
           obtain ⟨Ao79, co79, eo79⟩ := Kd.R_slice HO_7.out
           subst eo79
           go_wp2_with (first | (refine gc_ 29 ?_; refine goesT_ (some 64) Try.func29 #[.slice Ao79 t903.length co79, .int .i64 1] ?_; (with_reducible refine (laws_markIntS.calls kj36 (fun k_ => some k_ = (.slice Ao79 t903.length co79 : Value).ownBlock) (.slice Ao79 t903.length co79) t903 1 t917 t918 w _ ?side1 ?side2 A53.out).mono ?_); (case side1 => repeat (first | (with_reducible first | exact HB.out | apply below_alloc | apply pw_below_drewN | apply below_drew1 | refine below_set ?_ GE886.out | refine below_set ?_ GE902.out) | exact HB.out)); (case side2 => exact Kd.R_tight rfl HO_7.out); rintro e w80 ⟨rfl, hy0, hb, hkp⟩; refine ⟨_, rfl, ?_⟩; replace HO_4 := A_ (Kd.R_mono (ok' := fun k_ => some k_ ≠ (.slice Ao79 t903.length co79 : Value).ownBlock ∧ some k_ ≠ (.slice Ao24 t915.length co24 : Value).ownBlock) (Kd.R_keptB (HO_4.out) hkp (fun k_ hk_ hs_ => (hk_.1) hs_)) (fun k_ hk_ => ⟨hk_.1.1, hk_.1.2⟩)); replace HO_903002 := A_ (Kd.R_mono (ok' := fun k_ => some k_ ≠ (v894 : Value).ownBlock ∧ some k_ ≠ (.slice Ao79 t903.length co79 : Value).ownBlock) (Kd.R_keptB (HO_903002.out) hkp (fun k_ hk_ hs_ => (hk_.2) hs_)) (fun k_ hk_ => ⟨hk_.1.1, hk_.1.2⟩)); replace BK886 := A_ (blk_kept (tk_ BK886) hkp (fun hs_ => (fun e_ => (Kd.R_ne HO_7.out BK886.out (by decide)) e_) hs_)); replace BK902 := A_ (blk_kept (tk_ BK902) hkp (fun hs_ => (fun e_ => (Kd.R_ne HO_7.out BK902.out (by decide)) e_) hs_)); replace HO_7 := A_ (Kd.R_reok rfl hy0 (fun k_ e_ => HO_7.out.1 k_ e_)); replace HB := A_ (hb); (try clear hb); (try clear hkp); (try clear hy0)) | (refine gc_ 30 ?_; refine goesL_ (some 67) rfl rfl Try.func30 (by kernel_rfl) rfl #[.slice Ao79 t918.length co79, .int .i64 1] rfl (by (try simp only [List.map_toArray, List.map_cons, List.map_nil]); first | done | (rw [show t918.length = t903.length from (Kd.R_reads' HO_7.out).1.symm] <;> rfl) | rfl | (simp only [List.length_drop, List.length_take]; rfl)) ?_; (with_reducible refine (laws_heldIntS.calls kj36 _ _ t918 1 t919 _ ?side1 ?side2 A54.out).mono ?_); (case side1 => exact tc0_ (Kd.R_reads' HO_7.out).2.2); (case side2 => rw [show t918.length = t903.length from (Kd.R_reads' HO_7.out).1.symm]; exact (Kd.R_reads' HO_7.out).2.1); rintro e w' ⟨rfl, ⟨nd, rfl⟩⟩; refine ⟨_, rfl, ?_⟩))
           go_ret
           exact ⟨te_, tb_⟩
     ·
      replace c35 := Bool.eq_false_iff.mpr c35
      subst c35
      have H1 : (some false) = some r := by rw [if_neg (show ¬ (false = true) by decide)] at H; exact H
      clear H
      have H := H1
      clear H1
      obtain rfl := Option.some.inj H
      try go_wp2
      have n0_ := A_ (Kd.R_drew HO_4.out)
      have n1_ := A_ (Kd.R_drew HO_7.out)
      have n2_ := A_ (Kd.R_drew HO_903002.out)
      have n3_ := A_ (blk_drew BK886.out)
      have n4_ := A_ (blk_drew BK902.out)
      have n5_ := A_ (below_drew1 HB.out)
      clear HO_4
      clear HO_7
      clear HO_903002
      clear BK886
      clear BK902
      clear HB
      have HO_4 := n0_
      have HO_7 := n1_
      have HO_903002 := n2_
      have BK886 := n3_
      have BK902 := n4_
      have HB := n5_
      clear n0_ n1_ n2_ n3_ n4_ n5_
      refine start_ (n := 5) (S := fun w' => w'.cell? ⟨gb902, 0, none⟩ = some (.int .i64 t897) ∧ w'.cell? ⟨gb902, 1, none⟩ = some (.int .i64 t898) ∧ w'.cell? ⟨gb902, 2, none⟩ = some (.slice Ao24 t899.length co24) ∧ w'.cell? ⟨gb886, 0, none⟩ = some (.int .i64 a0_0) ∧ w'.cell? ⟨gb886, 1, none⟩ = some (.int .i64 a0_1) ∧ w'.cell? ⟨gb886, 2, none⟩ = some (.slice A0_2 l0_2.length c0_2)) (ds := []) (Fn.bl 5 0) (by kernel_rfl) rfl rfl ⟨(blk_cell BK902.out 0).trans rfl, (blk_cell BK902.out 1).trans rfl, (blk_cell BK902.out 2).trans rfl, (blk_cell BK886.out 0).trans rfl, (blk_cell BK886.out 1).trans rfl, (blk_cell BK886.out 2).trans rfl⟩ (fun hHeld => ?_)
      generalize wc.drew = w81 at HO_4 HO_7 HO_903002 BK886 BK902 HB hHeld ⊢
      refine take_ (i := 0) (N := some 41) (v := ?_) (a' := ?_) (Fn.bl 5 1) rfl rfl (by kernel_rfl) (fun _ _ _ h => h) (Or.inl ⟨by rfl, ?_⟩) hHeld ?_ ?_
      rotate_left
      ·
       rintro w' ⟨s0, s1, s2, s3, s4, s5⟩
       go_simp
       with_reducible rfl
      rotate_left
      ·
       simp only [Act.put, List.setIfInBounds_toArray, List.set_cons_zero, List.set_cons_succ, i64_w, i32_w]
       rfl
      refine take_ (i := 1) (N := some 42) (v := ?_) (a' := ?_) (Fn.bl 5 3) rfl rfl (by kernel_rfl) (fun _ _ _ h => h) (Or.inl ⟨by rfl, ?_⟩) hHeld ?_ ?_
      rotate_left
      ·
       rintro w' ⟨s0, s1, s2, s3, s4, s5⟩
       go_simp
       with_reducible rfl
      rotate_left
      ·
       simp only [Act.put, List.setIfInBounds_toArray, List.set_cons_zero, List.set_cons_succ, i64_w, i32_w]
       rfl
      refine one_ (i := 2) (N := some 43) (Fn.bl 5 7) rfl rfl (by kernel_rfl) (by decide) (fun K hK => ?_)
      refine goes_ Try.func19 (by kernel_rfl) rfl #[.agg #[.int .i64 a0_0, .int .i64 a0_1, .slice A0_2 l0_2.length c0_2]] (by rfl) rfl rfl ta_ ?_
      with_reducible refine (laws_toBoard.calls kj10 a0_0 a0_1 _ _ l0_2 t908 t909 t910 _ ?side1 ?side2 A33.out).mono ?_
      (case side1 => exact tc_ HR0_2.out)
      (case side2 => exact HC0_2.out)
      rintro e w82 ⟨v911, rfl, ho0, hb⟩
      refine ⟨_, rfl, ?_⟩
      have n0_ := A_ (Kd.R_elder' (tr_x HO_4.out) (Kd.R_base ho0) hb)
      have n1_ := A_ (Kd.R_elder' (tr_x HO_7.out) (Kd.R_base ho0) hb)
      have n2_ := A_ (Kd.R_elder' (tr_x HO_903002.out) (Kd.R_base ho0) hb)
      have n3_ := A_ (Kd.R_lower (Kd.R_new' (Kd.R_new' (Kd.R_new' ho0 (Kd.R_lt (tr_x HO_4.out))) (Kd.R_lt (tr_x HO_7.out))) (Kd.R_lt (tr_x HO_903002.out))) (below_size tb_))
      have n4_ := A_ (blk_below (g := gb886) (o := .cells #[.int .i64 a0_0, .int .i64 a0_1, .slice A0_2 l0_2.length c0_2] 24 (0, 0)) (tk_ BK886) hb)
      have n5_ := A_ (blk_below (g := gb902) (o := .cells #[.int .i64 t897, .int .i64 t898, .slice Ao24 t899.length co24] 26 (0, 0)) (tk_ BK902) hb)
      have n6_ := A_ (below_step tb_ hb)
      clear HO_4
      clear HO_7
      clear HO_903002
      clear BK886
      clear BK902
      clear HB
      have HO_4 := n0_
      have HO_7 := n1_
      have HO_903002 := n2_
      have HO912 := n3_
      have BK886 := n4_
      have BK902 := n5_
      have HB := n6_
      clear n0_ n1_ n2_ n3_ n4_ n5_ n6_
      (try clear hb)
      (try clear hb2)
      (try clear hk)
      (try clear hi)
      (try clear ho0)
      obtain ⟨Ao83, co83, eo83⟩ := Kd.R_slice HO912.out
      (first | subst eo83 | (injection eo83 with f1_ f2_ f3_; have f4_ := f1_.symm; have f5_ := f3_.symm; clear f1_ f2_ f3_; subst f4_; subst f5_))
      refine hK.out _ _ ⟨(blk_cell BK902.out 0).trans rfl, (blk_cell BK902.out 1).trans rfl, (blk_cell BK902.out 2).trans rfl, (blk_cell BK886.out 0).trans rfl, (blk_cell BK886.out 1).trans rfl, (blk_cell BK886.out 2).trans rfl⟩ (fun hHeld => ?_)
      clear hK K
      refine norm_ (a' := ?_) ?_ ?_
      rotate_left
      ·
       show Act.put _ (some 43) _ = _
       simp only [Act.put, List.setIfInBounds_toArray, List.set_cons_zero, List.set_cons_succ, i64_w, i32_w]
       rfl
      refine one_ (i := 3) (N := some 44) (Fn.bl 5 15) rfl rfl (by kernel_rfl) (by decide) (fun K hK => ?_)
      refine goes_ Try.func21 (by kernel_rfl) rfl #[.agg #[.int .i64 t897, .int .i64 t898, .slice Ao24 t899.length co24], .agg #[.int .i64 t908, .int .i64 t909, .slice Ao83 t910.length co83]] (by rfl) rfl rfl ta_ ?_
      with_reducible refine (laws_eqBoard.calls kj10 t897 t898 _ _ t899 t908 t909 _ _ t910 false _ ?side1 ?side2 ?side3 ?side4 A34.out).mono ?_
      (case side1 => exact tc0_ (Kd.R_reads' HO_903002.out).2.2)
      (case side2 => exact (Kd.R_reads' HO_903002.out).2.1)
      (case side3 => exact tc0_ (Kd.R_reads' HO912.out).2.2)
      (case side4 => exact (Kd.R_reads' HO912.out).2.1)
      rintro e w84 ⟨rfl, hb⟩
      refine ⟨_, rfl, ?_⟩
      have n0_ := A_ (Kd.R_below (tr_x HO_4.out) hb)
      have n1_ := A_ (Kd.R_below (tr_x HO_7.out) hb)
      have n2_ := A_ (Kd.R_below (tr_x HO_903002.out) hb)
      have n3_ := A_ (Kd.R_below (tr_x HO912.out) hb)
      have n4_ := A_ (blk_below (g := gb886) (o := .cells #[.int .i64 a0_0, .int .i64 a0_1, .slice A0_2 l0_2.length c0_2] 24 (0, 0)) (tk_ BK886) hb)
      have n5_ := A_ (blk_below (g := gb902) (o := .cells #[.int .i64 t897, .int .i64 t898, .slice Ao24 t899.length co24] 26 (0, 0)) (tk_ BK902) hb)
      have n6_ := A_ (below_step tb_ hb)
      clear HO_4
      clear HO_7
      clear HO_903002
      clear HO912
      clear BK886
      clear BK902
      clear HB
      have HO_4 := n0_
      have HO_7 := n1_
      have HO_903002 := n2_
      have HO912 := n3_
      have BK886 := n4_
      have BK902 := n5_
      have HB := n6_
      clear n0_ n1_ n2_ n3_ n4_ n5_ n6_
      (try clear hb)
      (try clear hb2)
      (try clear hk)
      (try clear hi)
      refine hK.out _ _ ⟨(blk_cell BK902.out 0).trans rfl, (blk_cell BK902.out 1).trans rfl, (blk_cell BK902.out 2).trans rfl, (blk_cell BK886.out 0).trans rfl, (blk_cell BK886.out 1).trans rfl, (blk_cell BK886.out 2).trans rfl⟩ (fun hHeld => ?_)
      clear hK K
      refine norm_ (a' := ?_) ?_ ?_
      rotate_left
      ·
       show Act.put _ (some 44) _ = _
       simp only [Act.put, List.setIfInBounds_toArray, List.set_cons_zero, List.set_cons_succ, i64_w, i32_w]
       rfl
      refine pk_ 4 (some 45) (Fn.bl 5 31) ?_
      refine done_ (by kernel_rfl) ?_
      try go_wp2
      go_ret
      exact ⟨te_, tb_⟩

/-- THE ONE PURE STATEMENT of laws_FnExactKingNumbers: yours. -/
def laws_FnExactKingNumbers.Pure : Prop := ∀ (a0_0 : Int) (a0_1 : Int) (l0_2 : List Int), Fn.okI a0_0 → Fn.okI a0_1 → (Fn.okL Fn.okI) l0_2 → ∃ k, laws_FnExactKingNumbers.f k a0_0 a0_1 l0_2 = some true

end
end Go.Proofs.Ythlcaikplebpmaa.P
