-- printed functions (wip/slim.py)
import Derived.Test.YthlcaikplebpmaaPx0
import Derived.Test.YthlcaikplebpmaaQad733cfde0
import Derived.Test.YthlcaikplebpmaaQ60e402f868
import Derived.Test.YthlcaikplebpmaaQ00e602a585
namespace Go.Proofs.Ythlcaikplebpmaa.P
noncomputable section
set_option maxHeartbeats 8000000
set_option maxRecDepth 100000
open Go.RowKit Go.Proofs.YthlcaikplebpmaaW.PrintWords Go.Proofs.YthlcaikplebpmaaW.PrintLast Go.Proofs.YthlcaikplebpmaaW.PrintMore
attribute [local go_sem] max2_int min2_int max_two min_two max_three min_three max_four min_four   -- for this text's walks alone
set_option linter.unusedVariables false
set_option linter.unusedSimpArgs false

/-! ### laws_FnExactColourBoard: function 3 -/
mutual
def laws_FnExactColourBoard.j0 : Nat → Int → Bool → Bool → Bool → Int → Int → List Int → Int → Int → List Int → Int → Int → List Int → Int → Int → List Int → Option (Bool)
 | 0, _, _, _, _, _, _, _, _, _, _, _, _, _, _, _, _ => none
 | k + 1, x1, x7, x10, x44, x443000, x443001, x443002, x456000, x456001, x456002, x462000, x462001, x462002, x469000, x469001, x469002 => if x44 = true then (some false) else ((laws_toBoard.f k x443000 x443001 x443002).bind fun bt470 => ((laws_eqBoard.f k x462000 x462001 x462002 bt470.1 bt470.2.1 bt470.2.2).bind fun t475 => (if t475 = true then ((laws_markBoard.f k x462000 x462001 x462002 1).bind fun bt476 => (if bt476.1 < 0 then (laws_FnExactColourBoard.j1 k x1 x7 true x443000 x443001 x443002 x456000 x456001 x456002 x469000 x469001 x469002) else ((laws_eqBoard.f k x469000 x469001 x469002 x456000 x456001 x456002).bind fun t478 => (if t478 = true then (laws_FnExactColourBoard.j1 k x1 x7 (x10 != x7) x443000 x443001 x443002 x456000 x456001 x456002 x469000 x469001 x469002) else (laws_FnExactColourBoard.j1 k x1 x7 true x443000 x443001 x443002 x456000 x456001 x456002 x469000 x469001 x469002))))) else (some false))))
def laws_FnExactColourBoard.j1 : Nat → Int → Bool → Bool → Int → Int → List Int → Int → Int → List Int → Int → Int → List Int → Option (Bool)
 | 0, _, _, _, _, _, _, _, _, _, _, _, _ => none
 | k + 1, x1, x7, x65, x443000, x443001, x443002, x456000, x456001, x456002, x469000, x469001, x469002 => if x65 = true then (some false) else ((laws_markBoard.f k x469000 x469001 x469002 1).bind fun bt479 => ((laws_heldBoard.f k x469000 x469001 bt479.2 1).bind fun t481 => (if t481 < 0 then (some false) else (if t481 = bt479.1 then ((laws_toBoard.f k x443000 x443001 x443002).bind fun bt482 => ((impl_ColourBoard.f k bt482.1 bt482.2.1 bt482.2.2 x1).bind fun bt487 => ((laws_eqBoard.f k bt487.1 bt487.2.1 bt487.2.2.1 x456000 x456001 x456002).bind fun t494 => (if t494 = true then (laws_FnExactColourBoard.j2 k bt479.1 (bt487.2.2.2 != x7) x469000 x469001 bt479.2) else (laws_FnExactColourBoard.j2 k bt479.1 true x469000 x469001 bt479.2))))) else (some false)))))
def laws_FnExactColourBoard.j2 : Nat → Int → Bool → Int → Int → List Int → Option (Bool)
 | 0, _, _, _, _, _ => none
 | k + 1, x12, x92, x469000, x469001, x469002 => if x92 = true then (some false) else ((laws_heldBoard.f k x469000 x469001 x469002 1).bind fun t495 => (if t495 < 0 then (some false) else (if t495 = x12 then (some true) else (some false))))
end
def laws_FnExactColourBoard.f (k : Nat) (a0_0 : Int) (a0_1 : Int) (l0_2 : List Int) (a1 : Int) : Option (Bool) := (laws_szBoard.f a0_0 a0_1 l0_2 1048576).bind fun t443 => (if t443 < 0 then (some true) else ((laws_toBoard.f k a0_0 a0_1 l0_2).bind fun bt444 => ((spec_ColourBoard.f k bt444.1 bt444.2.1 bt444.2.2 a1).bind fun bt449 => ((laws_toBoard.f k a0_0 a0_1 l0_2).bind fun bt456 => ((impl_ColourBoard.f k bt456.1 bt456.2.1 bt456.2.2 a1).bind fun bt462 => ((laws_eqBoard.f k bt462.1 bt462.2.1 bt462.2.2.1 bt449.1 bt449.2.1 bt449.2.2.1).bind fun t469 => (if t469 = true then (laws_FnExactColourBoard.j0 k a1 bt449.2.2.2 bt462.2.2.2 (bt462.2.2.2 != bt449.2.2.2) a0_0 a0_1 l0_2 bt449.1 bt449.2.1 bt449.2.2.1 bt456.1 bt456.2.1 bt456.2.2 bt462.1 bt462.2.1 bt462.2.2.1) else (laws_FnExactColourBoard.j0 k a1 bt449.2.2.2 bt462.2.2.2 true a0_0 a0_1 l0_2 bt449.1 bt449.2.1 bt449.2.2.1 bt456.1 bt456.2.1 bt456.2.2 bt462.1 bt462.2.1 bt462.2.2.1))))))))
theorem laws_FnExactColourBoard.mono_l : ∀ k, (∀ y0 y1 y2 y3 y4 y5 y6 y7 y8 y9 y10 y11 y12 y13 y14 y15, LeO (laws_FnExactColourBoard.j0 k y0 y1 y2 y3 y4 y5 y6 y7 y8 y9 y10 y11 y12 y13 y14 y15) (laws_FnExactColourBoard.j0 (k + 1) y0 y1 y2 y3 y4 y5 y6 y7 y8 y9 y10 y11 y12 y13 y14 y15)) ∧ (∀ y0 y1 y2 y3 y4 y5 y6 y7 y8 y9 y10 y11, LeO (laws_FnExactColourBoard.j1 k y0 y1 y2 y3 y4 y5 y6 y7 y8 y9 y10 y11) (laws_FnExactColourBoard.j1 (k + 1) y0 y1 y2 y3 y4 y5 y6 y7 y8 y9 y10 y11)) ∧ (∀ y0 y1 y2 y3 y4, LeO (laws_FnExactColourBoard.j2 k y0 y1 y2 y3 y4) (laws_FnExactColourBoard.j2 (k + 1) y0 y1 y2 y3 y4))
 | 0 => ⟨fun _ _ _ _ _ _ _ _ _ _ _ _ _ _ _ _ r h => by simp [laws_FnExactColourBoard.j0] at h, fun _ _ _ _ _ _ _ _ _ _ _ _ r h => by simp [laws_FnExactColourBoard.j1] at h, fun _ _ _ _ _ r h => by simp [laws_FnExactColourBoard.j2] at h⟩
 | k + 1 => by
  obtain ⟨ih0, ih1, ih2⟩ := laws_FnExactColourBoard.mono_l k
  refine ⟨?_, ?_, ?_⟩
  ·
   intro y0 y1 y2 y3 y4 y5 y6 y7 y8 y9 y10 y11 y12 y13 y14 y15
   unfold laws_FnExactColourBoard.j0
   repeat' first | (with_reducible first | exact ih0 _ _ _ _ _ _ _ _ _ _ _ _ _ _ _ _ | exact ih1 _ _ _ _ _ _ _ _ _ _ _ _ | exact ih2 _ _ _ _ _ | exact impl_ColourBoard.mono _ _ _ _ _ | exact laws_eqBoard.mono _ _ _ _ _ _ _ | exact laws_heldBoard.mono _ _ _ _ _ | exact laws_markBoard.mono _ _ _ _ _ | exact laws_toBoard.mono _ _ _ _ | exact spec_ColourBoard.mono _ _ _ _ _ | exact LeO.refl _ | exact LeO.none _ | refine LeO.ite ?_ ?_ | refine LeO.bind ?_ (fun _ => ?_)) | exact ih0 _ _ _ _ _ _ _ _ _ _ _ _ _ _ _ _ | exact ih1 _ _ _ _ _ _ _ _ _ _ _ _ | exact ih2 _ _ _ _ _ | exact impl_ColourBoard.mono _ _ _ _ _ | exact laws_eqBoard.mono _ _ _ _ _ _ _ | exact laws_heldBoard.mono _ _ _ _ _ | exact laws_markBoard.mono _ _ _ _ _ | exact laws_toBoard.mono _ _ _ _ | exact spec_ColourBoard.mono _ _ _ _ _ | exact LeO.none _ | refine LeO.ite ?_ ?_ | refine LeO.bind ?_ (fun _ => ?_)
  ·
   intro y0 y1 y2 y3 y4 y5 y6 y7 y8 y9 y10 y11
   unfold laws_FnExactColourBoard.j1
   repeat' first | (with_reducible first | exact ih0 _ _ _ _ _ _ _ _ _ _ _ _ _ _ _ _ | exact ih1 _ _ _ _ _ _ _ _ _ _ _ _ | exact ih2 _ _ _ _ _ | exact impl_ColourBoard.mono _ _ _ _ _ | exact laws_eqBoard.mono _ _ _ _ _ _ _ | exact laws_heldBoard.mono _ _ _ _ _ | exact laws_markBoard.mono _ _ _ _ _ | exact laws_toBoard.mono _ _ _ _ | exact spec_ColourBoard.mono _ _ _ _ _ | exact LeO.refl _ | exact LeO.none _ | refine LeO.ite ?_ ?_ | refine LeO.bind ?_ (fun _ => ?_)) | exact ih0 _ _ _ _ _ _ _ _ _ _ _ _ _ _ _ _ | exact ih1 _ _ _ _ _ _ _ _ _ _ _ _ | exact ih2 _ _ _ _ _ | exact impl_ColourBoard.mono _ _ _ _ _ | exact laws_eqBoard.mono _ _ _ _ _ _ _ | exact laws_heldBoard.mono _ _ _ _ _ | exact laws_markBoard.mono _ _ _ _ _ | exact laws_toBoard.mono _ _ _ _ | exact spec_ColourBoard.mono _ _ _ _ _ | exact LeO.none _ | refine LeO.ite ?_ ?_ | refine LeO.bind ?_ (fun _ => ?_)
  ·
   intro y0 y1 y2 y3 y4
   unfold laws_FnExactColourBoard.j2
   repeat' first | (with_reducible first | exact ih0 _ _ _ _ _ _ _ _ _ _ _ _ _ _ _ _ | exact ih1 _ _ _ _ _ _ _ _ _ _ _ _ | exact ih2 _ _ _ _ _ | exact impl_ColourBoard.mono _ _ _ _ _ | exact laws_eqBoard.mono _ _ _ _ _ _ _ | exact laws_heldBoard.mono _ _ _ _ _ | exact laws_markBoard.mono _ _ _ _ _ | exact laws_toBoard.mono _ _ _ _ | exact spec_ColourBoard.mono _ _ _ _ _ | exact LeO.refl _ | exact LeO.none _ | refine LeO.ite ?_ ?_ | refine LeO.bind ?_ (fun _ => ?_)) | exact ih0 _ _ _ _ _ _ _ _ _ _ _ _ _ _ _ _ | exact ih1 _ _ _ _ _ _ _ _ _ _ _ _ | exact ih2 _ _ _ _ _ | exact impl_ColourBoard.mono _ _ _ _ _ | exact laws_eqBoard.mono _ _ _ _ _ _ _ | exact laws_heldBoard.mono _ _ _ _ _ | exact laws_markBoard.mono _ _ _ _ _ | exact laws_toBoard.mono _ _ _ _ | exact spec_ColourBoard.mono _ _ _ _ _ | exact LeO.none _ | refine LeO.ite ?_ ?_ | refine LeO.bind ?_ (fun _ => ?_)
theorem laws_FnExactColourBoard.mono : ∀ a0 a1 a2 a3 k, LeO (laws_FnExactColourBoard.f k a0 a1 a2 a3) (laws_FnExactColourBoard.f (k + 1) a0 a1 a2 a3) := by
 intro a0 a1 a2 a3 k
 obtain ⟨ih0, ih1, ih2⟩ := laws_FnExactColourBoard.mono_l k
 unfold laws_FnExactColourBoard.f
 repeat' first | (with_reducible first | exact ih0 _ _ _ _ _ _ _ _ _ _ _ _ _ _ _ _ | exact ih1 _ _ _ _ _ _ _ _ _ _ _ _ | exact ih2 _ _ _ _ _ | exact impl_ColourBoard.mono _ _ _ _ _ | exact laws_eqBoard.mono _ _ _ _ _ _ _ | exact laws_heldBoard.mono _ _ _ _ _ | exact laws_markBoard.mono _ _ _ _ _ | exact laws_toBoard.mono _ _ _ _ | exact spec_ColourBoard.mono _ _ _ _ _ | exact LeO.refl _ | exact LeO.none _ | refine LeO.ite ?_ ?_ | refine LeO.bind ?_ (fun _ => ?_)) | exact ih0 _ _ _ _ _ _ _ _ _ _ _ _ _ _ _ _ | exact ih1 _ _ _ _ _ _ _ _ _ _ _ _ | exact ih2 _ _ _ _ _ | exact impl_ColourBoard.mono _ _ _ _ _ | exact laws_eqBoard.mono _ _ _ _ _ _ _ | exact laws_heldBoard.mono _ _ _ _ _ | exact laws_markBoard.mono _ _ _ _ _ | exact laws_toBoard.mono _ _ _ _ | exact spec_ColourBoard.mono _ _ _ _ _ | exact LeO.none _ | refine LeO.ite ?_ ?_ | refine LeO.bind ?_ (fun _ => ?_)
theorem laws_FnExactColourBoard.calls (k : Nat) (a0_0 : Int) (a0_1 : Int) (A0_2 : Option Addr) (c0_2 : Nat) (l0_2 : List Int) (a1 : Int) (r : Bool) (w : World) (hr0_2 : Kd.C (Kd.int .i64) w A0_2 l0_2.length l0_2) (hc0_2 : l0_2.length ≤ c0_2) (h : laws_FnExactColourBoard.f k a0_0 a0_1 l0_2 a1 = some r) :
  Calls Try.prog 3 #[.agg #[.int .i64 a0_0, .int .i64 a0_1, .slice A0_2 l0_2.length c0_2], .int .i64 a1] w fun e w' => e = .returned (.bool r) ∧ Below w.heap.size w w' := by
 have hu24 := Try.underlying24
 have hu26 := Try.underlying26
 have HR0_2 := A_ hr0_2
 have HC0_2 := A_ hc0_2
 clear hr0_2 hc0_2
 have HB := A_ (Below.refl w.heap.size w)
 have H : ((laws_szBoard.f a0_0 a0_1 l0_2 1048576).bind fun t443 => (if t443 < 0 then (some true) else ((laws_toBoard.f k a0_0 a0_1 l0_2).bind fun bt444 => ((spec_ColourBoard.f k bt444.1 bt444.2.1 bt444.2.2 a1).bind fun bt449 => ((laws_toBoard.f k a0_0 a0_1 l0_2).bind fun bt456 => ((impl_ColourBoard.f k bt456.1 bt456.2.1 bt456.2.2 a1).bind fun bt462 => ((laws_eqBoard.f k bt462.1 bt462.2.1 bt462.2.2.1 bt449.1 bt449.2.1 bt449.2.2.1).bind fun t469 => (if t469 = true then (laws_FnExactColourBoard.j0 k a1 bt449.2.2.2 bt462.2.2.2 (bt462.2.2.2 != bt449.2.2.2) a0_0 a0_1 l0_2 bt449.1 bt449.2.1 bt449.2.2.1 bt456.1 bt456.2.1 bt456.2.2 bt462.1 bt462.2.1 bt462.2.2.1) else (laws_FnExactColourBoard.j0 k a1 bt449.2.2.2 bt462.2.2.2 true a0_0 a0_1 l0_2 bt449.1 bt449.2.1 bt449.2.2.1 bt456.1 bt456.2.1 bt456.2.2 bt462.1 bt462.2.1 bt462.2.2.1))))))))) = some r := h
 clear h
 replace H := Option.bind_eq_some_iff.mp H
 obtain ⟨t443, A30, H⟩ := H
 replace H : (if t443 < 0 then (some true) else ((laws_toBoard.f k a0_0 a0_1 l0_2).bind fun bt444 => ((spec_ColourBoard.f k bt444.1 bt444.2.1 bt444.2.2 a1).bind fun bt449 => ((laws_toBoard.f k a0_0 a0_1 l0_2).bind fun bt456 => ((impl_ColourBoard.f k bt456.1 bt456.2.1 bt456.2.2 a1).bind fun bt462 => ((laws_eqBoard.f k bt462.1 bt462.2.1 bt462.2.2.1 bt449.1 bt449.2.1 bt449.2.2.1).bind fun t469 => (if t469 = true then (laws_FnExactColourBoard.j0 k a1 bt449.2.2.2 bt462.2.2.2 (bt462.2.2.2 != bt449.2.2.2) a0_0 a0_1 l0_2 bt449.1 bt449.2.1 bt449.2.2.1 bt456.1 bt456.2.1 bt456.2.2 bt462.1 bt462.2.1 bt462.2.2.1) else (laws_FnExactColourBoard.j0 k a1 bt449.2.2.2 bt462.2.2.2 true a0_0 a0_1 l0_2 bt449.1 bt449.2.1 bt449.2.2.1 bt456.1 bt456.2.1 bt456.2.2 bt462.1 bt462.2.1 bt462.2.2.1)))))))) = some r := H
 have A3 := A_ A30
 clear A30
 by_cases c4 : t443 < 0
 ·
  rw [if_pos c4] at H
  have c4b0 := decide_eq_true c4
  clear c4
  obtain rfl := Option.some.inj H
  go_enter Try.func3, Try.ntmps3
  go_wp2_with (first | (refine gd_ 2 ?_; refine bx_ 2 #[.int .i64 a0_0, .int .i64 a0_1, .slice A0_2 l0_2.length c0_2] 24 ?_; intro gb442 hg w5 hbox hb; have BK442 := A_ (hbox); have GW442 := A_ ((ts_ hg : w.heap.size ≤ gb442)); have GE442 := A_ ((ts_ hg : w.heap.size ≤ gb442)); replace HB := A_ (below_step tb_ hb); clear hb hbox hg; obtain ⟨hcz6_0, hcz6_1, hcz6_2, hfz6_0, hfz6_1, hfz6_2⟩ := cf3_ BK442.out) | (refine gc_ 17 ?_; refine goesT_ (some 18) Try.func17 #[.agg #[.int .i64 a0_0, .int .i64 a0_1, .slice A0_2 l0_2.length c0_2], .int .i64 1048576] ?_; (with_reducible refine (laws_szBoard.calls a0_0 a0_1 _ _ l0_2 1048576 t443 _ ?side1 ?side2 A3.out).mono ?_); (case side1 => exact tc_ HR0_2.out); (case side2 => exact HC0_2.out); rintro e w7 ⟨rfl, hb⟩; refine ⟨_, rfl, ?_⟩; replace BK442 := A_ (blk_below (g := gb442) (o := .cells #[.int .i64 a0_0, .int .i64 a0_1, .slice A0_2 l0_2.length c0_2] 24 (0, 0)) (tk_ BK442) hb); replace HB := A_ (below_step tb_ hb); (try clear hb)))
  go_ret
  exact ⟨te_, tb_⟩
 ·
  rw [if_neg c4] at H
  have c4b0 := decide_eq_false c4
  clear c4
  replace H := Option.bind_eq_some_iff.mp H
  obtain ⟨⟨t444, t445, t446⟩, A80, H⟩ := H
  replace H : ((spec_ColourBoard.f k t444 t445 t446 a1).bind fun bt449 => ((laws_toBoard.f k a0_0 a0_1 l0_2).bind fun bt456 => ((impl_ColourBoard.f k bt456.1 bt456.2.1 bt456.2.2 a1).bind fun bt462 => ((laws_eqBoard.f k bt462.1 bt462.2.1 bt462.2.2.1 bt449.1 bt449.2.1 bt449.2.2.1).bind fun t469 => (if t469 = true then (laws_FnExactColourBoard.j0 k a1 bt449.2.2.2 bt462.2.2.2 (bt462.2.2.2 != bt449.2.2.2) a0_0 a0_1 l0_2 bt449.1 bt449.2.1 bt449.2.2.1 bt456.1 bt456.2.1 bt456.2.2 bt462.1 bt462.2.1 bt462.2.2.1) else (laws_FnExactColourBoard.j0 k a1 bt449.2.2.2 bt462.2.2.2 true a0_0 a0_1 l0_2 bt449.1 bt449.2.1 bt449.2.2.1 bt456.1 bt456.2.1 bt456.2.2 bt462.1 bt462.2.1 bt462.2.2.1)))))) = some r := H
  have A8 := A_ A80
  clear A80
  replace H := Option.bind_eq_some_iff.mp H
  obtain ⟨⟨t449, t450, t451, t454⟩, A90, H⟩ := H
  replace H : ((laws_toBoard.f k a0_0 a0_1 l0_2).bind fun bt456 => ((impl_ColourBoard.f k bt456.1 bt456.2.1 bt456.2.2 a1).bind fun bt462 => ((laws_eqBoard.f k bt462.1 bt462.2.1 bt462.2.2.1 t449 t450 t451).bind fun t469 => (if t469 = true then (laws_FnExactColourBoard.j0 k a1 t454 bt462.2.2.2 (bt462.2.2.2 != t454) a0_0 a0_1 l0_2 t449 t450 t451 bt456.1 bt456.2.1 bt456.2.2 bt462.1 bt462.2.1 bt462.2.2.1) else (laws_FnExactColourBoard.j0 k a1 t454 bt462.2.2.2 true a0_0 a0_1 l0_2 t449 t450 t451 bt456.1 bt456.2.1 bt456.2.2 bt462.1 bt462.2.1 bt462.2.2.1))))) = some r := H
  have A9 := A_ A90
  clear A90
  replace H := Option.bind_eq_some_iff.mp H
  obtain ⟨⟨t456, t457, t458⟩, A100, H⟩ := H
  replace H : ((impl_ColourBoard.f k t456 t457 t458 a1).bind fun bt462 => ((laws_eqBoard.f k bt462.1 bt462.2.1 bt462.2.2.1 t449 t450 t451).bind fun t469 => (if t469 = true then (laws_FnExactColourBoard.j0 k a1 t454 bt462.2.2.2 (bt462.2.2.2 != t454) a0_0 a0_1 l0_2 t449 t450 t451 t456 t457 t458 bt462.1 bt462.2.1 bt462.2.2.1) else (laws_FnExactColourBoard.j0 k a1 t454 bt462.2.2.2 true a0_0 a0_1 l0_2 t449 t450 t451 t456 t457 t458 bt462.1 bt462.2.1 bt462.2.2.1)))) = some r := H
  have A10 := A_ A100
  clear A100
  replace H := Option.bind_eq_some_iff.mp H
  obtain ⟨⟨t462, t463, t464, t467⟩, A110, H⟩ := H
  replace H : ((laws_eqBoard.f k t462 t463 t464 t449 t450 t451).bind fun t469 => (if t469 = true then (laws_FnExactColourBoard.j0 k a1 t454 t467 (t467 != t454) a0_0 a0_1 l0_2 t449 t450 t451 t456 t457 t458 t462 t463 t464) else (laws_FnExactColourBoard.j0 k a1 t454 t467 true a0_0 a0_1 l0_2 t449 t450 t451 t456 t457 t458 t462 t463 t464))) = some r := H
  have A11 := A_ A110
  clear A110
  have HC12 := A_ H
  clear H
  go_enter Try.func3, Try.ntmps3
  go_upto_region 8 with (first | (refine gd_ 2 ?_; refine bx_ 2 #[.int .i64 a0_0, .int .i64 a0_1, .slice A0_2 l0_2.length c0_2] 24 ?_; intro gb442 hg w13 hbox hb; have BK442 := A_ (hbox); have GW442 := A_ ((ts_ hg : w.heap.size ≤ gb442)); have GE442 := A_ ((ts_ hg : w.heap.size ≤ gb442)); replace HB := A_ (below_step tb_ hb); clear hb hbox hg; obtain ⟨hcz14_0, hcz14_1, hcz14_2, hfz14_0, hfz14_1, hfz14_2⟩ := cf3_ BK442.out) | (refine gc_ 17 ?_; refine goesT_ (some 18) Try.func17 #[.agg #[.int .i64 a0_0, .int .i64 a0_1, .slice A0_2 l0_2.length c0_2], .int .i64 1048576] ?_; (with_reducible refine (laws_szBoard.calls a0_0 a0_1 _ _ l0_2 1048576 t443 _ ?side1 ?side2 A3.out).mono ?_); (case side1 => exact tc_ HR0_2.out); (case side2 => exact HC0_2.out); rintro e w15 ⟨rfl, hb⟩; refine ⟨_, rfl, ?_⟩; replace BK442 := A_ (blk_below (g := gb442) (o := .cells #[.int .i64 a0_0, .int .i64 a0_1, .slice A0_2 l0_2.length c0_2] 24 (0, 0)) (tk_ BK442) hb); replace HB := A_ (below_step tb_ hb); (try clear hb); obtain ⟨hcz16_0, hcz16_1, hcz16_2, hfz16_0, hfz16_1, hfz16_2⟩ := cf3_ BK442.out) | (refine gc_ 19 ?_; refine goesT_ (some 23) Try.func19 #[.agg #[.int .i64 a0_0, .int .i64 a0_1, .slice A0_2 l0_2.length c0_2]] ?_; (with_reducible refine (laws_toBoard.calls k a0_0 a0_1 _ _ l0_2 t444 t445 t446 _ ?side1 ?side2 A8.out).mono ?_); (case side1 => exact tc_ HR0_2.out); (case side2 => exact HC0_2.out); rintro e w17 ⟨v447, rfl, ho0, hb⟩; refine ⟨_, rfl, ?_⟩; have HO448 := A_ (Kd.R_lower ho0 (below_size tb_)); replace BK442 := A_ (blk_below (g := gb442) (o := .cells #[.int .i64 a0_0, .int .i64 a0_1, .slice A0_2 l0_2.length c0_2] 24 (0, 0)) (tk_ BK442) hb); replace HB := A_ (below_step tb_ hb); (try clear hb); (try clear ho0); obtain ⟨Ao18, co18, eo18⟩ := Kd.R_slice HO448.out; subst eo18) | (refine gc_ 18 ?_; refine goesT_ (some 25) Try.func18 #[.agg #[.int .i64 t444, .int .i64 t445, .slice Ao18 t446.length co18], .int .i64 a1] ?_; (with_reducible refine (spec_ColourBoard.calls k t444 t445 _ _ t446 a1 t449 t450 t451 t454 _ ?side1 ?side2 A9.out).mono ?_); (case side1 => exact tc0_ (Kd.R_reads' HO448.out).2.2); (case side2 => exact (Kd.R_reads' HO448.out).2.1); rintro e w19 ⟨v452, rfl, ho0, hb⟩; refine ⟨_, rfl, ?_⟩; have HO453 := A_ (Kd.R_lower (Kd.R_new' ho0 (Kd.R_lt (tr_x HO448.out))) (below_size tb_)); replace HO448 := A_ (Kd.R_elder' (tr_x HO448.out) (Kd.R_base ho0) hb); replace BK442 := A_ (blk_below (g := gb442) (o := .cells #[.int .i64 a0_0, .int .i64 a0_1, .slice A0_2 l0_2.length c0_2] 24 (0, 0)) (tk_ BK442) hb); replace HB := A_ (below_step tb_ hb); (try clear hb); (try clear ho0)) | (refine gd_ 6 ?_; refine bx_ 6 #[.int .i64 0, .int .i64 0, .slice none 0 0] 26 ?_; intro gb455 hg w20 hbox hb; replace HO448 := A_ (Kd.R_below (tr_x HO448.out) hb); replace HO453 := A_ (Kd.R_below (tr_x HO453.out) hb); have BK455 := A_ (hbox); have GW455 := A_ ((ts_ hg : w.heap.size ≤ gb455)); have GE455 := A_ ((ts_ hg : w.heap.size ≤ gb455)); replace HB := A_ (below_step tb_ hb); have NB442_455 := A_ ((by rw [hg]; exact Nat.ne_of_lt (blk_lt (g := gb442) (o := .cells #[.int .i64 a0_0, .int .i64 a0_1, .slice A0_2 l0_2.length c0_2] 24 (0, 0)) (tk_ BK442)) : gb442 ≠ gb455)); have NB455_442 := A_ ((by rw [hg]; exact Nat.ne_of_gt (blk_lt (g := gb442) (o := .cells #[.int .i64 a0_0, .int .i64 a0_1, .slice A0_2 l0_2.length c0_2] 24 (0, 0)) (tk_ BK442)) : gb455 ≠ gb442)); replace BK442 := A_ (blk_below (g := gb442) (o := .cells #[.int .i64 a0_0, .int .i64 a0_1, .slice A0_2 l0_2.length c0_2] 24 (0, 0)) (tk_ BK442) hb); clear hb hbox hg; have hnb21 := NB455_442.out; have hnc21 := NB442_455.out; obtain ⟨hcz22_0, hcz22_1, hcz22_2, hfz22_0, hfz22_1, hfz22_2⟩ := cf3_ BK455.out; obtain ⟨Ao23, co23, eo23⟩ := Kd.R_slice HO453.out; subst eo23; obtain ⟨hcz24_0, hcz24_1, hcz24_2, hfz24_0, hfz24_1, hfz24_2⟩ := cf3_ BK442.out) | (refine gc_ 19 ?_; refine goesT_ (some 29) Try.func19 #[.agg #[.int .i64 a0_0, .int .i64 a0_1, .slice A0_2 l0_2.length c0_2]] ?_; (with_reducible refine (laws_toBoard.calls k a0_0 a0_1 _ _ l0_2 t456 t457 t458 _ ?side1 ?side2 A10.out).mono ?_); (case side1 => exact Kd.C_below HR0_2.out tb_); (case side2 => exact HC0_2.out); rintro e w25 ⟨v459, rfl, ho0, hb⟩; refine ⟨_, rfl, ?_⟩; have HO460 := A_ (Kd.R_lower (Kd.R_new' (Kd.R_new' ho0 (Kd.R_lt (tr_ (h := by exact (Kd.R_mono (Kd.R_far (p := ⟨gb455, 2, none⟩) (Kd.R_far (p := ⟨gb455, 1, none⟩) (Kd.R_far (p := ⟨gb455, 0, none⟩) (Kd.R_types HO448.out BK455.out (by decide)) (fun _ hk => hk.2) (.int .i64 t449)) (fun _ hk => hk.2) (.int .i64 t450)) (fun _ hk => hk.2) (.slice Ao23 t451.length co23)) (fun _ h_ => h_.1)))))) (Kd.R_lt (tr_ (h := by exact (Kd.R_mono (Kd.R_far (p := ⟨gb455, 2, none⟩) (Kd.R_far (p := ⟨gb455, 1, none⟩) (Kd.R_far (p := ⟨gb455, 0, none⟩) (Kd.R_types HO453.out BK455.out (by decide)) (fun _ hk => hk.2) (.int .i64 t449)) (fun _ hk => hk.2) (.int .i64 t450)) (fun _ hk => hk.2) (.slice Ao23 t451.length co23)) (fun _ h_ => h_.1)))))) (below_size tb_)); replace HO448 := A_ (Kd.R_elder' (tr_ (h := by exact (Kd.R_mono (Kd.R_far (p := ⟨gb455, 2, none⟩) (Kd.R_far (p := ⟨gb455, 1, none⟩) (Kd.R_far (p := ⟨gb455, 0, none⟩) (Kd.R_types HO448.out BK455.out (by decide)) (fun _ hk => hk.2) (.int .i64 t449)) (fun _ hk => hk.2) (.int .i64 t450)) (fun _ hk => hk.2) (.slice Ao23 t451.length co23)) (fun _ h_ => h_.1)))) (Kd.R_base ho0) hb); replace HO453 := A_ (Kd.R_elder' (tr_ (h := by exact (Kd.R_mono (Kd.R_far (p := ⟨gb455, 2, none⟩) (Kd.R_far (p := ⟨gb455, 1, none⟩) (Kd.R_far (p := ⟨gb455, 0, none⟩) (Kd.R_types HO453.out BK455.out (by decide)) (fun _ hk => hk.2) (.int .i64 t449)) (fun _ hk => hk.2) (.int .i64 t450)) (fun _ hk => hk.2) (.slice Ao23 t451.length co23)) (fun _ h_ => h_.1)))) (Kd.R_base ho0) hb); replace BK442 := A_ (blk_below (g := gb442) (o := .cells #[.int .i64 a0_0, .int .i64 a0_1, .slice A0_2 l0_2.length c0_2] 24 (0, 0)) (tk_ BK442) hb); replace BK455 := A_ (blk_below (g := gb455) (o := .cells #[.int .i64 t449, .int .i64 t450, .slice Ao23 t451.length co23] 26 (0, 0)) (by (with_reducible repeat (first | refine blk_drewN ?_ _ | refine blk_drew ?_ | refine blk_alloc ?_ _)); refine blk_put (cs := #[.int .i64 t449, .int .i64 t450, .slice none 0 0]) ?_ 2 _ rfl; (with_reducible repeat (first | refine blk_drewN ?_ _ | refine blk_drew ?_ | refine blk_alloc ?_ _)); refine blk_put (cs := #[.int .i64 t449, .int .i64 0, .slice none 0 0]) ?_ 1 _ rfl; (with_reducible repeat (first | refine blk_drewN ?_ _ | refine blk_drew ?_ | refine blk_alloc ?_ _)); refine blk_put (cs := #[.int .i64 0, .int .i64 0, .slice none 0 0]) ?_ 0 _ rfl; (with_reducible repeat (first | refine blk_drewN ?_ _ | refine blk_drew ?_ | refine blk_alloc ?_ _)); exact BK455.out) hb); replace HB := A_ (below_step tb_ hb); (try clear hb); (try clear ho0)) | (refine gd_ 8 ?_; refine bx_ 8 #[.int .i64 0, .int .i64 0, .slice none 0 0] 26 ?_; intro gb461 hg w26 hbox hb; replace HO448 := A_ (Kd.R_below (tr_x HO448.out) hb); replace HO453 := A_ (Kd.R_below (tr_x HO453.out) hb); replace HO460 := A_ (Kd.R_below (tr_x HO460.out) hb); have BK461 := A_ (hbox); have GW461 := A_ ((ts_ hg : w.heap.size ≤ gb461)); have GE461 := A_ ((ts_ hg : w.heap.size ≤ gb461)); replace HB := A_ (below_step tb_ hb); have NB442_461 := A_ ((by rw [hg]; exact Nat.ne_of_lt (blk_lt (g := gb442) (o := .cells #[.int .i64 a0_0, .int .i64 a0_1, .slice A0_2 l0_2.length c0_2] 24 (0, 0)) (tk_ BK442)) : gb442 ≠ gb461)); have NB461_442 := A_ ((by rw [hg]; exact Nat.ne_of_gt (blk_lt (g := gb442) (o := .cells #[.int .i64 a0_0, .int .i64 a0_1, .slice A0_2 l0_2.length c0_2] 24 (0, 0)) (tk_ BK442)) : gb461 ≠ gb442)); replace BK442 := A_ (blk_below (g := gb442) (o := .cells #[.int .i64 a0_0, .int .i64 a0_1, .slice A0_2 l0_2.length c0_2] 24 (0, 0)) (tk_ BK442) hb); have NB455_461 := A_ ((by rw [hg]; exact Nat.ne_of_lt (blk_lt (g := gb455) (o := .cells #[.int .i64 t449, .int .i64 t450, .slice Ao23 t451.length co23] 26 (0, 0)) (tk_ BK455)) : gb455 ≠ gb461)); have NB461_455 := A_ ((by rw [hg]; exact Nat.ne_of_gt (blk_lt (g := gb455) (o := .cells #[.int .i64 t449, .int .i64 t450, .slice Ao23 t451.length co23] 26 (0, 0)) (tk_ BK455)) : gb461 ≠ gb455)); replace BK455 := A_ (blk_below (g := gb455) (o := .cells #[.int .i64 t449, .int .i64 t450, .slice Ao23 t451.length co23] 26 (0, 0)) (tk_ BK455) hb); clear hb hbox hg; have hnb27 := NB461_442.out; have hnc27 := NB442_461.out; have hnb28 := NB461_455.out; have hnc28 := NB455_461.out; obtain ⟨hcz29_0, hcz29_1, hcz29_2, hfz29_0, hfz29_1, hfz29_2⟩ := cf3_ BK461.out; obtain ⟨Ao30, co30, eo30⟩ := Kd.R_slice HO460.out; subst eo30) | (refine gc_ 20 ?_; refine goesT_ (some 33) Try.func20 #[.agg #[.int .i64 t456, .int .i64 t457, .slice Ao30 t458.length co30], .int .i64 a1] ?_; (with_reducible refine (impl_ColourBoard.calls k t456 t457 _ _ t458 a1 t462 t463 t464 t467 _ ?side1 ?side2 A11.out).mono ?_); (case side1 => refine (Kd.R_reads' (e := 3) (base := w.heap.size) (ok := fun k_ => ((True ∧ some k_ ≠ (.slice Ao18 t446.length co18 : Value).ownBlock) ∧ some k_ ≠ (.slice Ao23 t451.length co23 : Value).ownBlock)) (n := t458.length) (c := co30) ?_).2.2; exact (tr_ (h := by exact (Kd.R_mono (Kd.R_far (p := ⟨gb461, 2, none⟩) (Kd.R_far (p := ⟨gb461, 1, none⟩) (Kd.R_far (p := ⟨gb461, 0, none⟩) (Kd.R_types HO460.out BK461.out (by decide)) (fun _ hk => hk.2) (.int .i64 t456)) (fun _ hk => hk.2) (.int .i64 t457)) (fun _ hk => hk.2) (.slice Ao30 t458.length co30)) (fun _ h_ => h_.1))))); (case side2 => exact (Kd.R_reads' HO460.out).2.1); rintro e w31 ⟨v465, rfl, ho0, hb⟩; refine ⟨_, rfl, ?_⟩; have HO466 := A_ (Kd.R_lower (Kd.R_new' (Kd.R_new' (Kd.R_new' ho0 (Kd.R_lt (tr_ (h := by exact (Kd.R_mono (Kd.R_far (p := ⟨gb461, 2, none⟩) (Kd.R_far (p := ⟨gb461, 1, none⟩) (Kd.R_far (p := ⟨gb461, 0, none⟩) (Kd.R_types HO448.out BK461.out (by decide)) (fun _ hk => hk.2) (.int .i64 t456)) (fun _ hk => hk.2) (.int .i64 t457)) (fun _ hk => hk.2) (.slice Ao30 t458.length co30)) (fun _ h_ => h_.1)))))) (Kd.R_lt (tr_ (h := by exact (Kd.R_mono (Kd.R_far (p := ⟨gb461, 2, none⟩) (Kd.R_far (p := ⟨gb461, 1, none⟩) (Kd.R_far (p := ⟨gb461, 0, none⟩) (Kd.R_types HO453.out BK461.out (by decide)) (fun _ hk => hk.2) (.int .i64 t456)) (fun _ hk => hk.2) (.int .i64 t457)) (fun _ hk => hk.2) (.slice Ao30 t458.length co30)) (fun _ h_ => h_.1)))))) (Kd.R_lt (tr_ (h := by exact (Kd.R_mono (Kd.R_far (p := ⟨gb461, 2, none⟩) (Kd.R_far (p := ⟨gb461, 1, none⟩) (Kd.R_far (p := ⟨gb461, 0, none⟩) (Kd.R_types HO460.out BK461.out (by decide)) (fun _ hk => hk.2) (.int .i64 t456)) (fun _ hk => hk.2) (.int .i64 t457)) (fun _ hk => hk.2) (.slice Ao30 t458.length co30)) (fun _ h_ => h_.1)))))) (below_size tb_)); replace HO448 := A_ (Kd.R_elder' (tr_ (h := by exact (Kd.R_mono (Kd.R_far (p := ⟨gb461, 2, none⟩) (Kd.R_far (p := ⟨gb461, 1, none⟩) (Kd.R_far (p := ⟨gb461, 0, none⟩) (Kd.R_types HO448.out BK461.out (by decide)) (fun _ hk => hk.2) (.int .i64 t456)) (fun _ hk => hk.2) (.int .i64 t457)) (fun _ hk => hk.2) (.slice Ao30 t458.length co30)) (fun _ h_ => h_.1)))) (Kd.R_base ho0) hb); replace HO453 := A_ (Kd.R_elder' (tr_ (h := by exact (Kd.R_mono (Kd.R_far (p := ⟨gb461, 2, none⟩) (Kd.R_far (p := ⟨gb461, 1, none⟩) (Kd.R_far (p := ⟨gb461, 0, none⟩) (Kd.R_types HO453.out BK461.out (by decide)) (fun _ hk => hk.2) (.int .i64 t456)) (fun _ hk => hk.2) (.int .i64 t457)) (fun _ hk => hk.2) (.slice Ao30 t458.length co30)) (fun _ h_ => h_.1)))) (Kd.R_base ho0) hb); replace HO460 := A_ (Kd.R_elder' (tr_ (h := by exact (Kd.R_mono (Kd.R_far (p := ⟨gb461, 2, none⟩) (Kd.R_far (p := ⟨gb461, 1, none⟩) (Kd.R_far (p := ⟨gb461, 0, none⟩) (Kd.R_types HO460.out BK461.out (by decide)) (fun _ hk => hk.2) (.int .i64 t456)) (fun _ hk => hk.2) (.int .i64 t457)) (fun _ hk => hk.2) (.slice Ao30 t458.length co30)) (fun _ h_ => h_.1)))) (Kd.R_base ho0) hb); replace BK442 := A_ (blk_below (g := gb442) (o := .cells #[.int .i64 a0_0, .int .i64 a0_1, .slice A0_2 l0_2.length c0_2] 24 (0, 0)) (tk_ BK442) hb); replace BK455 := A_ (blk_below (g := gb455) (o := .cells #[.int .i64 t449, .int .i64 t450, .slice Ao23 t451.length co23] 26 (0, 0)) (tk_ BK455) hb); replace BK461 := A_ (blk_below (g := gb461) (o := .cells #[.int .i64 t456, .int .i64 t457, .slice Ao30 t458.length co30] 26 (0, 0)) (by (with_reducible repeat (first | refine blk_drewN ?_ _ | refine blk_drew ?_ | refine blk_alloc ?_ _)); refine blk_put (cs := #[.int .i64 t456, .int .i64 t457, .slice none 0 0]) ?_ 2 _ rfl; (with_reducible repeat (first | refine blk_drewN ?_ _ | refine blk_drew ?_ | refine blk_alloc ?_ _)); refine blk_put (cs := #[.int .i64 t456, .int .i64 0, .slice none 0 0]) ?_ 1 _ rfl; (with_reducible repeat (first | refine blk_drewN ?_ _ | refine blk_drew ?_ | refine blk_alloc ?_ _)); refine blk_put (cs := #[.int .i64 0, .int .i64 0, .slice none 0 0]) ?_ 0 _ rfl; (with_reducible repeat (first | refine blk_drewN ?_ _ | refine blk_drew ?_ | refine blk_alloc ?_ _)); exact BK461.out) hb); replace HB := A_ (below_step tb_ hb); (try clear hb); (try clear ho0)) | (refine gd_ 9 ?_; refine bx_ 9 #[.int .i64 0, .int .i64 0, .slice none 0 0] 26 ?_; intro gb468 hg w32 hbox hb; replace HO448 := A_ (Kd.R_below (tr_x HO448.out) hb); replace HO453 := A_ (Kd.R_below (tr_x HO453.out) hb); replace HO460 := A_ (Kd.R_below (tr_x HO460.out) hb); replace HO466 := A_ (Kd.R_below (tr_x HO466.out) hb); have BK468 := A_ (hbox); have GW468 := A_ ((ts_ hg : w.heap.size ≤ gb468)); have GE468 := A_ ((ts_ hg : w.heap.size ≤ gb468)); replace HB := A_ (below_step tb_ hb); have NB442_468 := A_ ((by rw [hg]; exact Nat.ne_of_lt (blk_lt (g := gb442) (o := .cells #[.int .i64 a0_0, .int .i64 a0_1, .slice A0_2 l0_2.length c0_2] 24 (0, 0)) (tk_ BK442)) : gb442 ≠ gb468)); have NB468_442 := A_ ((by rw [hg]; exact Nat.ne_of_gt (blk_lt (g := gb442) (o := .cells #[.int .i64 a0_0, .int .i64 a0_1, .slice A0_2 l0_2.length c0_2] 24 (0, 0)) (tk_ BK442)) : gb468 ≠ gb442)); replace BK442 := A_ (blk_below (g := gb442) (o := .cells #[.int .i64 a0_0, .int .i64 a0_1, .slice A0_2 l0_2.length c0_2] 24 (0, 0)) (tk_ BK442) hb); have NB455_468 := A_ ((by rw [hg]; exact Nat.ne_of_lt (blk_lt (g := gb455) (o := .cells #[.int .i64 t449, .int .i64 t450, .slice Ao23 t451.length co23] 26 (0, 0)) (tk_ BK455)) : gb455 ≠ gb468)); have NB468_455 := A_ ((by rw [hg]; exact Nat.ne_of_gt (blk_lt (g := gb455) (o := .cells #[.int .i64 t449, .int .i64 t450, .slice Ao23 t451.length co23] 26 (0, 0)) (tk_ BK455)) : gb468 ≠ gb455)); replace BK455 := A_ (blk_below (g := gb455) (o := .cells #[.int .i64 t449, .int .i64 t450, .slice Ao23 t451.length co23] 26 (0, 0)) (tk_ BK455) hb); have NB461_468 := A_ ((by rw [hg]; exact Nat.ne_of_lt (blk_lt (g := gb461) (o := .cells #[.int .i64 t456, .int .i64 t457, .slice Ao30 t458.length co30] 26 (0, 0)) (tk_ BK461)) : gb461 ≠ gb468)); have NB468_461 := A_ ((by rw [hg]; exact Nat.ne_of_gt (blk_lt (g := gb461) (o := .cells #[.int .i64 t456, .int .i64 t457, .slice Ao30 t458.length co30] 26 (0, 0)) (tk_ BK461)) : gb468 ≠ gb461)); replace BK461 := A_ (blk_below (g := gb461) (o := .cells #[.int .i64 t456, .int .i64 t457, .slice Ao30 t458.length co30] 26 (0, 0)) (tk_ BK461) hb); clear hb hbox hg; have hnb33 := NB468_442.out; have hnc33 := NB442_468.out; have hnb34 := NB468_455.out; have hnc34 := NB455_468.out; have hnb35 := NB468_461.out; have hnc35 := NB461_468.out; obtain ⟨hcz36_0, hcz36_1, hcz36_2, hfz36_0, hfz36_1, hfz36_2⟩ := cf3_ BK468.out; obtain ⟨Ao37, co37, eo37⟩ := Kd.R_slice HO466.out; subst eo37))
  (try simp only [Act.put, List.setIfInBounds_toArray, List.set_cons_zero, List.set_cons_succ])
  go_cut [44] (fun v44 wc => ∃ (kq : Nat) (x44_11 : Bool), v44 = .bool x44_11 ∧ Aside0 (laws_FnExactColourBoard.j0 kq a1 t454 t467 x44_11 a0_0 a0_1 l0_2 t449 t450 t451 t456 t457 t458 t462 t463 t464 = some r) ∧ Aside0 (kq ≤ k) ∧ Aside0 (Kd.R (Kd.int .i64) 3 wc w.heap.size (fun k_ => some k_ ≠ ((.slice Ao30 t458.length co30) : Value).ownBlock ∧ some k_ ≠ ((.slice Ao37 t464.length co37) : Value).ownBlock) (.slice Ao23 t451.length co23) t451) ∧ Aside0 (Kd.R (Kd.int .i64) 3 wc w.heap.size (fun k_ => some k_ ≠ ((.slice Ao23 t451.length co23) : Value).ownBlock ∧ some k_ ≠ ((.slice Ao37 t464.length co37) : Value).ownBlock) (.slice Ao30 t458.length co30) t458) ∧ Aside0 (Kd.R (Kd.int .i64) 3 wc w.heap.size (fun k_ => some k_ ≠ ((.slice Ao23 t451.length co23) : Value).ownBlock ∧ some k_ ≠ ((.slice Ao30 t458.length co30) : Value).ownBlock) (.slice Ao37 t464.length co37) t464) ∧ Aside0 (wc.heap[gb442]? = some (.cells #[.int .i64 a0_0, .int .i64 a0_1, (.slice A0_2 l0_2.length c0_2)] 24 (0, 0))) ∧ Aside0 (wc.heap[gb455]? = some (.cells #[.int .i64 t449, .int .i64 t450, (.slice Ao23 t451.length co23)] 26 (0, 0))) ∧ Aside0 (wc.heap[gb461]? = some (.cells #[.int .i64 t456, .int .i64 t457, (.slice Ao30 t458.length co30)] 26 (0, 0))) ∧ Aside0 (wc.heap[gb468]? = some (.cells #[.int .i64 t462, .int .i64 t463, (.slice Ao37 t464.length co37)] 26 (0, 0))) ∧ Aside0 (Below w.heap.size w wc))
  case first =>
   have H := HC12.out
   clear HC12
   replace H := Option.bind_eq_some_iff.mp H
   obtain ⟨t469, A380, H⟩ := H
   replace H : (if t469 = true then (laws_FnExactColourBoard.j0 k a1 t454 t467 (t467 != t454) a0_0 a0_1 l0_2 t449 t450 t451 t456 t457 t458 t462 t463 t464) else (laws_FnExactColourBoard.j0 k a1 t454 t467 true a0_0 a0_1 l0_2 t449 t450 t451 t456 t457 t458 t462 t463 t464)) = some r := H
   have A38 := A_ A380
   clear A380
   by_cases c39 : t469 = true
   ·
    subst c39
    have H1 : (laws_FnExactColourBoard.j0 k a1 t454 t467 (t467 != t454) a0_0 a0_1 l0_2 t449 t450 t451 t456 t457 t458 t462 t463 t464) = some r := by rw [if_pos rfl] at H; exact H
    clear H
    have H := H1
    clear H1
    have H' := A_ H
    clear H
    have hnb40 := NB468_442.out
    have hnc40 := NB442_468.out
    have hnb41 := NB468_455.out
    have hnc41 := NB455_468.out
    have hnb42 := NB468_461.out
    have hnc42 := NB461_468.out
    obtain ⟨hcz43_0, hcz43_1, hcz43_2, hfz43_0, hfz43_1, hfz43_2⟩ := cf3_ BK468.out
    have hnb44 := NB455_442.out
    have hnc44 := NB442_455.out
    have hnb45 := NB455_461.out
    have hnc45 := NB461_455.out
    obtain ⟨hcz46_0, hcz46_1, hcz46_2, hfz46_0, hfz46_1, hfz46_2⟩ := cf3_ BK455.out
    go_wp2_with (first | (refine gc_ 21 ?_; refine goesT_ (some 38) Try.func21 #[.agg #[.int .i64 t462, .int .i64 t463, .slice Ao37 t464.length co37], .agg #[.int .i64 t449, .int .i64 t450, .slice Ao23 t451.length co23]] ?_; (with_reducible refine (laws_eqBoard.calls k t462 t463 _ _ t464 t449 t450 _ _ t451 true _ ?side1 ?side2 ?side3 ?side4 A38.out).mono ?_); (case side1 => refine (Kd.R_reads' (e := 3) (base := w.heap.size) (ok := fun k_ => (((True ∧ some k_ ≠ (.slice Ao18 t446.length co18 : Value).ownBlock) ∧ some k_ ≠ (.slice Ao23 t451.length co23 : Value).ownBlock) ∧ some k_ ≠ (.slice Ao30 t458.length co30 : Value).ownBlock)) (n := t464.length) (c := co37) ?_).2.2; exact (tr_ (h := by exact (Kd.R_mono (Kd.R_far (p := ⟨gb468, 2, none⟩) (Kd.R_far (p := ⟨gb468, 1, none⟩) (Kd.R_far (p := ⟨gb468, 0, none⟩) (Kd.R_types HO466.out BK468.out (by decide)) (fun _ hk => hk.2) (.int .i64 t462)) (fun _ hk => hk.2) (.int .i64 t463)) (fun _ hk => hk.2) (.slice Ao37 t464.length co37)) (fun _ h_ => h_.1))))); (case side2 => exact (Kd.R_reads' HO466.out).2.1); (case side3 => refine (Kd.R_reads' (e := 3) (base := w.heap.size) (ok := fun k_ => (((True ∧ some k_ ≠ (.slice Ao18 t446.length co18 : Value).ownBlock) ∧ some k_ ≠ (.slice Ao30 t458.length co30 : Value).ownBlock) ∧ some k_ ≠ (.slice Ao37 t464.length co37 : Value).ownBlock)) (n := t451.length) (c := co23) ?_).2.2; exact (tr_ (h := by exact (Kd.R_mono (Kd.R_far (p := ⟨gb468, 2, none⟩) (Kd.R_far (p := ⟨gb468, 1, none⟩) (Kd.R_far (p := ⟨gb468, 0, none⟩) (Kd.R_types HO453.out BK468.out (by decide)) (fun _ hk => hk.2) (.int .i64 t462)) (fun _ hk => hk.2) (.int .i64 t463)) (fun _ hk => hk.2) (.slice Ao37 t464.length co37)) (fun _ h_ => h_.1))))); (case side4 => exact (Kd.R_reads' HO453.out).2.1); rintro e w47 ⟨rfl, hb⟩; refine ⟨_, rfl, ?_⟩; replace HO448 := A_ (Kd.R_below (tr_ (h := by exact (Kd.R_mono (Kd.R_far (p := ⟨gb468, 2, none⟩) (Kd.R_far (p := ⟨gb468, 1, none⟩) (Kd.R_far (p := ⟨gb468, 0, none⟩) (Kd.R_types HO448.out BK468.out (by decide)) (fun _ hk => hk.2) (.int .i64 t462)) (fun _ hk => hk.2) (.int .i64 t463)) (fun _ hk => hk.2) (.slice Ao37 t464.length co37)) (fun _ h_ => h_.1)))) hb); replace HO453 := A_ (Kd.R_below (tr_ (h := by exact (Kd.R_mono (Kd.R_far (p := ⟨gb468, 2, none⟩) (Kd.R_far (p := ⟨gb468, 1, none⟩) (Kd.R_far (p := ⟨gb468, 0, none⟩) (Kd.R_types HO453.out BK468.out (by decide)) (fun _ hk => hk.2) (.int .i64 t462)) (fun _ hk => hk.2) (.int .i64 t463)) (fun _ hk => hk.2) (.slice Ao37 t464.length co37)) (fun _ h_ => h_.1)))) hb); replace HO460 := A_ (Kd.R_below (tr_ (h := by exact (Kd.R_mono (Kd.R_far (p := ⟨gb468, 2, none⟩) (Kd.R_far (p := ⟨gb468, 1, none⟩) (Kd.R_far (p := ⟨gb468, 0, none⟩) (Kd.R_types HO460.out BK468.out (by decide)) (fun _ hk => hk.2) (.int .i64 t462)) (fun _ hk => hk.2) (.int .i64 t463)) (fun _ hk => hk.2) (.slice Ao37 t464.length co37)) (fun _ h_ => h_.1)))) hb); replace HO466 := A_ (Kd.R_below (tr_ (h := by exact (Kd.R_mono (Kd.R_far (p := ⟨gb468, 2, none⟩) (Kd.R_far (p := ⟨gb468, 1, none⟩) (Kd.R_far (p := ⟨gb468, 0, none⟩) (Kd.R_types HO466.out BK468.out (by decide)) (fun _ hk => hk.2) (.int .i64 t462)) (fun _ hk => hk.2) (.int .i64 t463)) (fun _ hk => hk.2) (.slice Ao37 t464.length co37)) (fun _ h_ => h_.1)))) hb); replace BK442 := A_ (blk_below (g := gb442) (o := .cells #[.int .i64 a0_0, .int .i64 a0_1, .slice A0_2 l0_2.length c0_2] 24 (0, 0)) (tk_ BK442) hb); replace BK455 := A_ (blk_below (g := gb455) (o := .cells #[.int .i64 t449, .int .i64 t450, .slice Ao23 t451.length co23] 26 (0, 0)) (tk_ BK455) hb); replace BK461 := A_ (blk_below (g := gb461) (o := .cells #[.int .i64 t456, .int .i64 t457, .slice Ao30 t458.length co30] 26 (0, 0)) (tk_ BK461) hb); replace BK468 := A_ (blk_below (g := gb468) (o := .cells #[.int .i64 t462, .int .i64 t463, .slice Ao37 t464.length co37] 26 (0, 0)) (by (with_reducible repeat (first | refine blk_drewN ?_ _ | refine blk_drew ?_ | refine blk_alloc ?_ _)); refine blk_put (cs := #[.int .i64 t462, .int .i64 t463, .slice none 0 0]) ?_ 2 _ rfl; (with_reducible repeat (first | refine blk_drewN ?_ _ | refine blk_drew ?_ | refine blk_alloc ?_ _)); refine blk_put (cs := #[.int .i64 t462, .int .i64 0, .slice none 0 0]) ?_ 1 _ rfl; (with_reducible repeat (first | refine blk_drewN ?_ _ | refine blk_drew ?_ | refine blk_alloc ?_ _)); refine blk_put (cs := #[.int .i64 0, .int .i64 0, .slice none 0 0]) ?_ 0 _ rfl; (with_reducible repeat (first | refine blk_drewN ?_ _ | refine blk_drew ?_ | refine blk_alloc ?_ _)); exact BK468.out) hb); replace HB := A_ (below_step tb_ hb); (try clear hb)))
    go_meet
    case rel => exact ⟨_, ((t467 != t454)), tf_, H', ⟨by first | omega | exact Nat.le_refl _⟩, ⟨by (with_reducible repeat (first | apply Kd.R_alloc | apply Kd.R_drewN | apply Kd.R_drew)); exact Kd.R_mono HO453.out om_⟩, ⟨by (with_reducible repeat (first | apply Kd.R_alloc | apply Kd.R_drewN | apply Kd.R_drew)); exact Kd.R_mono HO460.out om_⟩, ⟨by (with_reducible repeat (first | apply Kd.R_alloc | apply Kd.R_drewN | apply Kd.R_drew)); exact Kd.R_mono HO466.out om_⟩, ⟨tk_ BK442⟩, ⟨tk_ BK455⟩, ⟨tk_ BK461⟩, ⟨tk_ BK468⟩, ⟨tb_⟩⟩
   ·
    replace c39 := Bool.eq_false_iff.mpr c39
    subst c39
    have H1 : (laws_FnExactColourBoard.j0 k a1 t454 t467 true a0_0 a0_1 l0_2 t449 t450 t451 t456 t457 t458 t462 t463 t464) = some r := by rw [if_neg (show ¬ (false = true) by decide)] at H; exact H
    clear H
    have H := H1
    clear H1
    have H' := A_ H
    clear H
    have hnb48 := NB468_442.out
    have hnc48 := NB442_468.out
    have hnb49 := NB468_455.out
    have hnc49 := NB455_468.out
    have hnb50 := NB468_461.out
    have hnc50 := NB461_468.out
    obtain ⟨hcz51_0, hcz51_1, hcz51_2, hfz51_0, hfz51_1, hfz51_2⟩ := cf3_ BK468.out
    have hnb52 := NB455_442.out
    have hnc52 := NB442_455.out
    have hnb53 := NB455_461.out
    have hnc53 := NB461_455.out
    obtain ⟨hcz54_0, hcz54_1, hcz54_2, hfz54_0, hfz54_1, hfz54_2⟩ := cf3_ BK455.out
    go_wp2_with (first | (refine gc_ 21 ?_; refine goesT_ (some 38) Try.func21 #[.agg #[.int .i64 t462, .int .i64 t463, .slice Ao37 t464.length co37], .agg #[.int .i64 t449, .int .i64 t450, .slice Ao23 t451.length co23]] ?_; (with_reducible refine (laws_eqBoard.calls k t462 t463 _ _ t464 t449 t450 _ _ t451 false _ ?side1 ?side2 ?side3 ?side4 A38.out).mono ?_); (case side1 => refine (Kd.R_reads' (e := 3) (base := w.heap.size) (ok := fun k_ => (((True ∧ some k_ ≠ (.slice Ao18 t446.length co18 : Value).ownBlock) ∧ some k_ ≠ (.slice Ao23 t451.length co23 : Value).ownBlock) ∧ some k_ ≠ (.slice Ao30 t458.length co30 : Value).ownBlock)) (n := t464.length) (c := co37) ?_).2.2; exact (tr_ (h := by exact (Kd.R_mono (Kd.R_far (p := ⟨gb468, 2, none⟩) (Kd.R_far (p := ⟨gb468, 1, none⟩) (Kd.R_far (p := ⟨gb468, 0, none⟩) (Kd.R_types HO466.out BK468.out (by decide)) (fun _ hk => hk.2) (.int .i64 t462)) (fun _ hk => hk.2) (.int .i64 t463)) (fun _ hk => hk.2) (.slice Ao37 t464.length co37)) (fun _ h_ => h_.1))))); (case side2 => exact (Kd.R_reads' HO466.out).2.1); (case side3 => refine (Kd.R_reads' (e := 3) (base := w.heap.size) (ok := fun k_ => (((True ∧ some k_ ≠ (.slice Ao18 t446.length co18 : Value).ownBlock) ∧ some k_ ≠ (.slice Ao30 t458.length co30 : Value).ownBlock) ∧ some k_ ≠ (.slice Ao37 t464.length co37 : Value).ownBlock)) (n := t451.length) (c := co23) ?_).2.2; exact (tr_ (h := by exact (Kd.R_mono (Kd.R_far (p := ⟨gb468, 2, none⟩) (Kd.R_far (p := ⟨gb468, 1, none⟩) (Kd.R_far (p := ⟨gb468, 0, none⟩) (Kd.R_types HO453.out BK468.out (by decide)) (fun _ hk => hk.2) (.int .i64 t462)) (fun _ hk => hk.2) (.int .i64 t463)) (fun _ hk => hk.2) (.slice Ao37 t464.length co37)) (fun _ h_ => h_.1))))); (case side4 => exact (Kd.R_reads' HO453.out).2.1); rintro e w55 ⟨rfl, hb⟩; refine ⟨_, rfl, ?_⟩; replace HO448 := A_ (Kd.R_below (tr_ (h := by exact (Kd.R_mono (Kd.R_far (p := ⟨gb468, 2, none⟩) (Kd.R_far (p := ⟨gb468, 1, none⟩) (Kd.R_far (p := ⟨gb468, 0, none⟩) (Kd.R_types HO448.out BK468.out (by decide)) (fun _ hk => hk.2) (.int .i64 t462)) (fun _ hk => hk.2) (.int .i64 t463)) (fun _ hk => hk.2) (.slice Ao37 t464.length co37)) (fun _ h_ => h_.1)))) hb); replace HO453 := A_ (Kd.R_below (tr_ (h := by exact (Kd.R_mono (Kd.R_far (p := ⟨gb468, 2, none⟩) (Kd.R_far (p := ⟨gb468, 1, none⟩) (Kd.R_far (p := ⟨gb468, 0, none⟩) (Kd.R_types HO453.out BK468.out (by decide)) (fun _ hk => hk.2) (.int .i64 t462)) (fun _ hk => hk.2) (.int .i64 t463)) (fun _ hk => hk.2) (.slice Ao37 t464.length co37)) (fun _ h_ => h_.1)))) hb); replace HO460 := A_ (Kd.R_below (tr_ (h := by exact (Kd.R_mono (Kd.R_far (p := ⟨gb468, 2, none⟩) (Kd.R_far (p := ⟨gb468, 1, none⟩) (Kd.R_far (p := ⟨gb468, 0, none⟩) (Kd.R_types HO460.out BK468.out (by decide)) (fun _ hk => hk.2) (.int .i64 t462)) (fun _ hk => hk.2) (.int .i64 t463)) (fun _ hk => hk.2) (.slice Ao37 t464.length co37)) (fun _ h_ => h_.1)))) hb); replace HO466 := A_ (Kd.R_below (tr_ (h := by exact (Kd.R_mono (Kd.R_far (p := ⟨gb468, 2, none⟩) (Kd.R_far (p := ⟨gb468, 1, none⟩) (Kd.R_far (p := ⟨gb468, 0, none⟩) (Kd.R_types HO466.out BK468.out (by decide)) (fun _ hk => hk.2) (.int .i64 t462)) (fun _ hk => hk.2) (.int .i64 t463)) (fun _ hk => hk.2) (.slice Ao37 t464.length co37)) (fun _ h_ => h_.1)))) hb); replace BK442 := A_ (blk_below (g := gb442) (o := .cells #[.int .i64 a0_0, .int .i64 a0_1, .slice A0_2 l0_2.length c0_2] 24 (0, 0)) (tk_ BK442) hb); replace BK455 := A_ (blk_below (g := gb455) (o := .cells #[.int .i64 t449, .int .i64 t450, .slice Ao23 t451.length co23] 26 (0, 0)) (tk_ BK455) hb); replace BK461 := A_ (blk_below (g := gb461) (o := .cells #[.int .i64 t456, .int .i64 t457, .slice Ao30 t458.length co30] 26 (0, 0)) (tk_ BK461) hb); replace BK468 := A_ (blk_below (g := gb468) (o := .cells #[.int .i64 t462, .int .i64 t463, .slice Ao37 t464.length co37] 26 (0, 0)) (by (with_reducible repeat (first | refine blk_drewN ?_ _ | refine blk_drew ?_ | refine blk_alloc ?_ _)); refine blk_put (cs := #[.int .i64 t462, .int .i64 t463, .slice none 0 0]) ?_ 2 _ rfl; (with_reducible repeat (first | refine blk_drewN ?_ _ | refine blk_drew ?_ | refine blk_alloc ?_ _)); refine blk_put (cs := #[.int .i64 t462, .int .i64 0, .slice none 0 0]) ?_ 1 _ rfl; (with_reducible repeat (first | refine blk_drewN ?_ _ | refine blk_drew ?_ | refine blk_alloc ?_ _)); refine blk_put (cs := #[.int .i64 0, .int .i64 0, .slice none 0 0]) ?_ 0 _ rfl; (with_reducible repeat (first | refine blk_drewN ?_ _ | refine blk_drew ?_ | refine blk_alloc ?_ _)); exact BK468.out) hb); replace HB := A_ (below_step tb_ hb); (try clear hb)))
    go_meet
    case rel => exact ⟨_, (true), tf_, H', ⟨by first | omega | exact Nat.le_refl _⟩, ⟨by (with_reducible repeat (first | apply Kd.R_alloc | apply Kd.R_drewN | apply Kd.R_drew)); exact Kd.R_mono HO453.out om_⟩, ⟨by (with_reducible repeat (first | apply Kd.R_alloc | apply Kd.R_drewN | apply Kd.R_drew)); exact Kd.R_mono HO460.out om_⟩, ⟨by (with_reducible repeat (first | apply Kd.R_alloc | apply Kd.R_drewN | apply Kd.R_drew)); exact Kd.R_mono HO466.out om_⟩, ⟨tk_ BK442⟩, ⟨tk_ BK455⟩, ⟨tk_ BK461⟩, ⟨tk_ BK468⟩, ⟨tb_⟩⟩
  case rest =>
   clear HC12
   try clear c1
   try clear c2
   try clear p2
   try clear c3
   try clear c4
   try clear c4b0
   try clear c5
   try clear c17
   try clear c18
   try clear c19
   try clear c20
   try clear c21
   try clear c27
   try clear c28
   try clear c33
   try clear c34
   try clear c35
   try clear c39
   try clear c40
   try clear c41
   try clear c42
   try clear c44
   try clear c45
   try clear c48
   try clear c49
   try clear c50
   try clear c52
   try clear c53
   try clear hcz14_0
   try clear hcz14_1
   try clear hcz14_2
   try clear hcz16_0
   try clear hcz16_1
   try clear hcz16_2
   try clear hcz22_0
   try clear hcz22_1
   try clear hcz22_2
   try clear hcz24_0
   try clear hcz24_1
   try clear hcz24_2
   try clear hcz29_0
   try clear hcz29_1
   try clear hcz29_2
   try clear hcz36_0
   try clear hcz36_1
   try clear hcz36_2
   try clear hcz43_0
   try clear hcz43_1
   try clear hcz43_2
   try clear hcz46_0
   try clear hcz46_1
   try clear hcz46_2
   try clear hcz51_0
   try clear hcz51_1
   try clear hcz51_2
   try clear hcz54_0
   try clear hcz54_1
   try clear hcz54_2
   try clear hcz6_0
   try clear hcz6_1
   try clear hcz6_2
   try clear hfz14_0
   try clear hfz14_1
   try clear hfz14_2
   try clear hfz16_0
   try clear hfz16_1
   try clear hfz16_2
   try clear hfz22_0
   try clear hfz22_1
   try clear hfz22_2
   try clear hfz24_0
   try clear hfz24_1
   try clear hfz24_2
   try clear hfz29_0
   try clear hfz29_1
   try clear hfz29_2
   try clear hfz36_0
   try clear hfz36_1
   try clear hfz36_2
   try clear hfz43_0
   try clear hfz43_1
   try clear hfz43_2
   try clear hfz46_0
   try clear hfz46_1
   try clear hfz46_2
   try clear hfz51_0
   try clear hfz51_1
   try clear hfz51_2
   try clear hfz54_0
   try clear hfz54_1
   try clear hfz54_2
   try clear hfz6_0
   try clear hfz6_1
   try clear hfz6_2
   obtain ⟨kq, x44_11, rfl, HA, HJ11, HO_456002, HO_462002, HO_469002, BK442, BK455, BK461, BK468, HB⟩ := hcut
   cases kq with
   | zero => exact absurd HA.out (by simp [laws_FnExactColourBoard.j0])
   | succ kj11 =>
    have H := HA.out
    clear HA
    simp only [laws_FnExactColourBoard.j0] at H
    by_cases c56 : x44_11 = true
    ·
     subst c56
     have H1 : (some false) = some r := by rw [if_pos rfl] at H; exact H
     clear H
     have H := H1
     clear H1
     obtain rfl := Option.some.inj H
     go_wp2
     go_ret
     exact ⟨te_, tb_⟩
    ·
     replace c56 := Bool.eq_false_iff.mpr c56
     subst c56
     have H1 : ((laws_toBoard.f kj11 a0_0 a0_1 l0_2).bind fun bt470 => ((laws_eqBoard.f kj11 t456 t457 t458 bt470.1 bt470.2.1 bt470.2.2).bind fun t475 => (if t475 = true then ((laws_markBoard.f kj11 t456 t457 t458 1).bind fun bt476 => (if bt476.1 < 0 then (laws_FnExactColourBoard.j1 kj11 a1 t454 true a0_0 a0_1 l0_2 t449 t450 t451 t462 t463 t464) else ((laws_eqBoard.f kj11 t462 t463 t464 t449 t450 t451).bind fun t478 => (if t478 = true then (laws_FnExactColourBoard.j1 kj11 a1 t454 (t467 != t454) a0_0 a0_1 l0_2 t449 t450 t451 t462 t463 t464) else (laws_FnExactColourBoard.j1 kj11 a1 t454 true a0_0 a0_1 l0_2 t449 t450 t451 t462 t463 t464))))) else (some false)))) = some r := by rw [if_neg (show ¬ (false = true) by decide)] at H; exact H
     clear H
     have H := H1
     clear H1
     replace H := Option.bind_eq_some_iff.mp H
     obtain ⟨⟨t470, t471, t472⟩, A570, H⟩ := H
     replace H : ((laws_eqBoard.f kj11 t456 t457 t458 t470 t471 t472).bind fun t475 => (if t475 = true then ((laws_markBoard.f kj11 t456 t457 t458 1).bind fun bt476 => (if bt476.1 < 0 then (laws_FnExactColourBoard.j1 kj11 a1 t454 true a0_0 a0_1 l0_2 t449 t450 t451 t462 t463 t464) else ((laws_eqBoard.f kj11 t462 t463 t464 t449 t450 t451).bind fun t478 => (if t478 = true then (laws_FnExactColourBoard.j1 kj11 a1 t454 (t467 != t454) a0_0 a0_1 l0_2 t449 t450 t451 t462 t463 t464) else (laws_FnExactColourBoard.j1 kj11 a1 t454 true a0_0 a0_1 l0_2 t449 t450 t451 t462 t463 t464))))) else (some false))) = some r := H
     have A57 := A_ A570
     clear A570
     replace H := Option.bind_eq_some_iff.mp H
     obtain ⟨t475, A580, H⟩ := H
     replace H : (if t475 = true then ((laws_markBoard.f kj11 t456 t457 t458 1).bind fun bt476 => (if bt476.1 < 0 then (laws_FnExactColourBoard.j1 kj11 a1 t454 true a0_0 a0_1 l0_2 t449 t450 t451 t462 t463 t464) else ((laws_eqBoard.f kj11 t462 t463 t464 t449 t450 t451).bind fun t478 => (if t478 = true then (laws_FnExactColourBoard.j1 kj11 a1 t454 (t467 != t454) a0_0 a0_1 l0_2 t449 t450 t451 t462 t463 t464) else (laws_FnExactColourBoard.j1 kj11 a1 t454 true a0_0 a0_1 l0_2 t449 t450 t451 t462 t463 t464))))) else (some false)) = some r := H
     have A58 := A_ A580
     clear A580
     by_cases c59 : t475 = true
     ·
      subst c59
      have H1 : ((laws_markBoard.f kj11 t456 t457 t458 1).bind fun bt476 => (if bt476.1 < 0 then (laws_FnExactColourBoard.j1 kj11 a1 t454 true a0_0 a0_1 l0_2 t449 t450 t451 t462 t463 t464) else ((laws_eqBoard.f kj11 t462 t463 t464 t449 t450 t451).bind fun t478 => (if t478 = true then (laws_FnExactColourBoard.j1 kj11 a1 t454 (t467 != t454) a0_0 a0_1 l0_2 t449 t450 t451 t462 t463 t464) else (laws_FnExactColourBoard.j1 kj11 a1 t454 true a0_0 a0_1 l0_2 t449 t450 t451 t462 t463 t464))))) = some r := by rw [if_pos rfl] at H; exact H
      clear H
      have H := H1
      clear H1
      replace H := Option.bind_eq_some_iff.mp H
      obtain ⟨⟨t476, t477⟩, A600, H⟩ := H
      replace H : (if t476 < 0 then (laws_FnExactColourBoard.j1 kj11 a1 t454 true a0_0 a0_1 l0_2 t449 t450 t451 t462 t463 t464) else ((laws_eqBoard.f kj11 t462 t463 t464 t449 t450 t451).bind fun t478 => (if t478 = true then (laws_FnExactColourBoard.j1 kj11 a1 t454 (t467 != t454) a0_0 a0_1 l0_2 t449 t450 t451 t462 t463 t464) else (laws_FnExactColourBoard.j1 kj11 a1 t454 true a0_0 a0_1 l0_2 t449 t450 t451 t462 t463 t464)))) = some r := H
      have A60 := A_ A600
      clear A600
      have HC61 := A_ H
      clear H
      try go_wp2
      have n0_ := A_ (Kd.R_drew HO_456002.out)
      have n1_ := A_ (Kd.R_drew HO_462002.out)
      have n2_ := A_ (Kd.R_drew HO_469002.out)
      have n3_ := A_ (blk_drew BK442.out)
      have n4_ := A_ (blk_drew BK455.out)
      have n5_ := A_ (blk_drew BK461.out)
      have n6_ := A_ (blk_drew BK468.out)
      have n7_ := A_ (below_drew1 HB.out)
      clear HO_456002
      clear HO_462002
      clear HO_469002
      clear BK442
      clear BK455
      clear BK461
      clear BK468
      clear HB
      have HO_456002 := n0_
      have HO_462002 := n1_
      have HO_469002 := n2_
      have BK442 := n3_
      have BK455 := n4_
      have BK461 := n5_
      have BK468 := n6_
      have HB := n7_
      clear n0_ n1_ n2_ n3_ n4_ n5_ n6_ n7_
      refine start_ (n := 5) (S := fun w' => w'.cell? ⟨gb461, 0, none⟩ = some (.int .i64 t456) ∧ w'.cell? ⟨gb461, 1, none⟩ = some (.int .i64 t457) ∧ w'.cell? ⟨gb461, 2, none⟩ = some (.slice Ao30 t458.length co30) ∧ w'.cell? ⟨gb442, 0, none⟩ = some (.int .i64 a0_0) ∧ w'.cell? ⟨gb442, 1, none⟩ = some (.int .i64 a0_1) ∧ w'.cell? ⟨gb442, 2, none⟩ = some (.slice A0_2 l0_2.length c0_2)) (ds := []) (Fn.bl 5 0) (by kernel_rfl) rfl rfl ⟨(blk_cell BK461.out 0).trans rfl, (blk_cell BK461.out 1).trans rfl, (blk_cell BK461.out 2).trans rfl, (blk_cell BK442.out 0).trans rfl, (blk_cell BK442.out 1).trans rfl, (blk_cell BK442.out 2).trans rfl⟩ (fun hHeld => ?_)
      generalize wc.drew = w62 at HO_456002 HO_462002 HO_469002 BK442 BK455 BK461 BK468 HB hHeld ⊢
      refine take_ (i := 0) (N := some 45) (v := ?_) (a' := ?_) (Fn.bl 5 1) rfl rfl (by kernel_rfl) (fun _ _ _ h => h) (Or.inl ⟨by rfl, ?_⟩) hHeld ?_ ?_
      rotate_left
      ·
       rintro w' ⟨s0, s1, s2, s3, s4, s5⟩
       go_simp
       with_reducible rfl
      rotate_left
      ·
       simp only [Act.put, List.setIfInBounds_toArray, List.set_cons_zero, List.set_cons_succ, i64_w, i32_w]
       rfl
      refine take_ (i := 1) (N := some 46) (v := ?_) (a' := ?_) (Fn.bl 5 3) rfl rfl (by kernel_rfl) (fun _ _ _ h => h) (Or.inl ⟨by rfl, ?_⟩) hHeld ?_ ?_
      rotate_left
      ·
       rintro w' ⟨s0, s1, s2, s3, s4, s5⟩
       go_simp
       with_reducible rfl
      rotate_left
      ·
       simp only [Act.put, List.setIfInBounds_toArray, List.set_cons_zero, List.set_cons_succ, i64_w, i32_w]
       rfl
      refine one_ (i := 2) (N := some 47) (Fn.bl 5 7) rfl rfl (by kernel_rfl) (by decide) (fun K hK => ?_)
      refine goes_ Try.func19 (by kernel_rfl) rfl #[.agg #[.int .i64 a0_0, .int .i64 a0_1, .slice A0_2 l0_2.length c0_2]] (by rfl) rfl rfl ta_ ?_
      with_reducible refine (laws_toBoard.calls kj11 a0_0 a0_1 _ _ l0_2 t470 t471 t472 _ ?side1 ?side2 A57.out).mono ?_
      (case side1 => exact tc_ HR0_2.out)
      (case side2 => exact HC0_2.out)
      rintro e w63 ⟨v473, rfl, ho0, hb⟩
      refine ⟨_, rfl, ?_⟩
      have n0_ := A_ (Kd.R_elder' (tr_x HO_456002.out) (Kd.R_base ho0) hb)
      have n1_ := A_ (Kd.R_elder' (tr_x HO_462002.out) (Kd.R_base ho0) hb)
      have n2_ := A_ (Kd.R_elder' (tr_x HO_469002.out) (Kd.R_base ho0) hb)
      have n3_ := A_ (Kd.R_lower (Kd.R_new' (Kd.R_new' (Kd.R_new' ho0 (Kd.R_lt (tr_x HO_456002.out))) (Kd.R_lt (tr_x HO_462002.out))) (Kd.R_lt (tr_x HO_469002.out))) (below_size tb_))
      have n4_ := A_ (blk_below (g := gb442) (o := .cells #[.int .i64 a0_0, .int .i64 a0_1, .slice A0_2 l0_2.length c0_2] 24 (0, 0)) (tk_ BK442) hb)
      have n5_ := A_ (blk_below (g := gb455) (o := .cells #[.int .i64 t449, .int .i64 t450, .slice Ao23 t451.length co23] 26 (0, 0)) (tk_ BK455) hb)
      have n6_ := A_ (blk_below (g := gb461) (o := .cells #[.int .i64 t456, .int .i64 t457, .slice Ao30 t458.length co30] 26 (0, 0)) (tk_ BK461) hb)
      have n7_ := A_ (blk_below (g := gb468) (o := .cells #[.int .i64 t462, .int .i64 t463, .slice Ao37 t464.length co37] 26 (0, 0)) (tk_ BK468) hb)
      have n8_ := A_ (below_step tb_ hb)
      clear HO_456002
      clear HO_462002
      clear HO_469002
      clear BK442
      clear BK455
      clear BK461
      clear BK468
      clear HB
      have HO_456002 := n0_
      have HO_462002 := n1_
      have HO_469002 := n2_
      have HO474 := n3_
      have BK442 := n4_
      have BK455 := n5_
      have BK461 := n6_
      have BK468 := n7_
      have HB := n8_
      clear n0_ n1_ n2_ n3_ n4_ n5_ n6_ n7_ n8_
      (try clear hb)
      (try clear hb2)
      (try clear hk)
      (try clear hi)
      (try clear ho0)
      obtain ⟨Ao64, co64, eo64⟩ := Kd.R_slice HO474.out
      (first | subst eo64 | (injection eo64 with f1_ f2_ f3_; have f4_ := f1_.symm; have f5_ := f3_.symm; clear f1_ f2_ f3_; subst f4_; subst f5_))
      refine hK.out _ _ ⟨(blk_cell BK461.out 0).trans rfl, (blk_cell BK461.out 1).trans rfl, (blk_cell BK461.out 2).trans rfl, (blk_cell BK442.out 0).trans rfl, (blk_cell BK442.out 1).trans rfl, (blk_cell BK442.out 2).trans rfl⟩ (fun hHeld => ?_)
      clear hK K
      refine norm_ (a' := ?_) ?_ ?_
      rotate_left
      ·
       show Act.put _ (some 47) _ = _
       simp only [Act.put, List.setIfInBounds_toArray, List.set_cons_zero, List.set_cons_succ, i64_w, i32_w]
       rfl
      refine one_ (i := 3) (N := some 48) (Fn.bl 5 15) rfl rfl (by kernel_rfl) (by decide) (fun K hK => ?_)
      refine goes_ Try.func21 (by kernel_rfl) rfl #[.agg #[.int .i64 t456, .int .i64 t457, .slice Ao30 t458.length co30], .agg #[.int .i64 t470, .int .i64 t471, .slice Ao64 t472.length co64]] (by rfl) rfl rfl ta_ ?_
      with_reducible refine (laws_eqBoard.calls kj11 t456 t457 _ _ t458 t470 t471 _ _ t472 true _ ?side1 ?side2 ?side3 ?side4 A58.out).mono ?_
      (case side1 => exact tc0_ (Kd.R_reads' HO_462002.out).2.2)
      (case side2 => exact (Kd.R_reads' HO_462002.out).2.1)
      (case side3 => exact tc0_ (Kd.R_reads' HO474.out).2.2)
      (case side4 => exact (Kd.R_reads' HO474.out).2.1)
      rintro e w65 ⟨rfl, hb⟩
      refine ⟨_, rfl, ?_⟩
      have n0_ := A_ (Kd.R_below (tr_x HO_456002.out) hb)
      have n1_ := A_ (Kd.R_below (tr_x HO_462002.out) hb)
      have n2_ := A_ (Kd.R_below (tr_x HO_469002.out) hb)
      have n3_ := A_ (Kd.R_below (tr_x HO474.out) hb)
      have n4_ := A_ (blk_below (g := gb442) (o := .cells #[.int .i64 a0_0, .int .i64 a0_1, .slice A0_2 l0_2.length c0_2] 24 (0, 0)) (tk_ BK442) hb)
      have n5_ := A_ (blk_below (g := gb455) (o := .cells #[.int .i64 t449, .int .i64 t450, .slice Ao23 t451.length co23] 26 (0, 0)) (tk_ BK455) hb)
      have n6_ := A_ (blk_below (g := gb461) (o := .cells #[.int .i64 t456, .int .i64 t457, .slice Ao30 t458.length co30] 26 (0, 0)) (tk_ BK461) hb)
      have n7_ := A_ (blk_below (g := gb468) (o := .cells #[.int .i64 t462, .int .i64 t463, .slice Ao37 t464.length co37] 26 (0, 0)) (tk_ BK468) hb)
      have n8_ := A_ (below_step tb_ hb)
      clear HO_456002
      clear HO_462002
      clear HO_469002
      clear HO474
      clear BK442
      clear BK455
      clear BK461
      clear BK468
      clear HB
      have HO_456002 := n0_
      have HO_462002 := n1_
      have HO_469002 := n2_
      have HO474 := n3_
      have BK442 := n4_
      have BK455 := n5_
      have BK461 := n6_
      have BK468 := n7_
      have HB := n8_
      clear n0_ n1_ n2_ n3_ n4_ n5_ n6_ n7_ n8_
      (try clear hb)
      (try clear hb2)
      (try clear hk)
      (try clear hi)
      refine hK.out _ _ ⟨(blk_cell BK461.out 0).trans rfl, (blk_cell BK461.out 1).trans rfl, (blk_cell BK461.out 2).trans rfl, (blk_cell BK442.out 0).trans rfl, (blk_cell BK442.out 1).trans rfl, (blk_cell BK442.out 2).trans rfl⟩ (fun hHeld => ?_)
      clear hK K
      refine norm_ (a' := ?_) ?_ ?_
      rotate_left
      ·
       show Act.put _ (some 48) _ = _
       simp only [Act.put, List.setIfInBounds_toArray, List.set_cons_zero, List.set_cons_succ, i64_w, i32_w]
       rfl
      refine pk_ 4 (some 49) (Fn.bl 5 31) ?_
      refine done_ (by kernel_rfl) ?_
      have hnb66 := NB461_442.out
      have hnc66 := NB442_461.out
      have hnb67 := NB461_455.out
      have hnc67 := NB455_461.out
      have hnb68 := NB461_468.out
      have hnc68 := NB468_461.out
      obtain ⟨hcz69_0, hcz69_1, hcz69_2, hfz69_0, hfz69_1, hfz69_2⟩ := cf3_ BK461.out
      go_upto_region 14 with (first | (refine gc_ 22 ?_; refine goesT_ (some 52) Try.func22 #[.agg #[.int .i64 t456, .int .i64 t457, .slice Ao30 t458.length co30], .int .i64 1] ?_; (with_reducible refine (laws_markBoard.calls kj11 t456 t457 (fun k_ => some k_ = (.slice Ao30 t458.length co30 : Value).ownBlock) (.slice Ao30 t458.length co30) t458 1 t476 t477 w _ ?side1 ?side2 A60.out).mono ?_); (case side1 => repeat (first | (with_reducible first | exact HB.out | apply below_alloc | apply pw_below_drewN | apply below_drew1 | refine below_set ?_ GE442.out | refine below_set ?_ GE455.out | refine below_set ?_ GE461.out | refine below_set ?_ GE468.out) | exact HB.out)); (case side2 => exact Kd.R_tight rfl HO_462002.out); rintro e w70 ⟨rfl, hy0, hb, hkp⟩; refine ⟨_, rfl, ?_⟩; replace HO_456002 := A_ (Kd.R_mono (ok' := fun k_ => some k_ ≠ (.slice Ao30 t458.length co30 : Value).ownBlock ∧ some k_ ≠ (.slice Ao37 t464.length co37 : Value).ownBlock ∧ some k_ ≠ (.slice Ao64 t472.length co64 : Value).ownBlock) (Kd.R_keptB (HO_456002.out) hkp (fun k_ hk_ hs_ => (hk_.1.1) hs_)) (fun k_ hk_ => ⟨hk_.1.1.1, hk_.1.1.2, hk_.1.2⟩)); replace HO_469002 := A_ (Kd.R_mono (ok' := fun k_ => some k_ ≠ (.slice Ao23 t451.length co23 : Value).ownBlock ∧ some k_ ≠ (.slice Ao30 t458.length co30 : Value).ownBlock ∧ some k_ ≠ (.slice Ao64 t472.length co64 : Value).ownBlock) (Kd.R_keptB (HO_469002.out) hkp (fun k_ hk_ hs_ => (hk_.1.2) hs_)) (fun k_ hk_ => ⟨hk_.1.1.1, hk_.1.1.2, hk_.1.2⟩)); replace BK442 := A_ (blk_kept (tk_ BK442) hkp (fun hs_ => (fun e_ => (Kd.R_ne HO_462002.out BK442.out (by decide)) e_) hs_)); replace BK455 := A_ (blk_kept (tk_ BK455) hkp (fun hs_ => (fun e_ => (Kd.R_ne HO_462002.out BK455.out (by decide)) e_) hs_)); replace BK461 := A_ (blk_kept (tk_ BK461) hkp (fun hs_ => (fun e_ => (Kd.R_ne HO_462002.out BK461.out (by decide)) e_) hs_)); replace BK468 := A_ (blk_kept (tk_ BK468) hkp (fun hs_ => (fun e_ => (Kd.R_ne HO_462002.out BK468.out (by decide)) e_) hs_)); replace HO_462002 := A_ (Kd.R_reok rfl hy0 (fun k_ e_ => HO_462002.out.1 k_ e_)); replace HO474 := A_ (Kd.R_mono (ok' := fun k_ => some k_ ≠ (.slice Ao23 t451.length co23 : Value).ownBlock ∧ some k_ ≠ (.slice Ao30 t458.length co30 : Value).ownBlock ∧ some k_ ≠ (.slice Ao37 t464.length co37 : Value).ownBlock) (Kd.R_keptB (HO474.out) hkp (fun k_ hk_ hs_ => (hk_.1.2) hs_)) (fun k_ hk_ => ⟨hk_.1.1.1.2, hk_.1.1.2, hk_.1.2⟩)); replace HB := A_ (hb); (try clear hb); (try clear hkp); (try clear hy0)))
      (try simp only [Act.put, List.setIfInBounds_toArray, List.set_cons_zero, List.set_cons_succ])
      go_cut [65] (fun v65 wc => ∃ (kq : Nat) (x65_60 : Bool), v65 = .bool x65_60 ∧ Aside0 (laws_FnExactColourBoard.j1 kq a1 t454 x65_60 a0_0 a0_1 l0_2 t449 t450 t451 t462 t463 t464 = some r) ∧ Aside0 (kq ≤ kj11) ∧ Aside0 (Kd.R (Kd.int .i64) 3 wc w.heap.size (fun k_ => some k_ ≠ ((.slice Ao30 t458.length co30) : Value).ownBlock ∧ some k_ ≠ ((.slice Ao37 t464.length co37) : Value).ownBlock) (.slice Ao23 t451.length co23) t451) ∧ Aside0 (Kd.R (Kd.int .i64) 3 wc w.heap.size (fun k_ => some k_ ≠ ((.slice Ao23 t451.length co23) : Value).ownBlock ∧ some k_ ≠ ((.slice Ao37 t464.length co37) : Value).ownBlock) (.slice Ao30 t458.length co30) t477) ∧ Aside0 (Kd.R (Kd.int .i64) 3 wc w.heap.size (fun k_ => some k_ ≠ ((.slice Ao23 t451.length co23) : Value).ownBlock ∧ some k_ ≠ ((.slice Ao30 t458.length co30) : Value).ownBlock) (.slice Ao37 t464.length co37) t464) ∧ Aside0 (wc.heap[gb442]? = some (.cells #[.int .i64 a0_0, .int .i64 a0_1, (.slice A0_2 l0_2.length c0_2)] 24 (0, 0))) ∧ Aside0 (wc.heap[gb455]? = some (.cells #[.int .i64 t449, .int .i64 t450, (.slice Ao23 t451.length co23)] 26 (0, 0))) ∧ Aside0 (wc.heap[gb461]? = some (.cells #[.int .i64 t456, .int .i64 t457, (.slice Ao30 t458.length co30)] 26 (0, 0))) ∧ Aside0 (wc.heap[gb468]? = some (.cells #[.int .i64 t462, .int .i64 t463, (.slice Ao37 t464.length co37)] 26 (0, 0))) ∧ Aside0 (Below w.heap.size w wc))
      case first =>
       have H := HC61.out
       clear HC61
       by_cases c71 : t476 < 0
       ·
        rw [if_pos c71] at H
        have c71b0 := decide_eq_true c71
        clear c71
        (first | rw [c71b0] | (simp only [i64_w, i32_w]; rw [c71b0]) | skip)
        have H' := A_ H
        clear H
        go_wp2
        go_meet
        case rel => exact ⟨_, (true), tf_, H', ⟨by have := HJ11.out; first | omega | exact Nat.le_refl _⟩, ⟨by (with_reducible repeat (first | apply Kd.R_alloc | apply Kd.R_drewN | apply Kd.R_drew)); exact Kd.R_mono HO_456002.out om_⟩, ⟨by (with_reducible repeat (first | apply Kd.R_alloc | apply Kd.R_drewN | apply Kd.R_drew)); exact Kd.R_mono HO_462002.out om_⟩, ⟨by (with_reducible repeat (first | apply Kd.R_alloc | apply Kd.R_drewN | apply Kd.R_drew)); exact Kd.R_mono HO_469002.out om_⟩, ⟨tk_ BK442⟩, ⟨tk_ BK455⟩, ⟨tk_ BK461⟩, ⟨tk_ BK468⟩, ⟨tb_⟩⟩
       ·
        rw [if_neg c71] at H
        have c71b0 := decide_eq_false c71
        clear c71
        (first | rw [c71b0] | (simp only [i64_w, i32_w]; rw [c71b0]) | skip)
        replace H := Option.bind_eq_some_iff.mp H
        obtain ⟨t478, A720, H⟩ := H
        replace H : (if t478 = true then (laws_FnExactColourBoard.j1 kj11 a1 t454 (t467 != t454) a0_0 a0_1 l0_2 t449 t450 t451 t462 t463 t464) else (laws_FnExactColourBoard.j1 kj11 a1 t454 true a0_0 a0_1 l0_2 t449 t450 t451 t462 t463 t464)) = some r := H
        have A72 := A_ A720
        clear A720
        by_cases c73 : t478 = true
        ·
         subst c73
         have H1 : (laws_FnExactColourBoard.j1 kj11 a1 t454 (t467 != t454) a0_0 a0_1 l0_2 t449 t450 t451 t462 t463 t464) = some r := by rw [if_pos rfl] at H; exact H
         clear H
         have H := H1
         clear H1
         have H' := A_ H
         clear H
         have hnb74 := NB468_442.out
         have hnc74 := NB442_468.out
         have hnb75 := NB468_455.out
         have hnc75 := NB455_468.out
         have hnb76 := NB468_461.out
         have hnc76 := NB461_468.out
         obtain ⟨hcz77_0, hcz77_1, hcz77_2, hfz77_0, hfz77_1, hfz77_2⟩ := cf3_ BK468.out
         have hnb78 := NB455_442.out
         have hnc78 := NB442_455.out
         have hnb79 := NB455_461.out
         have hnc79 := NB461_455.out
         obtain ⟨hcz80_0, hcz80_1, hcz80_2, hfz80_0, hfz80_1, hfz80_2⟩ := cf3_ BK455.out
         go_wp2_with (first | (go_at_call 21; (with_reducible refine (laws_eqBoard.calls kj11 t462 t463 _ _ t464 t449 t450 _ _ t451 true _ ?side1 ?side2 ?side3 ?side4 A72.out).mono ?_); (case side1 => exact tc0_ (Kd.R_reads' HO_469002.out).2.2); (case side2 => exact (Kd.R_reads' HO_469002.out).2.1); (case side3 => exact tc0_ (Kd.R_reads' HO_456002.out).2.2); (case side4 => exact (Kd.R_reads' HO_456002.out).2.1); rintro e w81 ⟨rfl, hb⟩; replace HO_456002 := A_ (Kd.R_below (tr_x HO_456002.out) hb); replace HO_462002 := A_ (Kd.R_below (tr_x HO_462002.out) hb); replace HO_469002 := A_ (Kd.R_below (tr_x HO_469002.out) hb); replace HO474 := A_ (Kd.R_below (tr_x HO474.out) hb); replace BK442 := A_ (blk_below (g := gb442) (o := .cells #[.int .i64 a0_0, .int .i64 a0_1, .slice A0_2 l0_2.length c0_2] 24 (0, 0)) (tk_ BK442) hb); replace BK455 := A_ (blk_below (g := gb455) (o := .cells #[.int .i64 t449, .int .i64 t450, .slice Ao23 t451.length co23] 26 (0, 0)) (tk_ BK455) hb); replace BK461 := A_ (blk_below (g := gb461) (o := .cells #[.int .i64 t456, .int .i64 t457, .slice Ao30 t458.length co30] 26 (0, 0)) (tk_ BK461) hb); replace BK468 := A_ (blk_below (g := gb468) (o := .cells #[.int .i64 t462, .int .i64 t463, .slice Ao37 t464.length co37] 26 (0, 0)) (tk_ BK468) hb); replace HB := A_ (below_step tb_ hb); (try clear hb)))
         go_meet
         case rel => exact ⟨_, ((t467 != t454)), tf_, H', ⟨by have := HJ11.out; first | omega | exact Nat.le_refl _⟩, ⟨by (with_reducible repeat (first | apply Kd.R_alloc | apply Kd.R_drewN | apply Kd.R_drew)); exact Kd.R_mono HO_456002.out om_⟩, ⟨by (with_reducible repeat (first | apply Kd.R_alloc | apply Kd.R_drewN | apply Kd.R_drew)); exact Kd.R_mono HO_462002.out om_⟩, ⟨by (with_reducible repeat (first | apply Kd.R_alloc | apply Kd.R_drewN | apply Kd.R_drew)); exact Kd.R_mono HO_469002.out om_⟩, ⟨tk_ BK442⟩, ⟨tk_ BK455⟩, ⟨tk_ BK461⟩, ⟨tk_ BK468⟩, ⟨tb_⟩⟩
        ·
         replace c73 := Bool.eq_false_iff.mpr c73
         subst c73
         have H1 : (laws_FnExactColourBoard.j1 kj11 a1 t454 true a0_0 a0_1 l0_2 t449 t450 t451 t462 t463 t464) = some r := by rw [if_neg (show ¬ (false = true) by decide)] at H; exact H
         clear H
         have H := H1
         clear H1
         have H' := A_ H
         clear H
         have hnb82 := NB468_442.out
         have hnc82 := NB442_468.out
         have hnb83 := NB468_455.out
         have hnc83 := NB455_468.out
         have hnb84 := NB468_461.out
         have hnc84 := NB461_468.out
         obtain ⟨hcz85_0, hcz85_1, hcz85_2, hfz85_0, hfz85_1, hfz85_2⟩ := cf3_ BK468.out
         have hnb86 := NB455_442.out
         have hnc86 := NB442_455.out
         have hnb87 := NB455_461.out
         have hnc87 := NB461_455.out
         obtain ⟨hcz88_0, hcz88_1, hcz88_2, hfz88_0, hfz88_1, hfz88_2⟩ := cf3_ BK455.out
         go_wp2_with (first | (go_at_call 21; (with_reducible refine (laws_eqBoard.calls kj11 t462 t463 _ _ t464 t449 t450 _ _ t451 false _ ?side1 ?side2 ?side3 ?side4 A72.out).mono ?_); (case side1 => exact tc0_ (Kd.R_reads' HO_469002.out).2.2); (case side2 => exact (Kd.R_reads' HO_469002.out).2.1); (case side3 => exact tc0_ (Kd.R_reads' HO_456002.out).2.2); (case side4 => exact (Kd.R_reads' HO_456002.out).2.1); rintro e w89 ⟨rfl, hb⟩; replace HO_456002 := A_ (Kd.R_below (tr_x HO_456002.out) hb); replace HO_462002 := A_ (Kd.R_below (tr_x HO_462002.out) hb); replace HO_469002 := A_ (Kd.R_below (tr_x HO_469002.out) hb); replace HO474 := A_ (Kd.R_below (tr_x HO474.out) hb); replace BK442 := A_ (blk_below (g := gb442) (o := .cells #[.int .i64 a0_0, .int .i64 a0_1, .slice A0_2 l0_2.length c0_2] 24 (0, 0)) (tk_ BK442) hb); replace BK455 := A_ (blk_below (g := gb455) (o := .cells #[.int .i64 t449, .int .i64 t450, .slice Ao23 t451.length co23] 26 (0, 0)) (tk_ BK455) hb); replace BK461 := A_ (blk_below (g := gb461) (o := .cells #[.int .i64 t456, .int .i64 t457, .slice Ao30 t458.length co30] 26 (0, 0)) (tk_ BK461) hb); replace BK468 := A_ (blk_below (g := gb468) (o := .cells #[.int .i64 t462, .int .i64 t463, .slice Ao37 t464.length co37] 26 (0, 0)) (tk_ BK468) hb); replace HB := A_ (below_step tb_ hb); (try clear hb)))
         go_meet
         case rel => exact ⟨_, (true), tf_, H', ⟨by have := HJ11.out; first | omega | exact Nat.le_refl _⟩, ⟨by (with_reducible repeat (first | apply Kd.R_alloc | apply Kd.R_drewN | apply Kd.R_drew)); exact Kd.R_mono HO_456002.out om_⟩, ⟨by (with_reducible repeat (first | apply Kd.R_alloc | apply Kd.R_drewN | apply Kd.R_drew)); exact Kd.R_mono HO_462002.out om_⟩, ⟨by (with_reducible repeat (first | apply Kd.R_alloc | apply Kd.R_drewN | apply Kd.R_drew)); exact Kd.R_mono HO_469002.out om_⟩, ⟨tk_ BK442⟩, ⟨tk_ BK455⟩, ⟨tk_ BK461⟩, ⟨tk_ BK468⟩, ⟨tb_⟩⟩
      case rest =>
       clear HC61
       try clear c1
       try clear c2
       try clear p2
       try clear c3
       try clear c4
       try clear c4b0
       try clear c5
       try clear c6
       try clear c7
       try clear c8
       try clear c17
       try clear c18
       try clear c19
       try clear c20
       try clear c21
       try clear c22
       try clear c27
       try clear c28
       try clear c33
       try clear c34
       try clear c35
       try clear c39
       try clear c40
       try clear c41
       try clear c42
       try clear c44
       try clear c45
       try clear c48
       try clear c49
       try clear c50
       try clear c52
       try clear c53
       try clear c56
       try clear c59
       try clear c66
       try clear c67
       try clear c68
       try clear c71
       try clear c71b0
       try clear c73
       try clear c74
       try clear c75
       try clear c76
       try clear c78
       try clear c79
       try clear c82
       try clear c83
       try clear c84
       try clear c86
       try clear c87
       try clear hcz14_0
       try clear hcz14_1
       try clear hcz14_2
       try clear hcz16_0
       try clear hcz16_1
       try clear hcz16_2
       try clear hcz22_0
       try clear hcz22_1
       try clear hcz22_2
       try clear hcz24_0
       try clear hcz24_1
       try clear hcz24_2
       try clear hcz29_0
       try clear hcz29_1
       try clear hcz29_2
       try clear hcz36_0
       try clear hcz36_1
       try clear hcz36_2
       try clear hcz43_0
       try clear hcz43_1
       try clear hcz43_2
       try clear hcz46_0
       try clear hcz46_1
       try clear hcz46_2
       try clear hcz51_0
       try clear hcz51_1
       try clear hcz51_2
       try clear hcz54_0
       try clear hcz54_1
       try clear hcz54_2
       try clear hcz69_0
       try clear hcz69_1
       try clear hcz69_2
       try clear hcz6_0
       try clear hcz6_1
       try clear hcz6_2
       try clear hcz77_0
       try clear hcz77_1
       try clear hcz77_2
       try clear hcz80_0
       try clear hcz80_1
       try clear hcz80_2
       try clear hcz85_0
       try clear hcz85_1
       try clear hcz85_2
       try clear hcz88_0
       try clear hcz88_1
       try clear hcz88_2
       try clear hfz14_0
       try clear hfz14_1
       try clear hfz14_2
       try clear hfz16_0
       try clear hfz16_1
       try clear hfz16_2
       try clear hfz22_0
       try clear hfz22_1
       try clear hfz22_2
       try clear hfz24_0
       try clear hfz24_1
       try clear hfz24_2
       try clear hfz29_0
       try clear hfz29_1
       try clear hfz29_2
       try clear hfz36_0
       try clear hfz36_1
       try clear hfz36_2
       try clear hfz43_0
       try clear hfz43_1
       try clear hfz43_2
       try clear hfz46_0
       try clear hfz46_1
       try clear hfz46_2
       try clear hfz51_0
       try clear hfz51_1
       try clear hfz51_2
       try clear hfz54_0
       try clear hfz54_1
       try clear hfz54_2
       try clear hfz69_0
       try clear hfz69_1
       try clear hfz69_2
       try clear hfz6_0
       try clear hfz6_1
       try clear hfz6_2
       try clear hfz77_0
       try clear hfz77_1
       try clear hfz77_2
       try clear hfz80_0
       try clear hfz80_1
       try clear hfz80_2
       try clear hfz85_0
       try clear hfz85_1
       try clear hfz85_2
       try clear hfz88_0
       try clear hfz88_1
       try clear hfz88_2
       try clear p2
       obtain ⟨kq, x65_60, rfl, HA, HJ60, HO_456002, HO_462002, HO_469002, BK442, BK455, BK461, BK468, HB⟩ := hcut
       have hl462002_60 := (Kd.R_reads' HO_462002.out).1
       rw [hl462002_60] at HO_462002
       (try simp only [hl462002_60])
       (try simp only [hl462002_60] at BK442)
       (try simp only [hl462002_60] at BK455)
       (try simp only [hl462002_60] at BK461)
       (try simp only [hl462002_60] at BK468)
       (try simp only [hl462002_60] at HO_456002)
       (try simp only [hl462002_60] at HO_469002)
       cases kq with
       | zero => exact absurd HA.out (by simp [laws_FnExactColourBoard.j1])
       | succ kj60 =>
        have H := HA.out
        clear HA
        simp only [laws_FnExactColourBoard.j1] at H
        by_cases c90 : x65_60 = true
        ·
         subst c90
         have H1 : (some false) = some r := by rw [if_pos rfl] at H; exact H
         clear H
         have H := H1
         clear H1
         obtain rfl := Option.some.inj H
         go_wp2
         go_ret
         exact ⟨te_, tb_⟩
        ·
         replace c90 := Bool.eq_false_iff.mpr c90
         subst c90
         have H1 : ((laws_markBoard.f kj60 t462 t463 t464 1).bind fun bt479 => ((laws_heldBoard.f kj60 t462 t463 bt479.2 1).bind fun t481 => (if t481 < 0 then (some false) else (if t481 = bt479.1 then ((laws_toBoard.f kj60 a0_0 a0_1 l0_2).bind fun bt482 => ((impl_ColourBoard.f kj60 bt482.1 bt482.2.1 bt482.2.2 a1).bind fun bt487 => ((laws_eqBoard.f kj60 bt487.1 bt487.2.1 bt487.2.2.1 t449 t450 t451).bind fun t494 => (if t494 = true then (laws_FnExactColourBoard.j2 kj60 bt479.1 (bt487.2.2.2 != t454) t462 t463 bt479.2) else (laws_FnExactColourBoard.j2 kj60 bt479.1 true t462 t463 bt479.2))))) else (some false))))) = some r := by rw [if_neg (show ¬ (false = true) by decide)] at H; exact H
         clear H
         have H := H1
         clear H1
         replace H := Option.bind_eq_some_iff.mp H
         obtain ⟨⟨t479, t480⟩, A910, H⟩ := H
         replace H : ((laws_heldBoard.f kj60 t462 t463 t480 1).bind fun t481 => (if t481 < 0 then (some false) else (if t481 = t479 then ((laws_toBoard.f kj60 a0_0 a0_1 l0_2).bind fun bt482 => ((impl_ColourBoard.f kj60 bt482.1 bt482.2.1 bt482.2.2 a1).bind fun bt487 => ((laws_eqBoard.f kj60 bt487.1 bt487.2.1 bt487.2.2.1 t449 t450 t451).bind fun t494 => (if t494 = true then (laws_FnExactColourBoard.j2 kj60 t479 (bt487.2.2.2 != t454) t462 t463 t480) else (laws_FnExactColourBoard.j2 kj60 t479 true t462 t463 t480))))) else (some false)))) = some r := H
         have A91 := A_ A910
         clear A910
         replace H := Option.bind_eq_some_iff.mp H
         obtain ⟨t481, A920, H⟩ := H
         replace H : (if t481 < 0 then (some false) else (if t481 = t479 then ((laws_toBoard.f kj60 a0_0 a0_1 l0_2).bind fun bt482 => ((impl_ColourBoard.f kj60 bt482.1 bt482.2.1 bt482.2.2 a1).bind fun bt487 => ((laws_eqBoard.f kj60 bt487.1 bt487.2.1 bt487.2.2.1 t449 t450 t451).bind fun t494 => (if t494 = true then (laws_FnExactColourBoard.j2 kj60 t479 (bt487.2.2.2 != t454) t462 t463 t480) else (laws_FnExactColourBoard.j2 kj60 t479 true t462 t463 t480))))) else (some false))) = some r := H
         have A92 := A_ A920
         clear A920
         by_cases c93 : t481 < 0
         ·
          rw [if_pos c93] at H
          have c93b0 := decide_eq_true c93
          clear c93
          obtain rfl := Option.some.inj H
          have hnb94 := NB468_442.out
          have hnc94 := NB442_468.out
          have hnb95 := NB468_455.out
          have hnc95 := NB455_468.out
          have hnb96 := NB468_461.out
          have hnc96 := NB461_468.out
          obtain ⟨hcz97_0, hcz97_1, hcz97_2, hfz97_0, hfz97_1, hfz97_2⟩ := cf3_ BK468.out
          go_wp2_with (first | (refine gc_ 22 ?_; refine goesT_ (some 68) Try.func22 #[.agg #[.int .i64 t462, .int .i64 t463, .slice Ao37 t464.length co37], .int .i64 1] ?_; (with_reducible refine (laws_markBoard.calls kj60 t462 t463 (fun k_ => some k_ = (.slice Ao37 t464.length co37 : Value).ownBlock) (.slice Ao37 t464.length co37) t464 1 t479 t480 w _ ?side1 ?side2 A91.out).mono ?_); (case side1 => repeat (first | (with_reducible first | exact HB.out | apply below_alloc | apply pw_below_drewN | apply below_drew1 | refine below_set ?_ GE442.out | refine below_set ?_ GE455.out | refine below_set ?_ GE461.out | refine below_set ?_ GE468.out) | exact HB.out)); (case side2 => exact Kd.R_tight rfl HO_469002.out); rintro e w98 ⟨rfl, hy0, hb, hkp⟩; refine ⟨_, rfl, ?_⟩; replace HO_456002 := A_ (Kd.R_mono (ok' := fun k_ => some k_ ≠ (.slice Ao30 t477.length co30 : Value).ownBlock ∧ some k_ ≠ (.slice Ao37 t464.length co37 : Value).ownBlock) (Kd.R_keptB (HO_456002.out) hkp (fun k_ hk_ hs_ => (hk_.2) hs_)) (fun k_ hk_ => ⟨hk_.1.1, hk_.1.2⟩)); replace HO_462002 := A_ (Kd.R_mono (ok' := fun k_ => some k_ ≠ (.slice Ao23 t451.length co23 : Value).ownBlock ∧ some k_ ≠ (.slice Ao37 t464.length co37 : Value).ownBlock) (Kd.R_keptB (HO_462002.out) hkp (fun k_ hk_ hs_ => (hk_.2) hs_)) (fun k_ hk_ => ⟨hk_.1.1, hk_.1.2⟩)); replace BK442 := A_ (blk_kept (tk_ BK442) hkp (fun hs_ => (fun e_ => (Kd.R_ne HO_469002.out BK442.out (by decide)) e_) hs_)); replace BK455 := A_ (blk_kept (tk_ BK455) hkp (fun hs_ => (fun e_ => (Kd.R_ne HO_469002.out BK455.out (by decide)) e_) hs_)); replace BK461 := A_ (blk_kept (tk_ BK461) hkp (fun hs_ => (fun e_ => (Kd.R_ne HO_469002.out BK461.out (by decide)) e_) hs_)); replace BK468 := A_ (blk_kept (tk_ BK468) hkp (fun hs_ => (fun e_ => (Kd.R_ne HO_469002.out BK468.out (by decide)) e_) hs_)); replace HO_469002 := A_ (Kd.R_reok rfl hy0 (fun k_ e_ => HO_469002.out.1 k_ e_)); replace HB := A_ (hb); (try clear hb); (try clear hkp); (try clear hy0); obtain ⟨hcz99_0, hcz99_1, hcz99_2, hfz99_0, hfz99_1, hfz99_2⟩ := cf3_ BK468.out) | (refine gc_ 23 ?_; refine goesL_ (some 71) rfl rfl Try.func23 (by kernel_rfl) rfl #[.agg #[.int .i64 t462, .int .i64 t463, .slice Ao37 t480.length co37], .int .i64 1] rfl (by (try simp only [List.map_toArray, List.map_cons, List.map_nil]); first | done | (rw [show t480.length = t464.length from (Kd.R_reads' HO_469002.out).1.symm] <;> rfl) | rfl | (simp only [List.length_drop, List.length_take]; rfl)) ?_; (with_reducible refine (laws_heldBoard.calls kj60 t462 t463 _ _ t480 1 t481 _ ?side1 ?side2 A92.out).mono ?_); (case side1 => exact tc0_ (Kd.R_reads' HO_469002.out).2.2); (case side2 => rw [show t480.length = t464.length from (Kd.R_reads' HO_469002.out).1.symm]; exact (Kd.R_reads' HO_469002.out).2.1); rintro e w100 ⟨rfl, hb⟩; refine ⟨_, rfl, ?_⟩; replace HO_456002 := A_ (Kd.R_below (tr_x HO_456002.out) hb); replace HO_462002 := A_ (Kd.R_below (tr_x HO_462002.out) hb); replace HO_469002 := A_ (Kd.R_below (tr_x HO_469002.out) hb); replace BK442 := A_ (blk_below (g := gb442) (o := .cells #[.int .i64 a0_0, .int .i64 a0_1, .slice A0_2 l0_2.length c0_2] 24 (0, 0)) (tk_ BK442) hb); replace BK455 := A_ (blk_below (g := gb455) (o := .cells #[.int .i64 t449, .int .i64 t450, .slice Ao23 t451.length co23] 26 (0, 0)) (tk_ BK455) hb); replace BK461 := A_ (blk_below (g := gb461) (o := .cells #[.int .i64 t456, .int .i64 t457, .slice Ao30 t477.length co30] 26 (0, 0)) (tk_ BK461) hb); replace BK468 := A_ (blk_below (g := gb468) (o := .cells #[.int .i64 t462, .int .i64 t463, .slice Ao37 t464.length co37] 26 (0, 0)) (tk_ BK468) hb); replace HB := A_ (below_step tb_ hb); (try clear hb)))
          go_ret
          exact ⟨te_, tb_⟩
         ·
          rw [if_neg c93] at H
          have c93b0 := decide_eq_false c93
          clear c93
          by_cases c101 : t481 = t479
          ·
           rw [if_pos c101] at H
           have c101b0 : (t481 == t479) = true := beq_iff_eq.mpr c101
           have c101b1 : (t481 != t479) = false := bne_eq_false_iff_eq.mpr c101
           clear c101
           replace H := Option.bind_eq_some_iff.mp H
           obtain ⟨⟨t482, t483, t484⟩, A1020, H⟩ := H
           replace H : ((impl_ColourBoard.f kj60 t482 t483 t484 a1).bind fun bt487 => ((laws_eqBoard.f kj60 bt487.1 bt487.2.1 bt487.2.2.1 t449 t450 t451).bind fun t494 => (if t494 = true then (laws_FnExactColourBoard.j2 kj60 t479 (bt487.2.2.2 != t454) t462 t463 t480) else (laws_FnExactColourBoard.j2 kj60 t479 true t462 t463 t480)))) = some r := H
           have A102 := A_ A1020
           clear A1020
           replace H := Option.bind_eq_some_iff.mp H
           obtain ⟨⟨t487, t488, t489, t492⟩, A1030, H⟩ := H
           replace H : ((laws_eqBoard.f kj60 t487 t488 t489 t449 t450 t451).bind fun t494 => (if t494 = true then (laws_FnExactColourBoard.j2 kj60 t479 (t492 != t454) t462 t463 t480) else (laws_FnExactColourBoard.j2 kj60 t479 true t462 t463 t480))) = some r := H
           have A103 := A_ A1030
           clear A1030
           have HC104 := A_ H
           clear H
           have hnb105 := NB468_442.out
           have hnc105 := NB442_468.out
           have hnb106 := NB468_455.out
           have hnc106 := NB455_468.out
           have hnb107 := NB468_461.out
           have hnc107 := NB461_468.out
           obtain ⟨hcz108_0, hcz108_1, hcz108_2, hfz108_0, hfz108_1, hfz108_2⟩ := cf3_ BK468.out
           go_upto_region 25 with (first | (refine gc_ 22 ?_; refine goesT_ (some 68) Try.func22 #[.agg #[.int .i64 t462, .int .i64 t463, .slice Ao37 t464.length co37], .int .i64 1] ?_; (with_reducible refine (laws_markBoard.calls kj60 t462 t463 (fun k_ => some k_ = (.slice Ao37 t464.length co37 : Value).ownBlock) (.slice Ao37 t464.length co37) t464 1 t479 t480 w _ ?side1 ?side2 A91.out).mono ?_); (case side1 => repeat (first | (with_reducible first | exact HB.out | apply below_alloc | apply pw_below_drewN | apply below_drew1 | refine below_set ?_ GE442.out | refine below_set ?_ GE455.out | refine below_set ?_ GE461.out | refine below_set ?_ GE468.out) | exact HB.out)); (case side2 => exact Kd.R_tight rfl HO_469002.out); rintro e w109 ⟨rfl, hy0, hb, hkp⟩; refine ⟨_, rfl, ?_⟩; replace HO_456002 := A_ (Kd.R_mono (ok' := fun k_ => some k_ ≠ (.slice Ao30 t477.length co30 : Value).ownBlock ∧ some k_ ≠ (.slice Ao37 t464.length co37 : Value).ownBlock) (Kd.R_keptB (HO_456002.out) hkp (fun k_ hk_ hs_ => (hk_.2) hs_)) (fun k_ hk_ => ⟨hk_.1.1, hk_.1.2⟩)); replace HO_462002 := A_ (Kd.R_mono (ok' := fun k_ => some k_ ≠ (.slice Ao23 t451.length co23 : Value).ownBlock ∧ some k_ ≠ (.slice Ao37 t464.length co37 : Value).ownBlock) (Kd.R_keptB (HO_462002.out) hkp (fun k_ hk_ hs_ => (hk_.2) hs_)) (fun k_ hk_ => ⟨hk_.1.1, hk_.1.2⟩)); replace BK442 := A_ (blk_kept (tk_ BK442) hkp (fun hs_ => (fun e_ => (Kd.R_ne HO_469002.out BK442.out (by decide)) e_) hs_)); replace BK455 := A_ (blk_kept (tk_ BK455) hkp (fun hs_ => (fun e_ => (Kd.R_ne HO_469002.out BK455.out (by decide)) e_) hs_)); replace BK461 := A_ (blk_kept (tk_ BK461) hkp (fun hs_ => (fun e_ => (Kd.R_ne HO_469002.out BK461.out (by decide)) e_) hs_)); replace BK468 := A_ (blk_kept (tk_ BK468) hkp (fun hs_ => (fun e_ => (Kd.R_ne HO_469002.out BK468.out (by decide)) e_) hs_)); replace HO_469002 := A_ (Kd.R_reok rfl hy0 (fun k_ e_ => HO_469002.out.1 k_ e_)); replace HB := A_ (hb); (try clear hb); (try clear hkp); (try clear hy0); obtain ⟨hcz110_0, hcz110_1, hcz110_2, hfz110_0, hfz110_1, hfz110_2⟩ := cf3_ BK468.out) | (refine gc_ 23 ?_; refine goesL_ (some 71) rfl rfl Try.func23 (by kernel_rfl) rfl #[.agg #[.int .i64 t462, .int .i64 t463, .slice Ao37 t480.length co37], .int .i64 1] rfl (by (try simp only [List.map_toArray, List.map_cons, List.map_nil]); first | done | (rw [show t480.length = t464.length from (Kd.R_reads' HO_469002.out).1.symm] <;> rfl) | rfl | (simp only [List.length_drop, List.length_take]; rfl)) ?_; (with_reducible refine (laws_heldBoard.calls kj60 t462 t463 _ _ t480 1 t481 _ ?side1 ?side2 A92.out).mono ?_); (case side1 => exact tc0_ (Kd.R_reads' HO_469002.out).2.2); (case side2 => rw [show t480.length = t464.length from (Kd.R_reads' HO_469002.out).1.symm]; exact (Kd.R_reads' HO_469002.out).2.1); rintro e w111 ⟨rfl, hb⟩; refine ⟨_, rfl, ?_⟩; replace HO_456002 := A_ (Kd.R_below (tr_x HO_456002.out) hb); replace HO_462002 := A_ (Kd.R_below (tr_x HO_462002.out) hb); replace HO_469002 := A_ (Kd.R_below (tr_x HO_469002.out) hb); replace BK442 := A_ (blk_below (g := gb442) (o := .cells #[.int .i64 a0_0, .int .i64 a0_1, .slice A0_2 l0_2.length c0_2] 24 (0, 0)) (tk_ BK442) hb); replace BK455 := A_ (blk_below (g := gb455) (o := .cells #[.int .i64 t449, .int .i64 t450, .slice Ao23 t451.length co23] 26 (0, 0)) (tk_ BK455) hb); replace BK461 := A_ (blk_below (g := gb461) (o := .cells #[.int .i64 t456, .int .i64 t457, .slice Ao30 t477.length co30] 26 (0, 0)) (tk_ BK461) hb); replace BK468 := A_ (blk_below (g := gb468) (o := .cells #[.int .i64 t462, .int .i64 t463, .slice Ao37 t464.length co37] 26 (0, 0)) (tk_ BK468) hb); replace HB := A_ (below_step tb_ hb); (try clear hb); have hnb112 := NB442_455.out; have hnc112 := NB455_442.out; have hnb113 := NB442_461.out; have hnc113 := NB461_442.out; obtain ⟨hcz114_0, hcz114_1, hcz114_2, hfz114_0, hfz114_1, hfz114_2⟩ := cf3_ BK442.out) | (refine gc_ 19 ?_; refine goesT_ (some 79) Try.func19 #[.agg #[.int .i64 a0_0, .int .i64 a0_1, .slice A0_2 l0_2.length c0_2]] ?_; (with_reducible refine (laws_toBoard.calls kj60 a0_0 a0_1 _ _ l0_2 t482 t483 t484 _ ?side1 ?side2 A102.out).mono ?_); (case side1 => exact tc_ HR0_2.out); (case side2 => exact HC0_2.out); rintro e w115 ⟨v485, rfl, ho0, hb⟩; refine ⟨_, rfl, ?_⟩; have HO486 := A_ (Kd.R_lower (Kd.R_new' (Kd.R_new' (Kd.R_new' ho0 (Kd.R_lt (tr_x HO_456002.out))) (Kd.R_lt (tr_x HO_462002.out))) (Kd.R_lt (tr_x HO_469002.out))) (below_size tb_)); replace HO_456002 := A_ (Kd.R_elder' (tr_x HO_456002.out) (Kd.R_base ho0) hb); replace HO_462002 := A_ (Kd.R_elder' (tr_x HO_462002.out) (Kd.R_base ho0) hb); replace HO_469002 := A_ (Kd.R_elder' (tr_x HO_469002.out) (Kd.R_base ho0) hb); replace BK442 := A_ (blk_below (g := gb442) (o := .cells #[.int .i64 a0_0, .int .i64 a0_1, .slice A0_2 l0_2.length c0_2] 24 (0, 0)) (tk_ BK442) hb); replace BK455 := A_ (blk_below (g := gb455) (o := .cells #[.int .i64 t449, .int .i64 t450, .slice Ao23 t451.length co23] 26 (0, 0)) (tk_ BK455) hb); replace BK461 := A_ (blk_below (g := gb461) (o := .cells #[.int .i64 t456, .int .i64 t457, .slice Ao30 t477.length co30] 26 (0, 0)) (tk_ BK461) hb); replace BK468 := A_ (blk_below (g := gb468) (o := .cells #[.int .i64 t462, .int .i64 t463, .slice Ao37 t464.length co37] 26 (0, 0)) (tk_ BK468) hb); replace HB := A_ (below_step tb_ hb); (try clear hb); (try clear ho0); obtain ⟨Ao116, co116, eo116⟩ := Kd.R_slice HO486.out; subst eo116) | (refine gc_ 20 ?_; refine goesT_ (some 81) Try.func20 #[.agg #[.int .i64 t482, .int .i64 t483, .slice Ao116 t484.length co116], .int .i64 a1] ?_; (with_reducible refine (impl_ColourBoard.calls kj60 t482 t483 _ _ t484 a1 t487 t488 t489 t492 _ ?side1 ?side2 A103.out).mono ?_); (case side1 => exact tc0_ (Kd.R_reads' HO486.out).2.2); (case side2 => exact (Kd.R_reads' HO486.out).2.1); rintro e w117 ⟨v490, rfl, ho0, hb⟩; refine ⟨_, rfl, ?_⟩; have HO491 := A_ (Kd.R_lower (Kd.R_new' (Kd.R_new' (Kd.R_new' (Kd.R_new' ho0 (Kd.R_lt (tr_x HO_456002.out))) (Kd.R_lt (tr_x HO_462002.out))) (Kd.R_lt (tr_x HO_469002.out))) (Kd.R_lt (tr_x HO486.out))) (below_size tb_)); replace HO_456002 := A_ (Kd.R_elder' (tr_x HO_456002.out) (Kd.R_base ho0) hb); replace HO_462002 := A_ (Kd.R_elder' (tr_x HO_462002.out) (Kd.R_base ho0) hb); replace HO_469002 := A_ (Kd.R_elder' (tr_x HO_469002.out) (Kd.R_base ho0) hb); replace HO486 := A_ (Kd.R_elder' (tr_x HO486.out) (Kd.R_base ho0) hb); replace BK442 := A_ (blk_below (g := gb442) (o := .cells #[.int .i64 a0_0, .int .i64 a0_1, .slice A0_2 l0_2.length c0_2] 24 (0, 0)) (tk_ BK442) hb); replace BK455 := A_ (blk_below (g := gb455) (o := .cells #[.int .i64 t449, .int .i64 t450, .slice Ao23 t451.length co23] 26 (0, 0)) (tk_ BK455) hb); replace BK461 := A_ (blk_below (g := gb461) (o := .cells #[.int .i64 t456, .int .i64 t457, .slice Ao30 t477.length co30] 26 (0, 0)) (tk_ BK461) hb); replace BK468 := A_ (blk_below (g := gb468) (o := .cells #[.int .i64 t462, .int .i64 t463, .slice Ao37 t464.length co37] 26 (0, 0)) (tk_ BK468) hb); replace HB := A_ (below_step tb_ hb); (try clear hb); (try clear ho0)) | (refine gd_ 14 ?_; refine bx_ 14 #[.int .i64 0, .int .i64 0, .slice none 0 0] 26 ?_; intro gb493 hg w118 hbox hb; replace HO_456002 := A_ (Kd.R_below (tr_x HO_456002.out) hb); replace HO_462002 := A_ (Kd.R_below (tr_x HO_462002.out) hb); replace HO_469002 := A_ (Kd.R_below (tr_x HO_469002.out) hb); replace HO486 := A_ (Kd.R_below (tr_x HO486.out) hb); replace HO491 := A_ (Kd.R_below (tr_x HO491.out) hb); have BK493 := A_ (hbox); have GW493 := A_ ((ts_ hg : w.heap.size ≤ gb493)); have GE493 := A_ ((ts_ hg : w.heap.size ≤ gb493)); replace HB := A_ (below_step tb_ hb); have NB442_493 := A_ ((by rw [hg]; exact Nat.ne_of_lt (blk_lt (g := gb442) (o := .cells #[.int .i64 a0_0, .int .i64 a0_1, .slice A0_2 l0_2.length c0_2] 24 (0, 0)) (tk_ BK442)) : gb442 ≠ gb493)); have NB493_442 := A_ ((by rw [hg]; exact Nat.ne_of_gt (blk_lt (g := gb442) (o := .cells #[.int .i64 a0_0, .int .i64 a0_1, .slice A0_2 l0_2.length c0_2] 24 (0, 0)) (tk_ BK442)) : gb493 ≠ gb442)); replace BK442 := A_ (blk_below (g := gb442) (o := .cells #[.int .i64 a0_0, .int .i64 a0_1, .slice A0_2 l0_2.length c0_2] 24 (0, 0)) (tk_ BK442) hb); have NB455_493 := A_ ((by rw [hg]; exact Nat.ne_of_lt (blk_lt (g := gb455) (o := .cells #[.int .i64 t449, .int .i64 t450, .slice Ao23 t451.length co23] 26 (0, 0)) (tk_ BK455)) : gb455 ≠ gb493)); have NB493_455 := A_ ((by rw [hg]; exact Nat.ne_of_gt (blk_lt (g := gb455) (o := .cells #[.int .i64 t449, .int .i64 t450, .slice Ao23 t451.length co23] 26 (0, 0)) (tk_ BK455)) : gb493 ≠ gb455)); replace BK455 := A_ (blk_below (g := gb455) (o := .cells #[.int .i64 t449, .int .i64 t450, .slice Ao23 t451.length co23] 26 (0, 0)) (tk_ BK455) hb); have NB461_493 := A_ ((by rw [hg]; exact Nat.ne_of_lt (blk_lt (g := gb461) (o := .cells #[.int .i64 t456, .int .i64 t457, .slice Ao30 t477.length co30] 26 (0, 0)) (tk_ BK461)) : gb461 ≠ gb493)); have NB493_461 := A_ ((by rw [hg]; exact Nat.ne_of_gt (blk_lt (g := gb461) (o := .cells #[.int .i64 t456, .int .i64 t457, .slice Ao30 t477.length co30] 26 (0, 0)) (tk_ BK461)) : gb493 ≠ gb461)); replace BK461 := A_ (blk_below (g := gb461) (o := .cells #[.int .i64 t456, .int .i64 t457, .slice Ao30 t477.length co30] 26 (0, 0)) (tk_ BK461) hb); have NB468_493 := A_ ((by rw [hg]; exact Nat.ne_of_lt (blk_lt (g := gb468) (o := .cells #[.int .i64 t462, .int .i64 t463, .slice Ao37 t464.length co37] 26 (0, 0)) (tk_ BK468)) : gb468 ≠ gb493)); have NB493_468 := A_ ((by rw [hg]; exact Nat.ne_of_gt (blk_lt (g := gb468) (o := .cells #[.int .i64 t462, .int .i64 t463, .slice Ao37 t464.length co37] 26 (0, 0)) (tk_ BK468)) : gb493 ≠ gb468)); replace BK468 := A_ (blk_below (g := gb468) (o := .cells #[.int .i64 t462, .int .i64 t463, .slice Ao37 t464.length co37] 26 (0, 0)) (tk_ BK468) hb); clear hb hbox hg; have hnb119 := NB493_442.out; have hnc119 := NB442_493.out; have hnb120 := NB493_455.out; have hnc120 := NB455_493.out; have hnb121 := NB493_461.out; have hnc121 := NB461_493.out; have hnb122 := NB493_468.out; have hnc122 := NB468_493.out; obtain ⟨hcz123_0, hcz123_1, hcz123_2, hfz123_0, hfz123_1, hfz123_2⟩ := cf3_ BK493.out; obtain ⟨Ao124, co124, eo124⟩ := Kd.R_slice HO491.out; subst eo124))
           (try simp only [Act.put, List.setIfInBounds_toArray, List.set_cons_zero, List.set_cons_succ])
           go_cut [92] (fun v92 wc => ∃ (kq : Nat) (x92_103 : Bool), v92 = .bool x92_103 ∧ Aside0 (laws_FnExactColourBoard.j2 kq t479 x92_103 t462 t463 t480 = some r) ∧ Aside0 (kq ≤ kj60) ∧ Aside0 (Kd.R (Kd.int .i64) 3 wc w.heap.size (fun k_ => some k_ ≠ ((.slice Ao30 t477.length co30) : Value).ownBlock ∧ some k_ ≠ ((.slice Ao37 t464.length co37) : Value).ownBlock ∧ some k_ ≠ ((.slice Ao124 t489.length co124) : Value).ownBlock) (.slice Ao23 t451.length co23) t451) ∧ Aside0 (Kd.R (Kd.int .i64) 3 wc w.heap.size (fun k_ => some k_ ≠ ((.slice Ao23 t451.length co23) : Value).ownBlock ∧ some k_ ≠ ((.slice Ao37 t464.length co37) : Value).ownBlock ∧ some k_ ≠ ((.slice Ao124 t489.length co124) : Value).ownBlock) (.slice Ao30 t477.length co30) t477) ∧ Aside0 (Kd.R (Kd.int .i64) 3 wc w.heap.size (fun k_ => some k_ ≠ ((.slice Ao23 t451.length co23) : Value).ownBlock ∧ some k_ ≠ ((.slice Ao30 t477.length co30) : Value).ownBlock ∧ some k_ ≠ ((.slice Ao124 t489.length co124) : Value).ownBlock) (.slice Ao37 t464.length co37) t480) ∧ Aside0 (Kd.R (Kd.int .i64) 3 wc w.heap.size (fun k_ => some k_ ≠ ((.slice Ao23 t451.length co23) : Value).ownBlock ∧ some k_ ≠ ((.slice Ao30 t477.length co30) : Value).ownBlock ∧ some k_ ≠ ((.slice Ao37 t464.length co37) : Value).ownBlock) (.slice Ao124 t489.length co124) t489) ∧ Aside0 (wc.heap[gb442]? = some (.cells #[.int .i64 a0_0, .int .i64 a0_1, (.slice A0_2 l0_2.length c0_2)] 24 (0, 0))) ∧ Aside0 (wc.heap[gb455]? = some (.cells #[.int .i64 t449, .int .i64 t450, (.slice Ao23 t451.length co23)] 26 (0, 0))) ∧ Aside0 (wc.heap[gb461]? = some (.cells #[.int .i64 t456, .int .i64 t457, (.slice Ao30 t477.length co30)] 26 (0, 0))) ∧ Aside0 (wc.heap[gb468]? = some (.cells #[.int .i64 t462, .int .i64 t463, (.slice Ao37 t464.length co37)] 26 (0, 0))) ∧ Aside0 (wc.heap[gb493]? = some (.cells #[.int .i64 t487, .int .i64 t488, (.slice Ao124 t489.length co124)] 26 (0, 0))) ∧ Aside0 (Below w.heap.size w wc))
           case first =>
            have H := HC104.out
            clear HC104
            replace H := Option.bind_eq_some_iff.mp H
            obtain ⟨t494, A1250, H⟩ := H
            replace H : (if t494 = true then (laws_FnExactColourBoard.j2 kj60 t479 (t492 != t454) t462 t463 t480) else (laws_FnExactColourBoard.j2 kj60 t479 true t462 t463 t480)) = some r := H
            have A125 := A_ A1250
            clear A1250
            by_cases c126 : t494 = true
            ·
             subst c126
             have H1 : (laws_FnExactColourBoard.j2 kj60 t479 (t492 != t454) t462 t463 t480) = some r := by rw [if_pos rfl] at H; exact H
             clear H
             have H := H1
             clear H1
             have H' := A_ H
             clear H
             have hnb127 := NB493_442.out
             have hnc127 := NB442_493.out
             have hnb128 := NB493_455.out
             have hnc128 := NB455_493.out
             have hnb129 := NB493_461.out
             have hnc129 := NB461_493.out
             have hnb130 := NB493_468.out
             have hnc130 := NB468_493.out
             obtain ⟨hcz131_0, hcz131_1, hcz131_2, hfz131_0, hfz131_1, hfz131_2⟩ := cf3_ BK493.out
             have hnb132 := NB455_442.out
             have hnc132 := NB442_455.out
             have hnb133 := NB455_461.out
             have hnc133 := NB461_455.out
             have hnb134 := NB455_468.out
             have hnc134 := NB468_455.out
             obtain ⟨hcz135_0, hcz135_1, hcz135_2, hfz135_0, hfz135_1, hfz135_2⟩ := cf3_ BK455.out
             go_wp2_with (first | (refine gc_ 21 ?_; refine goesT_ (some 86) Try.func21 #[.agg #[.int .i64 t487, .int .i64 t488, .slice Ao124 t489.length co124], .agg #[.int .i64 t449, .int .i64 t450, .slice Ao23 t451.length co23]] ?_; (with_reducible refine (laws_eqBoard.calls kj60 t487 t488 _ _ t489 t449 t450 _ _ t451 true _ ?side1 ?side2 ?side3 ?side4 A125.out).mono ?_); (case side1 => refine (Kd.R_reads' (e := 3) (base := w.heap.size) (ok := fun k_ => ((((True ∧ some k_ ≠ (.slice Ao23 t451.length co23 : Value).ownBlock) ∧ some k_ ≠ (.slice Ao30 t477.length co30 : Value).ownBlock) ∧ some k_ ≠ (.slice Ao37 t464.length co37 : Value).ownBlock) ∧ some k_ ≠ (.slice Ao116 t484.length co116 : Value).ownBlock)) (n := t489.length) (c := co124) ?_).2.2; exact (tr_ (h := by exact (Kd.R_mono (Kd.R_far (p := ⟨gb493, 2, none⟩) (Kd.R_far (p := ⟨gb493, 1, none⟩) (Kd.R_far (p := ⟨gb493, 0, none⟩) (Kd.R_types HO491.out BK493.out (by decide)) (fun _ hk => hk.2) (.int .i64 t487)) (fun _ hk => hk.2) (.int .i64 t488)) (fun _ hk => hk.2) (.slice Ao124 t489.length co124)) (fun _ h_ => h_.1))))); (case side2 => exact (Kd.R_reads' HO491.out).2.1); (case side3 => refine (Kd.R_reads' (e := 3) (base := w.heap.size) (ok := fun k_ => (((some k_ ≠ (.slice Ao30 t477.length co30 : Value).ownBlock ∧ some k_ ≠ (.slice Ao37 t464.length co37 : Value).ownBlock) ∧ some k_ ≠ (.slice Ao116 t484.length co116 : Value).ownBlock) ∧ some k_ ≠ (.slice Ao124 t489.length co124 : Value).ownBlock)) (n := t451.length) (c := co23) ?_).2.2; exact (tr_ (h := by exact (Kd.R_mono (Kd.R_far (p := ⟨gb493, 2, none⟩) (Kd.R_far (p := ⟨gb493, 1, none⟩) (Kd.R_far (p := ⟨gb493, 0, none⟩) (Kd.R_types HO_456002.out BK493.out (by decide)) (fun _ hk => hk.2) (.int .i64 t487)) (fun _ hk => hk.2) (.int .i64 t488)) (fun _ hk => hk.2) (.slice Ao124 t489.length co124)) (fun _ h_ => h_.1))))); (case side4 => exact (Kd.R_reads' HO_456002.out).2.1); rintro e w136 ⟨rfl, hb⟩; refine ⟨_, rfl, ?_⟩; replace HO_456002 := A_ (Kd.R_below (tr_ (h := by exact (Kd.R_mono (Kd.R_far (p := ⟨gb493, 2, none⟩) (Kd.R_far (p := ⟨gb493, 1, none⟩) (Kd.R_far (p := ⟨gb493, 0, none⟩) (Kd.R_types HO_456002.out BK493.out (by decide)) (fun _ hk => hk.2) (.int .i64 t487)) (fun _ hk => hk.2) (.int .i64 t488)) (fun _ hk => hk.2) (.slice Ao124 t489.length co124)) (fun _ h_ => h_.1)))) hb); replace HO_462002 := A_ (Kd.R_below (tr_ (h := by exact (Kd.R_mono (Kd.R_far (p := ⟨gb493, 2, none⟩) (Kd.R_far (p := ⟨gb493, 1, none⟩) (Kd.R_far (p := ⟨gb493, 0, none⟩) (Kd.R_types HO_462002.out BK493.out (by decide)) (fun _ hk => hk.2) (.int .i64 t487)) (fun _ hk => hk.2) (.int .i64 t488)) (fun _ hk => hk.2) (.slice Ao124 t489.length co124)) (fun _ h_ => h_.1)))) hb); replace HO_469002 := A_ (Kd.R_below (tr_ (h := by exact (Kd.R_mono (Kd.R_far (p := ⟨gb493, 2, none⟩) (Kd.R_far (p := ⟨gb493, 1, none⟩) (Kd.R_far (p := ⟨gb493, 0, none⟩) (Kd.R_types HO_469002.out BK493.out (by decide)) (fun _ hk => hk.2) (.int .i64 t487)) (fun _ hk => hk.2) (.int .i64 t488)) (fun _ hk => hk.2) (.slice Ao124 t489.length co124)) (fun _ h_ => h_.1)))) hb); replace HO486 := A_ (Kd.R_below (tr_ (h := by exact (Kd.R_mono (Kd.R_far (p := ⟨gb493, 2, none⟩) (Kd.R_far (p := ⟨gb493, 1, none⟩) (Kd.R_far (p := ⟨gb493, 0, none⟩) (Kd.R_types HO486.out BK493.out (by decide)) (fun _ hk => hk.2) (.int .i64 t487)) (fun _ hk => hk.2) (.int .i64 t488)) (fun _ hk => hk.2) (.slice Ao124 t489.length co124)) (fun _ h_ => h_.1)))) hb); replace HO491 := A_ (Kd.R_below (tr_ (h := by exact (Kd.R_mono (Kd.R_far (p := ⟨gb493, 2, none⟩) (Kd.R_far (p := ⟨gb493, 1, none⟩) (Kd.R_far (p := ⟨gb493, 0, none⟩) (Kd.R_types HO491.out BK493.out (by decide)) (fun _ hk => hk.2) (.int .i64 t487)) (fun _ hk => hk.2) (.int .i64 t488)) (fun _ hk => hk.2) (.slice Ao124 t489.length co124)) (fun _ h_ => h_.1)))) hb); replace BK442 := A_ (blk_below (g := gb442) (o := .cells #[.int .i64 a0_0, .int .i64 a0_1, .slice A0_2 l0_2.length c0_2] 24 (0, 0)) (tk_ BK442) hb); replace BK455 := A_ (blk_below (g := gb455) (o := .cells #[.int .i64 t449, .int .i64 t450, .slice Ao23 t451.length co23] 26 (0, 0)) (tk_ BK455) hb); replace BK461 := A_ (blk_below (g := gb461) (o := .cells #[.int .i64 t456, .int .i64 t457, .slice Ao30 t477.length co30] 26 (0, 0)) (tk_ BK461) hb); replace BK468 := A_ (blk_below (g := gb468) (o := .cells #[.int .i64 t462, .int .i64 t463, .slice Ao37 t464.length co37] 26 (0, 0)) (tk_ BK468) hb); replace BK493 := A_ (blk_below (g := gb493) (o := .cells #[.int .i64 t487, .int .i64 t488, .slice Ao124 t489.length co124] 26 (0, 0)) (by (with_reducible repeat (first | refine blk_drewN ?_ _ | refine blk_drew ?_ | refine blk_alloc ?_ _)); refine blk_put (cs := #[.int .i64 t487, .int .i64 t488, .slice none 0 0]) ?_ 2 _ rfl; (with_reducible repeat (first | refine blk_drewN ?_ _ | refine blk_drew ?_ | refine blk_alloc ?_ _)); refine blk_put (cs := #[.int .i64 t487, .int .i64 0, .slice none 0 0]) ?_ 1 _ rfl; (with_reducible repeat (first | refine blk_drewN ?_ _ | refine blk_drew ?_ | refine blk_alloc ?_ _)); refine blk_put (cs := #[.int .i64 0, .int .i64 0, .slice none 0 0]) ?_ 0 _ rfl; (with_reducible repeat (first | refine blk_drewN ?_ _ | refine blk_drew ?_ | refine blk_alloc ?_ _)); exact BK493.out) hb); replace HB := A_ (below_step tb_ hb); (try clear hb)))
             go_meet
             case rel => exact ⟨_, ((t492 != t454)), tf_, H', ⟨by have := HJ11.out; have := HJ60.out; first | omega | exact Nat.le_refl _⟩, ⟨by (try simp only [hl462002_60]); (with_reducible repeat (first | apply Kd.R_alloc | apply Kd.R_drewN | apply Kd.R_drew)); exact Kd.R_mono HO_456002.out om_⟩, ⟨by (try simp only [hl462002_60]); (with_reducible repeat (first | apply Kd.R_alloc | apply Kd.R_drewN | apply Kd.R_drew)); exact Kd.R_mono HO_462002.out om_⟩, ⟨by (try simp only [hl462002_60]); (with_reducible repeat (first | apply Kd.R_alloc | apply Kd.R_drewN | apply Kd.R_drew)); exact Kd.R_mono HO_469002.out om_⟩, ⟨by (try simp only [hl462002_60]); (with_reducible repeat (first | apply Kd.R_alloc | apply Kd.R_drewN | apply Kd.R_drew)); exact Kd.R_mono HO491.out om_⟩, ⟨by (try simp only [hl462002_60]); (with_reducible repeat (first | refine blk_drewN ?_ _ | refine blk_drew ?_ | refine blk_alloc ?_ _)); exact BK442.out⟩, ⟨by (try simp only [hl462002_60]); (with_reducible repeat (first | refine blk_drewN ?_ _ | refine blk_drew ?_ | refine blk_alloc ?_ _)); exact BK455.out⟩, ⟨by (try simp only [hl462002_60]); (with_reducible repeat (first | refine blk_drewN ?_ _ | refine blk_drew ?_ | refine blk_alloc ?_ _)); exact BK461.out⟩, ⟨by (try simp only [hl462002_60]); (with_reducible repeat (first | refine blk_drewN ?_ _ | refine blk_drew ?_ | refine blk_alloc ?_ _)); exact BK468.out⟩, ⟨by (try simp only [hl462002_60]); (with_reducible repeat (first | refine blk_drewN ?_ _ | refine blk_drew ?_ | refine blk_alloc ?_ _)); exact BK493.out⟩, ⟨tb_⟩⟩
            ·
             replace c126 := Bool.eq_false_iff.mpr c126
             subst c126
             have H1 : (laws_FnExactColourBoard.j2 kj60 t479 true t462 t463 t480) = some r := by rw [if_neg (show ¬ (false = true) by decide)] at H; exact H
             clear H
             have H := H1
             clear H1
             have H' := A_ H
             clear H
             have hnb137 := NB493_442.out
             have hnc137 := NB442_493.out
             have hnb138 := NB493_455.out
             have hnc138 := NB455_493.out
             have hnb139 := NB493_461.out
             have hnc139 := NB461_493.out
             have hnb140 := NB493_468.out
             have hnc140 := NB468_493.out
             obtain ⟨hcz141_0, hcz141_1, hcz141_2, hfz141_0, hfz141_1, hfz141_2⟩ := cf3_ BK493.out
             have hnb142 := NB455_442.out
             have hnc142 := NB442_455.out
             have hnb143 := NB455_461.out
             have hnc143 := NB461_455.out
             have hnb144 := NB455_468.out
             have hnc144 := NB468_455.out
             obtain ⟨hcz145_0, hcz145_1, hcz145_2, hfz145_0, hfz145_1, hfz145_2⟩ := cf3_ BK455.out
             go_wp2_with (first | (refine gc_ 21 ?_; refine goesT_ (some 86) Try.func21 #[.agg #[.int .i64 t487, .int .i64 t488, .slice Ao124 t489.length co124], .agg #[.int .i64 t449, .int .i64 t450, .slice Ao23 t451.length co23]] ?_; (with_reducible refine (laws_eqBoard.calls kj60 t487 t488 _ _ t489 t449 t450 _ _ t451 false _ ?side1 ?side2 ?side3 ?side4 A125.out).mono ?_); (case side1 => refine (Kd.R_reads' (e := 3) (base := w.heap.size) (ok := fun k_ => ((((True ∧ some k_ ≠ (.slice Ao23 t451.length co23 : Value).ownBlock) ∧ some k_ ≠ (.slice Ao30 t477.length co30 : Value).ownBlock) ∧ some k_ ≠ (.slice Ao37 t464.length co37 : Value).ownBlock) ∧ some k_ ≠ (.slice Ao116 t484.length co116 : Value).ownBlock)) (n := t489.length) (c := co124) ?_).2.2; exact (tr_ (h := by exact (Kd.R_mono (Kd.R_far (p := ⟨gb493, 2, none⟩) (Kd.R_far (p := ⟨gb493, 1, none⟩) (Kd.R_far (p := ⟨gb493, 0, none⟩) (Kd.R_types HO491.out BK493.out (by decide)) (fun _ hk => hk.2) (.int .i64 t487)) (fun _ hk => hk.2) (.int .i64 t488)) (fun _ hk => hk.2) (.slice Ao124 t489.length co124)) (fun _ h_ => h_.1))))); (case side2 => exact (Kd.R_reads' HO491.out).2.1); (case side3 => refine (Kd.R_reads' (e := 3) (base := w.heap.size) (ok := fun k_ => (((some k_ ≠ (.slice Ao30 t477.length co30 : Value).ownBlock ∧ some k_ ≠ (.slice Ao37 t464.length co37 : Value).ownBlock) ∧ some k_ ≠ (.slice Ao116 t484.length co116 : Value).ownBlock) ∧ some k_ ≠ (.slice Ao124 t489.length co124 : Value).ownBlock)) (n := t451.length) (c := co23) ?_).2.2; exact (tr_ (h := by exact (Kd.R_mono (Kd.R_far (p := ⟨gb493, 2, none⟩) (Kd.R_far (p := ⟨gb493, 1, none⟩) (Kd.R_far (p := ⟨gb493, 0, none⟩) (Kd.R_types HO_456002.out BK493.out (by decide)) (fun _ hk => hk.2) (.int .i64 t487)) (fun _ hk => hk.2) (.int .i64 t488)) (fun _ hk => hk.2) (.slice Ao124 t489.length co124)) (fun _ h_ => h_.1))))); (case side4 => exact (Kd.R_reads' HO_456002.out).2.1); rintro e w146 ⟨rfl, hb⟩; refine ⟨_, rfl, ?_⟩; replace HO_456002 := A_ (Kd.R_below (tr_ (h := by exact (Kd.R_mono (Kd.R_far (p := ⟨gb493, 2, none⟩) (Kd.R_far (p := ⟨gb493, 1, none⟩) (Kd.R_far (p := ⟨gb493, 0, none⟩) (Kd.R_types HO_456002.out BK493.out (by decide)) (fun _ hk => hk.2) (.int .i64 t487)) (fun _ hk => hk.2) (.int .i64 t488)) (fun _ hk => hk.2) (.slice Ao124 t489.length co124)) (fun _ h_ => h_.1)))) hb); replace HO_462002 := A_ (Kd.R_below (tr_ (h := by exact (Kd.R_mono (Kd.R_far (p := ⟨gb493, 2, none⟩) (Kd.R_far (p := ⟨gb493, 1, none⟩) (Kd.R_far (p := ⟨gb493, 0, none⟩) (Kd.R_types HO_462002.out BK493.out (by decide)) (fun _ hk => hk.2) (.int .i64 t487)) (fun _ hk => hk.2) (.int .i64 t488)) (fun _ hk => hk.2) (.slice Ao124 t489.length co124)) (fun _ h_ => h_.1)))) hb); replace HO_469002 := A_ (Kd.R_below (tr_ (h := by exact (Kd.R_mono (Kd.R_far (p := ⟨gb493, 2, none⟩) (Kd.R_far (p := ⟨gb493, 1, none⟩) (Kd.R_far (p := ⟨gb493, 0, none⟩) (Kd.R_types HO_469002.out BK493.out (by decide)) (fun _ hk => hk.2) (.int .i64 t487)) (fun _ hk => hk.2) (.int .i64 t488)) (fun _ hk => hk.2) (.slice Ao124 t489.length co124)) (fun _ h_ => h_.1)))) hb); replace HO486 := A_ (Kd.R_below (tr_ (h := by exact (Kd.R_mono (Kd.R_far (p := ⟨gb493, 2, none⟩) (Kd.R_far (p := ⟨gb493, 1, none⟩) (Kd.R_far (p := ⟨gb493, 0, none⟩) (Kd.R_types HO486.out BK493.out (by decide)) (fun _ hk => hk.2) (.int .i64 t487)) (fun _ hk => hk.2) (.int .i64 t488)) (fun _ hk => hk.2) (.slice Ao124 t489.length co124)) (fun _ h_ => h_.1)))) hb); replace HO491 := A_ (Kd.R_below (tr_ (h := by exact (Kd.R_mono (Kd.R_far (p := ⟨gb493, 2, none⟩) (Kd.R_far (p := ⟨gb493, 1, none⟩) (Kd.R_far (p := ⟨gb493, 0, none⟩) (Kd.R_types HO491.out BK493.out (by decide)) (fun _ hk => hk.2) (.int .i64 t487)) (fun _ hk => hk.2) (.int .i64 t488)) (fun _ hk => hk.2) (.slice Ao124 t489.length co124)) (fun _ h_ => h_.1)))) hb); replace BK442 := A_ (blk_below (g := gb442) (o := .cells #[.int .i64 a0_0, .int .i64 a0_1, .slice A0_2 l0_2.length c0_2] 24 (0, 0)) (tk_ BK442) hb); replace BK455 := A_ (blk_below (g := gb455) (o := .cells #[.int .i64 t449, .int .i64 t450, .slice Ao23 t451.length co23] 26 (0, 0)) (tk_ BK455) hb); replace BK461 := A_ (blk_below (g := gb461) (o := .cells #[.int .i64 t456, .int .i64 t457, .slice Ao30 t477.length co30] 26 (0, 0)) (tk_ BK461) hb); replace BK468 := A_ (blk_below (g := gb468) (o := .cells #[.int .i64 t462, .int .i64 t463, .slice Ao37 t464.length co37] 26 (0, 0)) (tk_ BK468) hb); replace BK493 := A_ (blk_below (g := gb493) (o := .cells #[.int .i64 t487, .int .i64 t488, .slice Ao124 t489.length co124] 26 (0, 0)) (by (with_reducible repeat (first | refine blk_drewN ?_ _ | refine blk_drew ?_ | refine blk_alloc ?_ _)); refine blk_put (cs := #[.int .i64 t487, .int .i64 t488, .slice none 0 0]) ?_ 2 _ rfl; (with_reducible repeat (first | refine blk_drewN ?_ _ | refine blk_drew ?_ | refine blk_alloc ?_ _)); refine blk_put (cs := #[.int .i64 t487, .int .i64 0, .slice none 0 0]) ?_ 1 _ rfl; (with_reducible repeat (first | refine blk_drewN ?_ _ | refine blk_drew ?_ | refine blk_alloc ?_ _)); refine blk_put (cs := #[.int .i64 0, .int .i64 0, .slice none 0 0]) ?_ 0 _ rfl; (with_reducible repeat (first | refine blk_drewN ?_ _ | refine blk_drew ?_ | refine blk_alloc ?_ _)); exact BK493.out) hb); replace HB := A_ (below_step tb_ hb); (try clear hb)))
             go_meet
             case rel => exact ⟨_, (true), tf_, H', ⟨by have := HJ11.out; have := HJ60.out; first | omega | exact Nat.le_refl _⟩, ⟨by (try simp only [hl462002_60]); (with_reducible repeat (first | apply Kd.R_alloc | apply Kd.R_drewN | apply Kd.R_drew)); exact Kd.R_mono HO_456002.out om_⟩, ⟨by (try simp only [hl462002_60]); (with_reducible repeat (first | apply Kd.R_alloc | apply Kd.R_drewN | apply Kd.R_drew)); exact Kd.R_mono HO_462002.out om_⟩, ⟨by (try simp only [hl462002_60]); (with_reducible repeat (first | apply Kd.R_alloc | apply Kd.R_drewN | apply Kd.R_drew)); exact Kd.R_mono HO_469002.out om_⟩, ⟨by (try simp only [hl462002_60]); (with_reducible repeat (first | apply Kd.R_alloc | apply Kd.R_drewN | apply Kd.R_drew)); exact Kd.R_mono HO491.out om_⟩, ⟨by (try simp only [hl462002_60]); (with_reducible repeat (first | refine blk_drewN ?_ _ | refine blk_drew ?_ | refine blk_alloc ?_ _)); exact BK442.out⟩, ⟨by (try simp only [hl462002_60]); (with_reducible repeat (first | refine blk_drewN ?_ _ | refine blk_drew ?_ | refine blk_alloc ?_ _)); exact BK455.out⟩, ⟨by (try simp only [hl462002_60]); (with_reducible repeat (first | refine blk_drewN ?_ _ | refine blk_drew ?_ | refine blk_alloc ?_ _)); exact BK461.out⟩, ⟨by (try simp only [hl462002_60]); (with_reducible repeat (first | refine blk_drewN ?_ _ | refine blk_drew ?_ | refine blk_alloc ?_ _)); exact BK468.out⟩, ⟨by (try simp only [hl462002_60]); (with_reducible repeat (first | refine blk_drewN ?_ _ | refine blk_drew ?_ | refine blk_alloc ?_ _)); exact BK493.out⟩, ⟨tb_⟩⟩
           case rest =>
            clear HC104
            try clear c1
            try clear c2
            try clear p2
            try clear c3
            try clear c4
            try clear c4b0
            try clear c5
            try clear c6
            try clear c7
            try clear c8
            try clear c9
            try clear c10
            try clear c11
            try clear c12
            try clear c13
            try clear c14
            try clear c17
            try clear c18
            try clear c19
            try clear c20
            try clear c21
            try clear c22
            try clear c23
            try clear c27
            try clear c28
            try clear c33
            try clear c34
            try clear c35
            try clear c39
            try clear c40
            try clear c41
            try clear c42
            try clear c44
            try clear c45
            try clear c48
            try clear c49
            try clear c50
            try clear c52
            try clear c53
            try clear c56
            try clear c59
            try clear c66
            try clear c67
            try clear c68
            try clear c71
            try clear c71b0
            try clear c73
            try clear c74
            try clear c75
            try clear c76
            try clear c78
            try clear c79
            try clear c82
            try clear c83
            try clear c84
            try clear c86
            try clear c87
            try clear c90
            try clear c93
            try clear c93b0
            try clear c94
            try clear c95
            try clear c96
            try clear c101
            try clear c101b0
            try clear c101b1
            try clear c105
            try clear c106
            try clear c107
            try clear c112
            try clear c113
            try clear c119
            try clear c120
            try clear c121
            try clear c122
            try clear c126
            try clear c127
            try clear c128
            try clear c129
            try clear c130
            try clear c132
            try clear c133
            try clear c134
            try clear c137
            try clear c138
            try clear c139
            try clear c140
            try clear c142
            try clear c143
            try clear c144
            try clear hcz108_0
            try clear hcz108_1
            try clear hcz108_2
            try clear hcz110_0
            try clear hcz110_1
            try clear hcz110_2
            try clear hcz114_0
            try clear hcz114_1
            try clear hcz114_2
            try clear hcz123_0
            try clear hcz123_1
            try clear hcz123_2
            try clear hcz131_0
            try clear hcz131_1
            try clear hcz131_2
            try clear hcz135_0
            try clear hcz135_1
            try clear hcz135_2
            try clear hcz141_0
            try clear hcz141_1
            try clear hcz141_2
            try clear hcz145_0
            try clear hcz145_1
            try clear hcz145_2
            try clear hcz14_0
            try clear hcz14_1
            try clear hcz14_2
            try clear hcz16_0
            try clear hcz16_1
            try clear hcz16_2
            try clear hcz22_0
            try clear hcz22_1
            try clear hcz22_2
            try clear hcz24_0
            try clear hcz24_1
            try clear hcz24_2
            try clear hcz29_0
            try clear hcz29_1
            try clear hcz29_2
            try clear hcz36_0
            try clear hcz36_1
            try clear hcz36_2
            try clear hcz43_0
            try clear hcz43_1
            try clear hcz43_2
            try clear hcz46_0
            try clear hcz46_1
            try clear hcz46_2
            try clear hcz51_0
            try clear hcz51_1
            try clear hcz51_2
            try clear hcz54_0
            try clear hcz54_1
            try clear hcz54_2
            try clear hcz69_0
            try clear hcz69_1
            try clear hcz69_2
            try clear hcz6_0
            try clear hcz6_1
            try clear hcz6_2
            try clear hcz77_0
            try clear hcz77_1
            try clear hcz77_2
            try clear hcz80_0
            try clear hcz80_1
            try clear hcz80_2
            try clear hcz85_0
            try clear hcz85_1
            try clear hcz85_2
            try clear hcz88_0
            try clear hcz88_1
            try clear hcz88_2
            try clear hcz97_0
            try clear hcz97_1
            try clear hcz97_2
            try clear hcz99_0
            try clear hcz99_1
            try clear hcz99_2
            try clear hfz108_0
            try clear hfz108_1
            try clear hfz108_2
            try clear hfz110_0
            try clear hfz110_1
            try clear hfz110_2
            try clear hfz114_0
            try clear hfz114_1
            try clear hfz114_2
            try clear hfz123_0
            try clear hfz123_1
            try clear hfz123_2
            try clear hfz131_0
            try clear hfz131_1
            try clear hfz131_2
            try clear hfz135_0
            try clear hfz135_1
            try clear hfz135_2
            try clear hfz141_0
            try clear hfz141_1
            try clear hfz141_2
            try clear hfz145_0
            try clear hfz145_1
            try clear hfz145_2
            try clear hfz14_0
            try clear hfz14_1
            try clear hfz14_2
            try clear hfz16_0
            try clear hfz16_1
            try clear hfz16_2
            try clear hfz22_0
            try clear hfz22_1
            try clear hfz22_2
            try clear hfz24_0
            try clear hfz24_1
            try clear hfz24_2
            try clear hfz29_0
            try clear hfz29_1
            try clear hfz29_2
            try clear hfz36_0
            try clear hfz36_1
            try clear hfz36_2
            try clear hfz43_0
            try clear hfz43_1
            try clear hfz43_2
            try clear hfz46_0
            try clear hfz46_1
            try clear hfz46_2
            try clear hfz51_0
            try clear hfz51_1
            try clear hfz51_2
            try clear hfz54_0
            try clear hfz54_1
            try clear hfz54_2
            try clear hfz69_0
            try clear hfz69_1
            try clear hfz69_2
            try clear hfz6_0
            try clear hfz6_1
            try clear hfz6_2
            try clear hfz77_0
            try clear hfz77_1
            try clear hfz77_2
            try clear hfz80_0
            try clear hfz80_1
            try clear hfz80_2
            try clear hfz85_0
            try clear hfz85_1
            try clear hfz85_2
            try clear hfz88_0
            try clear hfz88_1
            try clear hfz88_2
            try clear hfz97_0
            try clear hfz97_1
            try clear hfz97_2
            try clear hfz99_0
            try clear hfz99_1
            try clear hfz99_2
            try clear p2
            obtain ⟨kq, x92_103, rfl, HA, HJ103, HO_456002, HO_462002, HO_469002, HO_494002, BK442, BK455, BK461, BK468, BK493, HB⟩ := hcut
            have hl469002_103 := (Kd.R_reads' HO_469002.out).1
            rw [hl469002_103] at HO_469002
            (try simp only [hl469002_103])
            (try simp only [hl469002_103] at BK442)
            (try simp only [hl469002_103] at BK455)
            (try simp only [hl469002_103] at BK461)
            (try simp only [hl469002_103] at BK468)
            (try simp only [hl469002_103] at BK493)
            (try simp only [hl469002_103] at HO_456002)
            (try simp only [hl469002_103] at HO_462002)
            (try simp only [hl469002_103] at HO_494002)
            cases kq with
            | zero => exact absurd HA.out (by simp [laws_FnExactColourBoard.j2])
            | succ kj103 =>
             have H := HA.out
             clear HA
             simp only [laws_FnExactColourBoard.j2] at H
             by_cases c147 : x92_103 = true
             ·
              subst c147
              have H1 : (some false) = some r := by rw [if_pos rfl] at H; exact H
              clear H
              have H := H1
              clear H1
              obtain rfl := Option.some.inj H
              go_wp2
              go_ret
              exact ⟨te_, tb_⟩
             ·
              replace c147 := Bool.eq_false_iff.mpr c147
              subst c147
              have H1 : ((laws_heldBoard.f kj103 t462 t463 t480 1).bind fun t495 => (if t495 < 0 then (some false) else (if t495 = t479 then (some true) else (some false)))) = some r := by rw [if_neg (show ¬ (false = true) by decide)] at H; exact H
              clear H
              have H := H1
              clear H1
              replace H := Option.bind_eq_some_iff.mp H
              obtain ⟨t495, A1480, H⟩ := H
              replace H : (if t495 < 0 then (some false) else (if t495 = t479 then (some true) else (some false))) = some r := H
              have A148 := A_ A1480
              clear A1480
              by_cases c149 : t495 < 0
              ·
               rw [if_pos c149] at H
               have c149b0 := decide_eq_true c149
               clear c149
               obtain rfl := Option.some.inj H
               have hnb150 := NB468_442.out
               have hnc150 := NB442_468.out
               have hnb151 := NB468_455.out
               have hnc151 := NB455_468.out
               have hnb152 := NB468_461.out
               have hnc152 := NB461_468.out
               have hnb153 := NB468_493.out
               have hnc153 := NB493_468.out
               obtain ⟨hcz154_0, hcz154_1, hcz154_2, hfz154_0, hfz154_1, hfz154_2⟩ := cf3_ BK468.out
               go_wp2_with (first | (refine gc_ 23 ?_; refine goesT_ (some 95) Try.func23 #[.agg #[.int .i64 t462, .int .i64 t463, .slice Ao37 t480.length co37], .int .i64 1] ?_; (with_reducible refine (laws_heldBoard.calls kj103 t462 t463 _ _ t480 1 t495 _ ?side1 ?side2 A148.out).mono ?_); (case side1 => exact tc0_ (Kd.R_reads' HO_469002.out).2.2); (case side2 => exact (Kd.R_reads' HO_469002.out).2.1); rintro e w155 ⟨rfl, hb⟩; refine ⟨_, rfl, ?_⟩; replace HO_456002 := A_ (Kd.R_below (tr_x HO_456002.out) hb); replace HO_462002 := A_ (Kd.R_below (tr_x HO_462002.out) hb); replace HO_469002 := A_ (Kd.R_below (tr_x HO_469002.out) hb); replace HO_494002 := A_ (Kd.R_below (tr_x HO_494002.out) hb); replace BK442 := A_ (blk_below (g := gb442) (o := .cells #[.int .i64 a0_0, .int .i64 a0_1, .slice A0_2 l0_2.length c0_2] 24 (0, 0)) (tk_ BK442) hb); replace BK455 := A_ (blk_below (g := gb455) (o := .cells #[.int .i64 t449, .int .i64 t450, .slice Ao23 t451.length co23] 26 (0, 0)) (tk_ BK455) hb); replace BK461 := A_ (blk_below (g := gb461) (o := .cells #[.int .i64 t456, .int .i64 t457, .slice Ao30 t477.length co30] 26 (0, 0)) (tk_ BK461) hb); replace BK468 := A_ (blk_below (g := gb468) (o := .cells #[.int .i64 t462, .int .i64 t463, .slice Ao37 t480.length co37] 26 (0, 0)) (tk_ BK468) hb); replace BK493 := A_ (blk_below (g := gb493) (o := .cells #[.int .i64 t487, .int .i64 t488, .slice Ao124 t489.length co124] 26 (0, 0)) (tk_ BK493) hb); replace HB := A_ (below_step tb_ hb); (try clear hb)))
               go_ret
               exact ⟨te_, tb_⟩
              ·
               rw [if_neg c149] at H
               have c149b0 := decide_eq_false c149
               clear c149
               by_cases c156 : t495 = t479
               ·
                rw [if_pos c156] at H
                have c156b0 : (t495 == t479) = true := beq_iff_eq.mpr c156
                have c156b1 : (t495 != t479) = false := bne_eq_false_iff_eq.mpr c156
                clear c156
                obtain rfl := Option.some.inj H
                have hnb157 := NB468_442.out
                have hnc157 := NB442_468.out
                have hnb158 := NB468_455.out
                have hnc158 := NB455_468.out
                have hnb159 := NB468_461.out
                have hnc159 := NB461_468.out
                have hnb160 := NB468_493.out
                have hnc160 := NB493_468.out
                obtain ⟨hcz161_0, hcz161_1, hcz161_2, hfz161_0, hfz161_1, hfz161_2⟩ := cf3_ BK468.out
                go_wp2_with (first | (refine gc_ 23 ?_; refine goesT_ (some 95) Try.func23 #[.agg #[.int .i64 t462, .int .i64 t463, .slice Ao37 t480.length co37], .int .i64 1] ?_; (with_reducible refine (laws_heldBoard.calls kj103 t462 t463 _ _ t480 1 t495 _ ?side1 ?side2 A148.out).mono ?_); (case side1 => exact tc0_ (Kd.R_reads' HO_469002.out).2.2); (case side2 => exact (Kd.R_reads' HO_469002.out).2.1); rintro e w162 ⟨rfl, hb⟩; refine ⟨_, rfl, ?_⟩; replace HO_456002 := A_ (Kd.R_below (tr_x HO_456002.out) hb); replace HO_462002 := A_ (Kd.R_below (tr_x HO_462002.out) hb); replace HO_469002 := A_ (Kd.R_below (tr_x HO_469002.out) hb); replace HO_494002 := A_ (Kd.R_below (tr_x HO_494002.out) hb); replace BK442 := A_ (blk_below (g := gb442) (o := .cells #[.int .i64 a0_0, .int .i64 a0_1, .slice A0_2 l0_2.length c0_2] 24 (0, 0)) (tk_ BK442) hb); replace BK455 := A_ (blk_below (g := gb455) (o := .cells #[.int .i64 t449, .int .i64 t450, .slice Ao23 t451.length co23] 26 (0, 0)) (tk_ BK455) hb); replace BK461 := A_ (blk_below (g := gb461) (o := .cells #[.int .i64 t456, .int .i64 t457, .slice Ao30 t477.length co30] 26 (0, 0)) (tk_ BK461) hb); replace BK468 := A_ (blk_below (g := gb468) (o := .cells #[.int .i64 t462, .int .i64 t463, .slice Ao37 t480.length co37] 26 (0, 0)) (tk_ BK468) hb); replace BK493 := A_ (blk_below (g := gb493) (o := .cells #[.int .i64 t487, .int .i64 t488, .slice Ao124 t489.length co124] 26 (0, 0)) (tk_ BK493) hb); replace HB := A_ (below_step tb_ hb); (try clear hb)))
                go_ret
                exact ⟨te_, tb_⟩
               ·
                rw [if_neg c156] at H
                have c156b0 : (t495 == t479) = false := beq_eq_false_iff_ne.mpr c156
                have c156b1 : (t495 != t479) = true := bne_iff_ne.mpr c156
                obtain rfl := Option.some.inj H
                have hnb163 := NB468_442.out
                have hnc163 := NB442_468.out
                have hnb164 := NB468_455.out
                have hnc164 := NB455_468.out
                have hnb165 := NB468_461.out
                have hnc165 := NB461_468.out
                have hnb166 := NB468_493.out
                have hnc166 := NB493_468.out
                obtain ⟨hcz167_0, hcz167_1, hcz167_2, hfz167_0, hfz167_1, hfz167_2⟩ := cf3_ BK468.out
                go_wp2_with (first | (refine gc_ 23 ?_; refine goesT_ (some 95) Try.func23 #[.agg #[.int .i64 t462, .int .i64 t463, .slice Ao37 t480.length co37], .int .i64 1] ?_; (with_reducible refine (laws_heldBoard.calls kj103 t462 t463 _ _ t480 1 t495 _ ?side1 ?side2 A148.out).mono ?_); (case side1 => exact tc0_ (Kd.R_reads' HO_469002.out).2.2); (case side2 => exact (Kd.R_reads' HO_469002.out).2.1); rintro e w168 ⟨rfl, hb⟩; refine ⟨_, rfl, ?_⟩; replace HO_456002 := A_ (Kd.R_below (tr_x HO_456002.out) hb); replace HO_462002 := A_ (Kd.R_below (tr_x HO_462002.out) hb); replace HO_469002 := A_ (Kd.R_below (tr_x HO_469002.out) hb); replace HO_494002 := A_ (Kd.R_below (tr_x HO_494002.out) hb); replace BK442 := A_ (blk_below (g := gb442) (o := .cells #[.int .i64 a0_0, .int .i64 a0_1, .slice A0_2 l0_2.length c0_2] 24 (0, 0)) (tk_ BK442) hb); replace BK455 := A_ (blk_below (g := gb455) (o := .cells #[.int .i64 t449, .int .i64 t450, .slice Ao23 t451.length co23] 26 (0, 0)) (tk_ BK455) hb); replace BK461 := A_ (blk_below (g := gb461) (o := .cells #[.int .i64 t456, .int .i64 t457, .slice Ao30 t477.length co30] 26 (0, 0)) (tk_ BK461) hb); replace BK468 := A_ (blk_below (g := gb468) (o := .cells #[.int .i64 t462, .int .i64 t463, .slice Ao37 t480.length co37] 26 (0, 0)) (tk_ BK468) hb); replace BK493 := A_ (blk_below (g := gb493) (o := .cells #[.int .i64 t487, .int .i64 t488, .slice Ao124 t489.length co124] 26 (0, 0)) (tk_ BK493) hb); replace HB := A_ (below_step tb_ hb); (try clear hb)))
                go_ret
                exact ⟨te_, tb_⟩
          ·
           rw [if_neg c101] at H
           have c101b0 : (t481 == t479) = false := beq_eq_false_iff_ne.mpr c101
           have c101b1 : (t481 != t479) = true := bne_iff_ne.mpr c101
           obtain rfl := Option.some.inj H
           have hnb169 := NB468_442.out
           have hnc169 := NB442_468.out
           have hnb170 := NB468_455.out
           have hnc170 := NB455_468.out
           have hnb171 := NB468_461.out
           have hnc171 := NB461_468.out
           obtain ⟨hcz172_0, hcz172_1, hcz172_2, hfz172_0, hfz172_1, hfz172_2⟩ := cf3_ BK468.out
           go_wp2_with (first | (refine gc_ 22 ?_; refine goesT_ (some 68) Try.func22 #[.agg #[.int .i64 t462, .int .i64 t463, .slice Ao37 t464.length co37], .int .i64 1] ?_; (with_reducible refine (laws_markBoard.calls kj60 t462 t463 (fun k_ => some k_ = (.slice Ao37 t464.length co37 : Value).ownBlock) (.slice Ao37 t464.length co37) t464 1 t479 t480 w _ ?side1 ?side2 A91.out).mono ?_); (case side1 => repeat (first | (with_reducible first | exact HB.out | apply below_alloc | apply pw_below_drewN | apply below_drew1 | refine below_set ?_ GE442.out | refine below_set ?_ GE455.out | refine below_set ?_ GE461.out | refine below_set ?_ GE468.out) | exact HB.out)); (case side2 => exact Kd.R_tight rfl HO_469002.out); rintro e w173 ⟨rfl, hy0, hb, hkp⟩; refine ⟨_, rfl, ?_⟩; replace HO_456002 := A_ (Kd.R_mono (ok' := fun k_ => some k_ ≠ (.slice Ao30 t477.length co30 : Value).ownBlock ∧ some k_ ≠ (.slice Ao37 t464.length co37 : Value).ownBlock) (Kd.R_keptB (HO_456002.out) hkp (fun k_ hk_ hs_ => (hk_.2) hs_)) (fun k_ hk_ => ⟨hk_.1.1, hk_.1.2⟩)); replace HO_462002 := A_ (Kd.R_mono (ok' := fun k_ => some k_ ≠ (.slice Ao23 t451.length co23 : Value).ownBlock ∧ some k_ ≠ (.slice Ao37 t464.length co37 : Value).ownBlock) (Kd.R_keptB (HO_462002.out) hkp (fun k_ hk_ hs_ => (hk_.2) hs_)) (fun k_ hk_ => ⟨hk_.1.1, hk_.1.2⟩)); replace BK442 := A_ (blk_kept (tk_ BK442) hkp (fun hs_ => (fun e_ => (Kd.R_ne HO_469002.out BK442.out (by decide)) e_) hs_)); replace BK455 := A_ (blk_kept (tk_ BK455) hkp (fun hs_ => (fun e_ => (Kd.R_ne HO_469002.out BK455.out (by decide)) e_) hs_)); replace BK461 := A_ (blk_kept (tk_ BK461) hkp (fun hs_ => (fun e_ => (Kd.R_ne HO_469002.out BK461.out (by decide)) e_) hs_)); replace BK468 := A_ (blk_kept (tk_ BK468) hkp (fun hs_ => (fun e_ => (Kd.R_ne HO_469002.out BK468.out (by decide)) e_) hs_)); replace HO_469002 := A_ (Kd.R_reok rfl hy0 (fun k_ e_ => HO_469002.out.1 k_ e_)); replace HB := A_ (hb); (try clear hb); (try clear hkp); (try clear hy0); obtain ⟨hcz174_0, hcz174_1, hcz174_2, hfz174_0, hfz174_1, hfz174_2⟩ := cf3_ BK468.out) | (refine gc_ 23 ?_; refine goesL_ (some 71) rfl rfl Try.func23 (by kernel_rfl) rfl #[.agg #[.int .i64 t462, .int .i64 t463, .slice Ao37 t480.length co37], .int .i64 1] rfl (by (try simp only [List.map_toArray, List.map_cons, List.map_nil]); first | done | (rw [show t480.length = t464.length from (Kd.R_reads' HO_469002.out).1.symm] <;> rfl) | rfl | (simp only [List.length_drop, List.length_take]; rfl)) ?_; (with_reducible refine (laws_heldBoard.calls kj60 t462 t463 _ _ t480 1 t481 _ ?side1 ?side2 A92.out).mono ?_); (case side1 => exact tc0_ (Kd.R_reads' HO_469002.out).2.2); (case side2 => rw [show t480.length = t464.length from (Kd.R_reads' HO_469002.out).1.symm]; exact (Kd.R_reads' HO_469002.out).2.1); rintro e w175 ⟨rfl, hb⟩; refine ⟨_, rfl, ?_⟩; replace HO_456002 := A_ (Kd.R_below (tr_x HO_456002.out) hb); replace HO_462002 := A_ (Kd.R_below (tr_x HO_462002.out) hb); replace HO_469002 := A_ (Kd.R_below (tr_x HO_469002.out) hb); replace BK442 := A_ (blk_below (g := gb442) (o := .cells #[.int .i64 a0_0, .int .i64 a0_1, .slice A0_2 l0_2.length c0_2] 24 (0, 0)) (tk_ BK442) hb); replace BK455 := A_ (blk_below (g := gb455) (o := .cells #[.int .i64 t449, .int .i64 t450, .slice Ao23 t451.length co23] 26 (0, 0)) (tk_ BK455) hb); replace BK461 := A_ (blk_below (g := gb461) (o := .cells #[.int .i64 t456, .int .i64 t457, .slice Ao30 t477.length co30] 26 (0, 0)) (tk_ BK461) hb); replace BK468 := A_ (blk_below (g := gb468) (o := .cells #[.int .i64 t462, .int .i64 t463, .slice Ao37 t464.length co37] 26 (0, 0)) (tk_ BK468) hb); replace HB := A_ (below_step tb_ hb); (try clear hb)))
           go_ret
           exact ⟨te_, tb_⟩
     ·
      replace c59 := Bool.eq_false_iff.mpr c59
      subst c59
      have H1 : (some false) = some r := by rw [if_neg (show ¬ (false = true) by decide)] at H; exact H
      clear H
      have H := H1
      clear H1
      obtain rfl := Option.some.inj H
      try go_wp2
      have n0_ := A_ (Kd.R_drew HO_456002.out)
      have n1_ := A_ (Kd.R_drew HO_462002.out)
      have n2_ := A_ (Kd.R_drew HO_469002.out)
      have n3_ := A_ (blk_drew BK442.out)
      have n4_ := A_ (blk_drew BK455.out)
      have n5_ := A_ (blk_drew BK461.out)
      have n6_ := A_ (blk_drew BK468.out)
      have n7_ := A_ (below_drew1 HB.out)
      clear HO_456002
      clear HO_462002
      clear HO_469002
      clear BK442
      clear BK455
      clear BK461
      clear BK468
      clear HB
      have HO_456002 := n0_
      have HO_462002 := n1_
      have HO_469002 := n2_
      have BK442 := n3_
      have BK455 := n4_
      have BK461 := n5_
      have BK468 := n6_
      have HB := n7_
      clear n0_ n1_ n2_ n3_ n4_ n5_ n6_ n7_
      refine start_ (n := 5) (S := fun w' => w'.cell? ⟨gb461, 0, none⟩ = some (.int .i64 t456) ∧ w'.cell? ⟨gb461, 1, none⟩ = some (.int .i64 t457) ∧ w'.cell? ⟨gb461, 2, none⟩ = some (.slice Ao30 t458.length co30) ∧ w'.cell? ⟨gb442, 0, none⟩ = some (.int .i64 a0_0) ∧ w'.cell? ⟨gb442, 1, none⟩ = some (.int .i64 a0_1) ∧ w'.cell? ⟨gb442, 2, none⟩ = some (.slice A0_2 l0_2.length c0_2)) (ds := []) (Fn.bl 5 0) (by kernel_rfl) rfl rfl ⟨(blk_cell BK461.out 0).trans rfl, (blk_cell BK461.out 1).trans rfl, (blk_cell BK461.out 2).trans rfl, (blk_cell BK442.out 0).trans rfl, (blk_cell BK442.out 1).trans rfl, (blk_cell BK442.out 2).trans rfl⟩ (fun hHeld => ?_)
      generalize wc.drew = w176 at HO_456002 HO_462002 HO_469002 BK442 BK455 BK461 BK468 HB hHeld ⊢
      refine take_ (i := 0) (N := some 45) (v := ?_) (a' := ?_) (Fn.bl 5 1) rfl rfl (by kernel_rfl) (fun _ _ _ h => h) (Or.inl ⟨by rfl, ?_⟩) hHeld ?_ ?_
      rotate_left
      ·
       rintro w' ⟨s0, s1, s2, s3, s4, s5⟩
       go_simp
       with_reducible rfl
      rotate_left
      ·
       simp only [Act.put, List.setIfInBounds_toArray, List.set_cons_zero, List.set_cons_succ, i64_w, i32_w]
       rfl
      refine take_ (i := 1) (N := some 46) (v := ?_) (a' := ?_) (Fn.bl 5 3) rfl rfl (by kernel_rfl) (fun _ _ _ h => h) (Or.inl ⟨by rfl, ?_⟩) hHeld ?_ ?_
      rotate_left
      ·
       rintro w' ⟨s0, s1, s2, s3, s4, s5⟩
       go_simp
       with_reducible rfl
      rotate_left
      ·
       simp only [Act.put, List.setIfInBounds_toArray, List.set_cons_zero, List.set_cons_succ, i64_w, i32_w]
       rfl
      refine one_ (i := 2) (N := some 47) (Fn.bl 5 7) rfl rfl (by kernel_rfl) (by decide) (fun K hK => ?_)
      refine goes_ Try.func19 (by kernel_rfl) rfl #[.agg #[.int .i64 a0_0, .int .i64 a0_1, .slice A0_2 l0_2.length c0_2]] (by rfl) rfl rfl ta_ ?_
      with_reducible refine (laws_toBoard.calls kj11 a0_0 a0_1 _ _ l0_2 t470 t471 t472 _ ?side1 ?side2 A57.out).mono ?_
      (case side1 => exact tc_ HR0_2.out)
      (case side2 => exact HC0_2.out)
      rintro e w177 ⟨v473, rfl, ho0, hb⟩
      refine ⟨_, rfl, ?_⟩
      have n0_ := A_ (Kd.R_elder' (tr_x HO_456002.out) (Kd.R_base ho0) hb)
      have n1_ := A_ (Kd.R_elder' (tr_x HO_462002.out) (Kd.R_base ho0) hb)
      have n2_ := A_ (Kd.R_elder' (tr_x HO_469002.out) (Kd.R_base ho0) hb)
      have n3_ := A_ (Kd.R_lower (Kd.R_new' (Kd.R_new' (Kd.R_new' ho0 (Kd.R_lt (tr_x HO_456002.out))) (Kd.R_lt (tr_x HO_462002.out))) (Kd.R_lt (tr_x HO_469002.out))) (below_size tb_))
      have n4_ := A_ (blk_below (g := gb442) (o := .cells #[.int .i64 a0_0, .int .i64 a0_1, .slice A0_2 l0_2.length c0_2] 24 (0, 0)) (tk_ BK442) hb)
      have n5_ := A_ (blk_below (g := gb455) (o := .cells #[.int .i64 t449, .int .i64 t450, .slice Ao23 t451.length co23] 26 (0, 0)) (tk_ BK455) hb)
      have n6_ := A_ (blk_below (g := gb461) (o := .cells #[.int .i64 t456, .int .i64 t457, .slice Ao30 t458.length co30] 26 (0, 0)) (tk_ BK461) hb)
      have n7_ := A_ (blk_below (g := gb468) (o := .cells #[.int .i64 t462, .int .i64 t463, .slice Ao37 t464.length co37] 26 (0, 0)) (tk_ BK468) hb)
      have n8_ := A_ (below_step tb_ hb)
      clear HO_456002
      clear HO_462002
      clear HO_469002
      clear BK442
      clear BK455
      clear BK461
      clear BK468
      clear HB
      have HO_456002 := n0_
      have HO_462002 := n1_
      have HO_469002 := n2_
      have HO474 := n3_
      have BK442 := n4_
      have BK455 := n5_
      have BK461 := n6_
      have BK468 := n7_
      have HB := n8_
      clear n0_ n1_ n2_ n3_ n4_ n5_ n6_ n7_ n8_
      (try clear hb)
      (try clear hb2)
      (try clear hk)
      (try clear hi)
      (try clear ho0)
      obtain ⟨Ao178, co178, eo178⟩ := Kd.R_slice HO474.out
      (first | subst eo178 | (injection eo178 with f1_ f2_ f3_; have f4_ := f1_.symm; have f5_ := f3_.symm; clear f1_ f2_ f3_; subst f4_; subst f5_))
      refine hK.out _ _ ⟨(blk_cell BK461.out 0).trans rfl, (blk_cell BK461.out 1).trans rfl, (blk_cell BK461.out 2).trans rfl, (blk_cell BK442.out 0).trans rfl, (blk_cell BK442.out 1).trans rfl, (blk_cell BK442.out 2).trans rfl⟩ (fun hHeld => ?_)
      clear hK K
      refine norm_ (a' := ?_) ?_ ?_
      rotate_left
      ·
       show Act.put _ (some 47) _ = _
       simp only [Act.put, List.setIfInBounds_toArray, List.set_cons_zero, List.set_cons_succ, i64_w, i32_w]
       rfl
      refine one_ (i := 3) (N := some 48) (Fn.bl 5 15) rfl rfl (by kernel_rfl) (by decide) (fun K hK => ?_)
      refine goes_ Try.func21 (by kernel_rfl) rfl #[.agg #[.int .i64 t456, .int .i64 t457, .slice Ao30 t458.length co30], .agg #[.int .i64 t470, .int .i64 t471, .slice Ao178 t472.length co178]] (by rfl) rfl rfl ta_ ?_
      with_reducible refine (laws_eqBoard.calls kj11 t456 t457 _ _ t458 t470 t471 _ _ t472 false _ ?side1 ?side2 ?side3 ?side4 A58.out).mono ?_
      (case side1 => exact tc0_ (Kd.R_reads' HO_462002.out).2.2)
      (case side2 => exact (Kd.R_reads' HO_462002.out).2.1)
      (case side3 => exact tc0_ (Kd.R_reads' HO474.out).2.2)
      (case side4 => exact (Kd.R_reads' HO474.out).2.1)
      rintro e w179 ⟨rfl, hb⟩
      refine ⟨_, rfl, ?_⟩
      have n0_ := A_ (Kd.R_below (tr_x HO_456002.out) hb)
      have n1_ := A_ (Kd.R_below (tr_x HO_462002.out) hb)
      have n2_ := A_ (Kd.R_below (tr_x HO_469002.out) hb)
      have n3_ := A_ (Kd.R_below (tr_x HO474.out) hb)
      have n4_ := A_ (blk_below (g := gb442) (o := .cells #[.int .i64 a0_0, .int .i64 a0_1, .slice A0_2 l0_2.length c0_2] 24 (0, 0)) (tk_ BK442) hb)
      have n5_ := A_ (blk_below (g := gb455) (o := .cells #[.int .i64 t449, .int .i64 t450, .slice Ao23 t451.length co23] 26 (0, 0)) (tk_ BK455) hb)
      have n6_ := A_ (blk_below (g := gb461) (o := .cells #[.int .i64 t456, .int .i64 t457, .slice Ao30 t458.length co30] 26 (0, 0)) (tk_ BK461) hb)
      have n7_ := A_ (blk_below (g := gb468) (o := .cells #[.int .i64 t462, .int .i64 t463, .slice Ao37 t464.length co37] 26 (0, 0)) (tk_ BK468) hb)
      have n8_ := A_ (below_step tb_ hb)
      clear HO_456002
      clear HO_462002
      clear HO_469002
      clear HO474
      clear BK442
      clear BK455
      clear BK461
      clear BK468
      clear HB
      have HO_456002 := n0_
      have HO_462002 := n1_
      have HO_469002 := n2_
      have HO474 := n3_
      have BK442 := n4_
      have BK455 := n5_
      have BK461 := n6_
      have BK468 := n7_
      have HB := n8_
      clear n0_ n1_ n2_ n3_ n4_ n5_ n6_ n7_ n8_
      (try clear hb)
      (try clear hb2)
      (try clear hk)
      (try clear hi)
      refine hK.out _ _ ⟨(blk_cell BK461.out 0).trans rfl, (blk_cell BK461.out 1).trans rfl, (blk_cell BK461.out 2).trans rfl, (blk_cell BK442.out 0).trans rfl, (blk_cell BK442.out 1).trans rfl, (blk_cell BK442.out 2).trans rfl⟩ (fun hHeld => ?_)
      clear hK K
      refine norm_ (a' := ?_) ?_ ?_
      rotate_left
      ·
       show Act.put _ (some 48) _ = _
       simp only [Act.put, List.setIfInBounds_toArray, List.set_cons_zero, List.set_cons_succ, i64_w, i32_w]
       rfl
      refine pk_ 4 (some 49) (Fn.bl 5 31) ?_
      refine done_ (by kernel_rfl) ?_
      try go_wp2
      go_ret
      exact ⟨te_, tb_⟩

/-- THE ONE PURE STATEMENT of laws_FnExactColourBoard: yours. -/
def laws_FnExactColourBoard.Pure : Prop := ∀ (a0_0 : Int) (a0_1 : Int) (l0_2 : List Int) (a1 : Int), Fn.okI a0_0 → Fn.okI a0_1 → (Fn.okL Fn.okI) l0_2 → Fn.okI a1 → ∃ k, laws_FnExactColourBoard.f k a0_0 a0_1 l0_2 a1 = some true

end
end Go.Proofs.Ythlcaikplebpmaa.P
