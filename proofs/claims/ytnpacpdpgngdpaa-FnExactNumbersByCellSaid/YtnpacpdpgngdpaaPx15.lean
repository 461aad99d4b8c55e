-- printed by wip/hprint.py of this session (the kit's print.py, patched in memory)
import Derived.Test.YtnpacpdpgngdpaaPx0
import Derived.Test.YtnpacpdpgngdpaaPx1
import Derived.Test.YtnpacpdpgngdpaaPx5
import Derived.Test.YtnpacpdpgngdpaaPx6
import Derived.Test.YtnpacpdpgngdpaaPx12
import Derived.Test.YtnpacpdpgngdpaaPx13
import Derived.Test.YtnpacpdpgngdpaaPx14
namespace Go.Proofs.Ytnpacpdpgngdpaa.P
noncomputable section
set_option maxHeartbeats 8000000
set_option maxRecDepth 100000
open Go.RowKit Go.Proofs.YtnpacpdpgngdpaaW.PrintWords Go.Proofs.YtnpacpdpgngdpaaW.PrintLast Go.Proofs.YtnpacpdpgngdpaaW.PrintMore
attribute [local go_sem] max2_int min2_int max_two min_two max_three min_three max_four min_four   -- for this text's walks alone
set_option linter.unusedVariables false
set_option linter.unusedSimpArgs false

/-! ### laws_FnExactNumbersByCell: function 3 -/
mutual
def laws_FnExactNumbersByCell.j0 : Nat → Int → Int → List Int → List Int → Bool → List Int → List Int → Bool → Bool → Int → Int → List Int → Int → Int → List Int → Option (Bool)
 | 0, _, _, _, _, _, _, _, _, _, _, _, _, _, _, _ => none
 | k + 1, x1, x2, x8, x9, x10, x12, x13, x14, x59, x266000, x266001, x266002, x285000, x285001, x285002 => if x59 = true then (some false) else ((laws_toBoard.f k x266000 x266001 x266002).bind fun bt294 => ((laws_eqBoard.f k x285000 x285001 x285002 bt294.1 bt294.2.1 bt294.2.2).bind fun t299 => (if t299 = true then ((laws_markBoard.f k x285000 x285001 x285002 1).bind fun bt300 => (if bt300.1 < 0 then (laws_FnExactNumbersByCell.j1 k x1 x2 x8 x9 x10 x12 x13 true x266000 x266001 x266002) else ((laws_eqIntS.f k x12 x8).bind fun t302 => (if t302 = true then ((laws_eqIntS.f k x13 x9).bind fun t303 => (if t303 = true then (laws_FnExactNumbersByCell.j1 k x1 x2 x8 x9 x10 x12 x13 (x14 != x10) x266000 x266001 x266002) else (laws_FnExactNumbersByCell.j1 k x1 x2 x8 x9 x10 x12 x13 true x266000 x266001 x266002))) else (laws_FnExactNumbersByCell.j1 k x1 x2 x8 x9 x10 x12 x13 true x266000 x266001 x266002))))) else (some false))))
def laws_FnExactNumbersByCell.j1 : Nat → Int → Int → List Int → List Int → Bool → List Int → List Int → Bool → Int → Int → List Int → Option (Bool)
 | 0, _, _, _, _, _, _, _, _, _, _, _ => none
 | k + 1, x1, x2, x8, x9, x10, x12, x13, x86, x266000, x266001, x266002 => if x86 = true then (some false) else ((laws_markIntS.f k x12 1).bind fun bt304 => ((laws_markIntS.f k x13 bt304.1).bind fun bt306 => ((laws_heldIntS.f k bt304.2 1).bind fun t308 => (if t308 < 0 then (some false) else ((laws_heldIntS.f k bt306.2 t308).bind fun t309 => (if t309 < 0 then (some false) else (if t309 = bt306.1 then ((laws_toBoard.f k x266000 x266001 x266002).bind fun bt310 => ((impl_NumbersByCell.f k bt310.1 bt310.2.1 bt310.2.2 x1 x2).bind fun bt315 => ((laws_eqIntS.f k bt315.1 x8).bind fun t322 => (if t322 = true then ((laws_eqIntS.f k bt315.2.1 x9).bind fun t323 => (if t323 = true then (laws_FnExactNumbersByCell.j2 k bt304.2 bt306.2 bt306.1 (bt315.2.2 != x10)) else (laws_FnExactNumbersByCell.j2 k bt304.2 bt306.2 bt306.1 true))) else (laws_FnExactNumbersByCell.j2 k bt304.2 bt306.2 bt306.1 true))))) else (some false))))))))
def laws_FnExactNumbersByCell.j2 : Nat → List Int → List Int → Int → Bool → Option (Bool)
 | 0, _, _, _, _ => none
 | k + 1, x12, x13, x16, x129 => if x129 = true then (some false) else ((laws_heldIntS.f k x12 1).bind fun t324 => (if t324 < 0 then (some false) else ((laws_heldIntS.f k x13 t324).bind fun t325 => (if t325 < 0 then (some false) else (if t325 = x16 then (some true) else (some false))))))
end
def laws_FnExactNumbersByCell.f (k : Nat) (a0_0 : Int) (a0_1 : Int) (l0_2 : List Int) (a1 : Int) (a2 : Int) : Option (Bool) := (laws_szBoard.f a0_0 a0_1 l0_2 1048576).bind fun t266 => (if t266 < 0 then (some true) else ((laws_toBoard.f k a0_0 a0_1 l0_2).bind fun bt267 => ((spec_NumbersByCell.f k bt267.1 bt267.2.1 bt267.2.2 a1 a2).bind fun bt272 => ((laws_toBoard.f k a0_0 a0_1 l0_2).bind fun bt279 => ((impl_NumbersByCell.f k bt279.1 bt279.2.1 bt279.2.2 a1 a2).bind fun bt285 => ((laws_eqIntS.f k bt285.1 bt272.1).bind fun t292 => (if t292 = true then ((laws_eqIntS.f k bt285.2.1 bt272.2.1).bind fun t293 => (if t293 = true then (laws_FnExactNumbersByCell.j0 k a1 a2 bt272.1 bt272.2.1 bt272.2.2 bt285.1 bt285.2.1 bt285.2.2 (bt285.2.2 != bt272.2.2) a0_0 a0_1 l0_2 bt279.1 bt279.2.1 bt279.2.2) else (laws_FnExactNumbersByCell.j0 k a1 a2 bt272.1 bt272.2.1 bt272.2.2 bt285.1 bt285.2.1 bt285.2.2 true a0_0 a0_1 l0_2 bt279.1 bt279.2.1 bt279.2.2))) else (laws_FnExactNumbersByCell.j0 k a1 a2 bt272.1 bt272.2.1 bt272.2.2 bt285.1 bt285.2.1 bt285.2.2 true a0_0 a0_1 l0_2 bt279.1 bt279.2.1 bt279.2.2))))))))
theorem laws_FnExactNumbersByCell.mono_l : ∀ k, (∀ y0 y1 y2 y3 y4 y5 y6 y7 y8 y9 y10 y11 y12 y13 y14, LeO (laws_FnExactNumbersByCell.j0 k y0 y1 y2 y3 y4 y5 y6 y7 y8 y9 y10 y11 y12 y13 y14) (laws_FnExactNumbersByCell.j0 (k + 1) y0 y1 y2 y3 y4 y5 y6 y7 y8 y9 y10 y11 y12 y13 y14)) ∧ (∀ y0 y1 y2 y3 y4 y5 y6 y7 y8 y9 y10, LeO (laws_FnExactNumbersByCell.j1 k y0 y1 y2 y3 y4 y5 y6 y7 y8 y9 y10) (laws_FnExactNumbersByCell.j1 (k + 1) y0 y1 y2 y3 y4 y5 y6 y7 y8 y9 y10)) ∧ (∀ y0 y1 y2 y3, LeO (laws_FnExactNumbersByCell.j2 k y0 y1 y2 y3) (laws_FnExactNumbersByCell.j2 (k + 1) y0 y1 y2 y3))
 | 0 => ⟨fun _ _ _ _ _ _ _ _ _ _ _ _ _ _ _ r h => by simp [laws_FnExactNumbersByCell.j0] at h, fun _ _ _ _ _ _ _ _ _ _ _ r h => by simp [laws_FnExactNumbersByCell.j1] at h, fun _ _ _ _ r h => by simp [laws_FnExactNumbersByCell.j2] at h⟩
 | k + 1 => by
  obtain ⟨ih0, ih1, ih2⟩ := laws_FnExactNumbersByCell.mono_l k
  refine ⟨?_, ?_, ?_⟩
  ·
   intro y0 y1 y2 y3 y4 y5 y6 y7 y8 y9 y10 y11 y12 y13 y14
   unfold laws_FnExactNumbersByCell.j0
   repeat' first | (with_reducible first | exact ih0 _ _ _ _ _ _ _ _ _ _ _ _ _ _ _ | exact ih1 _ _ _ _ _ _ _ _ _ _ _ | exact ih2 _ _ _ _ | exact impl_NumbersByCell.mono _ _ _ _ _ _ | exact laws_eqBoard.mono _ _ _ _ _ _ _ | exact laws_eqIntS.mono _ _ _ | exact laws_heldIntS.mono _ _ _ | exact laws_markBoard.mono _ _ _ _ _ | exact laws_markIntS.mono _ _ _ | exact laws_toBoard.mono _ _ _ _ | exact spec_NumbersByCell.mono _ _ _ _ _ _ | exact LeO.refl _ | exact LeO.none _ | refine LeO.ite ?_ ?_ | refine LeO.bind ?_ (fun _ => ?_)) | exact ih0 _ _ _ _ _ _ _ _ _ _ _ _ _ _ _ | exact ih1 _ _ _ _ _ _ _ _ _ _ _ | exact ih2 _ _ _ _ | exact impl_NumbersByCell.mono _ _ _ _ _ _ | exact laws_eqBoard.mono _ _ _ _ _ _ _ | exact laws_eqIntS.mono _ _ _ | exact laws_heldIntS.mono _ _ _ | exact laws_markBoard.mono _ _ _ _ _ | exact laws_markIntS.mono _ _ _ | exact laws_toBoard.mono _ _ _ _ | exact spec_NumbersByCell.mono _ _ _ _ _ _ | exact LeO.none _ | refine LeO.ite ?_ ?_ | refine LeO.bind ?_ (fun _ => ?_)
  ·
   intro y0 y1 y2 y3 y4 y5 y6 y7 y8 y9 y10
   unfold laws_FnExactNumbersByCell.j1
   repeat' first | (with_reducible first | exact ih0 _ _ _ _ _ _ _ _ _ _ _ _ _ _ _ | exact ih1 _ _ _ _ _ _ _ _ _ _ _ | exact ih2 _ _ _ _ | exact impl_NumbersByCell.mono _ _ _ _ _ _ | exact laws_eqBoard.mono _ _ _ _ _ _ _ | exact laws_eqIntS.mono _ _ _ | exact laws_heldIntS.mono _ _ _ | exact laws_markBoard.mono _ _ _ _ _ | exact laws_markIntS.mono _ _ _ | exact laws_toBoard.mono _ _ _ _ | exact spec_NumbersByCell.mono _ _ _ _ _ _ | exact LeO.refl _ | exact LeO.none _ | refine LeO.ite ?_ ?_ | refine LeO.bind ?_ (fun _ => ?_)) | exact ih0 _ _ _ _ _ _ _ _ _ _ _ _ _ _ _ | exact ih1 _ _ _ _ _ _ _ _ _ _ _ | exact ih2 _ _ _ _ | exact impl_NumbersByCell.mono _ _ _ _ _ _ | exact laws_eqBoard.mono _ _ _ _ _ _ _ | exact laws_eqIntS.mono _ _ _ | exact laws_heldIntS.mono _ _ _ | exact laws_markBoard.mono _ _ _ _ _ | exact laws_markIntS.mono _ _ _ | exact laws_toBoard.mono _ _ _ _ | exact spec_NumbersByCell.mono _ _ _ _ _ _ | exact LeO.none _ | refine LeO.ite ?_ ?_ | refine LeO.bind ?_ (fun _ => ?_)
  ·
   intro y0 y1 y2 y3
   unfold laws_FnExactNumbersByCell.j2
   repeat' first | (with_reducible first | exact ih0 _ _ _ _ _ _ _ _ _ _ _ _ _ _ _ | exact ih1 _ _ _ _ _ _ _ _ _ _ _ | exact ih2 _ _ _ _ | exact impl_NumbersByCell.mono _ _ _ _ _ _ | exact laws_eqBoard.mono _ _ _ _ _ _ _ | exact laws_eqIntS.mono _ _ _ | exact laws_heldIntS.mono _ _ _ | exact laws_markBoard.mono _ _ _ _ _ | exact laws_markIntS.mono _ _ _ | exact laws_toBoard.mono _ _ _ _ | exact spec_NumbersByCell.mono _ _ _ _ _ _ | exact LeO.refl _ | exact LeO.none _ | refine LeO.ite ?_ ?_ | refine LeO.bind ?_ (fun _ => ?_)) | exact ih0 _ _ _ _ _ _ _ _ _ _ _ _ _ _ _ | exact ih1 _ _ _ _ _ _ _ _ _ _ _ | exact ih2 _ _ _ _ | exact impl_NumbersByCell.mono _ _ _ _ _ _ | exact laws_eqBoard.mono _ _ _ _ _ _ _ | exact laws_eqIntS.mono _ _ _ | exact laws_heldIntS.mono _ _ _ | exact laws_markBoard.mono _ _ _ _ _ | exact laws_markIntS.mono _ _ _ | exact laws_toBoard.mono _ _ _ _ | exact spec_NumbersByCell.mono _ _ _ _ _ _ | exact LeO.none _ | refine LeO.ite ?_ ?_ | refine LeO.bind ?_ (fun _ => ?_)
theorem laws_FnExactNumbersByCell.mono : ∀ a0 a1 a2 a3 a4 k, LeO (laws_FnExactNumbersByCell.f k a0 a1 a2 a3 a4) (laws_FnExactNumbersByCell.f (k + 1) a0 a1 a2 a3 a4) := by
 intro a0 a1 a2 a3 a4 k
 obtain ⟨ih0, ih1, ih2⟩ := laws_FnExactNumbersByCell.mono_l k
 unfold laws_FnExactNumbersByCell.f
 repeat' first | (with_reducible first | exact ih0 _ _ _ _ _ _ _ _ _ _ _ _ _ _ _ | exact ih1 _ _ _ _ _ _ _ _ _ _ _ | exact ih2 _ _ _ _ | exact impl_NumbersByCell.mono _ _ _ _ _ _ | exact laws_eqBoard.mono _ _ _ _ _ _ _ | exact laws_eqIntS.mono _ _ _ | exact laws_heldIntS.mono _ _ _ | exact laws_markBoard.mono _ _ _ _ _ | exact laws_markIntS.mono _ _ _ | exact laws_toBoard.mono _ _ _ _ | exact spec_NumbersByCell.mono _ _ _ _ _ _ | exact LeO.refl _ | exact LeO.none _ | refine LeO.ite ?_ ?_ | refine LeO.bind ?_ (fun _ => ?_)) | exact ih0 _ _ _ _ _ _ _ _ _ _ _ _ _ _ _ | exact ih1 _ _ _ _ _ _ _ _ _ _ _ | exact ih2 _ _ _ _ | exact impl_NumbersByCell.mono _ _ _ _ _ _ | exact laws_eqBoard.mono _ _ _ _ _ _ _ | exact laws_eqIntS.mono _ _ _ | exact laws_heldIntS.mono _ _ _ | exact laws_markBoard.mono _ _ _ _ _ | exact laws_markIntS.mono _ _ _ | exact laws_toBoard.mono _ _ _ _ | exact spec_NumbersByCell.mono _ _ _ _ _ _ | exact LeO.none _ | refine LeO.ite ?_ ?_ | refine LeO.bind ?_ (fun _ => ?_)
theorem laws_FnExactNumbersByCell.calls (k : Nat) (a0_0 : Int) (a0_1 : Int) (A0_2 : Option Addr) (c0_2 : Nat) (l0_2 : List Int) (a1 : Int) (a2 : Int) (r : Bool) (w : World) (hr0_2 : Kd.C (Kd.int .i64) w A0_2 l0_2.length l0_2) (hc0_2 : l0_2.length ≤ c0_2) (h : laws_FnExactNumbersByCell.f k a0_0 a0_1 l0_2 a1 a2 = some r) :
  Calls Try.prog 3 #[.agg #[.int .i64 a0_0, .int .i64 a0_1, .slice A0_2 l0_2.length c0_2], .int .i64 a1, .int .i64 a2] w fun e w' => e = .returned (.bool r) ∧ Below w.heap.size w w' := by
 have hu24 := Try.underlying24
 have hu28 := Try.underlying28
 have HR0_2 := A_ hr0_2
 have HC0_2 := A_ hc0_2
 clear hr0_2 hc0_2
 have HB := A_ (Below.refl w.heap.size w)
 have H : ((laws_szBoard.f a0_0 a0_1 l0_2 1048576).bind fun t266 => (if t266 < 0 then (some true) else ((laws_toBoard.f k a0_0 a0_1 l0_2).bind fun bt267 => ((spec_NumbersByCell.f k bt267.1 bt267.2.1 bt267.2.2 a1 a2).bind fun bt272 => ((laws_toBoard.f k a0_0 a0_1 l0_2).bind fun bt279 => ((impl_NumbersByCell.f k bt279.1 bt279.2.1 bt279.2.2 a1 a2).bind fun bt285 => ((laws_eqIntS.f k bt285.1 bt272.1).bind fun t292 => (if t292 = true then ((laws_eqIntS.f k bt285.2.1 bt272.2.1).bind fun t293 => (if t293 = true then (laws_FnExactNumbersByCell.j0 k a1 a2 bt272.1 bt272.2.1 bt272.2.2 bt285.1 bt285.2.1 bt285.2.2 (bt285.2.2 != bt272.2.2) a0_0 a0_1 l0_2 bt279.1 bt279.2.1 bt279.2.2) else (laws_FnExactNumbersByCell.j0 k a1 a2 bt272.1 bt272.2.1 bt272.2.2 bt285.1 bt285.2.1 bt285.2.2 true a0_0 a0_1 l0_2 bt279.1 bt279.2.1 bt279.2.2))) else (laws_FnExactNumbersByCell.j0 k a1 a2 bt272.1 bt272.2.1 bt272.2.2 bt285.1 bt285.2.1 bt285.2.2 true a0_0 a0_1 l0_2 bt279.1 bt279.2.1 bt279.2.2))))))))) = some r := h
 clear h
 replace H := Option.bind_eq_some_iff.mp H
 obtain ⟨t266, A40, H⟩ := H
 replace H : (if t266 < 0 then (some true) else ((laws_toBoard.f k a0_0 a0_1 l0_2).bind fun bt267 => ((spec_NumbersByCell.f k bt267.1 bt267.2.1 bt267.2.2 a1 a2).bind fun bt272 => ((laws_toBoard.f k a0_0 a0_1 l0_2).bind fun bt279 => ((impl_NumbersByCell.f k bt279.1 bt279.2.1 bt279.2.2 a1 a2).bind fun bt285 => ((laws_eqIntS.f k bt285.1 bt272.1).bind fun t292 => (if t292 = true then ((laws_eqIntS.f k bt285.2.1 bt272.2.1).bind fun t293 => (if t293 = true then (laws_FnExactNumbersByCell.j0 k a1 a2 bt272.1 bt272.2.1 bt272.2.2 bt285.1 bt285.2.1 bt285.2.2 (bt285.2.2 != bt272.2.2) a0_0 a0_1 l0_2 bt279.1 bt279.2.1 bt279.2.2) else (laws_FnExactNumbersByCell.j0 k a1 a2 bt272.1 bt272.2.1 bt272.2.2 bt285.1 bt285.2.1 bt285.2.2 true a0_0 a0_1 l0_2 bt279.1 bt279.2.1 bt279.2.2))) else (laws_FnExactNumbersByCell.j0 k a1 a2 bt272.1 bt272.2.1 bt272.2.2 bt285.1 bt285.2.1 bt285.2.2 true a0_0 a0_1 l0_2 bt279.1 bt279.2.1 bt279.2.2)))))))) = some r := H
 have A4 := A_ A40
 clear A40
 by_cases c5 : t266 < 0
 ·
  rw [if_pos c5] at H
  have c5b0 := decide_eq_true c5
  clear c5
  obtain rfl := Option.some.inj H
  go_enter Try.func3, Try.ntmps3
  go_wp2_with (first | (refine gd_ 3 ?_; refine bx_ 3 #[.int .i64 a0_0, .int .i64 a0_1, .slice A0_2 l0_2.length c0_2] 24 ?_; intro gb265 hg w6 hbox hb; have BK265 := A_ (hbox); have GW265 := A_ ((ts_ hg : w.heap.size ≤ gb265)); have GE265 := A_ ((ts_ hg : w.heap.size ≤ gb265)); replace HB := A_ (below_step tb_ hb); clear hb hbox hg; obtain ⟨hcz7_0, hcz7_1, hcz7_2, hfz7_0, hfz7_1, hfz7_2⟩ := cf3_ BK265.out) | (refine gc_ 17 ?_; refine goesT_ (some 23) Try.func17 #[.agg #[.int .i64 a0_0, .int .i64 a0_1, .slice A0_2 l0_2.length c0_2], .int .i64 1048576] ?_; (with_reducible refine (laws_szBoard.calls a0_0 a0_1 _ _ l0_2 1048576 t266 _ ?side1 ?side2 A4.out).mono ?_); (case side1 => exact tc_ HR0_2.out); (case side2 => exact HC0_2.out); rintro e w8 ⟨rfl, hb⟩; refine ⟨_, rfl, ?_⟩; replace BK265 := A_ (blk_below (g := gb265) (o := .cells #[.int .i64 a0_0, .int .i64 a0_1, .slice A0_2 l0_2.length c0_2] 24 (0, 0)) (tk_ BK265) hb); replace HB := A_ (below_step tb_ hb); (try clear hb)))
  go_ret
  exact ⟨te_, tb_⟩
 ·
  rw [if_neg c5] at H
  have c5b0 := decide_eq_false c5
  clear c5
  replace H := Option.bind_eq_some_iff.mp H
  obtain ⟨⟨t267, t268, t269⟩, A90, H⟩ := H
  replace H : ((spec_NumbersByCell.f k t267 t268 t269 a1 a2).bind fun bt272 => ((laws_toBoard.f k a0_0 a0_1 l0_2).bind fun bt279 => ((impl_NumbersByCell.f k bt279.1 bt279.2.1 bt279.2.2 a1 a2).bind fun bt285 => ((laws_eqIntS.f k bt285.1 bt272.1).bind fun t292 => (if t292 = true then ((laws_eqIntS.f k bt285.2.1 bt272.2.1).bind fun t293 => (if t293 = true then (laws_FnExactNumbersByCell.j0 k a1 a2 bt272.1 bt272.2.1 bt272.2.2 bt285.1 bt285.2.1 bt285.2.2 (bt285.2.2 != bt272.2.2) a0_0 a0_1 l0_2 bt279.1 bt279.2.1 bt279.2.2) else (laws_FnExactNumbersByCell.j0 k a1 a2 bt272.1 bt272.2.1 bt272.2.2 bt285.1 bt285.2.1 bt285.2.2 true a0_0 a0_1 l0_2 bt279.1 bt279.2.1 bt279.2.2))) else (laws_FnExactNumbersByCell.j0 k a1 a2 bt272.1 bt272.2.1 bt272.2.2 bt285.1 bt285.2.1 bt285.2.2 true a0_0 a0_1 l0_2 bt279.1 bt279.2.1 bt279.2.2)))))) = some r := H
  have A9 := A_ A90
  clear A90
  replace H := Option.bind_eq_some_iff.mp H
  obtain ⟨⟨t272, t275, t278⟩, A100, H⟩ := H
  replace H : ((laws_toBoard.f k a0_0 a0_1 l0_2).bind fun bt279 => ((impl_NumbersByCell.f k bt279.1 bt279.2.1 bt279.2.2 a1 a2).bind fun bt285 => ((laws_eqIntS.f k bt285.1 t272).bind fun t292 => (if t292 = true then ((laws_eqIntS.f k bt285.2.1 t275).bind fun t293 => (if t293 = true then (laws_FnExactNumbersByCell.j0 k a1 a2 t272 t275 t278 bt285.1 bt285.2.1 bt285.2.2 (bt285.2.2 != t278) a0_0 a0_1 l0_2 bt279.1 bt279.2.1 bt279.2.2) else (laws_FnExactNumbersByCell.j0 k a1 a2 t272 t275 t278 bt285.1 bt285.2.1 bt285.2.2 true a0_0 a0_1 l0_2 bt279.1 bt279.2.1 bt279.2.2))) else (laws_FnExactNumbersByCell.j0 k a1 a2 t272 t275 t278 bt285.1 bt285.2.1 bt285.2.2 true a0_0 a0_1 l0_2 bt279.1 bt279.2.1 bt279.2.2))))) = some r := H
  have A10 := A_ A100
  clear A100
  replace H := Option.bind_eq_some_iff.mp H
  obtain ⟨⟨t279, t280, t281⟩, A110, H⟩ := H
  replace H : ((impl_NumbersByCell.f k t279 t280 t281 a1 a2).bind fun bt285 => ((laws_eqIntS.f k bt285.1 t272).bind fun t292 => (if t292 = true then ((laws_eqIntS.f k bt285.2.1 t275).bind fun t293 => (if t293 = true then (laws_FnExactNumbersByCell.j0 k a1 a2 t272 t275 t278 bt285.1 bt285.2.1 bt285.2.2 (bt285.2.2 != t278) a0_0 a0_1 l0_2 t279 t280 t281) else (laws_FnExactNumbersByCell.j0 k a1 a2 t272 t275 t278 bt285.1 bt285.2.1 bt285.2.2 true a0_0 a0_1 l0_2 t279 t280 t281))) else (laws_FnExactNumbersByCell.j0 k a1 a2 t272 t275 t278 bt285.1 bt285.2.1 bt285.2.2 true a0_0 a0_1 l0_2 t279 t280 t281)))) = some r := H
  have A11 := A_ A110
  clear A110
  replace H := Option.bind_eq_some_iff.mp H
  obtain ⟨⟨t285, t288, t291⟩, A120, H⟩ := H
  replace H : ((laws_eqIntS.f k t285 t272).bind fun t292 => (if t292 = true then ((laws_eqIntS.f k t288 t275).bind fun t293 => (if t293 = true then (laws_FnExactNumbersByCell.j0 k a1 a2 t272 t275 t278 t285 t288 t291 (t291 != t278) a0_0 a0_1 l0_2 t279 t280 t281) else (laws_FnExactNumbersByCell.j0 k a1 a2 t272 t275 t278 t285 t288 t291 true a0_0 a0_1 l0_2 t279 t280 t281))) else (laws_FnExactNumbersByCell.j0 k a1 a2 t272 t275 t278 t285 t288 t291 true a0_0 a0_1 l0_2 t279 t280 t281))) = some r := H
  have A12 := A_ A120
  clear A120
  have HC13 := A_ H
  clear H
  go_enter Try.func3, Try.ntmps3
  go_upto_region 8 with (first | (refine gd_ 3 ?_; refine bx_ 3 #[.int .i64 a0_0, .int .i64 a0_1, .slice A0_2 l0_2.length c0_2] 24 ?_; intro gb265 hg w14 hbox hb; have BK265 := A_ (hbox); have GW265 := A_ ((ts_ hg : w.heap.size ≤ gb265)); have GE265 := A_ ((ts_ hg : w.heap.size ≤ gb265)); replace HB := A_ (below_step tb_ hb); clear hb hbox hg; obtain ⟨hcz15_0, hcz15_1, hcz15_2, hfz15_0, hfz15_1, hfz15_2⟩ := cf3_ BK265.out) | (refine gc_ 17 ?_; refine goesT_ (some 23) Try.func17 #[.agg #[.int .i64 a0_0, .int .i64 a0_1, .slice A0_2 l0_2.length c0_2], .int .i64 1048576] ?_; (with_reducible refine (laws_szBoard.calls a0_0 a0_1 _ _ l0_2 1048576 t266 _ ?side1 ?side2 A4.out).mono ?_); (case side1 => exact tc_ HR0_2.out); (case side2 => exact HC0_2.out); rintro e w16 ⟨rfl, hb⟩; refine ⟨_, rfl, ?_⟩; replace BK265 := A_ (blk_below (g := gb265) (o := .cells #[.int .i64 a0_0, .int .i64 a0_1, .slice A0_2 l0_2.length c0_2] 24 (0, 0)) (tk_ BK265) hb); replace HB := A_ (below_step tb_ hb); (try clear hb); obtain ⟨hcz17_0, hcz17_1, hcz17_2, hfz17_0, hfz17_1, hfz17_2⟩ := cf3_ BK265.out) | (refine gc_ 19 ?_; refine goesT_ (some 28) Try.func19 #[.agg #[.int .i64 a0_0, .int .i64 a0_1, .slice A0_2 l0_2.length c0_2]] ?_; (with_reducible refine (laws_toBoard.calls k a0_0 a0_1 _ _ l0_2 t267 t268 t269 _ ?side1 ?side2 A9.out).mono ?_); (case side1 => exact tc_ HR0_2.out); (case side2 => exact HC0_2.out); rintro e w18 ⟨v270, rfl, ho0, hb⟩; refine ⟨_, rfl, ?_⟩; have HO271 := A_ (Kd.R_lower ho0 (below_size tb_)); replace BK265 := A_ (blk_below (g := gb265) (o := .cells #[.int .i64 a0_0, .int .i64 a0_1, .slice A0_2 l0_2.length c0_2] 24 (0, 0)) (tk_ BK265) hb); replace HB := A_ (below_step tb_ hb); (try clear hb); (try clear ho0); obtain ⟨Ao19, co19, eo19⟩ := Kd.R_slice HO271.out; subst eo19) | (refine gc_ 18 ?_; refine goesT_ (some 31) Try.func18 #[.agg #[.int .i64 t267, .int .i64 t268, .slice Ao19 t269.length co19], .int .i64 a1, .int .i64 a2] ?_; (with_reducible refine (spec_NumbersByCell.calls k t267 t268 _ _ t269 a1 a2 t272 t275 t278 _ ?side1 ?side2 A10.out).mono ?_); (case side1 => exact tc0_ (Kd.R_reads' HO271.out).2.2); (case side2 => exact (Kd.R_reads' HO271.out).2.1); rintro e w20 ⟨v273, v276, rfl, ho0, ho1, hb⟩; refine ⟨_, rfl, ?_⟩; have HO274 := A_ (Kd.R_lower (Kd.R_new' ho0 (Kd.R_lt (tr_x HO271.out))) (below_size tb_)); have HO277 := A_ (Kd.R_lower (Kd.R_new' ho1 (Kd.R_lt (tr_x HO271.out))) (below_size tb_)); replace HO271 := A_ (Kd.R_mono (Kd.R_told (Kd.R_told (Kd.R_old (tr_x HO271.out) hb) (Kd.R_base ho0)) (Kd.R_base ho1)) (fun _ h_ => h_.1)); replace BK265 := A_ (blk_below (g := gb265) (o := .cells #[.int .i64 a0_0, .int .i64 a0_1, .slice A0_2 l0_2.length c0_2] 24 (0, 0)) (tk_ BK265) hb); replace HB := A_ (below_step tb_ hb); (try clear hb); (try clear ho0); (try clear ho1); obtain ⟨hcz21_0, hcz21_1, hcz21_2, hfz21_0, hfz21_1, hfz21_2⟩ := cf3_ BK265.out) | (refine gc_ 19 ?_; refine goesT_ (some 36) Try.func19 #[.agg #[.int .i64 a0_0, .int .i64 a0_1, .slice A0_2 l0_2.length c0_2]] ?_; (with_reducible refine (laws_toBoard.calls k a0_0 a0_1 _ _ l0_2 t279 t280 t281 _ ?side1 ?side2 A11.out).mono ?_); (case side1 => exact tc_ HR0_2.out); (case side2 => exact HC0_2.out); rintro e w22 ⟨v282, rfl, ho0, hb⟩; refine ⟨_, rfl, ?_⟩; have HO283 := A_ (Kd.R_lower (Kd.R_new' (Kd.R_new' (Kd.R_new' ho0 (Kd.R_lt (tr_x HO271.out))) (Kd.R_lt (tr_x HO274.out))) (Kd.R_lt (tr_x HO277.out))) (below_size tb_)); replace HO271 := A_ (Kd.R_elder' (tr_x HO271.out) (Kd.R_base ho0) hb); replace HO274 := A_ (Kd.R_elder' (tr_x HO274.out) (Kd.R_base ho0) hb); replace HO277 := A_ (Kd.R_elder' (tr_x HO277.out) (Kd.R_base ho0) hb); replace BK265 := A_ (blk_below (g := gb265) (o := .cells #[.int .i64 a0_0, .int .i64 a0_1, .slice A0_2 l0_2.length c0_2] 24 (0, 0)) (tk_ BK265) hb); replace HB := A_ (below_step tb_ hb); (try clear hb); (try clear ho0)) | (refine gd_ 11 ?_; refine bx_ 11 #[.int .i64 0, .int .i64 0, .slice none 0 0] 28 ?_; intro gb284 hg w23 hbox hb; replace HO271 := A_ (Kd.R_below (tr_x HO271.out) hb); replace HO274 := A_ (Kd.R_below (tr_x HO274.out) hb); replace HO277 := A_ (Kd.R_below (tr_x HO277.out) hb); replace HO283 := A_ (Kd.R_below (tr_x HO283.out) hb); have BK284 := A_ (hbox); have GW284 := A_ ((ts_ hg : w.heap.size ≤ gb284)); have GE284 := A_ ((ts_ hg : w.heap.size ≤ gb284)); replace HB := A_ (below_step tb_ hb); have NB265_284 := A_ ((by rw [hg]; exact Nat.ne_of_lt (blk_lt (g := gb265) (o := .cells #[.int .i64 a0_0, .int .i64 a0_1, .slice A0_2 l0_2.length c0_2] 24 (0, 0)) (tk_ BK265)) : gb265 ≠ gb284)); have NB284_265 := A_ ((by rw [hg]; exact Nat.ne_of_gt (blk_lt (g := gb265) (o := .cells #[.int .i64 a0_0, .int .i64 a0_1, .slice A0_2 l0_2.length c0_2] 24 (0, 0)) (tk_ BK265)) : gb284 ≠ gb265)); replace BK265 := A_ (blk_below (g := gb265) (o := .cells #[.int .i64 a0_0, .int .i64 a0_1, .slice A0_2 l0_2.length c0_2] 24 (0, 0)) (tk_ BK265) hb); clear hb hbox hg; have hnb24 := NB284_265.out; have hnc24 := NB265_284.out; obtain ⟨hcz25_0, hcz25_1, hcz25_2, hfz25_0, hfz25_1, hfz25_2⟩ := cf3_ BK284.out; obtain ⟨Ao26, co26, eo26⟩ := Kd.R_slice HO283.out; subst eo26) | (refine gc_ 20 ?_; refine goesT_ (some 41) Try.func20 #[.agg #[.int .i64 t279, .int .i64 t280, .slice Ao26 t281.length co26], .int .i64 a1, .int .i64 a2] ?_; (with_reducible refine (impl_NumbersByCell.calls k t279 t280 _ _ t281 a1 a2 t285 t288 t291 _ ?side1 ?side2 A12.out).mono ?_); (case side1 => refine (Kd.R_reads' (e := 3) (base := w.heap.size) (ok := fun k_ => (((True ∧ some k_ ≠ (.slice Ao19 t269.length co19 : Value).ownBlock) ∧ some k_ ≠ (v273 : Value).ownBlock) ∧ some k_ ≠ (v276 : Value).ownBlock)) (n := t281.length) (c := co26) ?_).2.2; exact (tr_ (h := by exact (Kd.R_mono (Kd.R_far (p := ⟨gb284, 2, none⟩) (Kd.R_far (p := ⟨gb284, 1, none⟩) (Kd.R_far (p := ⟨gb284, 0, none⟩) (Kd.R_types HO283.out BK284.out (by decide)) (fun _ hk => hk.2) (.int .i64 t279)) (fun _ hk => hk.2) (.int .i64 t280)) (fun _ hk => hk.2) (.slice Ao26 t281.length co26)) (fun _ h_ => h_.1))))); (case side2 => exact (Kd.R_reads' HO283.out).2.1); rintro e w27 ⟨v286, v289, rfl, ho0, ho1, hb⟩; refine ⟨_, rfl, ?_⟩; have HO287 := A_ (Kd.R_lower (Kd.R_new' (Kd.R_new' (Kd.R_new' (Kd.R_new' ho0 (Kd.R_lt (tr_ (h := by exact (Kd.R_mono (Kd.R_far (p := ⟨gb284, 2, none⟩) (Kd.R_far (p := ⟨gb284, 1, none⟩) (Kd.R_far (p := ⟨gb284, 0, none⟩) (Kd.R_types HO271.out BK284.out (by decide)) (fun _ hk => hk.2) (.int .i64 t279)) (fun _ hk => hk.2) (.int .i64 t280)) (fun _ hk => hk.2) (.slice Ao26 t281.length co26)) (fun _ h_ => h_.1)))))) (Kd.R_lt (tr_ (h := by exact (Kd.R_mono (Kd.R_far (p := ⟨gb284, 2, none⟩) (Kd.R_far (p := ⟨gb284, 1, none⟩) (Kd.R_far (p := ⟨gb284, 0, none⟩) (Kd.R_types HO274.out BK284.out (by decide)) (fun _ hk => hk.2) (.int .i64 t279)) (fun _ hk => hk.2) (.int .i64 t280)) (fun _ hk => hk.2) (.slice Ao26 t281.length co26)) (fun _ h_ => h_.1)))))) (Kd.R_lt (tr_ (h := by exact (Kd.R_mono (Kd.R_far (p := ⟨gb284, 2, none⟩) (Kd.R_far (p := ⟨gb284, 1, none⟩) (Kd.R_far (p := ⟨gb284, 0, none⟩) (Kd.R_types HO277.out BK284.out (by decide)) (fun _ hk => hk.2) (.int .i64 t279)) (fun _ hk => hk.2) (.int .i64 t280)) (fun _ hk => hk.2) (.slice Ao26 t281.length co26)) (fun _ h_ => h_.1)))))) (Kd.R_lt (tr_ (h := by exact (Kd.R_mono (Kd.R_far (p := ⟨gb284, 2, none⟩) (Kd.R_far (p := ⟨gb284, 1, none⟩) (Kd.R_far (p := ⟨gb284, 0, none⟩) (Kd.R_types HO283.out BK284.out (by decide)) (fun _ hk => hk.2) (.int .i64 t279)) (fun _ hk => hk.2) (.int .i64 t280)) (fun _ hk => hk.2) (.slice Ao26 t281.length co26)) (fun _ h_ => h_.1)))))) (below_size tb_)); have HO290 := A_ (Kd.R_lower (Kd.R_new' (Kd.R_new' (Kd.R_new' (Kd.R_new' ho1 (Kd.R_lt (tr_ (h := by exact (Kd.R_mono (Kd.R_far (p := ⟨gb284, 2, none⟩) (Kd.R_far (p := ⟨gb284, 1, none⟩) (Kd.R_far (p := ⟨gb284, 0, none⟩) (Kd.R_types HO271.out BK284.out (by decide)) (fun _ hk => hk.2) (.int .i64 t279)) (fun _ hk => hk.2) (.int .i64 t280)) (fun _ hk => hk.2) (.slice Ao26 t281.length co26)) (fun _ h_ => h_.1)))))) (Kd.R_lt (tr_ (h := by exact (Kd.R_mono (Kd.R_far (p := ⟨gb284, 2, none⟩) (Kd.R_far (p := ⟨gb284, 1, none⟩) (Kd.R_far (p := ⟨gb284, 0, none⟩) (Kd.R_types HO274.out BK284.out (by decide)) (fun _ hk => hk.2) (.int .i64 t279)) (fun _ hk => hk.2) (.int .i64 t280)) (fun _ hk => hk.2) (.slice Ao26 t281.length co26)) (fun _ h_ => h_.1)))))) (Kd.R_lt (tr_ (h := by exact (Kd.R_mono (Kd.R_far (p := ⟨gb284, 2, none⟩) (Kd.R_far (p := ⟨gb284, 1, none⟩) (Kd.R_far (p := ⟨gb284, 0, none⟩) (Kd.R_types HO277.out BK284.out (by decide)) (fun _ hk => hk.2) (.int .i64 t279)) (fun _ hk => hk.2) (.int .i64 t280)) (fun _ hk => hk.2) (.slice Ao26 t281.length co26)) (fun _ h_ => h_.1)))))) (Kd.R_lt (tr_ (h := by exact (Kd.R_mono (Kd.R_far (p := ⟨gb284, 2, none⟩) (Kd.R_far (p := ⟨gb284, 1, none⟩) (Kd.R_far (p := ⟨gb284, 0, none⟩) (Kd.R_types HO283.out BK284.out (by decide)) (fun _ hk => hk.2) (.int .i64 t279)) (fun _ hk => hk.2) (.int .i64 t280)) (fun _ hk => hk.2) (.slice Ao26 t281.length co26)) (fun _ h_ => h_.1)))))) (below_size tb_)); replace HO271 := A_ (Kd.R_mono (Kd.R_told (Kd.R_told (Kd.R_old (tr_ (h := by exact (Kd.R_mono (Kd.R_far (p := ⟨gb284, 2, none⟩) (Kd.R_far (p := ⟨gb284, 1, none⟩) (Kd.R_far (p := ⟨gb284, 0, none⟩) (Kd.R_types HO271.out BK284.out (by decide)) (fun _ hk => hk.2) (.int .i64 t279)) (fun _ hk => hk.2) (.int .i64 t280)) (fun _ hk => hk.2) (.slice Ao26 t281.length co26)) (fun _ h_ => h_.1)))) hb) (Kd.R_base ho0)) (Kd.R_base ho1)) (fun _ h_ => h_.1)); replace HO274 := A_ (Kd.R_mono (Kd.R_told (Kd.R_told (Kd.R_old (tr_ (h := by exact (Kd.R_mono (Kd.R_far (p := ⟨gb284, 2, none⟩) (Kd.R_far (p := ⟨gb284, 1, none⟩) (Kd.R_far (p := ⟨gb284, 0, none⟩) (Kd.R_types HO274.out BK284.out (by decide)) (fun _ hk => hk.2) (.int .i64 t279)) (fun _ hk => hk.2) (.int .i64 t280)) (fun _ hk => hk.2) (.slice Ao26 t281.length co26)) (fun _ h_ => h_.1)))) hb) (Kd.R_base ho0)) (Kd.R_base ho1)) (fun _ h_ => h_.1)); replace HO277 := A_ (Kd.R_mono (Kd.R_told (Kd.R_told (Kd.R_old (tr_ (h := by exact (Kd.R_mono (Kd.R_far (p := ⟨gb284, 2, none⟩) (Kd.R_far (p := ⟨gb284, 1, none⟩) (Kd.R_far (p := ⟨gb284, 0, none⟩) (Kd.R_types HO277.out BK284.out (by decide)) (fun _ hk => hk.2) (.int .i64 t279)) (fun _ hk => hk.2) (.int .i64 t280)) (fun _ hk => hk.2) (.slice Ao26 t281.length co26)) (fun _ h_ => h_.1)))) hb) (Kd.R_base ho0)) (Kd.R_base ho1)) (fun _ h_ => h_.1)); replace HO283 := A_ (Kd.R_mono (Kd.R_told (Kd.R_told (Kd.R_old (tr_ (h := by exact (Kd.R_mono (Kd.R_far (p := ⟨gb284, 2, none⟩) (Kd.R_far (p := ⟨gb284, 1, none⟩) (Kd.R_far (p := ⟨gb284, 0, none⟩) (Kd.R_types HO283.out BK284.out (by decide)) (fun _ hk => hk.2) (.int .i64 t279)) (fun _ hk => hk.2) (.int .i64 t280)) (fun _ hk => hk.2) (.slice Ao26 t281.length co26)) (fun _ h_ => h_.1)))) hb) (Kd.R_base ho0)) (Kd.R_base ho1)) (fun _ h_ => h_.1)); replace BK265 := A_ (blk_below (g := gb265) (o := .cells #[.int .i64 a0_0, .int .i64 a0_1, .slice A0_2 l0_2.length c0_2] 24 (0, 0)) (tk_ BK265) hb); replace BK284 := A_ (blk_below (g := gb284) (o := .cells #[.int .i64 t279, .int .i64 t280, .slice Ao26 t281.length co26] 28 (0, 0)) (by (with_reducible repeat (first | refine blk_drewN ?_ _ | refine blk_drew ?_ | refine blk_alloc ?_ _)); refine blk_put (cs := #[.int .i64 t279, .int .i64 t280, .slice none 0 0]) ?_ 2 _ rfl; (with_reducible repeat (first | refine blk_drewN ?_ _ | refine blk_drew ?_ | refine blk_alloc ?_ _)); refine blk_put (cs := #[.int .i64 t279, .int .i64 0, .slice none 0 0]) ?_ 1 _ rfl; (with_reducible repeat (first | refine blk_drewN ?_ _ | refine blk_drew ?_ | refine blk_alloc ?_ _)); refine blk_put (cs := #[.int .i64 0, .int .i64 0, .slice none 0 0]) ?_ 0 _ rfl; (with_reducible repeat (first | refine blk_drewN ?_ _ | refine blk_drew ?_ | refine blk_alloc ?_ _)); exact BK284.out) hb); replace HB := A_ (below_step tb_ hb); (try clear hb); (try clear ho0); (try clear ho1)))
  (try simp only [Act.put, List.setIfInBounds_toArray, List.set_cons_zero, List.set_cons_succ])
  go_cut [59] (fun v59 wc => ∃ (kq : Nat) (x59_12 : Bool), v59 = .bool x59_12 ∧ Aside0 (laws_FnExactNumbersByCell.j0 kq a1 a2 t272 t275 t278 t285 t288 t291 x59_12 a0_0 a0_1 l0_2 t279 t280 t281 = some r) ∧ Aside0 (kq ≤ k) ∧ Aside0 (Kd.R (Kd.int .i64) 3 wc w.heap.size (fun k_ => some k_ ≠ (v276 : Value).ownBlock ∧ some k_ ≠ (v286 : Value).ownBlock ∧ some k_ ≠ (v289 : Value).ownBlock ∧ some k_ ≠ ((.slice Ao26 t281.length co26) : Value).ownBlock) v273 t272) ∧ Aside0 (Kd.R (Kd.int .i64) 3 wc w.heap.size (fun k_ => some k_ ≠ (v273 : Value).ownBlock ∧ some k_ ≠ (v286 : Value).ownBlock ∧ some k_ ≠ (v289 : Value).ownBlock ∧ some k_ ≠ ((.slice Ao26 t281.length co26) : Value).ownBlock) v276 t275) ∧ Aside0 (Kd.R (Kd.int .i64) 3 wc w.heap.size (fun k_ => some k_ ≠ (v273 : Value).ownBlock ∧ some k_ ≠ (v276 : Value).ownBlock ∧ some k_ ≠ (v289 : Value).ownBlock ∧ some k_ ≠ ((.slice Ao26 t281.length co26) : Value).ownBlock) v286 t285) ∧ Aside0 (Kd.R (Kd.int .i64) 3 wc w.heap.size (fun k_ => some k_ ≠ (v273 : Value).ownBlock ∧ some k_ ≠ (v276 : Value).ownBlock ∧ some k_ ≠ (v286 : Value).ownBlock ∧ some k_ ≠ ((.slice Ao26 t281.length co26) : Value).ownBlock) v289 t288) ∧ Aside0 (Kd.R (Kd.int .i64) 3 wc w.heap.size (fun k_ => some k_ ≠ (v273 : Value).ownBlock ∧ some k_ ≠ (v276 : Value).ownBlock ∧ some k_ ≠ (v286 : Value).ownBlock ∧ some k_ ≠ (v289 : Value).ownBlock) (.slice Ao26 t281.length co26) t281) ∧ Aside0 (wc.heap[gb265]? = some (.cells #[.int .i64 a0_0, .int .i64 a0_1, (.slice A0_2 l0_2.length c0_2)] 24 (0, 0))) ∧ Aside0 (wc.heap[gb284]? = some (.cells #[.int .i64 t279, .int .i64 t280, (.slice Ao26 t281.length co26)] 28 (0, 0))) ∧ Aside0 (Below w.heap.size w wc))
  case first =>
   have H := HC13.out
   clear HC13
   replace H := Option.bind_eq_some_iff.mp H
   obtain ⟨t292, A280, H⟩ := H
   replace H : (if t292 = true then ((laws_eqIntS.f k t288 t275).bind fun t293 => (if t293 = true then (laws_FnExactNumbersByCell.j0 k a1 a2 t272 t275 t278 t285 t288 t291 (t291 != t278) a0_0 a0_1 l0_2 t279 t280 t281) else (laws_FnExactNumbersByCell.j0 k a1 a2 t272 t275 t278 t285 t288 t291 true a0_0 a0_1 l0_2 t279 t280 t281))) else (laws_FnExactNumbersByCell.j0 k a1 a2 t272 t275 t278 t285 t288 t291 true a0_0 a0_1 l0_2 t279 t280 t281)) = some r := H
   have A28 := A_ A280
   clear A280
   by_cases c29 : t292 = true
   ·
    subst c29
    have H1 : ((laws_eqIntS.f k t288 t275).bind fun t293 => (if t293 = true then (laws_FnExactNumbersByCell.j0 k a1 a2 t272 t275 t278 t285 t288 t291 (t291 != t278) a0_0 a0_1 l0_2 t279 t280 t281) else (laws_FnExactNumbersByCell.j0 k a1 a2 t272 t275 t278 t285 t288 t291 true a0_0 a0_1 l0_2 t279 t280 t281))) = some r := by rw [if_pos rfl] at H; exact H
    clear H
    have H := H1
    clear H1
    replace H := Option.bind_eq_some_iff.mp H
    obtain ⟨t293, A300, H⟩ := H
    replace H : (if t293 = true then (laws_FnExactNumbersByCell.j0 k a1 a2 t272 t275 t278 t285 t288 t291 (t291 != t278) a0_0 a0_1 l0_2 t279 t280 t281) else (laws_FnExactNumbersByCell.j0 k a1 a2 t272 t275 t278 t285 t288 t291 true a0_0 a0_1 l0_2 t279 t280 t281)) = some r := H
    have A30 := A_ A300
    clear A300
    by_cases c31 : t293 = true
    ·
     subst c31
     have H1 : (laws_FnExactNumbersByCell.j0 k a1 a2 t272 t275 t278 t285 t288 t291 (t291 != t278) a0_0 a0_1 l0_2 t279 t280 t281) = some r := by rw [if_pos rfl] at H; exact H
     clear H
     have H := H1
     clear H1
     have H' := A_ H
     clear H
     obtain ⟨Ao32, co32, eo32⟩ := Kd.R_slice HO287.out
     subst eo32
     obtain ⟨Ao33, co33, eo33⟩ := Kd.R_slice HO274.out
     subst eo33
     go_wp2_with (first | (refine gc_ 21 ?_; refine goesT_ (some 47) Try.func21 #[.slice Ao32 t285.length co32, .slice Ao33 t272.length co33] ?_; (with_reducible refine (laws_eqIntS.calls k _ _ t285 _ _ t272 true _ ?side1 ?side2 ?side3 ?side4 A28.out).mono ?_); (case side1 => exact tc0_ (Kd.R_reads' HO287.out).2.2); (case side2 => exact (Kd.R_reads' HO287.out).2.1); (case side3 => exact tc0_ (Kd.R_reads' HO274.out).2.2); (case side4 => exact (Kd.R_reads' HO274.out).2.1); rintro e w' ⟨rfl, ⟨nd, rfl⟩⟩; refine ⟨_, rfl, ?_⟩; obtain ⟨Ao34, co34, eo34⟩ := Kd.R_slice HO290.out; subst eo34; obtain ⟨Ao35, co35, eo35⟩ := Kd.R_slice HO277.out; subst eo35) | (go_at_call 21; (with_reducible refine (laws_eqIntS.calls k _ _ t288 _ _ t275 true _ ?side1 ?side2 ?side3 ?side4 A30.out).mono ?_); (case side1 => exact tc0_ (Kd.R_reads' HO290.out).2.2); (case side2 => exact (Kd.R_reads' HO290.out).2.1); (case side3 => exact tc0_ (Kd.R_reads' HO277.out).2.2); (case side4 => exact (Kd.R_reads' HO277.out).2.1); rintro e w' ⟨rfl, ⟨nd, rfl⟩⟩))
     go_meet
     case rel => exact ⟨_, ((t291 != t278)), tf_, H', ⟨by first | omega | exact Nat.le_refl _⟩, ⟨by (with_reducible repeat (first | apply Kd.R_alloc | apply Kd.R_drewN | apply Kd.R_drew)); exact Kd.R_mono HO274.out (fun _ hk => ⟨hk.1.1.1.1, ⟨hk.1.2, ⟨hk.2, hk.1.1.2⟩⟩⟩)⟩, ⟨by (with_reducible repeat (first | apply Kd.R_alloc | apply Kd.R_drewN | apply Kd.R_drew)); exact Kd.R_mono HO277.out (fun _ hk => ⟨hk.1.1.1.1, ⟨hk.1.2, ⟨hk.2, hk.1.1.2⟩⟩⟩)⟩, ⟨by (with_reducible repeat (first | apply Kd.R_alloc | apply Kd.R_drewN | apply Kd.R_drew)); exact Kd.R_mono HO287.out (fun _ hk => ⟨hk.1.1.2, ⟨hk.1.2, ⟨hk.1.1.1.1, hk.2⟩⟩⟩)⟩, ⟨by (with_reducible repeat (first | apply Kd.R_alloc | apply Kd.R_drewN | apply Kd.R_drew)); exact Kd.R_mono HO290.out (fun _ hk => ⟨hk.1.1.2, ⟨hk.1.2, ⟨hk.1.1.1.1, hk.2⟩⟩⟩)⟩, ⟨by (with_reducible repeat (first | apply Kd.R_alloc | apply Kd.R_drewN | apply Kd.R_drew)); exact Kd.R_mono HO283.out (fun _ hk => ⟨hk.1.1.1.2, ⟨hk.1.1.2, ⟨hk.1.2, hk.2⟩⟩⟩)⟩, ⟨tk_ BK265⟩, ⟨tk_ BK284⟩, ⟨tb_⟩⟩
    ·
     replace c31 := Bool.eq_false_iff.mpr c31
     subst c31
     have H1 : (laws_FnExactNumbersByCell.j0 k a1 a2 t272 t275 t278 t285 t288 t291 true a0_0 a0_1 l0_2 t279 t280 t281) = some r := by rw [if_neg (show ¬ (false = true) by decide)] at H; exact H
     clear H
     have H := H1
     clear H1
     have H' := A_ H
     clear H
     obtain ⟨Ao36, co36, eo36⟩ := Kd.R_slice HO287.out
     subst eo36
     obtain ⟨Ao37, co37, eo37⟩ := Kd.R_slice HO274.out
     subst eo37
     go_wp2_with (first | (refine gc_ 21 ?_; refine goesT_ (some 47) Try.func21 #[.slice Ao36 t285.length co36, .slice Ao37 t272.length co37] ?_; (with_reducible refine (laws_eqIntS.calls k _ _ t285 _ _ t272 true _ ?side1 ?side2 ?side3 ?side4 A28.out).mono ?_); (case side1 => exact tc0_ (Kd.R_reads' HO287.out).2.2); (case side2 => exact (Kd.R_reads' HO287.out).2.1); (case side3 => exact tc0_ (Kd.R_reads' HO274.out).2.2); (case side4 => exact (Kd.R_reads' HO274.out).2.1); rintro e w' ⟨rfl, ⟨nd, rfl⟩⟩; refine ⟨_, rfl, ?_⟩; obtain ⟨Ao38, co38, eo38⟩ := Kd.R_slice HO290.out; subst eo38; obtain ⟨Ao39, co39, eo39⟩ := Kd.R_slice HO277.out; subst eo39) | (go_at_call 21; (with_reducible refine (laws_eqIntS.calls k _ _ t288 _ _ t275 false _ ?side1 ?side2 ?side3 ?side4 A30.out).mono ?_); (case side1 => exact tc0_ (Kd.R_reads' HO290.out).2.2); (case side2 => exact (Kd.R_reads' HO290.out).2.1); (case side3 => exact tc0_ (Kd.R_reads' HO277.out).2.2); (case side4 => exact (Kd.R_reads' HO277.out).2.1); rintro e w' ⟨rfl, ⟨nd, rfl⟩⟩))
     go_meet
     case rel => exact ⟨_, (true), tf_, H', ⟨by first | omega | exact Nat.le_refl _⟩, ⟨by (with_reducible repeat (first | apply Kd.R_alloc | apply Kd.R_drewN | apply Kd.R_drew)); exact Kd.R_mono HO274.out (fun _ hk => ⟨hk.1.1.1.1, ⟨hk.1.2, ⟨hk.2, hk.1.1.2⟩⟩⟩)⟩, ⟨by (with_reducible repeat (first | apply Kd.R_alloc | apply Kd.R_drewN | apply Kd.R_drew)); exact Kd.R_mono HO277.out (fun _ hk => ⟨hk.1.1.1.1, ⟨hk.1.2, ⟨hk.2, hk.1.1.2⟩⟩⟩)⟩, ⟨by (with_reducible repeat (first | apply Kd.R_alloc | apply Kd.R_drewN | apply Kd.R_drew)); exact Kd.R_mono HO287.out (fun _ hk => ⟨hk.1.1.2, ⟨hk.1.2, ⟨hk.1.1.1.1, hk.2⟩⟩⟩)⟩, ⟨by (with_reducible repeat (first | apply Kd.R_alloc | apply Kd.R_drewN | apply Kd.R_drew)); exact Kd.R_mono HO290.out (fun _ hk => ⟨hk.1.1.2, ⟨hk.1.2, ⟨hk.1.1.1.1, hk.2⟩⟩⟩)⟩, ⟨by (with_reducible repeat (first | apply Kd.R_alloc | apply Kd.R_drewN | apply Kd.R_drew)); exact Kd.R_mono HO283.out (fun _ hk => ⟨hk.1.1.1.2, ⟨hk.1.1.2, ⟨hk.1.2, hk.2⟩⟩⟩)⟩, ⟨tk_ BK265⟩, ⟨tk_ BK284⟩, ⟨tb_⟩⟩
   ·
    replace c29 := Bool.eq_false_iff.mpr c29
    subst c29
    have H1 : (laws_FnExactNumbersByCell.j0 k a1 a2 t272 t275 t278 t285 t288 t291 true a0_0 a0_1 l0_2 t279 t280 t281) = some r := by rw [if_neg (show ¬ (false = true) by decide)] at H; exact H
    clear H
    have H := H1
    clear H1
    have H' := A_ H
    clear H
    obtain ⟨Ao40, co40, eo40⟩ := Kd.R_slice HO287.out
    subst eo40
    obtain ⟨Ao41, co41, eo41⟩ := Kd.R_slice HO274.out
    subst eo41
    go_wp2_with (first | (refine gc_ 21 ?_; refine goesT_ (some 47) Try.func21 #[.slice Ao40 t285.length co40, .slice Ao41 t272.length co41] ?_; (with_reducible refine (laws_eqIntS.calls k _ _ t285 _ _ t272 false _ ?side1 ?side2 ?side3 ?side4 A28.out).mono ?_); (case side1 => exact tc0_ (Kd.R_reads' HO287.out).2.2); (case side2 => exact (Kd.R_reads' HO287.out).2.1); (case side3 => exact tc0_ (Kd.R_reads' HO274.out).2.2); (case side4 => exact (Kd.R_reads' HO274.out).2.1); rintro e w' ⟨rfl, ⟨nd, rfl⟩⟩; refine ⟨_, rfl, ?_⟩))
    go_meet
    case rel => exact ⟨_, (true), tf_, H', ⟨by first | omega | exact Nat.le_refl _⟩, ⟨by (with_reducible repeat (first | apply Kd.R_alloc | apply Kd.R_drewN | apply Kd.R_drew)); exact Kd.R_mono HO274.out (fun _ hk => ⟨hk.1.1.1.1, ⟨hk.1.2, ⟨hk.2, hk.1.1.2⟩⟩⟩)⟩, ⟨by (with_reducible repeat (first | apply Kd.R_alloc | apply Kd.R_drewN | apply Kd.R_drew)); exact Kd.R_mono HO277.out (fun _ hk => ⟨hk.1.1.1.1, ⟨hk.1.2, ⟨hk.2, hk.1.1.2⟩⟩⟩)⟩, ⟨by (with_reducible repeat (first | apply Kd.R_alloc | apply Kd.R_drewN | apply Kd.R_drew)); exact Kd.R_mono HO287.out (fun _ hk => ⟨hk.1.1.2, ⟨hk.1.2, ⟨hk.1.1.1.1, hk.2⟩⟩⟩)⟩, ⟨by (with_reducible repeat (first | apply Kd.R_alloc | apply Kd.R_drewN | apply Kd.R_drew)); exact Kd.R_mono HO290.out (fun _ hk => ⟨hk.1.1.2, ⟨hk.1.2, ⟨hk.1.1.1.1, hk.2⟩⟩⟩)⟩, ⟨by (with_reducible repeat (first | apply Kd.R_alloc | apply Kd.R_drewN | apply Kd.R_drew)); exact Kd.R_mono HO283.out (fun _ hk => ⟨hk.1.1.1.2, ⟨hk.1.1.2, ⟨hk.1.2, hk.2⟩⟩⟩)⟩, ⟨tk_ BK265⟩, ⟨tk_ BK284⟩, ⟨tb_⟩⟩
  case rest =>
   clear HC13
   try clear c1
   try clear c2
   try clear p2
   try clear c3
   try clear c5
   try clear c5b0
   try clear c17
   try clear c18
   try clear c19
   try clear c20
   try clear c21
   try clear c24
   try clear c29
   try clear c31
   try clear hcz15_0
   try clear hcz15_1
   try clear hcz15_2
   try clear hcz17_0
   try clear hcz17_1
   try clear hcz17_2
   try clear hcz21_0
   try clear hcz21_1
   try clear hcz21_2
   try clear hcz25_0
   try clear hcz25_1
   try clear hcz25_2
   try clear hcz7_0
   try clear hcz7_1
   try clear hcz7_2
   try clear hfz15_0
   try clear hfz15_1
   try clear hfz15_2
   try clear hfz17_0
   try clear hfz17_1
   try clear hfz17_2
   try clear hfz21_0
   try clear hfz21_1
   try clear hfz21_2
   try clear hfz25_0
   try clear hfz25_1
   try clear hfz25_2
   try clear hfz7_0
   try clear hfz7_1
   try clear hfz7_2
   obtain ⟨kq, x59_12, rfl, HA, HJ12, HO_8, HO_9, HO_12, HO_13, HO_285002, BK265, BK284, HB⟩ := hcut
   cases kq with
   | zero => exact absurd HA.out (by simp [laws_FnExactNumbersByCell.j0])
   | succ kj12 =>
    have H := HA.out
    clear HA
    simp only [laws_FnExactNumbersByCell.j0] at H
    by_cases c42 : x59_12 = true
    ·
     subst c42
     have H1 : (some false) = some r := by rw [if_pos rfl] at H; exact H
     clear H
     have H := H1
     clear H1
     obtain rfl := Option.some.inj H
     go_wp2
     go_ret
     exact ⟨te_, tb_⟩
    ·
     replace c42 := Bool.eq_false_iff.mpr c42
     subst c42
     have H1 : ((laws_toBoard.f kj12 a0_0 a0_1 l0_2).bind fun bt294 => ((laws_eqBoard.f kj12 t279 t280 t281 bt294.1 bt294.2.1 bt294.2.2).bind fun t299 => (if t299 = true then ((laws_markBoard.f kj12 t279 t280 t281 1).bind fun bt300 => (if bt300.1 < 0 then (laws_FnExactNumbersByCell.j1 kj12 a1 a2 t272 t275 t278 t285 t288 true a0_0 a0_1 l0_2) else ((laws_eqIntS.f kj12 t285 t272).bind fun t302 => (if t302 = true then ((laws_eqIntS.f kj12 t288 t275).bind fun t303 => (if t303 = true then (laws_FnExactNumbersByCell.j1 kj12 a1 a2 t272 t275 t278 t285 t288 (t291 != t278) a0_0 a0_1 l0_2) else (laws_FnExactNumbersByCell.j1 kj12 a1 a2 t272 t275 t278 t285 t288 true a0_0 a0_1 l0_2))) else (laws_FnExactNumbersByCell.j1 kj12 a1 a2 t272 t275 t278 t285 t288 true a0_0 a0_1 l0_2))))) else (some false)))) = some r := by rw [if_neg (show ¬ (false = true) by decide)] at H; exact H
     clear H
     have H := H1
     clear H1
     replace H := Option.bind_eq_some_iff.mp H
     obtain ⟨⟨t294, t295, t296⟩, A430, H⟩ := H
     replace H : ((laws_eqBoard.f kj12 t279 t280 t281 t294 t295 t296).bind fun t299 => (if t299 = true then ((laws_markBoard.f kj12 t279 t280 t281 1).bind fun bt300 => (if bt300.1 < 0 then (laws_FnExactNumbersByCell.j1 kj12 a1 a2 t272 t275 t278 t285 t288 true a0_0 a0_1 l0_2) else ((laws_eqIntS.f kj12 t285 t272).bind fun t302 => (if t302 = true then ((laws_eqIntS.f kj12 t288 t275).bind fun t303 => (if t303 = true then (laws_FnExactNumbersByCell.j1 kj12 a1 a2 t272 t275 t278 t285 t288 (t291 != t278) a0_0 a0_1 l0_2) else (laws_FnExactNumbersByCell.j1 kj12 a1 a2 t272 t275 t278 t285 t288 true a0_0 a0_1 l0_2))) else (laws_FnExactNumbersByCell.j1 kj12 a1 a2 t272 t275 t278 t285 t288 true a0_0 a0_1 l0_2))))) else (some false))) = some r := H
     have A43 := A_ A430
     clear A430
     replace H := Option.bind_eq_some_iff.mp H
     obtain ⟨t299, A440, H⟩ := H
     replace H : (if t299 = true then ((laws_markBoard.f kj12 t279 t280 t281 1).bind fun bt300 => (if bt300.1 < 0 then (laws_FnExactNumbersByCell.j1 kj12 a1 a2 t272 t275 t278 t285 t288 true a0_0 a0_1 l0_2) else ((laws_eqIntS.f kj12 t285 t272).bind fun t302 => (if t302 = true then ((laws_eqIntS.f kj12 t288 t275).bind fun t303 => (if t303 = true then (laws_FnExactNumbersByCell.j1 kj12 a1 a2 t272 t275 t278 t285 t288 (t291 != t278) a0_0 a0_1 l0_2) else (laws_FnExactNumbersByCell.j1 kj12 a1 a2 t272 t275 t278 t285 t288 true a0_0 a0_1 l0_2))) else (laws_FnExactNumbersByCell.j1 kj12 a1 a2 t272 t275 t278 t285 t288 true a0_0 a0_1 l0_2))))) else (some false)) = some r := H
     have A44 := A_ A440
     clear A440
     by_cases c45 : t299 = true
     ·
      subst c45
      have H1 : ((laws_markBoard.f kj12 t279 t280 t281 1).bind fun bt300 => (if bt300.1 < 0 then (laws_FnExactNumbersByCell.j1 kj12 a1 a2 t272 t275 t278 t285 t288 true a0_0 a0_1 l0_2) else ((laws_eqIntS.f kj12 t285 t272).bind fun t302 => (if t302 = true then ((laws_eqIntS.f kj12 t288 t275).bind fun t303 => (if t303 = true then (laws_FnExactNumbersByCell.j1 kj12 a1 a2 t272 t275 t278 t285 t288 (t291 != t278) a0_0 a0_1 l0_2) else (laws_FnExactNumbersByCell.j1 kj12 a1 a2 t272 t275 t278 t285 t288 true a0_0 a0_1 l0_2))) else (laws_FnExactNumbersByCell.j1 kj12 a1 a2 t272 t275 t278 t285 t288 true a0_0 a0_1 l0_2))))) = some r := by rw [if_pos rfl] at H; exact H
      clear H
      have H := H1
      clear H1
      replace H := Option.bind_eq_some_iff.mp H
      obtain ⟨⟨t300, t301⟩, A460, H⟩ := H
      replace H : (if t300 < 0 then (laws_FnExactNumbersByCell.j1 kj12 a1 a2 t272 t275 t278 t285 t288 true a0_0 a0_1 l0_2) else ((laws_eqIntS.f kj12 t285 t272).bind fun t302 => (if t302 = true then ((laws_eqIntS.f kj12 t288 t275).bind fun t303 => (if t303 = true then (laws_FnExactNumbersByCell.j1 kj12 a1 a2 t272 t275 t278 t285 t288 (t291 != t278) a0_0 a0_1 l0_2) else (laws_FnExactNumbersByCell.j1 kj12 a1 a2 t272 t275 t278 t285 t288 true a0_0 a0_1 l0_2))) else (laws_FnExactNumbersByCell.j1 kj12 a1 a2 t272 t275 t278 t285 t288 true a0_0 a0_1 l0_2)))) = some r := H
      have A46 := A_ A460
      clear A460
      have HC47 := A_ H
      clear H
      try go_wp2
      have n0_ := A_ (Kd.R_drew HO_8.out)
      have n1_ := A_ (Kd.R_drew HO_9.out)
      have n2_ := A_ (Kd.R_drew HO_12.out)
      have n3_ := A_ (Kd.R_drew HO_13.out)
      have n4_ := A_ (Kd.R_drew HO_285002.out)
      have n5_ := A_ (blk_drew BK265.out)
      have n6_ := A_ (blk_drew BK284.out)
      have n7_ := A_ (below_drew1 HB.out)
      clear HO_8
      clear HO_9
      clear HO_12
      clear HO_13
      clear HO_285002
      clear BK265
      clear BK284
      clear HB
      have HO_8 := n0_
      have HO_9 := n1_
      have HO_12 := n2_
      have HO_13 := n3_
      have HO_285002 := n4_
      have BK265 := n5_
      have BK284 := n6_
      have HB := n7_
      clear n0_ n1_ n2_ n3_ n4_ n5_ n6_ n7_
      refine start_ (n := 5) (S := fun w' => w'.cell? ⟨gb284, 0, none⟩ = some (.int .i64 t279) ∧ w'.cell? ⟨gb284, 1, none⟩ = some (.int .i64 t280) ∧ w'.cell? ⟨gb284, 2, none⟩ = some (.slice Ao26 t281.length co26) ∧ w'.cell? ⟨gb265, 0, none⟩ = some (.int .i64 a0_0) ∧ w'.cell? ⟨gb265, 1, none⟩ = some (.int .i64 a0_1) ∧ w'.cell? ⟨gb265, 2, none⟩ = some (.slice A0_2 l0_2.length c0_2)) (ds := []) (Fn.bl 5 0) (by kernel_rfl) rfl rfl ⟨(blk_cell BK284.out 0).trans rfl, (blk_cell BK284.out 1).trans rfl, (blk_cell BK284.out 2).trans rfl, (blk_cell BK265.out 0).trans rfl, (blk_cell BK265.out 1).trans rfl, (blk_cell BK265.out 2).trans rfl⟩ (fun hHeld => ?_)
      generalize wc.drew = w48 at HO_8 HO_9 HO_12 HO_13 HO_285002 BK265 BK284 HB hHeld ⊢
      refine take_ (i := 0) (N := some 60) (v := ?_) (a' := ?_) (Fn.bl 5 1) rfl rfl (by kernel_rfl) (fun _ _ _ h => h) (Or.inl ⟨by rfl, ?_⟩) hHeld ?_ ?_
      rotate_left
      ·
       rintro w' ⟨s0, s1, s2, s3, s4, s5⟩
       go_simp
       with_reducible rfl
      rotate_left
      ·
       simp only [Act.put, List.setIfInBounds_toArray, List.set_cons_zero, List.set_cons_succ, i64_w, i32_w]
       rfl
      refine take_ (i := 1) (N := some 61) (v := ?_) (a' := ?_) (Fn.bl 5 3) rfl rfl (by kernel_rfl) (fun _ _ _ h => h) (Or.inl ⟨by rfl, ?_⟩) hHeld ?_ ?_
      rotate_left
      ·
       rintro w' ⟨s0, s1, s2, s3, s4, s5⟩
       go_simp
       with_reducible rfl
      rotate_left
      ·
       simp only [Act.put, List.setIfInBounds_toArray, List.set_cons_zero, List.set_cons_succ, i64_w, i32_w]
       rfl
      refine one_ (i := 2) (N := some 62) (Fn.bl 5 7) rfl rfl (by kernel_rfl) (by decide) (fun K hK => ?_)
      refine goes_ Try.func19 (by kernel_rfl) rfl #[.agg #[.int .i64 a0_0, .int .i64 a0_1, .slice A0_2 l0_2.length c0_2]] (by rfl) rfl rfl ta_ ?_
      with_reducible refine (laws_toBoard.calls kj12 a0_0 a0_1 _ _ l0_2 t294 t295 t296 _ ?side1 ?side2 A43.out).mono ?_
      (case side1 => exact tc_ HR0_2.out)
      (case side2 => exact HC0_2.out)
      rintro e w49 ⟨v297, rfl, ho0, hb⟩
      refine ⟨_, rfl, ?_⟩
      have n0_ := A_ (Kd.R_elder' (tr_x HO_8.out) (Kd.R_base ho0) hb)
      have n1_ := A_ (Kd.R_elder' (tr_x HO_9.out) (Kd.R_base ho0) hb)
      have n2_ := A_ (Kd.R_elder' (tr_x HO_12.out) (Kd.R_base ho0) hb)
      have n3_ := A_ (Kd.R_elder' (tr_x HO_13.out) (Kd.R_base ho0) hb)
      have n4_ := A_ (Kd.R_elder' (tr_x HO_285002.out) (Kd.R_base ho0) hb)
      have n5_ := A_ (Kd.R_lower (Kd.R_new' (Kd.R_new' (Kd.R_new' (Kd.R_new' (Kd.R_new' ho0 (Kd.R_lt (tr_x HO_8.out))) (Kd.R_lt (tr_x HO_9.out))) (Kd.R_lt (tr_x HO_12.out))) (Kd.R_lt (tr_x HO_13.out))) (Kd.R_lt (tr_x HO_285002.out))) (below_size tb_))
      have n6_ := A_ (blk_below (g := gb265) (o := .cells #[.int .i64 a0_0, .int .i64 a0_1, .slice A0_2 l0_2.length c0_2] 24 (0, 0)) (tk_ BK265) hb)
      have n7_ := A_ (blk_below (g := gb284) (o := .cells #[.int .i64 t279, .int .i64 t280, .slice Ao26 t281.length co26] 28 (0, 0)) (tk_ BK284) hb)
      have n8_ := A_ (below_step tb_ hb)
      clear HO_8
      clear HO_9
      clear HO_12
      clear HO_13
      clear HO_285002
      clear BK265
      clear BK284
      clear HB
      have HO_8 := n0_
      have HO_9 := n1_
      have HO_12 := n2_
      have HO_13 := n3_
      have HO_285002 := n4_
      have HO298 := n5_
      have BK265 := n6_
      have BK284 := n7_
      have HB := n8_
      clear n0_ n1_ n2_ n3_ n4_ n5_ n6_ n7_ n8_
      (try clear hb)
      (try clear hb2)
      (try clear hk)
      (try clear hi)
      (try clear ho0)
      obtain ⟨Ao50, co50, eo50⟩ := Kd.R_slice HO298.out
      (first | subst eo50 | (injection eo50 with f1_ f2_ f3_; have f4_ := f1_.symm; have f5_ := f3_.symm; clear f1_ f2_ f3_; subst f4_; subst f5_))
      refine hK.out _ _ ⟨(blk_cell BK284.out 0).trans rfl, (blk_cell BK284.out 1).trans rfl, (blk_cell BK284.out 2).trans rfl, (blk_cell BK265.out 0).trans rfl, (blk_cell BK265.out 1).trans rfl, (blk_cell BK265.out 2).trans rfl⟩ (fun hHeld => ?_)
      clear hK K
      refine norm_ (a' := ?_) ?_ ?_
      rotate_left
      ·
       show Act.put _ (some 62) _ = _
       simp only [Act.put, List.setIfInBounds_toArray, List.set_cons_zero, List.set_cons_succ, i64_w, i32_w]
       rfl
      refine one_ (i := 3) (N := some 63) (Fn.bl 5 15) rfl rfl (by kernel_rfl) (by decide) (fun K hK => ?_)
      refine goes_ Try.func22 (by kernel_rfl) rfl #[.agg #[.int .i64 t279, .int .i64 t280, .slice Ao26 t281.length co26], .agg #[.int .i64 t294, .int .i64 t295, .slice Ao50 t296.length co50]] (by rfl) rfl rfl ta_ ?_
      with_reducible refine (laws_eqBoard.calls kj12 t279 t280 _ _ t281 t294 t295 _ _ t296 true _ ?side1 ?side2 ?side3 ?side4 A44.out).mono ?_
      (case side1 => exact tc0_ (Kd.R_reads' HO_285002.out).2.2)
      (case side2 => exact (Kd.R_reads' HO_285002.out).2.1)
      (case side3 => exact tc0_ (Kd.R_reads' HO298.out).2.2)
      (case side4 => exact (Kd.R_reads' HO298.out).2.1)
      rintro e w51 ⟨rfl, hb⟩
      refine ⟨_, rfl, ?_⟩
      have n0_ := A_ (Kd.R_below (tr_x HO_8.out) hb)
      have n1_ := A_ (Kd.R_below (tr_x HO_9.out) hb)
      have n2_ := A_ (Kd.R_below (tr_x HO_12.out) hb)
      have n3_ := A_ (Kd.R_below (tr_x HO_13.out) hb)
      have n4_ := A_ (Kd.R_below (tr_x HO_285002.out) hb)
      have n5_ := A_ (Kd.R_below (tr_x HO298.out) hb)
      have n6_ := A_ (blk_below (g := gb265) (o := .cells #[.int .i64 a0_0, .int .i64 a0_1, .slice A0_2 l0_2.length c0_2] 24 (0, 0)) (tk_ BK265) hb)
      have n7_ := A_ (blk_below (g := gb284) (o := .cells #[.int .i64 t279, .int .i64 t280, .slice Ao26 t281.length co26] 28 (0, 0)) (tk_ BK284) hb)
      have n8_ := A_ (below_step tb_ hb)
      clear HO_8
      clear HO_9
      clear HO_12
      clear HO_13
      clear HO_285002
      clear HO298
      clear BK265
      clear BK284
      clear HB
      have HO_8 := n0_
      have HO_9 := n1_
      have HO_12 := n2_
      have HO_13 := n3_
      have HO_285002 := n4_
      have HO298 := n5_
      have BK265 := n6_
      have BK284 := n7_
      have HB := n8_
      clear n0_ n1_ n2_ n3_ n4_ n5_ n6_ n7_ n8_
      (try clear hb)
      (try clear hb2)
      (try clear hk)
      (try clear hi)
      refine hK.out _ _ ⟨(blk_cell BK284.out 0).trans rfl, (blk_cell BK284.out 1).trans rfl, (blk_cell BK284.out 2).trans rfl, (blk_cell BK265.out 0).trans rfl, (blk_cell BK265.out 1).trans rfl, (blk_cell BK265.out 2).trans rfl⟩ (fun hHeld => ?_)
      clear hK K
      refine norm_ (a' := ?_) ?_ ?_
      rotate_left
      ·
       show Act.put _ (some 63) _ = _
       simp only [Act.put, List.setIfInBounds_toArray, List.set_cons_zero, List.set_cons_succ, i64_w, i32_w]
       rfl
      refine pk_ 4 (some 64) (Fn.bl 5 31) ?_
      refine done_ (by kernel_rfl) ?_
      have hnb52 := NB284_265.out
      have hnc52 := NB265_284.out
      obtain ⟨hcz53_0, hcz53_1, hcz53_2, hfz53_0, hfz53_1, hfz53_2⟩ := cf3_ BK284.out
      go_upto_region 14 with (first | (refine gc_ 23 ?_; refine goesT_ (some 67) Try.func23 #[.agg #[.int .i64 t279, .int .i64 t280, .slice Ao26 t281.length co26], .int .i64 1] ?_; (with_reducible refine (laws_markBoard.calls kj12 t279 t280 (fun k_ => some k_ = (.slice Ao26 t281.length co26 : Value).ownBlock) (.slice Ao26 t281.length co26) t281 1 t300 t301 w _ ?side1 ?side2 A46.out).mono ?_); (case side1 => repeat (first | (with_reducible first | exact HB.out | apply below_alloc | apply pw_below_drewN | apply below_drew1 | refine below_set ?_ GE265.out | refine below_set ?_ GE284.out) | exact HB.out)); (case side2 => exact Kd.R_tight rfl HO_285002.out); rintro e w54 ⟨rfl, hy0, hb, hkp⟩; refine ⟨_, rfl, ?_⟩; replace HO_8 := A_ (Kd.R_mono (ok' := fun k_ => some k_ ≠ (v276 : Value).ownBlock ∧ some k_ ≠ (v286 : Value).ownBlock ∧ some k_ ≠ (v289 : Value).ownBlock ∧ some k_ ≠ (.slice Ao26 t281.length co26 : Value).ownBlock ∧ some k_ ≠ (.slice Ao50 t296.length co50 : Value).ownBlock) (Kd.R_keptB (HO_8.out) hkp (fun k_ hk_ hs_ => (hk_.1.2.2.2) hs_)) (fun k_ hk_ => ⟨hk_.1.1.1, hk_.1.1.2.1, hk_.1.1.2.2.1, hk_.1.1.2.2.2, hk_.1.2⟩)); replace HO_9 := A_ (Kd.R_mono (ok' := fun k_ => some k_ ≠ (v273 : Value).ownBlock ∧ some k_ ≠ (v286 : Value).ownBlock ∧ some k_ ≠ (v289 : Value).ownBlock ∧ some k_ ≠ (.slice Ao26 t281.length co26 : Value).ownBlock ∧ some k_ ≠ (.slice Ao50 t296.length co50 : Value).ownBlock) (Kd.R_keptB (HO_9.out) hkp (fun k_ hk_ hs_ => (hk_.1.2.2.2) hs_)) (fun k_ hk_ => ⟨hk_.1.1.1, hk_.1.1.2.1, hk_.1.1.2.2.1, hk_.1.1.2.2.2, hk_.1.2⟩)); replace HO_12 := A_ (Kd.R_mono (ok' := fun k_ => some k_ ≠ (v273 : Value).ownBlock ∧ some k_ ≠ (v276 : Value).ownBlock ∧ some k_ ≠ (v289 : Value).ownBlock ∧ some k_ ≠ (.slice Ao26 t281.length co26 : Value).ownBlock ∧ some k_ ≠ (.slice Ao50 t296.length co50 : Value).ownBlock) (Kd.R_keptB (HO_12.out) hkp (fun k_ hk_ hs_ => (hk_.1.2.2.2) hs_)) (fun k_ hk_ => ⟨hk_.1.1.1, hk_.1.1.2.1, hk_.1.1.2.2.1, hk_.1.1.2.2.2, hk_.1.2⟩)); replace HO_13 := A_ (Kd.R_mono (ok' := fun k_ => some k_ ≠ (v273 : Value).ownBlock ∧ some k_ ≠ (v276 : Value).ownBlock ∧ some k_ ≠ (v286 : Value).ownBlock ∧ some k_ ≠ (.slice Ao26 t281.length co26 : Value).ownBlock ∧ some k_ ≠ (.slice Ao50 t296.length co50 : Value).ownBlock) (Kd.R_keptB (HO_13.out) hkp (fun k_ hk_ hs_ => (hk_.1.2.2.2) hs_)) (fun k_ hk_ => ⟨hk_.1.1.1, hk_.1.1.2.1, hk_.1.1.2.2.1, hk_.1.1.2.2.2, hk_.1.2⟩)); replace BK265 := A_ (blk_kept (tk_ BK265) hkp (fun hs_ => (fun e_ => (Kd.R_ne HO_285002.out BK265.out (by decide)) e_) hs_)); replace BK284 := A_ (blk_kept (tk_ BK284) hkp (fun hs_ => (fun e_ => (Kd.R_ne HO_285002.out BK284.out (by decide)) e_) hs_)); replace HO_285002 := A_ (Kd.R_reok rfl hy0 (fun k_ e_ => HO_285002.out.1 k_ e_)); replace HO298 := A_ (Kd.R_mono (ok' := fun k_ => some k_ ≠ (v273 : Value).ownBlock ∧ some k_ ≠ (v276 : Value).ownBlock ∧ some k_ ≠ (v286 : Value).ownBlock ∧ some k_ ≠ (v289 : Value).ownBlock ∧ some k_ ≠ (.slice Ao26 t281.length co26 : Value).ownBlock) (Kd.R_keptB (HO298.out) hkp (fun k_ hk_ hs_ => (hk_.2) hs_)) (fun k_ hk_ => ⟨hk_.1.1.1.1.1.2, hk_.1.1.1.1.2, hk_.1.1.1.2, hk_.1.1.2, hk_.1.2⟩)); replace HB := A_ (hb); (try clear hb); (try clear hkp); (try clear hy0)))
      (try simp only [Act.put, List.setIfInBounds_toArray, List.set_cons_zero, List.set_cons_succ])
      go_cut [86] (fun v86 wc => ∃ (kq : Nat) (x86_46 : Bool), v86 = .bool x86_46 ∧ Aside0 (laws_FnExactNumbersByCell.j1 kq a1 a2 t272 t275 t278 t285 t288 x86_46 a0_0 a0_1 l0_2 = some r) ∧ Aside0 (kq ≤ kj12) ∧ Aside0 (Kd.R (Kd.int .i64) 3 wc w.heap.size (fun k_ => some k_ ≠ (v276 : Value).ownBlock ∧ some k_ ≠ (v286 : Value).ownBlock ∧ some k_ ≠ (v289 : Value).ownBlock ∧ some k_ ≠ ((.slice Ao26 t281.length co26) : Value).ownBlock) v273 t272) ∧ Aside0 (Kd.R (Kd.int .i64) 3 wc w.heap.size (fun k_ => some k_ ≠ (v273 : Value).ownBlock ∧ some k_ ≠ (v286 : Value).ownBlock ∧ some k_ ≠ (v289 : Value).ownBlock ∧ some k_ ≠ ((.slice Ao26 t281.length co26) : Value).ownBlock) v276 t275) ∧ Aside0 (Kd.R (Kd.int .i64) 3 wc w.heap.size (fun k_ => some k_ ≠ (v273 : Value).ownBlock ∧ some k_ ≠ (v276 : Value).ownBlock ∧ some k_ ≠ (v289 : Value).ownBlock ∧ some k_ ≠ ((.slice Ao26 t281.length co26) : Value).ownBlock) v286 t285) ∧ Aside0 (Kd.R (Kd.int .i64) 3 wc w.heap.size (fun k_ => some k_ ≠ (v273 : Value).ownBlock ∧ some k_ ≠ (v276 : Value).ownBlock ∧ some k_ ≠ (v286 : Value).ownBlock ∧ some k_ ≠ ((.slice Ao26 t281.length co26) : Value).ownBlock) v289 t288) ∧ Aside0 (Kd.R (Kd.int .i64) 3 wc w.heap.size (fun k_ => some k_ ≠ (v273 : Value).ownBlock ∧ some k_ ≠ (v276 : Value).ownBlock ∧ some k_ ≠ (v286 : Value).ownBlock ∧ some k_ ≠ (v289 : Value).ownBlock) (.slice Ao26 t281.length co26) t301) ∧ Aside0 (wc.heap[gb265]? = some (.cells #[.int .i64 a0_0, .int .i64 a0_1, (.slice A0_2 l0_2.length c0_2)] 24 (0, 0))) ∧ Aside0 (wc.heap[gb284]? = some (.cells #[.int .i64 t279, .int .i64 t280, (.slice Ao26 t281.length co26)] 28 (0, 0))) ∧ Aside0 (Below w.heap.size w wc))
      case first =>
       have H := HC47.out
       clear HC47
       by_cases c55 : t300 < 0
       ·
        rw [if_pos c55] at H
        have c55b0 := decide_eq_true c55
        clear c55
        (first | rw [c55b0] | (simp only [i64_w, i32_w]; rw [c55b0]) | skip)
        have H' := A_ H
        clear H
        go_wp2
        go_meet
        case rel => exact ⟨_, (true), tf_, H', ⟨by have := HJ12.out; first | omega | exact Nat.le_refl _⟩, ⟨by (with_reducible repeat (first | apply Kd.R_alloc | apply Kd.R_drewN | apply Kd.R_drew)); exact Kd.R_mono HO_8.out (fun _ hk => ⟨hk.1, ⟨hk.2.1, ⟨hk.2.2.1, hk.2.2.2.1⟩⟩⟩)⟩, ⟨by (with_reducible repeat (first | apply Kd.R_alloc | apply Kd.R_drewN | apply Kd.R_drew)); exact Kd.R_mono HO_9.out (fun _ hk => ⟨hk.1, ⟨hk.2.1, ⟨hk.2.2.1, hk.2.2.2.1⟩⟩⟩)⟩, ⟨by (with_reducible repeat (first | apply Kd.R_alloc | apply Kd.R_drewN | apply Kd.R_drew)); exact Kd.R_mono HO_12.out (fun _ hk => ⟨hk.1, ⟨hk.2.1, ⟨hk.2.2.1, hk.2.2.2.1⟩⟩⟩)⟩, ⟨by (with_reducible repeat (first | apply Kd.R_alloc | apply Kd.R_drewN | apply Kd.R_drew)); exact Kd.R_mono HO_13.out (fun _ hk => ⟨hk.1, ⟨hk.2.1, ⟨hk.2.2.1, hk.2.2.2.1⟩⟩⟩)⟩, ⟨by (with_reducible repeat (first | apply Kd.R_alloc | apply Kd.R_drewN | apply Kd.R_drew)); exact Kd.R_mono HO_285002.out (fun _ hk => ⟨hk.1.1, ⟨hk.1.2.1, ⟨hk.1.2.2.1, hk.1.2.2.2⟩⟩⟩)⟩, ⟨tk_ BK265⟩, ⟨tk_ BK284⟩, ⟨tb_⟩⟩
       ·
        rw [if_neg c55] at H
        have c55b0 := decide_eq_false c55
        clear c55
        (first | rw [c55b0] | (simp only [i64_w, i32_w]; rw [c55b0]) | skip)
        replace H := Option.bind_eq_some_iff.mp H
        obtain ⟨t302, A560, H⟩ := H
        replace H : (if t302 = true then ((laws_eqIntS.f kj12 t288 t275).bind fun t303 => (if t303 = true then (laws_FnExactNumbersByCell.j1 kj12 a1 a2 t272 t275 t278 t285 t288 (t291 != t278) a0_0 a0_1 l0_2) else (laws_FnExactNumbersByCell.j1 kj12 a1 a2 t272 t275 t278 t285 t288 true a0_0 a0_1 l0_2))) else (laws_FnExactNumbersByCell.j1 kj12 a1 a2 t272 t275 t278 t285 t288 true a0_0 a0_1 l0_2)) = some r := H
        have A56 := A_ A560
        clear A560
        by_cases c57 : t302 = true
        ·
         subst c57
         have H1 : ((laws_eqIntS.f kj12 t288 t275).bind fun t303 => (if t303 = true then (laws_FnExactNumbersByCell.j1 kj12 a1 a2 t272 t275 t278 t285 t288 (t291 != t278) a0_0 a0_1 l0_2) else (laws_FnExactNumbersByCell.j1 kj12 a1 a2 t272 t275 t278 t285 t288 true a0_0 a0_1 l0_2))) = some r := by rw [if_pos rfl] at H; exact H
         clear H
         have H := H1
         clear H1
         replace H := Option.bind_eq_some_iff.mp H
         obtain ⟨t303, A580, H⟩ := H
         replace H : (if t303 = true then (laws_FnExactNumbersByCell.j1 kj12 a1 a2 t272 t275 t278 t285 t288 (t291 != t278) a0_0 a0_1 l0_2) else (laws_FnExactNumbersByCell.j1 kj12 a1 a2 t272 t275 t278 t285 t288 true a0_0 a0_1 l0_2)) = some r := H
         have A58 := A_ A580
         clear A580
         by_cases c59 : t303 = true
         ·
          subst c59
          have H1 : (laws_FnExactNumbersByCell.j1 kj12 a1 a2 t272 t275 t278 t285 t288 (t291 != t278) a0_0 a0_1 l0_2) = some r := by rw [if_pos rfl] at H; exact H
          clear H
          have H := H1
          clear H1
          have H' := A_ H
          clear H
          obtain ⟨Ao60, co60, eo60⟩ := Kd.R_slice HO_12.out
          subst eo60
          obtain ⟨Ao61, co61, eo61⟩ := Kd.R_slice HO_8.out
          subst eo61
          go_wp2_with (first | (go_at_call 21; (with_reducible refine (laws_eqIntS.calls kj12 _ _ t285 _ _ t272 true _ ?side1 ?side2 ?side3 ?side4 A56.out).mono ?_); (case side1 => exact tc0_ (Kd.R_reads' HO_12.out).2.2); (case side2 => exact (Kd.R_reads' HO_12.out).2.1); (case side3 => exact tc0_ (Kd.R_reads' HO_8.out).2.2); (case side4 => exact (Kd.R_reads' HO_8.out).2.1); rintro e w' ⟨rfl, ⟨nd, rfl⟩⟩; obtain ⟨Ao62, co62, eo62⟩ := Kd.R_slice HO_13.out; subst eo62; obtain ⟨Ao63, co63, eo63⟩ := Kd.R_slice HO_9.out; subst eo63) | (go_at_call 21; (with_reducible refine (laws_eqIntS.calls kj12 _ _ t288 _ _ t275 true _ ?side1 ?side2 ?side3 ?side4 A58.out).mono ?_); (case side1 => exact tc0_ (Kd.R_reads' HO_13.out).2.2); (case side2 => exact (Kd.R_reads' HO_13.out).2.1); (case side3 => exact tc0_ (Kd.R_reads' HO_9.out).2.2); (case side4 => exact (Kd.R_reads' HO_9.out).2.1); rintro e w' ⟨rfl, ⟨nd, rfl⟩⟩))
          go_meet
          case rel => exact ⟨_, ((t291 != t278)), tf_, H', ⟨by have := HJ12.out; first | omega | exact Nat.le_refl _⟩, ⟨by (with_reducible repeat (first | apply Kd.R_alloc | apply Kd.R_drewN | apply Kd.R_drew)); exact Kd.R_mono HO_8.out (fun _ hk => ⟨hk.1, ⟨hk.2.1, ⟨hk.2.2.1, hk.2.2.2.1⟩⟩⟩)⟩, ⟨by (with_reducible repeat (first | apply Kd.R_alloc | apply Kd.R_drewN | apply Kd.R_drew)); exact Kd.R_mono HO_9.out (fun _ hk => ⟨hk.1, ⟨hk.2.1, ⟨hk.2.2.1, hk.2.2.2.1⟩⟩⟩)⟩, ⟨by (with_reducible repeat (first | apply Kd.R_alloc | apply Kd.R_drewN | apply Kd.R_drew)); exact Kd.R_mono HO_12.out (fun _ hk => ⟨hk.1, ⟨hk.2.1, ⟨hk.2.2.1, hk.2.2.2.1⟩⟩⟩)⟩, ⟨by (with_reducible repeat (first | apply Kd.R_alloc | apply Kd.R_drewN | apply Kd.R_drew)); exact Kd.R_mono HO_13.out (fun _ hk => ⟨hk.1, ⟨hk.2.1, ⟨hk.2.2.1, hk.2.2.2.1⟩⟩⟩)⟩, ⟨by (with_reducible repeat (first | apply Kd.R_alloc | apply Kd.R_drewN | apply Kd.R_drew)); exact Kd.R_mono HO_285002.out (fun _ hk => ⟨hk.1.1, ⟨hk.1.2.1, ⟨hk.1.2.2.1, hk.1.2.2.2⟩⟩⟩)⟩, ⟨tk_ BK265⟩, ⟨tk_ BK284⟩, ⟨tb_⟩⟩
         ·
          replace c59 := Bool.eq_false_iff.mpr c59
          subst c59
          have H1 : (laws_FnExactNumbersByCell.j1 kj12 a1 a2 t272 t275 t278 t285 t288 true a0_0 a0_1 l0_2) = some r := by rw [if_neg (show ¬ (false = true) by decide)] at H; exact H
          clear H
          have H := H1
          clear H1
          have H' := A_ H
          clear H
          obtain ⟨Ao64, co64, eo64⟩ := Kd.R_slice HO_12.out
          subst eo64
          obtain ⟨Ao65, co65, eo65⟩ := Kd.R_slice HO_8.out
          subst eo65
          go_wp2_with (first | (go_at_call 21; (with_reducible refine (laws_eqIntS.calls kj12 _ _ t285 _ _ t272 true _ ?side1 ?side2 ?side3 ?side4 A56.out).mono ?_); (case side1 => exact tc0_ (Kd.R_reads' HO_12.out).2.2); (case side2 => exact (Kd.R_reads' HO_12.out).2.1); (case side3 => exact tc0_ (Kd.R_reads' HO_8.out).2.2); (case side4 => exact (Kd.R_reads' HO_8.out).2.1); rintro e w' ⟨rfl, ⟨nd, rfl⟩⟩; obtain ⟨Ao66, co66, eo66⟩ := Kd.R_slice HO_13.out; subst eo66; obtain ⟨Ao67, co67, eo67⟩ := Kd.R_slice HO_9.out; subst eo67) | (go_at_call 21; (with_reducible refine (laws_eqIntS.calls kj12 _ _ t288 _ _ t275 false _ ?side1 ?side2 ?side3 ?side4 A58.out).mono ?_); (case side1 => exact tc0_ (Kd.R_reads' HO_13.out).2.2); (case side2 => exact (Kd.R_reads' HO_13.out).2.1); (case side3 => exact tc0_ (Kd.R_reads' HO_9.out).2.2); (case side4 => exact (Kd.R_reads' HO_9.out).2.1); rintro e w' ⟨rfl, ⟨nd, rfl⟩⟩))
          go_meet
          case rel => exact ⟨_, (true), tf_, H', ⟨by have := HJ12.out; first | omega | exact Nat.le_refl _⟩, ⟨by (with_reducible repeat (first | apply Kd.R_alloc | apply Kd.R_drewN | apply Kd.R_drew)); exact Kd.R_mono HO_8.out (fun _ hk => ⟨hk.1, ⟨hk.2.1, ⟨hk.2.2.1, hk.2.2.2.1⟩⟩⟩)⟩, ⟨by (with_reducible repeat (first | apply Kd.R_alloc | apply Kd.R_drewN | apply Kd.R_drew)); exact Kd.R_mono HO_9.out (fun _ hk => ⟨hk.1, ⟨hk.2.1, ⟨hk.2.2.1, hk.2.2.2.1⟩⟩⟩)⟩, ⟨by (with_reducible repeat (first | apply Kd.R_alloc | apply Kd.R_drewN | apply Kd.R_drew)); exact Kd.R_mono HO_12.out (fun _ hk => ⟨hk.1, ⟨hk.2.1, ⟨hk.2.2.1, hk.2.2.2.1⟩⟩⟩)⟩, ⟨by (with_reducible repeat (first | apply Kd.R_alloc | apply Kd.R_drewN | apply Kd.R_drew)); exact Kd.R_mono HO_13.out (fun _ hk => ⟨hk.1, ⟨hk.2.1, ⟨hk.2.2.1, hk.2.2.2.1⟩⟩⟩)⟩, ⟨by (with_reducible repeat (first | apply Kd.R_alloc | apply Kd.R_drewN | apply Kd.R_drew)); exact Kd.R_mono HO_285002.out (fun _ hk => ⟨hk.1.1, ⟨hk.1.2.1, ⟨hk.1.2.2.1, hk.1.2.2.2⟩⟩⟩)⟩, ⟨tk_ BK265⟩, ⟨tk_ BK284⟩, ⟨tb_⟩⟩
        ·
         replace c57 := Bool.eq_false_iff.mpr c57
         subst c57
         have H1 : (laws_FnExactNumbersByCell.j1 kj12 a1 a2 t272 t275 t278 t285 t288 true a0_0 a0_1 l0_2) = some r := by rw [if_neg (show ¬ (false = true) by decide)] at H; exact H
         clear H
         have H := H1
         clear H1
         have H' := A_ H
         clear H
         obtain ⟨Ao68, co68, eo68⟩ := Kd.R_slice HO_12.out
         subst eo68
         obtain ⟨Ao69, co69, eo69⟩ := Kd.R_slice HO_8.out
         subst eo69
         go_wp2_with (first | (go_at_call 21; (with_reducible refine (laws_eqIntS.calls kj12 _ _ t285 _ _ t272 false _ ?side1 ?side2 ?side3 ?side4 A56.out).mono ?_); (case side1 => exact tc0_ (Kd.R_reads' HO_12.out).2.2); (case side2 => exact (Kd.R_reads' HO_12.out).2.1); (case side3 => exact tc0_ (Kd.R_reads' HO_8.out).2.2); (case side4 => exact (Kd.R_reads' HO_8.out).2.1); rintro e w' ⟨rfl, ⟨nd, rfl⟩⟩))
         go_meet
         case rel => exact ⟨_, (true), tf_, H', ⟨by have := HJ12.out; first | omega | exact Nat.le_refl _⟩, ⟨by (with_reducible repeat (first | apply Kd.R_alloc | apply Kd.R_drewN | apply Kd.R_drew)); exact Kd.R_mono HO_8.out (fun _ hk => ⟨hk.1, ⟨hk.2.1, ⟨hk.2.2.1, hk.2.2.2.1⟩⟩⟩)⟩, ⟨by (with_reducible repeat (first | apply Kd.R_alloc | apply Kd.R_drewN | apply Kd.R_drew)); exact Kd.R_mono HO_9.out (fun _ hk => ⟨hk.1, ⟨hk.2.1, ⟨hk.2.2.1, hk.2.2.2.1⟩⟩⟩)⟩, ⟨by (with_reducible repeat (first | apply Kd.R_alloc | apply Kd.R_drewN | apply Kd.R_drew)); exact Kd.R_mono HO_12.out (fun _ hk => ⟨hk.1, ⟨hk.2.1, ⟨hk.2.2.1, hk.2.2.2.1⟩⟩⟩)⟩, ⟨by (with_reducible repeat (first | apply Kd.R_alloc | apply Kd.R_drewN | apply Kd.R_drew)); exact Kd.R_mono HO_13.out (fun _ hk => ⟨hk.1, ⟨hk.2.1, ⟨hk.2.2.1, hk.2.2.2.1⟩⟩⟩)⟩, ⟨by (with_reducible repeat (first | apply Kd.R_alloc | apply Kd.R_drewN | apply Kd.R_drew)); exact Kd.R_mono HO_285002.out (fun _ hk => ⟨hk.1.1, ⟨hk.1.2.1, ⟨hk.1.2.2.1, hk.1.2.2.2⟩⟩⟩)⟩, ⟨tk_ BK265⟩, ⟨tk_ BK284⟩, ⟨tb_⟩⟩
      case rest =>
       clear HC47
       try clear c1
       try clear c2
       try clear p2
       try clear c3
       try clear c4
       try clear c5
       try clear c5b0
       try clear c17
       try clear c18
       try clear c19
       try clear c20
       try clear c21
       try clear c22
       try clear c23
       try clear c24
       try clear c29
       try clear c31
       try clear c42
       try clear c45
       try clear c52
       try clear c55
       try clear c55b0
       try clear c57
       try clear c59
       try clear hcz15_0
       try clear hcz15_1
       try clear hcz15_2
       try clear hcz17_0
       try clear hcz17_1
       try clear hcz17_2
       try clear hcz21_0
       try clear hcz21_1
       try clear hcz21_2
       try clear hcz25_0
       try clear hcz25_1
       try clear hcz25_2
       try clear hcz53_0
       try clear hcz53_1
       try clear hcz53_2
       try clear hcz7_0
       try clear hcz7_1
       try clear hcz7_2
       try clear hfz15_0
       try clear hfz15_1
       try clear hfz15_2
       try clear hfz17_0
       try clear hfz17_1
       try clear hfz17_2
       try clear hfz21_0
       try clear hfz21_1
       try clear hfz21_2
       try clear hfz25_0
       try clear hfz25_1
       try clear hfz25_2
       try clear hfz53_0
       try clear hfz53_1
       try clear hfz53_2
       try clear hfz7_0
       try clear hfz7_1
       try clear hfz7_2
       try clear p2
       obtain ⟨kq, x86_46, rfl, HA, HJ46, HO_8, HO_9, HO_12, HO_13, HO_285002, BK265, BK284, HB⟩ := hcut
       have hl285002_46 := (Kd.R_reads' HO_285002.out).1
       rw [hl285002_46] at HO_285002
       (try simp only [hl285002_46])
       (try simp only [hl285002_46] at BK265)
       (try simp only [hl285002_46] at BK284)
       (try simp only [hl285002_46] at HO_8)
       (try simp only [hl285002_46] at HO_9)
       (try simp only [hl285002_46] at HO_12)
       (try simp only [hl285002_46] at HO_13)
       cases kq with
       | zero => exact absurd HA.out (by simp [laws_FnExactNumbersByCell.j1])
       | succ kj46 =>
        have H := HA.out
        clear HA
        simp only [laws_FnExactNumbersByCell.j1] at H
        by_cases c70 : x86_46 = true
        ·
         subst c70
         have H1 : (some false) = some r := by rw [if_pos rfl] at H; exact H
         clear H
         have H := H1
         clear H1
         obtain rfl := Option.some.inj H
         go_wp2
         go_ret
         exact ⟨te_, tb_⟩
        ·
         replace c70 := Bool.eq_false_iff.mpr c70
         subst c70
         have H1 : ((laws_markIntS.f kj46 t285 1).bind fun bt304 => ((laws_markIntS.f kj46 t288 bt304.1).bind fun bt306 => ((laws_heldIntS.f kj46 bt304.2 1).bind fun t308 => (if t308 < 0 then (some false) else ((laws_heldIntS.f kj46 bt306.2 t308).bind fun t309 => (if t309 < 0 then (some false) else (if t309 = bt306.1 then ((laws_toBoard.f kj46 a0_0 a0_1 l0_2).bind fun bt310 => ((impl_NumbersByCell.f kj46 bt310.1 bt310.2.1 bt310.2.2 a1 a2).bind fun bt315 => ((laws_eqIntS.f kj46 bt315.1 t272).bind fun t322 => (if t322 = true then ((laws_eqIntS.f kj46 bt315.2.1 t275).bind fun t323 => (if t323 = true then (laws_FnExactNumbersByCell.j2 kj46 bt304.2 bt306.2 bt306.1 (bt315.2.2 != t278)) else (laws_FnExactNumbersByCell.j2 kj46 bt304.2 bt306.2 bt306.1 true))) else (laws_FnExactNumbersByCell.j2 kj46 bt304.2 bt306.2 bt306.1 true))))) else (some false)))))))) = some r := by rw [if_neg (show ¬ (false = true) by decide)] at H; exact H
         clear H
         have H := H1
         clear H1
         replace H := Option.bind_eq_some_iff.mp H
         obtain ⟨⟨t304, t305⟩, A710, H⟩ := H
         replace H : ((laws_markIntS.f kj46 t288 t304).bind fun bt306 => ((laws_heldIntS.f kj46 t305 1).bind fun t308 => (if t308 < 0 then (some false) else ((laws_heldIntS.f kj46 bt306.2 t308).bind fun t309 => (if t309 < 0 then (some false) else (if t309 = bt306.1 then ((laws_toBoard.f kj46 a0_0 a0_1 l0_2).bind fun bt310 => ((impl_NumbersByCell.f kj46 bt310.1 bt310.2.1 bt310.2.2 a1 a2).bind fun bt315 => ((laws_eqIntS.f kj46 bt315.1 t272).bind fun t322 => (if t322 = true then ((laws_eqIntS.f kj46 bt315.2.1 t275).bind fun t323 => (if t323 = true then (laws_FnExactNumbersByCell.j2 kj46 t305 bt306.2 bt306.1 (bt315.2.2 != t278)) else (laws_FnExactNumbersByCell.j2 kj46 t305 bt306.2 bt306.1 true))) else (laws_FnExactNumbersByCell.j2 kj46 t305 bt306.2 bt306.1 true))))) else (some false))))))) = some r := H
         have A71 := A_ A710
         clear A710
         replace H := Option.bind_eq_some_iff.mp H
         obtain ⟨⟨t306, t307⟩, A720, H⟩ := H
         replace H : ((laws_heldIntS.f kj46 t305 1).bind fun t308 => (if t308 < 0 then (some false) else ((laws_heldIntS.f kj46 t307 t308).bind fun t309 => (if t309 < 0 then (some false) else (if t309 = t306 then ((laws_toBoard.f kj46 a0_0 a0_1 l0_2).bind fun bt310 => ((impl_NumbersByCell.f kj46 bt310.1 bt310.2.1 bt310.2.2 a1 a2).bind fun bt315 => ((laws_eqIntS.f kj46 bt315.1 t272).bind fun t322 => (if t322 = true then ((laws_eqIntS.f kj46 bt315.2.1 t275).bind fun t323 => (if t323 = true then (laws_FnExactNumbersByCell.j2 kj46 t305 t307 t306 (bt315.2.2 != t278)) else (laws_FnExactNumbersByCell.j2 kj46 t305 t307 t306 true))) else (laws_FnExactNumbersByCell.j2 kj46 t305 t307 t306 true))))) else (some false)))))) = some r := H
         have A72 := A_ A720
         clear A720
         replace H := Option.bind_eq_some_iff.mp H
         obtain ⟨t308, A730, H⟩ := H
         replace H : (if t308 < 0 then (some false) else ((laws_heldIntS.f kj46 t307 t308).bind fun t309 => (if t309 < 0 then (some false) else (if t309 = t306 then ((laws_toBoard.f kj46 a0_0 a0_1 l0_2).bind fun bt310 => ((impl_NumbersByCell.f kj46 bt310.1 bt310.2.1 bt310.2.2 a1 a2).bind fun bt315 => ((laws_eqIntS.f kj46 bt315.1 t272).bind fun t322 => (if t322 = true then ((laws_eqIntS.f kj46 bt315.2.1 t275).bind fun t323 => (if t323 = true then (laws_FnExactNumbersByCell.j2 kj46 t305 t307 t306 (bt315.2.2 != t278)) else (laws_FnExactNumbersByCell.j2 kj46 t305 t307 t306 true))) else (laws_FnExactNumbersByCell.j2 kj46 t305 t307 t306 true))))) else (some false))))) = some r := H
         have A73 := A_ A730
         clear A730
         by_cases c74 : t308 < 0
         ·
          rw [if_pos c74] at H
          have c74b0 := decide_eq_true c74
          clear c74
          obtain rfl := Option.some.inj H
          obtain ⟨Ao75, co75, eo75⟩ := Kd.R_slice HO_12.out
          subst eo75
          go_wp2_with (first | (refine gc_ 24 ?_; refine goesT_ (some 89) Try.func24 #[.slice Ao75 t285.length co75, .int .i64 1] ?_; (with_reducible refine (laws_markIntS.calls kj46 (fun k_ => some k_ = (.slice Ao75 t285.length co75 : Value).ownBlock) (.slice Ao75 t285.length co75) t285 1 t304 t305 w _ ?side1 ?side2 A71.out).mono ?_); (case side1 => repeat (first | (with_reducible first | exact HB.out | apply below_alloc | apply pw_below_drewN | apply below_drew1 | refine below_set ?_ GE265.out | refine below_set ?_ GE284.out) | exact HB.out)); (case side2 => exact Kd.R_tight rfl HO_12.out); rintro e w76 ⟨rfl, hy0, hb, hkp⟩; refine ⟨_, rfl, ?_⟩; replace HO_8 := A_ (Kd.R_mono (ok' := fun k_ => some k_ ≠ (v276 : Value).ownBlock ∧ some k_ ≠ (.slice Ao75 t285.length co75 : Value).ownBlock ∧ some k_ ≠ (v289 : Value).ownBlock ∧ some k_ ≠ (.slice Ao26 t301.length co26 : Value).ownBlock) (Kd.R_keptB (HO_8.out) hkp (fun k_ hk_ hs_ => (hk_.2.1) hs_)) (fun k_ hk_ => ⟨hk_.1.1, hk_.1.2.1, hk_.1.2.2.1, hk_.1.2.2.2⟩)); replace HO_9 := A_ (Kd.R_mono (ok' := fun k_ => some k_ ≠ (v273 : Value).ownBlock ∧ some k_ ≠ (.slice Ao75 t285.length co75 : Value).ownBlock ∧ some k_ ≠ (v289 : Value).ownBlock ∧ some k_ ≠ (.slice Ao26 t301.length co26 : Value).ownBlock) (Kd.R_keptB (HO_9.out) hkp (fun k_ hk_ hs_ => (hk_.2.1) hs_)) (fun k_ hk_ => ⟨hk_.1.1, hk_.1.2.1, hk_.1.2.2.1, hk_.1.2.2.2⟩)); replace HO_13 := A_ (Kd.R_mono (ok' := fun k_ => some k_ ≠ (v273 : Value).ownBlock ∧ some k_ ≠ (v276 : Value).ownBlock ∧ some k_ ≠ (.slice Ao75 t285.length co75 : Value).ownBlock ∧ some k_ ≠ (.slice Ao26 t301.length co26 : Value).ownBlock) (Kd.R_keptB (HO_13.out) hkp (fun k_ hk_ hs_ => (hk_.2.2.1) hs_)) (fun k_ hk_ => ⟨hk_.1.1, hk_.1.2.1, hk_.1.2.2.1, hk_.1.2.2.2⟩)); replace HO_285002 := A_ (Kd.R_mono (ok' := fun k_ => some k_ ≠ (v273 : Value).ownBlock ∧ some k_ ≠ (v276 : Value).ownBlock ∧ some k_ ≠ (.slice Ao75 t285.length co75 : Value).ownBlock ∧ some k_ ≠ (v289 : Value).ownBlock) (Kd.R_keptB (HO_285002.out) hkp (fun k_ hk_ hs_ => (hk_.2.2.1) hs_)) (fun k_ hk_ => ⟨hk_.1.1, hk_.1.2.1, hk_.1.2.2.1, hk_.1.2.2.2⟩)); replace BK265 := A_ (blk_kept (tk_ BK265) hkp (fun hs_ => (fun e_ => (Kd.R_ne HO_12.out BK265.out (by decide)) e_) hs_)); replace BK284 := A_ (blk_kept (tk_ BK284) hkp (fun hs_ => (fun e_ => (Kd.R_ne HO_12.out BK284.out (by decide)) e_) hs_)); replace HO_12 := A_ (Kd.R_reok rfl hy0 (fun k_ e_ => HO_12.out.1 k_ e_)); replace HB := A_ (hb); (try clear hb); (try clear hkp); (try clear hy0); obtain ⟨Ao77, co77, eo77⟩ := Kd.R_slice HO_13.out; subst eo77) | (refine gc_ 24 ?_; refine goesT_ (some 92) Try.func24 #[.slice Ao77 t288.length co77, .int .i64 t304] ?_; (with_reducible refine (laws_markIntS.calls kj46 (fun k_ => some k_ = (.slice Ao77 t288.length co77 : Value).ownBlock) (.slice Ao77 t288.length co77) t288 t304 t306 t307 w _ ?side1 ?side2 A72.out).mono ?_); (case side1 => repeat (first | (with_reducible first | exact HB.out | apply below_alloc | apply pw_below_drewN | apply below_drew1 | refine below_set ?_ GE265.out | refine below_set ?_ GE284.out) | exact HB.out)); (case side2 => exact Kd.R_tight rfl HO_13.out); rintro e w78 ⟨rfl, hy0, hb, hkp⟩; refine ⟨_, rfl, ?_⟩; replace HO_8 := A_ (Kd.R_mono (ok' := fun k_ => some k_ ≠ (v276 : Value).ownBlock ∧ some k_ ≠ (.slice Ao75 t285.length co75 : Value).ownBlock ∧ some k_ ≠ (.slice Ao77 t288.length co77 : Value).ownBlock ∧ some k_ ≠ (.slice Ao26 t301.length co26 : Value).ownBlock) (Kd.R_keptB (HO_8.out) hkp (fun k_ hk_ hs_ => (hk_.2.2.1) hs_)) (fun k_ hk_ => ⟨hk_.1.1, hk_.1.2.1, hk_.1.2.2.1, hk_.1.2.2.2⟩)); replace HO_9 := A_ (Kd.R_mono (ok' := fun k_ => some k_ ≠ (v273 : Value).ownBlock ∧ some k_ ≠ (.slice Ao75 t285.length co75 : Value).ownBlock ∧ some k_ ≠ (.slice Ao77 t288.length co77 : Value).ownBlock ∧ some k_ ≠ (.slice Ao26 t301.length co26 : Value).ownBlock) (Kd.R_keptB (HO_9.out) hkp (fun k_ hk_ hs_ => (hk_.2.2.1) hs_)) (fun k_ hk_ => ⟨hk_.1.1, hk_.1.2.1, hk_.1.2.2.1, hk_.1.2.2.2⟩)); replace HO_12 := A_ (Kd.R_mono (ok' := fun k_ => some k_ ≠ (v273 : Value).ownBlock ∧ some k_ ≠ (v276 : Value).ownBlock ∧ some k_ ≠ (.slice Ao77 t288.length co77 : Value).ownBlock ∧ some k_ ≠ (.slice Ao26 t301.length co26 : Value).ownBlock) (Kd.R_keptB (HO_12.out) hkp (fun k_ hk_ hs_ => (hk_.2.2.1) hs_)) (fun k_ hk_ => ⟨hk_.1.1, hk_.1.2.1, hk_.1.2.2.1, hk_.1.2.2.2⟩)); replace HO_285002 := A_ (Kd.R_mono (ok' := fun k_ => some k_ ≠ (v273 : Value).ownBlock ∧ some k_ ≠ (v276 : Value).ownBlock ∧ some k_ ≠ (.slice Ao75 t285.length co75 : Value).ownBlock ∧ some k_ ≠ (.slice Ao77 t288.length co77 : Value).ownBlock) (Kd.R_keptB (HO_285002.out) hkp (fun k_ hk_ hs_ => (hk_.2.2.2) hs_)) (fun k_ hk_ => ⟨hk_.1.1, hk_.1.2.1, hk_.1.2.2.1, hk_.1.2.2.2⟩)); replace BK265 := A_ (blk_kept (tk_ BK265) hkp (fun hs_ => (fun e_ => (Kd.R_ne HO_13.out BK265.out (by decide)) e_) hs_)); replace BK284 := A_ (blk_kept (tk_ BK284) hkp (fun hs_ => (fun e_ => (Kd.R_ne HO_13.out BK284.out (by decide)) e_) hs_)); replace HO_13 := A_ (Kd.R_reok rfl hy0 (fun k_ e_ => HO_13.out.1 k_ e_)); replace HB := A_ (hb); (try clear hb); (try clear hkp); (try clear hy0)) | (refine gc_ 25 ?_; refine goesL_ (some 95) rfl rfl Try.func25 (by kernel_rfl) rfl #[.slice Ao75 t305.length co75, .int .i64 1] rfl (by (try simp only [List.map_toArray, List.map_cons, List.map_nil]); first | done | (rw [show t305.length = t285.length from (Kd.R_reads' HO_12.out).1.symm] <;> rfl) | rfl | (simp only [List.length_drop, List.length_take]; rfl)) ?_; (with_reducible refine (laws_heldIntS.calls kj46 _ _ t305 1 t308 _ ?side1 ?side2 A73.out).mono ?_); (case side1 => exact tc0_ (Kd.R_reads' HO_12.out).2.2); (case side2 => rw [show t305.length = t285.length from (Kd.R_reads' HO_12.out).1.symm]; exact (Kd.R_reads' HO_12.out).2.1); rintro e w' ⟨rfl, ⟨nd, rfl⟩⟩; refine ⟨_, rfl, ?_⟩))
          go_ret
          exact ⟨te_, tb_⟩
         ·
          rw [if_neg c74] at H
          have c74b0 := decide_eq_false c74
          clear c74
          replace H := Option.bind_eq_some_iff.mp H
          obtain ⟨t309, A790, H⟩ := H
          replace H : (if t309 < 0 then (some false) else (if t309 = t306 then ((laws_toBoard.f kj46 a0_0 a0_1 l0_2).bind fun bt310 => ((impl_NumbersByCell.f kj46 bt310.1 bt310.2.1 bt310.2.2 a1 a2).bind fun bt315 => ((laws_eqIntS.f kj46 bt315.1 t272).bind fun t322 => (if t322 = true then ((laws_eqIntS.f kj46 bt315.2.1 t275).bind fun t323 => (if t323 = true then (laws_FnExactNumbersByCell.j2 kj46 t305 t307 t306 (bt315.2.2 != t278)) else (laws_FnExactNumbersByCell.j2 kj46 t305 t307 t306 true))) else (laws_FnExactNumbersByCell.j2 kj46 t305 t307 t306 true))))) else (some false))) = some r := H
          have A79 := A_ A790
          clear A790
          by_cases c80 : t309 < 0
          ·
           rw [if_pos c80] at H
           have c80b0 := decide_eq_true c80
           clear c80
           obtain rfl := Option.some.inj H
           obtain ⟨Ao81, co81, eo81⟩ := Kd.R_slice HO_12.out
           subst eo81
           go_wp2_with (first | (refine gc_ 24 ?_; refine goesT_ (some 89) Try.func24 #[.slice Ao81 t285.length co81, .int .i64 1] ?_; (with_reducible refine (laws_markIntS.calls kj46 (fun k_ => some k_ = (.slice Ao81 t285.length co81 : Value).ownBlock) (.slice Ao81 t285.length co81) t285 1 t304 t305 w _ ?side1 ?side2 A71.out).mono ?_); (case side1 => repeat (first | (with_reducible first | exact HB.out | apply below_alloc | apply pw_below_drewN | apply below_drew1 | refine below_set ?_ GE265.out | refine below_set ?_ GE284.out) | exact HB.out)); (case side2 => exact Kd.R_tight rfl HO_12.out); rintro e w82 ⟨rfl, hy0, hb, hkp⟩; refine ⟨_, rfl, ?_⟩; replace HO_8 := A_ (Kd.R_mono (ok' := fun k_ => some k_ ≠ (v276 : Value).ownBlock ∧ some k_ ≠ (.slice Ao81 t285.length co81 : Value).ownBlock ∧ some k_ ≠ (v289 : Value).ownBlock ∧ some k_ ≠ (.slice Ao26 t301.length co26 : Value).ownBlock) (Kd.R_keptB (HO_8.out) hkp (fun k_ hk_ hs_ => (hk_.2.1) hs_)) (fun k_ hk_ => ⟨hk_.1.1, hk_.1.2.1, hk_.1.2.2.1, hk_.1.2.2.2⟩)); replace HO_9 := A_ (Kd.R_mono (ok' := fun k_ => some k_ ≠ (v273 : Value).ownBlock ∧ some k_ ≠ (.slice Ao81 t285.length co81 : Value).ownBlock ∧ some k_ ≠ (v289 : Value).ownBlock ∧ some k_ ≠ (.slice Ao26 t301.length co26 : Value).ownBlock) (Kd.R_keptB (HO_9.out) hkp (fun k_ hk_ hs_ => (hk_.2.1) hs_)) (fun k_ hk_ => ⟨hk_.1.1, hk_.1.2.1, hk_.1.2.2.1, hk_.1.2.2.2⟩)); replace HO_13 := A_ (Kd.R_mono (ok' := fun k_ => some k_ ≠ (v273 : Value).ownBlock ∧ some k_ ≠ (v276 : Value).ownBlock ∧ some k_ ≠ (.slice Ao81 t285.length co81 : Value).ownBlock ∧ some k_ ≠ (.slice Ao26 t301.length co26 : Value).ownBlock) (Kd.R_keptB (HO_13.out) hkp (fun k_ hk_ hs_ => (hk_.2.2.1) hs_)) (fun k_ hk_ => ⟨hk_.1.1, hk_.1.2.1, hk_.1.2.2.1, hk_.1.2.2.2⟩)); replace HO_285002 := A_ (Kd.R_mono (ok' := fun k_ => some k_ ≠ (v273 : Value).ownBlock ∧ some k_ ≠ (v276 : Value).ownBlock ∧ some k_ ≠ (.slice Ao81 t285.length co81 : Value).ownBlock ∧ some k_ ≠ (v289 : Value).ownBlock) (Kd.R_keptB (HO_285002.out) hkp (fun k_ hk_ hs_ => (hk_.2.2.1) hs_)) (fun k_ hk_ => ⟨hk_.1.1, hk_.1.2.1, hk_.1.2.2.1, hk_.1.2.2.2⟩)); replace BK265 := A_ (blk_kept (tk_ BK265) hkp (fun hs_ => (fun e_ => (Kd.R_ne HO_12.out BK265.out (by decide)) e_) hs_)); replace BK284 := A_ (blk_kept (tk_ BK284) hkp (fun hs_ => (fun e_ => (Kd.R_ne HO_12.out BK284.out (by decide)) e_) hs_)); replace HO_12 := A_ (Kd.R_reok rfl hy0 (fun k_ e_ => HO_12.out.1 k_ e_)); replace HB := A_ (hb); (try clear hb); (try clear hkp); (try clear hy0); obtain ⟨Ao83, co83, eo83⟩ := Kd.R_slice HO_13.out; subst eo83) | (refine gc_ 24 ?_; refine goesT_ (some 92) Try.func24 #[.slice Ao83 t288.length co83, .int .i64 t304] ?_; (with_reducible refine (laws_markIntS.calls kj46 (fun k_ => some k_ = (.slice Ao83 t288.length co83 : Value).ownBlock) (.slice Ao83 t288.length co83) t288 t304 t306 t307 w _ ?side1 ?side2 A72.out).mono ?_); (case side1 => repeat (first | (with_reducible first | exact HB.out | apply below_alloc | apply pw_below_drewN | apply below_drew1 | refine below_set ?_ GE265.out | refine below_set ?_ GE284.out) | exact HB.out)); (case side2 => exact Kd.R_tight rfl HO_13.out); rintro e w84 ⟨rfl, hy0, hb, hkp⟩; refine ⟨_, rfl, ?_⟩; replace HO_8 := A_ (Kd.R_mono (ok' := fun k_ => some k_ ≠ (v276 : Value).ownBlock ∧ some k_ ≠ (.slice Ao81 t285.length co81 : Value).ownBlock ∧ some k_ ≠ (.slice Ao83 t288.length co83 : Value).ownBlock ∧ some k_ ≠ (.slice Ao26 t301.length co26 : Value).ownBlock) (Kd.R_keptB (HO_8.out) hkp (fun k_ hk_ hs_ => (hk_.2.2.1) hs_)) (fun k_ hk_ => ⟨hk_.1.1, hk_.1.2.1, hk_.1.2.2.1, hk_.1.2.2.2⟩)); replace HO_9 := A_ (Kd.R_mono (ok' := fun k_ => some k_ ≠ (v273 : Value).ownBlock ∧ some k_ ≠ (.slice Ao81 t285.length co81 : Value).ownBlock ∧ some k_ ≠ (.slice Ao83 t288.length co83 : Value).ownBlock ∧ some k_ ≠ (.slice Ao26 t301.length co26 : Value).ownBlock) (Kd.R_keptB (HO_9.out) hkp (fun k_ hk_ hs_ => (hk_.2.2.1) hs_)) (fun k_ hk_ => ⟨hk_.1.1, hk_.1.2.1, hk_.1.2.2.1, hk_.1.2.2.2⟩)); replace HO_12 := A_ (Kd.R_mono (ok' := fun k_ => some k_ ≠ (v273 : Value).ownBlock ∧ some k_ ≠ (v276 : Value).ownBlock ∧ some k_ ≠ (.slice Ao83 t288.length co83 : Value).ownBlock ∧ some k_ ≠ (.slice Ao26 t301.length co26 : Value).ownBlock) (Kd.R_keptB (HO_12.out) hkp (fun k_ hk_ hs_ => (hk_.2.2.1) hs_)) (fun k_ hk_ => ⟨hk_.1.1, hk_.1.2.1, hk_.1.2.2.1, hk_.1.2.2.2⟩)); replace HO_285002 := A_ (Kd.R_mono (ok' := fun k_ => some k_ ≠ (v273 : Value).ownBlock ∧ some k_ ≠ (v276 : Value).ownBlock ∧ some k_ ≠ (.slice Ao81 t285.length co81 : Value).ownBlock ∧ some k_ ≠ (.slice Ao83 t288.length co83 : Value).ownBlock) (Kd.R_keptB (HO_285002.out) hkp (fun k_ hk_ hs_ => (hk_.2.2.2) hs_)) (fun k_ hk_ => ⟨hk_.1.1, hk_.1.2.1, hk_.1.2.2.1, hk_.1.2.2.2⟩)); replace BK265 := A_ (blk_kept (tk_ BK265) hkp (fun hs_ => (fun e_ => (Kd.R_ne HO_13.out BK265.out (by decide)) e_) hs_)); replace BK284 := A_ (blk_kept (tk_ BK284) hkp (fun hs_ => (fun e_ => (Kd.R_ne HO_13.out BK284.out (by decide)) e_) hs_)); replace HO_13 := A_ (Kd.R_reok rfl hy0 (fun k_ e_ => HO_13.out.1 k_ e_)); replace HB := A_ (hb); (try clear hb); (try clear hkp); (try clear hy0)) | (refine gc_ 25 ?_; refine goesL_ (some 95) rfl rfl Try.func25 (by kernel_rfl) rfl #[.slice Ao81 t305.length co81, .int .i64 1] rfl (by (try simp only [List.map_toArray, List.map_cons, List.map_nil]); first | done | (rw [show t305.length = t285.length from (Kd.R_reads' HO_12.out).1.symm] <;> rfl) | rfl | (simp only [List.length_drop, List.length_take]; rfl)) ?_; (with_reducible refine (laws_heldIntS.calls kj46 _ _ t305 1 t308 _ ?side1 ?side2 A73.out).mono ?_); (case side1 => exact tc0_ (Kd.R_reads' HO_12.out).2.2); (case side2 => rw [show t305.length = t285.length from (Kd.R_reads' HO_12.out).1.symm]; exact (Kd.R_reads' HO_12.out).2.1); rintro e w' ⟨rfl, ⟨nd, rfl⟩⟩; refine ⟨_, rfl, ?_⟩) | (refine gc_ 25 ?_; refine goesL_ (some 100) rfl rfl Try.func25 (by kernel_rfl) rfl #[.slice Ao83 t307.length co83, .int .i64 t308] rfl (by (try simp only [List.map_toArray, List.map_cons, List.map_nil]); first | done | (rw [show t307.length = t288.length from (Kd.R_reads' HO_13.out).1.symm] <;> rfl) | rfl | (simp only [List.length_drop, List.length_take]; rfl)) ?_; (with_reducible refine (laws_heldIntS.calls kj46 _ _ t307 t308 t309 _ ?side1 ?side2 A79.out).mono ?_); (case side1 => exact tc0_ (Kd.R_reads' HO_13.out).2.2); (case side2 => rw [show t307.length = t288.length from (Kd.R_reads' HO_13.out).1.symm]; exact (Kd.R_reads' HO_13.out).2.1); rintro e w' ⟨rfl, ⟨nd, rfl⟩⟩; refine ⟨_, rfl, ?_⟩))
           go_ret
           exact ⟨te_, tb_⟩
          ·
           rw [if_neg c80] at H
           have c80b0 := decide_eq_false c80
           clear c80
           by_cases c85 : t309 = t306
           ·
            rw [if_pos c85] at H
            have c85b0 : (t309 == t306) = true := beq_iff_eq.mpr c85
            have c85b1 : (t309 != t306) = false := bne_eq_false_iff_eq.mpr c85
            clear c85
            replace H := Option.bind_eq_some_iff.mp H
            obtain ⟨⟨t310, t311, t312⟩, A860, H⟩ := H
            replace H : ((impl_NumbersByCell.f kj46 t310 t311 t312 a1 a2).bind fun bt315 => ((laws_eqIntS.f kj46 bt315.1 t272).bind fun t322 => (if t322 = true then ((laws_eqIntS.f kj46 bt315.2.1 t275).bind fun t323 => (if t323 = true then (laws_FnExactNumbersByCell.j2 kj46 t305 t307 t306 (bt315.2.2 != t278)) else (laws_FnExactNumbersByCell.j2 kj46 t305 t307 t306 true))) else (laws_FnExactNumbersByCell.j2 kj46 t305 t307 t306 true)))) = some r := H
            have A86 := A_ A860
            clear A860
            replace H := Option.bind_eq_some_iff.mp H
            obtain ⟨⟨t315, t318, t321⟩, A870, H⟩ := H
            replace H : ((laws_eqIntS.f kj46 t315 t272).bind fun t322 => (if t322 = true then ((laws_eqIntS.f kj46 t318 t275).bind fun t323 => (if t323 = true then (laws_FnExactNumbersByCell.j2 kj46 t305 t307 t306 (t321 != t278)) else (laws_FnExactNumbersByCell.j2 kj46 t305 t307 t306 true))) else (laws_FnExactNumbersByCell.j2 kj46 t305 t307 t306 true))) = some r := H
            have A87 := A_ A870
            clear A870
            have HC88 := A_ H
            clear H
            obtain ⟨Ao89, co89, eo89⟩ := Kd.R_slice HO_12.out
            subst eo89
            go_upto_region 29 with (first | (refine gc_ 24 ?_; refine goesT_ (some 89) Try.func24 #[.slice Ao89 t285.length co89, .int .i64 1] ?_; (with_reducible refine (laws_markIntS.calls kj46 (fun k_ => some k_ = (.slice Ao89 t285.length co89 : Value).ownBlock) (.slice Ao89 t285.length co89) t285 1 t304 t305 w _ ?side1 ?side2 A71.out).mono ?_); (case side1 => repeat (first | (with_reducible first | exact HB.out | apply below_alloc | apply pw_below_drewN | apply below_drew1 | refine below_set ?_ GE265.out | refine below_set ?_ GE284.out) | exact HB.out)); (case side2 => exact Kd.R_tight rfl HO_12.out); rintro e w90 ⟨rfl, hy0, hb, hkp⟩; refine ⟨_, rfl, ?_⟩; replace HO_8 := A_ (Kd.R_mono (ok' := fun k_ => some k_ ≠ (v276 : Value).ownBlock ∧ some k_ ≠ (.slice Ao89 t285.length co89 : Value).ownBlock ∧ some k_ ≠ (v289 : Value).ownBlock ∧ some k_ ≠ (.slice Ao26 t301.length co26 : Value).ownBlock) (Kd.R_keptB (HO_8.out) hkp (fun k_ hk_ hs_ => (hk_.2.1) hs_)) (fun k_ hk_ => ⟨hk_.1.1, hk_.1.2.1, hk_.1.2.2.1, hk_.1.2.2.2⟩)); replace HO_9 := A_ (Kd.R_mono (ok' := fun k_ => some k_ ≠ (v273 : Value).ownBlock ∧ some k_ ≠ (.slice Ao89 t285.length co89 : Value).ownBlock ∧ some k_ ≠ (v289 : Value).ownBlock ∧ some k_ ≠ (.slice Ao26 t301.length co26 : Value).ownBlock) (Kd.R_keptB (HO_9.out) hkp (fun k_ hk_ hs_ => (hk_.2.1) hs_)) (fun k_ hk_ => ⟨hk_.1.1, hk_.1.2.1, hk_.1.2.2.1, hk_.1.2.2.2⟩)); replace HO_13 := A_ (Kd.R_mono (ok' := fun k_ => some k_ ≠ (v273 : Value).ownBlock ∧ some k_ ≠ (v276 : Value).ownBlock ∧ some k_ ≠ (.slice Ao89 t285.length co89 : Value).ownBlock ∧ some k_ ≠ (.slice Ao26 t301.length co26 : Value).ownBlock) (Kd.R_keptB (HO_13.out) hkp (fun k_ hk_ hs_ => (hk_.2.2.1) hs_)) (fun k_ hk_ => ⟨hk_.1.1, hk_.1.2.1, hk_.1.2.2.1, hk_.1.2.2.2⟩)); replace HO_285002 := A_ (Kd.R_mono (ok' := fun k_ => some k_ ≠ (v273 : Value).ownBlock ∧ some k_ ≠ (v276 : Value).ownBlock ∧ some k_ ≠ (.slice Ao89 t285.length co89 : Value).ownBlock ∧ some k_ ≠ (v289 : Value).ownBlock) (Kd.R_keptB (HO_285002.out) hkp (fun k_ hk_ hs_ => (hk_.2.2.1) hs_)) (fun k_ hk_ => ⟨hk_.1.1, hk_.1.2.1, hk_.1.2.2.1, hk_.1.2.2.2⟩)); replace BK265 := A_ (blk_kept (tk_ BK265) hkp (fun hs_ => (fun e_ => (Kd.R_ne HO_12.out BK265.out (by decide)) e_) hs_)); replace BK284 := A_ (blk_kept (tk_ BK284) hkp (fun hs_ => (fun e_ => (Kd.R_ne HO_12.out BK284.out (by decide)) e_) hs_)); replace HO_12 := A_ (Kd.R_reok rfl hy0 (fun k_ e_ => HO_12.out.1 k_ e_)); replace HB := A_ (hb); (try clear hb); (try clear hkp); (try clear hy0); obtain ⟨Ao91, co91, eo91⟩ := Kd.R_slice HO_13.out; subst eo91) | (refine gc_ 24 ?_; refine goesT_ (some 92) Try.func24 #[.slice Ao91 t288.length co91, .int .i64 t304] ?_; (with_reducible refine (laws_markIntS.calls kj46 (fun k_ => some k_ = (.slice Ao91 t288.length co91 : Value).ownBlock) (.slice Ao91 t288.length co91) t288 t304 t306 t307 w _ ?side1 ?side2 A72.out).mono ?_); (case side1 => repeat (first | (with_reducible first | exact HB.out | apply below_alloc | apply pw_below_drewN | apply below_drew1 | refine below_set ?_ GE265.out | refine below_set ?_ GE284.out) | exact HB.out)); (case side2 => exact Kd.R_tight rfl HO_13.out); rintro e w92 ⟨rfl, hy0, hb, hkp⟩; refine ⟨_, rfl, ?_⟩; replace HO_8 := A_ (Kd.R_mono (ok' := fun k_ => some k_ ≠ (v276 : Value).ownBlock ∧ some k_ ≠ (.slice Ao89 t285.length co89 : Value).ownBlock ∧ some k_ ≠ (.slice Ao91 t288.length co91 : Value).ownBlock ∧ some k_ ≠ (.slice Ao26 t301.length co26 : Value).ownBlock) (Kd.R_keptB (HO_8.out) hkp (fun k_ hk_ hs_ => (hk_.2.2.1) hs_)) (fun k_ hk_ => ⟨hk_.1.1, hk_.1.2.1, hk_.1.2.2.1, hk_.1.2.2.2⟩)); replace HO_9 := A_ (Kd.R_mono (ok' := fun k_ => some k_ ≠ (v273 : Value).ownBlock ∧ some k_ ≠ (.slice Ao89 t285.length co89 : Value).ownBlock ∧ some k_ ≠ (.slice Ao91 t288.length co91 : Value).ownBlock ∧ some k_ ≠ (.slice Ao26 t301.length co26 : Value).ownBlock) (Kd.R_keptB (HO_9.out) hkp (fun k_ hk_ hs_ => (hk_.2.2.1) hs_)) (fun k_ hk_ => ⟨hk_.1.1, hk_.1.2.1, hk_.1.2.2.1, hk_.1.2.2.2⟩)); replace HO_12 := A_ (Kd.R_mono (ok' := fun k_ => some k_ ≠ (v273 : Value).ownBlock ∧ some k_ ≠ (v276 : Value).ownBlock ∧ some k_ ≠ (.slice Ao91 t288.length co91 : Value).ownBlock ∧ some k_ ≠ (.slice Ao26 t301.length co26 : Value).ownBlock) (Kd.R_keptB (HO_12.out) hkp (fun k_ hk_ hs_ => (hk_.2.2.1) hs_)) (fun k_ hk_ => ⟨hk_.1.1, hk_.1.2.1, hk_.1.2.2.1, hk_.1.2.2.2⟩)); replace HO_285002 := A_ (Kd.R_mono (ok' := fun k_ => some k_ ≠ (v273 : Value).ownBlock ∧ some k_ ≠ (v276 : Value).ownBlock ∧ some k_ ≠ (.slice Ao89 t285.length co89 : Value).ownBlock ∧ some k_ ≠ (.slice Ao91 t288.length co91 : Value).ownBlock) (Kd.R_keptB (HO_285002.out) hkp (fun k_ hk_ hs_ => (hk_.2.2.2) hs_)) (fun k_ hk_ => ⟨hk_.1.1, hk_.1.2.1, hk_.1.2.2.1, hk_.1.2.2.2⟩)); replace BK265 := A_ (blk_kept (tk_ BK265) hkp (fun hs_ => (fun e_ => (Kd.R_ne HO_13.out BK265.out (by decide)) e_) hs_)); replace BK284 := A_ (blk_kept (tk_ BK284) hkp (fun hs_ => (fun e_ => (Kd.R_ne HO_13.out BK284.out (by decide)) e_) hs_)); replace HO_13 := A_ (Kd.R_reok rfl hy0 (fun k_ e_ => HO_13.out.1 k_ e_)); replace HB := A_ (hb); (try clear hb); (try clear hkp); (try clear hy0)) | (refine gc_ 25 ?_; refine goesL_ (some 95) rfl rfl Try.func25 (by kernel_rfl) rfl #[.slice Ao89 t305.length co89, .int .i64 1] rfl (by (try simp only [List.map_toArray, List.map_cons, List.map_nil]); first | done | (rw [show t305.length = t285.length from (Kd.R_reads' HO_12.out).1.symm] <;> rfl) | rfl | (simp only [List.length_drop, List.length_take]; rfl)) ?_; (with_reducible refine (laws_heldIntS.calls kj46 _ _ t305 1 t308 _ ?side1 ?side2 A73.out).mono ?_); (case side1 => exact tc0_ (Kd.R_reads' HO_12.out).2.2); (case side2 => rw [show t305.length = t285.length from (Kd.R_reads' HO_12.out).1.symm]; exact (Kd.R_reads' HO_12.out).2.1); rintro e w' ⟨rfl, ⟨nd, rfl⟩⟩; refine ⟨_, rfl, ?_⟩) | (refine gc_ 25 ?_; refine goesL_ (some 100) rfl rfl Try.func25 (by kernel_rfl) rfl #[.slice Ao91 t307.length co91, .int .i64 t308] rfl (by (try simp only [List.map_toArray, List.map_cons, List.map_nil]); first | done | (rw [show t307.length = t288.length from (Kd.R_reads' HO_13.out).1.symm] <;> rfl) | rfl | (simp only [List.length_drop, List.length_take]; rfl)) ?_; (with_reducible refine (laws_heldIntS.calls kj46 _ _ t307 t308 t309 _ ?side1 ?side2 A79.out).mono ?_); (case side1 => exact tc0_ (Kd.R_reads' HO_13.out).2.2); (case side2 => rw [show t307.length = t288.length from (Kd.R_reads' HO_13.out).1.symm]; exact (Kd.R_reads' HO_13.out).2.1); rintro e w' ⟨rfl, ⟨nd, rfl⟩⟩; refine ⟨_, rfl, ?_⟩; have hnb93 := NB265_284.out; have hnc93 := NB284_265.out; obtain ⟨hcz94_0, hcz94_1, hcz94_2, hfz94_0, hfz94_1, hfz94_2⟩ := cf3_ BK265.out) | (refine gc_ 19 ?_; refine goesT_ (some 108) Try.func19 #[.agg #[.int .i64 a0_0, .int .i64 a0_1, .slice A0_2 l0_2.length c0_2]] ?_; (with_reducible refine (laws_toBoard.calls kj46 a0_0 a0_1 _ _ l0_2 t310 t311 t312 _ ?side1 ?side2 A86.out).mono ?_); (case side1 => repeat (first | exact (Kd.C_below HR0_2.out tb_) | (with_reducible refine Kd.C_alloc ?_ _) | (with_reducible refine Kd.C_drewN ?_ _) | (with_reducible refine Kd.C_drew ?_))); (case side2 => exact HC0_2.out); rintro e w95 ⟨v313, rfl, ho0, hb⟩; refine ⟨_, rfl, ?_⟩; have HO314 := A_ (Kd.R_lower (Kd.R_new' (Kd.R_new' (Kd.R_new' (Kd.R_new' (Kd.R_new' ho0 (Kd.R_lt (tr_x HO_8.out))) (Kd.R_lt (tr_x HO_9.out))) (Kd.R_lt (tr_x HO_12.out))) (Kd.R_lt (tr_x HO_13.out))) (Kd.R_lt (tr_x HO_285002.out))) (below_size tb_)); replace HO_8 := A_ (Kd.R_elder' (tr_x HO_8.out) (Kd.R_base ho0) hb); replace HO_9 := A_ (Kd.R_elder' (tr_x HO_9.out) (Kd.R_base ho0) hb); replace HO_12 := A_ (Kd.R_elder' (tr_x HO_12.out) (Kd.R_base ho0) hb); replace HO_13 := A_ (Kd.R_elder' (tr_x HO_13.out) (Kd.R_base ho0) hb); replace HO_285002 := A_ (Kd.R_elder' (tr_x HO_285002.out) (Kd.R_base ho0) hb); replace BK265 := A_ (blk_below (g := gb265) (o := .cells #[.int .i64 a0_0, .int .i64 a0_1, .slice A0_2 l0_2.length c0_2] 24 (0, 0)) (tk_ BK265) hb); replace BK284 := A_ (blk_below (g := gb284) (o := .cells #[.int .i64 t279, .int .i64 t280, .slice Ao26 t301.length co26] 28 (0, 0)) (tk_ BK284) hb); replace HB := A_ (below_step tb_ hb); (try clear hb); (try clear ho0); obtain ⟨Ao96, co96, eo96⟩ := Kd.R_slice HO314.out; subst eo96) | (refine gc_ 20 ?_; refine goesT_ (some 111) Try.func20 #[.agg #[.int .i64 t310, .int .i64 t311, .slice Ao96 t312.length co96], .int .i64 a1, .int .i64 a2] ?_; (with_reducible refine (impl_NumbersByCell.calls kj46 t310 t311 _ _ t312 a1 a2 t315 t318 t321 _ ?side1 ?side2 A87.out).mono ?_); (case side1 => exact tc0_ (Kd.R_reads' HO314.out).2.2); (case side2 => exact (Kd.R_reads' HO314.out).2.1); rintro e w97 ⟨v316, v319, rfl, ho0, ho1, hb⟩; refine ⟨_, rfl, ?_⟩; have HO317 := A_ (Kd.R_lower (Kd.R_new' (Kd.R_new' (Kd.R_new' (Kd.R_new' (Kd.R_new' (Kd.R_new' ho0 (Kd.R_lt (tr_x HO_8.out))) (Kd.R_lt (tr_x HO_9.out))) (Kd.R_lt (tr_x HO_12.out))) (Kd.R_lt (tr_x HO_13.out))) (Kd.R_lt (tr_x HO_285002.out))) (Kd.R_lt (tr_x HO314.out))) (below_size tb_)); have HO320 := A_ (Kd.R_lower (Kd.R_new' (Kd.R_new' (Kd.R_new' (Kd.R_new' (Kd.R_new' (Kd.R_new' ho1 (Kd.R_lt (tr_x HO_8.out))) (Kd.R_lt (tr_x HO_9.out))) (Kd.R_lt (tr_x HO_12.out))) (Kd.R_lt (tr_x HO_13.out))) (Kd.R_lt (tr_x HO_285002.out))) (Kd.R_lt (tr_x HO314.out))) (below_size tb_)); replace HO_8 := A_ (Kd.R_mono (Kd.R_told (Kd.R_told (Kd.R_old (tr_x HO_8.out) hb) (Kd.R_base ho0)) (Kd.R_base ho1)) (fun _ h_ => h_.1)); replace HO_9 := A_ (Kd.R_mono (Kd.R_told (Kd.R_told (Kd.R_old (tr_x HO_9.out) hb) (Kd.R_base ho0)) (Kd.R_base ho1)) (fun _ h_ => h_.1)); replace HO_12 := A_ (Kd.R_mono (Kd.R_told (Kd.R_told (Kd.R_old (tr_x HO_12.out) hb) (Kd.R_base ho0)) (Kd.R_base ho1)) (fun _ h_ => h_.1)); replace HO_13 := A_ (Kd.R_mono (Kd.R_told (Kd.R_told (Kd.R_old (tr_x HO_13.out) hb) (Kd.R_base ho0)) (Kd.R_base ho1)) (fun _ h_ => h_.1)); replace HO_285002 := A_ (Kd.R_mono (Kd.R_told (Kd.R_told (Kd.R_old (tr_x HO_285002.out) hb) (Kd.R_base ho0)) (Kd.R_base ho1)) (fun _ h_ => h_.1)); replace HO314 := A_ (Kd.R_mono (Kd.R_told (Kd.R_told (Kd.R_old (tr_x HO314.out) hb) (Kd.R_base ho0)) (Kd.R_base ho1)) (fun _ h_ => h_.1)); replace BK265 := A_ (blk_below (g := gb265) (o := .cells #[.int .i64 a0_0, .int .i64 a0_1, .slice A0_2 l0_2.length c0_2] 24 (0, 0)) (tk_ BK265) hb); replace BK284 := A_ (blk_below (g := gb284) (o := .cells #[.int .i64 t279, .int .i64 t280, .slice Ao26 t301.length co26] 28 (0, 0)) (tk_ BK284) hb); replace HB := A_ (below_step tb_ hb); (try clear hb); (try clear ho0); (try clear ho1)))
            (try simp only [Act.put, List.setIfInBounds_toArray, List.set_cons_zero, List.set_cons_succ])
            go_cut [129] (fun v129 wc => ∃ (kq : Nat) (x129_87 : Bool), v129 = .bool x129_87 ∧ Aside0 (laws_FnExactNumbersByCell.j2 kq t305 t307 t306 x129_87 = some r) ∧ Aside0 (kq ≤ kj46) ∧ Aside0 (Kd.R (Kd.int .i64) 3 wc w.heap.size (fun k_ => some k_ ≠ ((.slice Ao91 t288.length co91) : Value).ownBlock ∧ some k_ ≠ ((.slice Ao26 t301.length co26) : Value).ownBlock) (.slice Ao89 t285.length co89) t305) ∧ Aside0 (Kd.R (Kd.int .i64) 3 wc w.heap.size (fun k_ => some k_ ≠ ((.slice Ao89 t285.length co89) : Value).ownBlock ∧ some k_ ≠ ((.slice Ao26 t301.length co26) : Value).ownBlock) (.slice Ao91 t288.length co91) t307) ∧ Aside0 (Kd.R (Kd.int .i64) 3 wc w.heap.size (fun k_ => some k_ ≠ ((.slice Ao89 t285.length co89) : Value).ownBlock ∧ some k_ ≠ ((.slice Ao91 t288.length co91) : Value).ownBlock) (.slice Ao26 t301.length co26) t301) ∧ Aside0 (wc.heap[gb265]? = some (.cells #[.int .i64 a0_0, .int .i64 a0_1, (.slice A0_2 l0_2.length c0_2)] 24 (0, 0))) ∧ Aside0 (wc.heap[gb284]? = some (.cells #[.int .i64 t279, .int .i64 t280, (.slice Ao26 t301.length co26)] 28 (0, 0))) ∧ Aside0 (Below w.heap.size w wc))
            case first =>
             have H := HC88.out
             clear HC88
             replace H := Option.bind_eq_some_iff.mp H
             obtain ⟨t322, A980, H⟩ := H
             replace H : (if t322 = true then ((laws_eqIntS.f kj46 t318 t275).bind fun t323 => (if t323 = true then (laws_FnExactNumbersByCell.j2 kj46 t305 t307 t306 (t321 != t278)) else (laws_FnExactNumbersByCell.j2 kj46 t305 t307 t306 true))) else (laws_FnExactNumbersByCell.j2 kj46 t305 t307 t306 true)) = some r := H
             have A98 := A_ A980
             clear A980
             by_cases c99 : t322 = true
             ·
              subst c99
              have H1 : ((laws_eqIntS.f kj46 t318 t275).bind fun t323 => (if t323 = true then (laws_FnExactNumbersByCell.j2 kj46 t305 t307 t306 (t321 != t278)) else (laws_FnExactNumbersByCell.j2 kj46 t305 t307 t306 true))) = some r := by rw [if_pos rfl] at H; exact H
              clear H
              have H := H1
              clear H1
              replace H := Option.bind_eq_some_iff.mp H
              obtain ⟨t323, A1000, H⟩ := H
              replace H : (if t323 = true then (laws_FnExactNumbersByCell.j2 kj46 t305 t307 t306 (t321 != t278)) else (laws_FnExactNumbersByCell.j2 kj46 t305 t307 t306 true)) = some r := H
              have A100 := A_ A1000
              clear A1000
              by_cases c101 : t323 = true
              ·
               subst c101
               have H1 : (laws_FnExactNumbersByCell.j2 kj46 t305 t307 t306 (t321 != t278)) = some r := by rw [if_pos rfl] at H; exact H
               clear H
               have H := H1
               clear H1
               have H' := A_ H
               clear H
               obtain ⟨Ao102, co102, eo102⟩ := Kd.R_slice HO317.out
               subst eo102
               obtain ⟨Ao103, co103, eo103⟩ := Kd.R_slice HO_8.out
               subst eo103
               go_wp2_with (first | (refine gc_ 21 ?_; refine goesT_ (some 117) Try.func21 #[.slice Ao102 t315.length co102, .slice Ao103 t272.length co103] ?_; (with_reducible refine (laws_eqIntS.calls kj46 _ _ t315 _ _ t272 true _ ?side1 ?side2 ?side3 ?side4 A98.out).mono ?_); (case side1 => exact tc0_ (Kd.R_reads' HO317.out).2.2); (case side2 => exact (Kd.R_reads' HO317.out).2.1); (case side3 => exact tc0_ (Kd.R_reads' HO_8.out).2.2); (case side4 => exact (Kd.R_reads' HO_8.out).2.1); rintro e w' ⟨rfl, ⟨nd, rfl⟩⟩; refine ⟨_, rfl, ?_⟩; obtain ⟨Ao104, co104, eo104⟩ := Kd.R_slice HO320.out; subst eo104; obtain ⟨Ao105, co105, eo105⟩ := Kd.R_slice HO_9.out; subst eo105) | (go_at_call 21; (with_reducible refine (laws_eqIntS.calls kj46 _ _ t318 _ _ t275 true _ ?side1 ?side2 ?side3 ?side4 A100.out).mono ?_); (case side1 => exact tc0_ (Kd.R_reads' HO320.out).2.2); (case side2 => exact (Kd.R_reads' HO320.out).2.1); (case side3 => exact tc0_ (Kd.R_reads' HO_9.out).2.2); (case side4 => exact (Kd.R_reads' HO_9.out).2.1); rintro e w' ⟨rfl, ⟨nd, rfl⟩⟩))
               go_meet
               case rel => exact ⟨_, ((t321 != t278)), tf_, H', ⟨by have := HJ12.out; have := HJ46.out; first | omega | exact Nat.le_refl _⟩, ⟨by (try simp only [hl285002_46]); (with_reducible repeat (first | apply Kd.R_alloc | apply Kd.R_drewN | apply Kd.R_drew)); exact Kd.R_mono HO_12.out (fun _ hk => ⟨hk.1.1.1.2.2.1, hk.1.1.1.2.2.2⟩)⟩, ⟨by (try simp only [hl285002_46]); (with_reducible repeat (first | apply Kd.R_alloc | apply Kd.R_drewN | apply Kd.R_drew)); exact Kd.R_mono HO_13.out (fun _ hk => ⟨hk.1.1.1.2.2.1, hk.1.1.1.2.2.2⟩)⟩, ⟨by (try simp only [hl285002_46]); (with_reducible repeat (first | apply Kd.R_alloc | apply Kd.R_drewN | apply Kd.R_drew)); exact Kd.R_mono HO_285002.out (fun _ hk => ⟨hk.1.1.1.2.2.1, hk.1.1.1.2.2.2⟩)⟩, ⟨by (try simp only [hl285002_46]); (with_reducible repeat (first | refine blk_drewN ?_ _ | refine blk_drew ?_ | refine blk_alloc ?_ _)); exact BK265.out⟩, ⟨by (try simp only [hl285002_46]); (with_reducible repeat (first | refine blk_drewN ?_ _ | refine blk_drew ?_ | refine blk_alloc ?_ _)); exact BK284.out⟩, ⟨tb_⟩⟩
              ·
               replace c101 := Bool.eq_false_iff.mpr c101
               subst c101
               have H1 : (laws_FnExactNumbersByCell.j2 kj46 t305 t307 t306 true) = some r := by rw [if_neg (show ¬ (false = true) by decide)] at H; exact H
               clear H
               have H := H1
               clear H1
               have H' := A_ H
               clear H
               obtain ⟨Ao106, co106, eo106⟩ := Kd.R_slice HO317.out
               subst eo106
               obtain ⟨Ao107, co107, eo107⟩ := Kd.R_slice HO_8.out
               subst eo107
               go_wp2_with (first | (refine gc_ 21 ?_; refine goesT_ (some 117) Try.func21 #[.slice Ao106 t315.length co106, .slice Ao107 t272.length co107] ?_; (with_reducible refine (laws_eqIntS.calls kj46 _ _ t315 _ _ t272 true _ ?side1 ?side2 ?side3 ?side4 A98.out).mono ?_); (case side1 => exact tc0_ (Kd.R_reads' HO317.out).2.2); (case side2 => exact (Kd.R_reads' HO317.out).2.1); (case side3 => exact tc0_ (Kd.R_reads' HO_8.out).2.2); (case side4 => exact (Kd.R_reads' HO_8.out).2.1); rintro e w' ⟨rfl, ⟨nd, rfl⟩⟩; refine ⟨_, rfl, ?_⟩; obtain ⟨Ao108, co108, eo108⟩ := Kd.R_slice HO320.out; subst eo108; obtain ⟨Ao109, co109, eo109⟩ := Kd.R_slice HO_9.out; subst eo109) | (go_at_call 21; (with_reducible refine (laws_eqIntS.calls kj46 _ _ t318 _ _ t275 false _ ?side1 ?side2 ?side3 ?side4 A100.out).mono ?_); (case side1 => exact tc0_ (Kd.R_reads' HO320.out).2.2); (case side2 => exact (Kd.R_reads' HO320.out).2.1); (case side3 => exact tc0_ (Kd.R_reads' HO_9.out).2.2); (case side4 => exact (Kd.R_reads' HO_9.out).2.1); rintro e w' ⟨rfl, ⟨nd, rfl⟩⟩))
               go_meet
               case rel => exact ⟨_, (true), tf_, H', ⟨by have := HJ12.out; have := HJ46.out; first | omega | exact Nat.le_refl _⟩, ⟨by (try simp only [hl285002_46]); (with_reducible repeat (first | apply Kd.R_alloc | apply Kd.R_drewN | apply Kd.R_drew)); exact Kd.R_mono HO_12.out (fun _ hk => ⟨hk.1.1.1.2.2.1, hk.1.1.1.2.2.2⟩)⟩, ⟨by (try simp only [hl285002_46]); (with_reducible repeat (first | apply Kd.R_alloc | apply Kd.R_drewN | apply Kd.R_drew)); exact Kd.R_mono HO_13.out (fun _ hk => ⟨hk.1.1.1.2.2.1, hk.1.1.1.2.2.2⟩)⟩, ⟨by (try simp only [hl285002_46]); (with_reducible repeat (first | apply Kd.R_alloc | apply Kd.R_drewN | apply Kd.R_drew)); exact Kd.R_mono HO_285002.out (fun _ hk => ⟨hk.1.1.1.2.2.1, hk.1.1.1.2.2.2⟩)⟩, ⟨by (try simp only [hl285002_46]); (with_reducible repeat (first | refine blk_drewN ?_ _ | refine blk_drew ?_ | refine blk_alloc ?_ _)); exact BK265.out⟩, ⟨by (try simp only [hl285002_46]); (with_reducible repeat (first | refine blk_drewN ?_ _ | refine blk_drew ?_ | refine blk_alloc ?_ _)); exact BK284.out⟩, ⟨tb_⟩⟩
             ·
              replace c99 := Bool.eq_false_iff.mpr c99
              subst c99
              have H1 : (laws_FnExactNumbersByCell.j2 kj46 t305 t307 t306 true) = some r := by rw [if_neg (show ¬ (false = true) by decide)] at H; exact H
              clear H
              have H := H1
              clear H1
              have H' := A_ H
              clear H
              obtain ⟨Ao110, co110, eo110⟩ := Kd.R_slice HO317.out
              subst eo110
              obtain ⟨Ao111, co111, eo111⟩ := Kd.R_slice HO_8.out
              subst eo111
              go_wp2_with (first | (refine gc_ 21 ?_; refine goesT_ (some 117) Try.func21 #[.slice Ao110 t315.length co110, .slice Ao111 t272.length co111] ?_; (with_reducible refine (laws_eqIntS.calls kj46 _ _ t315 _ _ t272 false _ ?side1 ?side2 ?side3 ?side4 A98.out).mono ?_); (case side1 => exact tc0_ (Kd.R_reads' HO317.out).2.2); (case side2 => exact (Kd.R_reads' HO317.out).2.1); (case side3 => exact tc0_ (Kd.R_reads' HO_8.out).2.2); (case side4 => exact (Kd.R_reads' HO_8.out).2.1); rintro e w' ⟨rfl, ⟨nd, rfl⟩⟩; refine ⟨_, rfl, ?_⟩))
              go_meet
              case rel => exact ⟨_, (true), tf_, H', ⟨by have := HJ12.out; have := HJ46.out; first | omega | exact Nat.le_refl _⟩, ⟨by (try simp only [hl285002_46]); (with_reducible repeat (first | apply Kd.R_alloc | apply Kd.R_drewN | apply Kd.R_drew)); exact Kd.R_mono HO_12.out (fun _ hk => ⟨hk.1.1.1.2.2.1, hk.1.1.1.2.2.2⟩)⟩, ⟨by (try simp only [hl285002_46]); (with_reducible repeat (first | apply Kd.R_alloc | apply Kd.R_drewN | apply Kd.R_drew)); exact Kd.R_mono HO_13.out (fun _ hk => ⟨hk.1.1.1.2.2.1, hk.1.1.1.2.2.2⟩)⟩, ⟨by (try simp only [hl285002_46]); (with_reducible repeat (first | apply Kd.R_alloc | apply Kd.R_drewN | apply Kd.R_drew)); exact Kd.R_mono HO_285002.out (fun _ hk => ⟨hk.1.1.1.2.2.1, hk.1.1.1.2.2.2⟩)⟩, ⟨by (try simp only [hl285002_46]); (with_reducible repeat (first | refine blk_drewN ?_ _ | refine blk_drew ?_ | refine blk_alloc ?_ _)); exact BK265.out⟩, ⟨by (try simp only [hl285002_46]); (with_reducible repeat (first | refine blk_drewN ?_ _ | refine blk_drew ?_ | refine blk_alloc ?_ _)); exact BK284.out⟩, ⟨tb_⟩⟩
            case rest =>
             clear HC88
             try clear c1
             try clear c2
             try clear p2
             try clear c3
             try clear c4
             try clear c5
             try clear c5b0
             try clear c7
             try clear c8
             try clear c9
             try clear c10
             try clear c17
             try clear c18
             try clear c19
             try clear c20
             try clear c21
             try clear c22
             try clear c23
             try clear c24
             try clear c25
             try clear c29
             try clear c31
             try clear c42
             try clear c45
             try clear c52
             try clear c55
             try clear c55b0
             try clear c57
             try clear c59
             try clear c70
             try clear c74
             try clear c74b0
             try clear c80
             try clear c80b0
             try clear c85
             try clear c85b0
             try clear c85b1
             try clear c93
             try clear c99
             try clear c101
             try clear hcz15_0
             try clear hcz15_1
             try clear hcz15_2
             try clear hcz17_0
             try clear hcz17_1
             try clear hcz17_2
             try clear hcz21_0
             try clear hcz21_1
             try clear hcz21_2
             try clear hcz25_0
             try clear hcz25_1
             try clear hcz25_2
             try clear hcz53_0
             try clear hcz53_1
             try clear hcz53_2
             try clear hcz7_0
             try clear hcz7_1
             try clear hcz7_2
             try clear hcz94_0
             try clear hcz94_1
             try clear hcz94_2
             try clear hfz15_0
             try clear hfz15_1
             try clear hfz15_2
             try clear hfz17_0
             try clear hfz17_1
             try clear hfz17_2
             try clear hfz21_0
             try clear hfz21_1
             try clear hfz21_2
             try clear hfz25_0
             try clear hfz25_1
             try clear hfz25_2
             try clear hfz53_0
             try clear hfz53_1
             try clear hfz53_2
             try clear hfz7_0
             try clear hfz7_1
             try clear hfz7_2
             try clear hfz94_0
             try clear hfz94_1
             try clear hfz94_2
             try clear p2
             obtain ⟨kq, x129_87, rfl, HA, HJ87, HO_12, HO_13, HO_285002, BK265, BK284, HB⟩ := hcut
             have hl12_87 := (Kd.R_reads' HO_12.out).1
             rw [hl12_87] at HO_12
             (try simp only [hl12_87])
             (try simp only [hl12_87] at BK265)
             (try simp only [hl12_87] at BK284)
             (try simp only [hl12_87] at HO_13)
             (try simp only [hl12_87] at HO_285002)
             have hl13_87 := (Kd.R_reads' HO_13.out).1
             rw [hl13_87] at HO_13
             (try simp only [hl13_87])
             (try simp only [hl13_87] at BK265)
             (try simp only [hl13_87] at BK284)
             (try simp only [hl13_87] at HO_12)
             (try simp only [hl13_87] at HO_285002)
             cases kq with
             | zero => exact absurd HA.out (by simp [laws_FnExactNumbersByCell.j2])
             | succ kj87 =>
              have H := HA.out
              clear HA
              simp only [laws_FnExactNumbersByCell.j2] at H
              by_cases c112 : x129_87 = true
              ·
               subst c112
               have H1 : (some false) = some r := by rw [if_pos rfl] at H; exact H
               clear H
               have H := H1
               clear H1
               obtain rfl := Option.some.inj H
               go_wp2
               go_ret
               exact ⟨te_, tb_⟩
              ·
               replace c112 := Bool.eq_false_iff.mpr c112
               subst c112
               have H1 : ((laws_heldIntS.f kj87 t305 1).bind fun t324 => (if t324 < 0 then (some false) else ((laws_heldIntS.f kj87 t307 t324).bind fun t325 => (if t325 < 0 then (some false) else (if t325 = t306 then (some true) else (some false)))))) = some r := by rw [if_neg (show ¬ (false = true) by decide)] at H; exact H
               clear H
               have H := H1
               clear H1
               replace H := Option.bind_eq_some_iff.mp H
               obtain ⟨t324, A1130, H⟩ := H
               replace H : (if t324 < 0 then (some false) else ((laws_heldIntS.f kj87 t307 t324).bind fun t325 => (if t325 < 0 then (some false) else (if t325 = t306 then (some true) else (some false))))) = some r := H
               have A113 := A_ A1130
               clear A1130
               by_cases c114 : t324 < 0
               ·
                rw [if_pos c114] at H
                have c114b0 := decide_eq_true c114
                clear c114
                obtain rfl := Option.some.inj H
                go_wp2_with (first | (refine gc_ 25 ?_; refine goesT_ (some 132) Try.func25 #[.slice Ao89 t305.length co89, .int .i64 1] ?_; (with_reducible refine (laws_heldIntS.calls kj87 _ _ t305 1 t324 _ ?side1 ?side2 A113.out).mono ?_); (case side1 => exact tc0_ (Kd.R_reads' HO_12.out).2.2); (case side2 => exact (Kd.R_reads' HO_12.out).2.1); rintro e w' ⟨rfl, ⟨nd, rfl⟩⟩; refine ⟨_, rfl, ?_⟩))
                go_ret
                exact ⟨te_, tb_⟩
               ·
                rw [if_neg c114] at H
                have c114b0 := decide_eq_false c114
                clear c114
                replace H := Option.bind_eq_some_iff.mp H
                obtain ⟨t325, A1150, H⟩ := H
                replace H : (if t325 < 0 then (some false) else (if t325 = t306 then (some true) else (some false))) = some r := H
                have A115 := A_ A1150
                clear A1150
                by_cases c116 : t325 < 0
                ·
                 rw [if_pos c116] at H
                 have c116b0 := decide_eq_true c116
                 clear c116
                 obtain rfl := Option.some.inj H
                 go_wp2_with (first | (refine gc_ 25 ?_; refine goesT_ (some 132) Try.func25 #[.slice Ao89 t305.length co89, .int .i64 1] ?_; (with_reducible refine (laws_heldIntS.calls kj87 _ _ t305 1 t324 _ ?side1 ?side2 A113.out).mono ?_); (case side1 => exact tc0_ (Kd.R_reads' HO_12.out).2.2); (case side2 => exact (Kd.R_reads' HO_12.out).2.1); rintro e w' ⟨rfl, ⟨nd, rfl⟩⟩; refine ⟨_, rfl, ?_⟩) | (refine gc_ 25 ?_; refine goesT_ (some 137) Try.func25 #[.slice Ao91 t307.length co91, .int .i64 t324] ?_; (with_reducible refine (laws_heldIntS.calls kj87 _ _ t307 t324 t325 _ ?side1 ?side2 A115.out).mono ?_); (case side1 => exact tc0_ (Kd.R_reads' HO_13.out).2.2); (case side2 => exact (Kd.R_reads' HO_13.out).2.1); rintro e w' ⟨rfl, ⟨nd, rfl⟩⟩; refine ⟨_, rfl, ?_⟩))
                 go_ret
                 exact ⟨te_, tb_⟩
                ·
                 rw [if_neg c116] at H
                 have c116b0 := decide_eq_false c116
                 clear c116
                 by_cases c117 : t325 = t306
                 ·
                  rw [if_pos c117] at H
                  have c117b0 : (t325 == t306) = true := beq_iff_eq.mpr c117
                  have c117b1 : (t325 != t306) = false := bne_eq_false_iff_eq.mpr c117
                  clear c117
                  obtain rfl := Option.some.inj H
                  go_wp2_with (first | (refine gc_ 25 ?_; refine goesT_ (some 132) Try.func25 #[.slice Ao89 t305.length co89, .int .i64 1] ?_; (with_reducible refine (laws_heldIntS.calls kj87 _ _ t305 1 t324 _ ?side1 ?side2 A113.out).mono ?_); (case side1 => exact tc0_ (Kd.R_reads' HO_12.out).2.2); (case side2 => exact (Kd.R_reads' HO_12.out).2.1); rintro e w' ⟨rfl, ⟨nd, rfl⟩⟩; refine ⟨_, rfl, ?_⟩) | (refine gc_ 25 ?_; refine goesT_ (some 137) Try.func25 #[.slice Ao91 t307.length co91, .int .i64 t324] ?_; (with_reducible refine (laws_heldIntS.calls kj87 _ _ t307 t324 t325 _ ?side1 ?side2 A115.out).mono ?_); (case side1 => exact tc0_ (Kd.R_reads' HO_13.out).2.2); (case side2 => exact (Kd.R_reads' HO_13.out).2.1); rintro e w' ⟨rfl, ⟨nd, rfl⟩⟩; refine ⟨_, rfl, ?_⟩))
                  go_ret
                  exact ⟨te_, tb_⟩
                 ·
                  rw [if_neg c117] at H
                  have c117b0 : (t325 == t306) = false := beq_eq_false_iff_ne.mpr c117
                  have c117b1 : (t325 != t306) = true := bne_iff_ne.mpr c117
                  obtain rfl := Option.some.inj H
                  go_wp2_with (first | (refine gc_ 25 ?_; refine goesT_ (some 132) Try.func25 #[.slice Ao89 t305.length co89, .int .i64 1] ?_; (with_reducible refine (laws_heldIntS.calls kj87 _ _ t305 1 t324 _ ?side1 ?side2 A113.out).mono ?_); (case side1 => exact tc0_ (Kd.R_reads' HO_12.out).2.2); (case side2 => exact (Kd.R_reads' HO_12.out).2.1); rintro e w' ⟨rfl, ⟨nd, rfl⟩⟩; refine ⟨_, rfl, ?_⟩) | (refine gc_ 25 ?_; refine goesT_ (some 137) Try.func25 #[.slice Ao91 t307.length co91, .int .i64 t324] ?_; (with_reducible refine (laws_heldIntS.calls kj87 _ _ t307 t324 t325 _ ?side1 ?side2 A115.out).mono ?_); (case side1 => exact tc0_ (Kd.R_reads' HO_13.out).2.2); (case side2 => exact (Kd.R_reads' HO_13.out).2.1); rintro e w' ⟨rfl, ⟨nd, rfl⟩⟩; refine ⟨_, rfl, ?_⟩))
                  go_ret
                  exact ⟨te_, tb_⟩
           ·
            rw [if_neg c85] at H
            have c85b0 : (t309 == t306) = false := beq_eq_false_iff_ne.mpr c85
            have c85b1 : (t309 != t306) = true := bne_iff_ne.mpr c85
            obtain rfl := Option.some.inj H
            obtain ⟨Ao118, co118, eo118⟩ := Kd.R_slice HO_12.out
            subst eo118
            go_wp2_with (first | (refine gc_ 24 ?_; refine goesT_ (some 89) Try.func24 #[.slice Ao118 t285.length co118, .int .i64 1] ?_; (with_reducible refine (laws_markIntS.calls kj46 (fun k_ => some k_ = (.slice Ao118 t285.length co118 : Value).ownBlock) (.slice Ao118 t285.length co118) t285 1 t304 t305 w _ ?side1 ?side2 A71.out).mono ?_); (case side1 => repeat (first | (with_reducible first | exact HB.out | apply below_alloc | apply pw_below_drewN | apply below_drew1 | refine below_set ?_ GE265.out | refine below_set ?_ GE284.out) | exact HB.out)); (case side2 => exact Kd.R_tight rfl HO_12.out); rintro e w119 ⟨rfl, hy0, hb, hkp⟩; refine ⟨_, rfl, ?_⟩; replace HO_8 := A_ (Kd.R_mono (ok' := fun k_ => some k_ ≠ (v276 : Value).ownBlock ∧ some k_ ≠ (.slice Ao118 t285.length co118 : Value).ownBlock ∧ some k_ ≠ (v289 : Value).ownBlock ∧ some k_ ≠ (.slice Ao26 t301.length co26 : Value).ownBlock) (Kd.R_keptB (HO_8.out) hkp (fun k_ hk_ hs_ => (hk_.2.1) hs_)) (fun k_ hk_ => ⟨hk_.1.1, hk_.1.2.1, hk_.1.2.2.1, hk_.1.2.2.2⟩)); replace HO_9 := A_ (Kd.R_mono (ok' := fun k_ => some k_ ≠ (v273 : Value).ownBlock ∧ some k_ ≠ (.slice Ao118 t285.length co118 : Value).ownBlock ∧ some k_ ≠ (v289 : Value).ownBlock ∧ some k_ ≠ (.slice Ao26 t301.length co26 : Value).ownBlock) (Kd.R_keptB (HO_9.out) hkp (fun k_ hk_ hs_ => (hk_.2.1) hs_)) (fun k_ hk_ => ⟨hk_.1.1, hk_.1.2.1, hk_.1.2.2.1, hk_.1.2.2.2⟩)); replace HO_13 := A_ (Kd.R_mono (ok' := fun k_ => some k_ ≠ (v273 : Value).ownBlock ∧ some k_ ≠ (v276 : Value).ownBlock ∧ some k_ ≠ (.slice Ao118 t285.length co118 : Value).ownBlock ∧ some k_ ≠ (.slice Ao26 t301.length co26 : Value).ownBlock) (Kd.R_keptB (HO_13.out) hkp (fun k_ hk_ hs_ => (hk_.2.2.1) hs_)) (fun k_ hk_ => ⟨hk_.1.1, hk_.1.2.1, hk_.1.2.2.1, hk_.1.2.2.2⟩)); replace HO_285002 := A_ (Kd.R_mono (ok' := fun k_ => some k_ ≠ (v273 : Value).ownBlock ∧ some k_ ≠ (v276 : Value).ownBlock ∧ some k_ ≠ (.slice Ao118 t285.length co118 : Value).ownBlock ∧ some k_ ≠ (v289 : Value).ownBlock) (Kd.R_keptB (HO_285002.out) hkp (fun k_ hk_ hs_ => (hk_.2.2.1) hs_)) (fun k_ hk_ => ⟨hk_.1.1, hk_.1.2.1, hk_.1.2.2.1, hk_.1.2.2.2⟩)); replace BK265 := A_ (blk_kept (tk_ BK265) hkp (fun hs_ => (fun e_ => (Kd.R_ne HO_12.out BK265.out (by decide)) e_) hs_)); replace BK284 := A_ (blk_kept (tk_ BK284) hkp (fun hs_ => (fun e_ => (Kd.R_ne HO_12.out BK284.out (by decide)) e_) hs_)); replace HO_12 := A_ (Kd.R_reok rfl hy0 (fun k_ e_ => HO_12.out.1 k_ e_)); replace HB := A_ (hb); (try clear hb); (try clear hkp); (try clear hy0); obtain ⟨Ao120, co120, eo120⟩ := Kd.R_slice HO_13.out; subst eo120) | (refine gc_ 24 ?_; refine goesT_ (some 92) Try.func24 #[.slice Ao120 t288.length co120, .int .i64 t304] ?_; (with_reducible refine (laws_markIntS.calls kj46 (fun k_ => some k_ = (.slice Ao120 t288.length co120 : Value).ownBlock) (.slice Ao120 t288.length co120) t288 t304 t306 t307 w _ ?side1 ?side2 A72.out).mono ?_); (case side1 => repeat (first | (with_reducible first | exact HB.out | apply below_alloc | apply pw_below_drewN | apply below_drew1 | refine below_set ?_ GE265.out | refine below_set ?_ GE284.out) | exact HB.out)); (case side2 => exact Kd.R_tight rfl HO_13.out); rintro e w121 ⟨rfl, hy0, hb, hkp⟩; refine ⟨_, rfl, ?_⟩; replace HO_8 := A_ (Kd.R_mono (ok' := fun k_ => some k_ ≠ (v276 : Value).ownBlock ∧ some k_ ≠ (.slice Ao118 t285.length co118 : Value).ownBlock ∧ some k_ ≠ (.slice Ao120 t288.length co120 : Value).ownBlock ∧ some k_ ≠ (.slice Ao26 t301.length co26 : Value).ownBlock) (Kd.R_keptB (HO_8.out) hkp (fun k_ hk_ hs_ => (hk_.2.2.1) hs_)) (fun k_ hk_ => ⟨hk_.1.1, hk_.1.2.1, hk_.1.2.2.1, hk_.1.2.2.2⟩)); replace HO_9 := A_ (Kd.R_mono (ok' := fun k_ => some k_ ≠ (v273 : Value).ownBlock ∧ some k_ ≠ (.slice Ao118 t285.length co118 : Value).ownBlock ∧ some k_ ≠ (.slice Ao120 t288.length co120 : Value).ownBlock ∧ some k_ ≠ (.slice Ao26 t301.length co26 : Value).ownBlock) (Kd.R_keptB (HO_9.out) hkp (fun k_ hk_ hs_ => (hk_.2.2.1) hs_)) (fun k_ hk_ => ⟨hk_.1.1, hk_.1.2.1, hk_.1.2.2.1, hk_.1.2.2.2⟩)); replace HO_12 := A_ (Kd.R_mono (ok' := fun k_ => some k_ ≠ (v273 : Value).ownBlock ∧ some k_ ≠ (v276 : Value).ownBlock ∧ some k_ ≠ (.slice Ao120 t288.length co120 : Value).ownBlock ∧ some k_ ≠ (.slice Ao26 t301.length co26 : Value).ownBlock) (Kd.R_keptB (HO_12.out) hkp (fun k_ hk_ hs_ => (hk_.2.2.1) hs_)) (fun k_ hk_ => ⟨hk_.1.1, hk_.1.2.1, hk_.1.2.2.1, hk_.1.2.2.2⟩)); replace HO_285002 := A_ (Kd.R_mono (ok' := fun k_ => some k_ ≠ (v273 : Value).ownBlock ∧ some k_ ≠ (v276 : Value).ownBlock ∧ some k_ ≠ (.slice Ao118 t285.length co118 : Value).ownBlock ∧ some k_ ≠ (.slice Ao120 t288.length co120 : Value).ownBlock) (Kd.R_keptB (HO_285002.out) hkp (fun k_ hk_ hs_ => (hk_.2.2.2) hs_)) (fun k_ hk_ => ⟨hk_.1.1, hk_.1.2.1, hk_.1.2.2.1, hk_.1.2.2.2⟩)); replace BK265 := A_ (blk_kept (tk_ BK265) hkp (fun hs_ => (fun e_ => (Kd.R_ne HO_13.out BK265.out (by decide)) e_) hs_)); replace BK284 := A_ (blk_kept (tk_ BK284) hkp (fun hs_ => (fun e_ => (Kd.R_ne HO_13.out BK284.out (by decide)) e_) hs_)); replace HO_13 := A_ (Kd.R_reok rfl hy0 (fun k_ e_ => HO_13.out.1 k_ e_)); replace HB := A_ (hb); (try clear hb); (try clear hkp); (try clear hy0)) | (refine gc_ 25 ?_; refine goesL_ (some 95) rfl rfl Try.func25 (by kernel_rfl) rfl #[.slice Ao118 t305.length co118, .int .i64 1] rfl (by (try simp only [List.map_toArray, List.map_cons, List.map_nil]); first | done | (rw [show t305.length = t285.length from (Kd.R_reads' HO_12.out).1.symm] <;> rfl) | rfl | (simp only [List.length_drop, List.length_take]; rfl)) ?_; (with_reducible refine (laws_heldIntS.calls kj46 _ _ t305 1 t308 _ ?side1 ?side2 A73.out).mono ?_); (case side1 => exact tc0_ (Kd.R_reads' HO_12.out).2.2); (case side2 => rw [show t305.length = t285.length from (Kd.R_reads' HO_12.out).1.symm]; exact (Kd.R_reads' HO_12.out).2.1); rintro e w' ⟨rfl, ⟨nd, rfl⟩⟩; refine ⟨_, rfl, ?_⟩) | (refine gc_ 25 ?_; refine goesL_ (some 100) rfl rfl Try.func25 (by kernel_rfl) rfl #[.slice Ao120 t307.length co120, .int .i64 t308] rfl (by (try simp only [List.map_toArray, List.map_cons, List.map_nil]); first | done | (rw [show t307.length = t288.length from (Kd.R_reads' HO_13.out).1.symm] <;> rfl) | rfl | (simp only [List.length_drop, List.length_take]; rfl)) ?_; (with_reducible refine (laws_heldIntS.calls kj46 _ _ t307 t308 t309 _ ?side1 ?side2 A79.out).mono ?_); (case side1 => exact tc0_ (Kd.R_reads' HO_13.out).2.2); (case side2 => rw [show t307.length = t288.length from (Kd.R_reads' HO_13.out).1.symm]; exact (Kd.R_reads' HO_13.out).2.1); rintro e w' ⟨rfl, ⟨nd, rfl⟩⟩; refine ⟨_, rfl, ?_⟩))
            go_ret
            exact ⟨te_, tb_⟩
     ·
      replace c45 := Bool.eq_false_iff.mpr c45
      subst c45
      have H1 : (some false) = some r := by rw [if_neg (show ¬ (false = true) by decide)] at H; exact H
      clear H
      have H := H1
      clear H1
      obtain rfl := Option.some.inj H
      try go_wp2
      have n0_ := A_ (Kd.R_drew HO_8.out)
      have n1_ := A_ (Kd.R_drew HO_9.out)
      have n2_ := A_ (Kd.R_drew HO_12.out)
      have n3_ := A_ (Kd.R_drew HO_13.out)
      have n4_ := A_ (Kd.R_drew HO_285002.out)
      have n5_ := A_ (blk_drew BK265.out)
      have n6_ := A_ (blk_drew BK284.out)
      have n7_ := A_ (below_drew1 HB.out)
      clear HO_8
      clear HO_9
      clear HO_12
      clear HO_13
      clear HO_285002
      clear BK265
      clear BK284
      clear HB
      have HO_8 := n0_
      have HO_9 := n1_
      have HO_12 := n2_
      have HO_13 := n3_
      have HO_285002 := n4_
      have BK265 := n5_
      have BK284 := n6_
      have HB := n7_
      clear n0_ n1_ n2_ n3_ n4_ n5_ n6_ n7_
      refine start_ (n := 5) (S := fun w' => w'.cell? ⟨gb284, 0, none⟩ = some (.int .i64 t279) ∧ w'.cell? ⟨gb284, 1, none⟩ = some (.int .i64 t280) ∧ w'.cell? ⟨gb284, 2, none⟩ = some (.slice Ao26 t281.length co26) ∧ w'.cell? ⟨gb265, 0, none⟩ = some (.int .i64 a0_0) ∧ w'.cell? ⟨gb265, 1, none⟩ = some (.int .i64 a0_1) ∧ w'.cell? ⟨gb265, 2, none⟩ = some (.slice A0_2 l0_2.length c0_2)) (ds := []) (Fn.bl 5 0) (by kernel_rfl) rfl rfl ⟨(blk_cell BK284.out 0).trans rfl, (blk_cell BK284.out 1).trans rfl, (blk_cell BK284.out 2).trans rfl, (blk_cell BK265.out 0).trans rfl, (blk_cell BK265.out 1).trans rfl, (blk_cell BK265.out 2).trans rfl⟩ (fun hHeld => ?_)
      generalize wc.drew = w122 at HO_8 HO_9 HO_12 HO_13 HO_285002 BK265 BK284 HB hHeld ⊢
      refine take_ (i := 0) (N := some 60) (v := ?_) (a' := ?_) (Fn.bl 5 1) rfl rfl (by kernel_rfl) (fun _ _ _ h => h) (Or.inl ⟨by rfl, ?_⟩) hHeld ?_ ?_
      rotate_left
      ·
       rintro w' ⟨s0, s1, s2, s3, s4, s5⟩
       go_simp
       with_reducible rfl
      rotate_left
      ·
       simp only [Act.put, List.setIfInBounds_toArray, List.set_cons_zero, List.set_cons_succ, i64_w, i32_w]
       rfl
      refine take_ (i := 1) (N := some 61) (v := ?_) (a' := ?_) (Fn.bl 5 3) rfl rfl (by kernel_rfl) (fun _ _ _ h => h) (Or.inl ⟨by rfl, ?_⟩) hHeld ?_ ?_
      rotate_left
      ·
       rintro w' ⟨s0, s1, s2, s3, s4, s5⟩
       go_simp
       with_reducible rfl
      rotate_left
      ·
       simp only [Act.put, List.setIfInBounds_toArray, List.set_cons_zero, List.set_cons_succ, i64_w, i32_w]
       rfl
      refine one_ (i := 2) (N := some 62) (Fn.bl 5 7) rfl rfl (by kernel_rfl) (by decide) (fun K hK => ?_)
      refine goes_ Try.func19 (by kernel_rfl) rfl #[.agg #[.int .i64 a0_0, .int .i64 a0_1, .slice A0_2 l0_2.length c0_2]] (by rfl) rfl rfl ta_ ?_
      with_reducible refine (laws_toBoard.calls kj12 a0_0 a0_1 _ _ l0_2 t294 t295 t296 _ ?side1 ?side2 A43.out).mono ?_
      (case side1 => exact tc_ HR0_2.out)
      (case side2 => exact HC0_2.out)
      rintro e w123 ⟨v297, rfl, ho0, hb⟩
      refine ⟨_, rfl, ?_⟩
      have n0_ := A_ (Kd.R_elder' (tr_x HO_8.out) (Kd.R_base ho0) hb)
      have n1_ := A_ (Kd.R_elder' (tr_x HO_9.out) (Kd.R_base ho0) hb)
      have n2_ := A_ (Kd.R_elder' (tr_x HO_12.out) (Kd.R_base ho0) hb)
      have n3_ := A_ (Kd.R_elder' (tr_x HO_13.out) (Kd.R_base ho0) hb)
      have n4_ := A_ (Kd.R_elder' (tr_x HO_285002.out) (Kd.R_base ho0) hb)
      have n5_ := A_ (Kd.R_lower (Kd.R_new' (Kd.R_new' (Kd.R_new' (Kd.R_new' (Kd.R_new' ho0 (Kd.R_lt (tr_x HO_8.out))) (Kd.R_lt (tr_x HO_9.out))) (Kd.R_lt (tr_x HO_12.out))) (Kd.R_lt (tr_x HO_13.out))) (Kd.R_lt (tr_x HO_285002.out))) (below_size tb_))
      have n6_ := A_ (blk_below (g := gb265) (o := .cells #[.int .i64 a0_0, .int .i64 a0_1, .slice A0_2 l0_2.length c0_2] 24 (0, 0)) (tk_ BK265) hb)
      have n7_ := A_ (blk_below (g := gb284) (o := .cells #[.int .i64 t279, .int .i64 t280, .slice Ao26 t281.length co26] 28 (0, 0)) (tk_ BK284) hb)
      have n8_ := A_ (below_step tb_ hb)
      clear HO_8
      clear HO_9
      clear HO_12
      clear HO_13
      clear HO_285002
      clear BK265
      clear BK284
      clear HB
      have HO_8 := n0_
      have HO_9 := n1_
      have HO_12 := n2_
      have HO_13 := n3_
      have HO_285002 := n4_
      have HO298 := n5_
      have BK265 := n6_
      have BK284 := n7_
      have HB := n8_
      clear n0_ n1_ n2_ n3_ n4_ n5_ n6_ n7_ n8_
      (try clear hb)
      (try clear hb2)
      (try clear hk)
      (try clear hi)
      (try clear ho0)
      obtain ⟨Ao124, co124, eo124⟩ := Kd.R_slice HO298.out
      (first | subst eo124 | (injection eo124 with f1_ f2_ f3_; have f4_ := f1_.symm; have f5_ := f3_.symm; clear f1_ f2_ f3_; subst f4_; subst f5_))
      refine hK.out _ _ ⟨(blk_cell BK284.out 0).trans rfl, (blk_cell BK284.out 1).trans rfl, (blk_cell BK284.out 2).trans rfl, (blk_cell BK265.out 0).trans rfl, (blk_cell BK265.out 1).trans rfl, (blk_cell BK265.out 2).trans rfl⟩ (fun hHeld => ?_)
      clear hK K
      refine norm_ (a' := ?_) ?_ ?_
      rotate_left
      ·
       show Act.put _ (some 62) _ = _
       simp only [Act.put, List.setIfInBounds_toArray, List.set_cons_zero, List.set_cons_succ, i64_w, i32_w]
       rfl
      refine one_ (i := 3) (N := some 63) (Fn.bl 5 15) rfl rfl (by kernel_rfl) (by decide) (fun K hK => ?_)
      refine goes_ Try.func22 (by kernel_rfl) rfl #[.agg #[.int .i64 t279, .int .i64 t280, .slice Ao26 t281.length co26], .agg #[.int .i64 t294, .int .i64 t295, .slice Ao124 t296.length co124]] (by rfl) rfl rfl ta_ ?_
      with_reducible refine (laws_eqBoard.calls kj12 t279 t280 _ _ t281 t294 t295 _ _ t296 false _ ?side1 ?side2 ?side3 ?side4 A44.out).mono ?_
      (case side1 => exact tc0_ (Kd.R_reads' HO_285002.out).2.2)
      (case side2 => exact (Kd.R_reads' HO_285002.out).2.1)
      (case side3 => exact tc0_ (Kd.R_reads' HO298.out).2.2)
      (case side4 => exact (Kd.R_reads' HO298.out).2.1)
      rintro e w125 ⟨rfl, hb⟩
      refine ⟨_, rfl, ?_⟩
      have n0_ := A_ (Kd.R_below (tr_x HO_8.out) hb)
      have n1_ := A_ (Kd.R_below (tr_x HO_9.out) hb)
      have n2_ := A_ (Kd.R_below (tr_x HO_12.out) hb)
      have n3_ := A_ (Kd.R_below (tr_x HO_13.out) hb)
      have n4_ := A_ (Kd.R_below (tr_x HO_285002.out) hb)
      have n5_ := A_ (Kd.R_below (tr_x HO298.out) hb)
      have n6_ := A_ (blk_below (g := gb265) (o := .cells #[.int .i64 a0_0, .int .i64 a0_1, .slice A0_2 l0_2.length c0_2] 24 (0, 0)) (tk_ BK265) hb)
      have n7_ := A_ (blk_below (g := gb284) (o := .cells #[.int .i64 t279, .int .i64 t280, .slice Ao26 t281.length co26] 28 (0, 0)) (tk_ BK284) hb)
      have n8_ := A_ (below_step tb_ hb)
      clear HO_8
      clear HO_9
      clear HO_12
      clear HO_13
      clear HO_285002
      clear HO298
      clear BK265
      clear BK284
      clear HB
      have HO_8 := n0_
      have HO_9 := n1_
      have HO_12 := n2_
      have HO_13 := n3_
      have HO_285002 := n4_
      have HO298 := n5_
      have BK265 := n6_
      have BK284 := n7_
      have HB := n8_
      clear n0_ n1_ n2_ n3_ n4_ n5_ n6_ n7_ n8_
      (try clear hb)
      (try clear hb2)
      (try clear hk)
      (try clear hi)
      refine hK.out _ _ ⟨(blk_cell BK284.out 0).trans rfl, (blk_cell BK284.out 1).trans rfl, (blk_cell BK284.out 2).trans rfl, (blk_cell BK265.out 0).trans rfl, (blk_cell BK265.out 1).trans rfl, (blk_cell BK265.out 2).trans rfl⟩ (fun hHeld => ?_)
      clear hK K
      refine norm_ (a' := ?_) ?_ ?_
      rotate_left
      ·
       show Act.put _ (some 63) _ = _
       simp only [Act.put, List.setIfInBounds_toArray, List.set_cons_zero, List.set_cons_succ, i64_w, i32_w]
       rfl
      refine pk_ 4 (some 64) (Fn.bl 5 31) ?_
      refine done_ (by kernel_rfl) ?_
      try go_wp2
      go_ret
      exact ⟨te_, tb_⟩

/-- THE ONE PURE STATEMENT of laws_FnExactNumbersByCell: yours. -/
def laws_FnExactNumbersByCell.Pure : Prop := ∀ (a0_0 : Int) (a0_1 : Int) (l0_2 : List Int) (a1 : Int) (a2 : Int), Fn.okI a0_0 → Fn.okI a0_1 → (Fn.okL Fn.okI) l0_2 → Fn.okI a1 → Fn.okI a2 → ∃ k, laws_FnExactNumbersByCell.f k a0_0 a0_1 l0_2 a1 a2 = some true

end
end Go.Proofs.Ytnpacpdpgngdpaa.P
