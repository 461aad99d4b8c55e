-- printed functions (wip/slim.py)
import Derived.Test.YtjjfcghoikdopaaPx0
import Derived.Test.YtjjfcghoikdopaaQbabc941b0f
import Derived.Test.YtjjfcghoikdopaaQeddd385f8f
import Derived.Test.YtjjfcghoikdopaaQc8a875b850
import Derived.Test.YtjjfcghoikdopaaQb9bf4cf162
import Derived.Test.YtjjfcghoikdopaaQ3bf2aa28fa
namespace Go.Proofs.Ytjjfcghoikdopaa.P
noncomputable section
set_option maxHeartbeats 8000000
set_option maxRecDepth 100000
open Go.RowKit Go.Proofs.YtjjfcghoikdopaaW.PrintWords Go.Proofs.YtjjfcghoikdopaaW.PrintLast Go.Proofs.YtjjfcghoikdopaaW.PrintMore
attribute [local go_sem] max2_int min2_int max_two min_two max_three min_three max_four min_four   -- for this text's walks alone
set_option linter.unusedVariables false
set_option linter.unusedSimpArgs false

/-! ### spec_biQuiet: function 80 -/
mutual
def spec_biQuiet.l0 : Nat → List (List Int) → Int → List (List Int) → Int → Int → Int → Int → List Int → Option (Bool)
 | 0, _, _, _, _, _, _, _, _ => none
 | k + 1, x1, x2, x14, x15, x16, x266000, x266001, x266002 => if x16 < x15 then (if 0 ≤ x16 then (if x16 < (x14.length : Int) then (if ((rd_L2 x14 x16).length : Int) = 2 then (if 0 < ((rd_L2 x14 x16).length : Int) then (if 1 < ((rd_L2 x14 x16).length : Int) then ((spec_boPlace.f k x266000 x266001 x266002 (rd (rd_L2 x14 x16) 0) (rd (rd_L2 x14 x16) 1)).bind fun t269 => (if t269 = true then ((spec_boHas.f x266000 x266001 x266002 (rd (rd_L2 x14 x16) 0) (rd (rd_L2 x14 x16) 1)).bind fun t272 => (spec_biQuiet.j1 k x1 x2 x16 (rd_L2 x14 x16) x14 x15 x16 (!t272) x266000 x266001 x266002)) else (spec_biQuiet.j1 k x1 x2 x16 (rd_L2 x14 x16) x14 x15 x16 true x266000 x266001 x266002))) else (none)) else (none)) else (spec_biQuiet.j1 k x1 x2 x16 (rd_L2 x14 x16) x14 x15 x16 true x266000 x266001 x266002)) else (none)) else (none)) else (some true)
def spec_biQuiet.j1 : Nat → List (List Int) → Int → Int → List Int → List (List Int) → Int → Int → Bool → Int → Int → List Int → Option (Bool)
 | 0, _, _, _, _, _, _, _, _, _, _, _ => none
 | k + 1, x1, x2, x7, x8, x14, x15, x16, x45, x266000, x266001, x266002 => if x45 = true then (some false) else (if 0 ≤ x7 then (if x7 ≤ (x1.length : Int) then ((some (x1.take (x7 : Int).toNat : List (List Int))).bind fun y273 => (spec_biQuiet.l1 k x1 x2 x8 x14 x15 x16 y273 (y273.length : Int) 0 x266000 x266001 x266002)) else (none)) else (none))
def spec_biQuiet.l1 : Nat → List (List Int) → Int → List Int → List (List Int) → Int → Int → List (List Int) → Int → Int → Int → Int → List Int → Option (Bool)
 | 0, _, _, _, _, _, _, _, _, _, _, _, _ => none
 | k + 1, x1, x2, x8, x14, x15, x16, x48, x49, x50, x266000, x266001, x266002 => if x50 < x49 then (if 0 ≤ x50 then (if x50 < (x48.length : Int) then ((spec_biDisturb.f x8 (rd_L2 x48 x50) x2).bind fun t278 => (if t278 = true then (some false) else (spec_biQuiet.l1 k x1 x2 x8 x14 x15 x16 x48 x49 (wrap64 (x50 + 1)) x266000 x266001 x266002))) else (none)) else (none)) else (spec_biQuiet.l0 k x1 x2 x14 x15 (wrap64 (x16 + 1)) x266000 x266001 x266002)
end
def spec_biQuiet.f (k : Nat) (a0_0 : Int) (a0_1 : Int) (l0_2 : List Int) (l1 : List (List Int)) (a2 : Int) : Option (Bool) := if (l1.length : Int) > 36 then (some false) else (spec_biQuiet.l0 k l1 a2 l1 (l1.length : Int) 0 a0_0 a0_1 l0_2)
theorem spec_biQuiet.mono_l : ∀ k, (∀ y0 y1 y2 y3 y4 y5 y6 y7, LeO (spec_biQuiet.l0 k y0 y1 y2 y3 y4 y5 y6 y7) (spec_biQuiet.l0 (k + 1) y0 y1 y2 y3 y4 y5 y6 y7)) ∧ (∀ y0 y1 y2 y3 y4 y5 y6 y7 y8 y9 y10, LeO (spec_biQuiet.j1 k y0 y1 y2 y3 y4 y5 y6 y7 y8 y9 y10) (spec_biQuiet.j1 (k + 1) y0 y1 y2 y3 y4 y5 y6 y7 y8 y9 y10)) ∧ (∀ y0 y1 y2 y3 y4 y5 y6 y7 y8 y9 y10 y11, LeO (spec_biQuiet.l1 k y0 y1 y2 y3 y4 y5 y6 y7 y8 y9 y10 y11) (spec_biQuiet.l1 (k + 1) y0 y1 y2 y3 y4 y5 y6 y7 y8 y9 y10 y11))
 | 0 => ⟨fun _ _ _ _ _ _ _ _ r h => by simp [spec_biQuiet.l0] at h, fun _ _ _ _ _ _ _ _ _ _ _ r h => by simp [spec_biQuiet.j1] at h, fun _ _ _ _ _ _ _ _ _ _ _ _ r h => by simp [spec_biQuiet.l1] at h⟩
 | k + 1 => by
  obtain ⟨ih0, ih1, ih2⟩ := spec_biQuiet.mono_l k
  refine ⟨?_, ?_, ?_⟩
  ·
   intro y0 y1 y2 y3 y4 y5 y6 y7
   unfold spec_biQuiet.l0
   repeat' first | (with_reducible first | exact ih0 _ _ _ _ _ _ _ _ | exact ih1 _ _ _ _ _ _ _ _ _ _ _ | exact ih2 _ _ _ _ _ _ _ _ _ _ _ _ | exact spec_boPlace.mono _ _ _ _ _ _ | exact LeO.refl _ | exact LeO.none _ | refine LeO.ite ?_ ?_ | refine LeO.bind ?_ (fun _ => ?_)) | exact ih0 _ _ _ _ _ _ _ _ | exact ih1 _ _ _ _ _ _ _ _ _ _ _ | exact ih2 _ _ _ _ _ _ _ _ _ _ _ _ | exact spec_boPlace.mono _ _ _ _ _ _ | exact LeO.none _ | refine LeO.ite ?_ ?_ | refine LeO.bind ?_ (fun _ => ?_)
  ·
   intro y0 y1 y2 y3 y4 y5 y6 y7 y8 y9 y10
   unfold spec_biQuiet.j1
   repeat' first | (with_reducible first | exact ih0 _ _ _ _ _ _ _ _ | exact ih1 _ _ _ _ _ _ _ _ _ _ _ | exact ih2 _ _ _ _ _ _ _ _ _ _ _ _ | exact spec_boPlace.mono _ _ _ _ _ _ | exact LeO.refl _ | exact LeO.none _ | refine LeO.ite ?_ ?_ | refine LeO.bind ?_ (fun _ => ?_)) | exact ih0 _ _ _ _ _ _ _ _ | exact ih1 _ _ _ _ _ _ _ _ _ _ _ | exact ih2 _ _ _ _ _ _ _ _ _ _ _ _ | exact spec_boPlace.mono _ _ _ _ _ _ | exact LeO.none _ | refine LeO.ite ?_ ?_ | refine LeO.bind ?_ (fun _ => ?_)
  ·
   intro y0 y1 y2 y3 y4 y5 y6 y7 y8 y9 y10 y11
   unfold spec_biQuiet.l1
   repeat' first | (with_reducible first | exact ih0 _ _ _ _ _ _ _ _ | exact ih1 _ _ _ _ _ _ _ _ _ _ _ | exact ih2 _ _ _ _ _ _ _ _ _ _ _ _ | exact spec_boPlace.mono _ _ _ _ _ _ | exact LeO.refl _ | exact LeO.none _ | refine LeO.ite ?_ ?_ | refine LeO.bind ?_ (fun _ => ?_)) | exact ih0 _ _ _ _ _ _ _ _ | exact ih1 _ _ _ _ _ _ _ _ _ _ _ | exact ih2 _ _ _ _ _ _ _ _ _ _ _ _ | exact spec_boPlace.mono _ _ _ _ _ _ | exact LeO.none _ | refine LeO.ite ?_ ?_ | refine LeO.bind ?_ (fun _ => ?_)
theorem spec_biQuiet.mono : ∀ a0 a1 a2 a3 a4 k, LeO (spec_biQuiet.f k a0 a1 a2 a3 a4) (spec_biQuiet.f (k + 1) a0 a1 a2 a3 a4) := by
 intro a0 a1 a2 a3 a4 k
 obtain ⟨ih0, ih1, ih2⟩ := spec_biQuiet.mono_l k
 unfold spec_biQuiet.f
 repeat' first | (with_reducible first | exact ih0 _ _ _ _ _ _ _ _ | exact ih1 _ _ _ _ _ _ _ _ _ _ _ | exact ih2 _ _ _ _ _ _ _ _ _ _ _ _ | exact spec_boPlace.mono _ _ _ _ _ _ | exact LeO.refl _ | exact LeO.none _ | refine LeO.ite ?_ ?_ | refine LeO.bind ?_ (fun _ => ?_)) | exact ih0 _ _ _ _ _ _ _ _ | exact ih1 _ _ _ _ _ _ _ _ _ _ _ | exact ih2 _ _ _ _ _ _ _ _ _ _ _ _ | exact spec_boPlace.mono _ _ _ _ _ _ | exact LeO.none _ | refine LeO.ite ?_ ?_ | refine LeO.bind ?_ (fun _ => ?_)
def spec_biQuiet.T6 : Bool × List (List Nat × List Nat) := (true, [([], []), ([0], [0]), ([1], [1]), ([2], [2]), ([3], [3]), ([3], [3]), ([5, 3], [3, 5]), ([6, 3], [3, 6]), ([3], [3]), ([8, 3], [3, 8]), ([9, 3], [3, 9]), ([4, 7, 10, 3, 3], [3, 4, 7, 10]), ([11, 3], [3, 11]), ([3, 12], [3, 12]), ([13, 11], [13]), ([14], [14]), ([14], [14]), ([16, 14], [14, 16]), ([17, 14], [14, 17]), ([14], [14]), ([19, 14], [14, 19]), ([20, 14], [14, 20]), ([15, 18, 21, 14, 14], [14, 15, 18, 21]), ([22, 14], [14, 22]), ([14, 23], [14, 23])])
def spec_biQuiet.B6 : List Nat := [0, 1, 3, 7, 15, 15, 47, 111, 15, 271, 783, 2047, 4095, 8191, 16383, 32767, 32767, 98303, 229375, 32767, 557055, 1605631, 4194303, 8388607, 16777215]
theorem spec_biQuiet.tab6 : rtab .any (opsOf Try.f80 6) = spec_biQuiet.T6 := by kernel_rfl
theorem spec_biQuiet.bits6 : waitsOk spec_biQuiet.T6.2 spec_biQuiet.B6 = true := by kernel_rfl
theorem spec_biQuiet.calls (k : Nat) (a0_0 : Int) (a0_1 : Int) (A0_2 : Option Addr) (c0_2 : Nat) (l0_2 : List Int) (A1 : Option Addr) (c1 : Nat) (l1 : List (List Int)) (a2 : Int) (r : Bool) (w : World) (hr0_2 : Kd.C (Kd.int .i64) w A0_2 l0_2.length l0_2) (hc0_2 : l0_2.length ≤ c0_2) (hr1 : Kd.C (Kd.slice 3 (Kd.int .i64)) w A1 l1.length l1) (hc1 : l1.length ≤ c1) (h : spec_biQuiet.f k a0_0 a0_1 l0_2 l1 a2 = some r) :
  Calls Try.prog 80 #[.agg #[.int .i64 a0_0, .int .i64 a0_1, .slice A0_2 l0_2.length c0_2], .slice A1 l1.length c1, .int .i64 a2] w fun e w' => e = .returned (.bool r) ∧ Below w.heap.size w w' := by
 have hu26 := Try.underlying26
 have HR0_2 := A_ hr0_2
 have HC0_2 := A_ hc0_2
 clear hr0_2 hc0_2
 have HR1 := A_ hr1
 have HC1 := A_ hc1
 clear hr1 hc1
 have HB := A_ (Below.refl w.heap.size w)
 have H : (if (l1.length : Int) > 36 then (some false) else (spec_biQuiet.l0 k l1 a2 l1 (l1.length : Int) 0 a0_0 a0_1 l0_2)) = some r := h
 clear h
 by_cases c4 : (l1.length : Int) > 36
 ·
  rw [if_pos c4] at H
  have c4b0 := decide_eq_true c4
  have c4b1 : decide (36 < l1.length) = true := decide_eq_true (by omega)
  clear c4
  obtain rfl := Option.some.inj H
  go_enter Try.func80, Try.ntmps80
  go_wp2_with (first | (refine gd_ 3 ?_; refine bx_ 3 #[.int .i64 a0_0, .int .i64 a0_1, .slice A0_2 l0_2.length c0_2] 26 ?_; intro gb265 hg w5 hbox hb; have BK265 := A_ (hbox); have GW265 := A_ ((ts_ hg : w.heap.size ≤ gb265)); have GE265 := A_ ((ts_ hg : w.heap.size ≤ gb265)); replace HB := A_ (below_step tb_ hb); clear hb hbox hg))
  go_ret
  exact ⟨te_, tb_⟩
 ·
  rw [if_neg c4] at H
  have c4b0 := decide_eq_false c4
  have c4b1 : decide (36 < l1.length) = false := decide_eq_false (by omega)
  clear c4
  have H' := A_ H
  clear H
  go_enter Try.func80, Try.ntmps80
  go_wp2_with (first | (refine gd_ 3 ?_; refine bx_ 3 #[.int .i64 a0_0, .int .i64 a0_1, .slice A0_2 l0_2.length c0_2] 26 ?_; intro gb265 hg w6 hbox hb; have BK265 := A_ (hbox); have GW265 := A_ ((ts_ hg : w.heap.size ≤ gb265)); have GE265 := A_ ((ts_ hg : w.heap.size ≤ gb265)); replace HB := A_ (below_step tb_ hb); clear hb hbox hg))
  go_loopg [16] k (fun kq v16 w' => ∃ (x16_1 : Int), v16 = .int .i64 x16_1 ∧ Aside0 (spec_biQuiet.l0 kq l1 a2 l1 (l1.length : Int) x16_1 a0_0 a0_1 l0_2 = some r) ∧ Aside0 (kq ≤ k) ∧ Aside0 (w'.heap[gb265]? = some (.cells #[.int .i64 a0_0, .int .i64 a0_1, (.slice A0_2 l0_2.length c0_2)] 26 (0, 0))) ∧ Aside0 (Below w.heap.size w w'))
  case atStart => exact ⟨(0), tf_, H', ⟨Nat.le_refl _⟩, ⟨tk_ BK265⟩, ⟨tb_⟩⟩
  case round =>
   clear H'
   try clear c1
   try clear p2
   try clear c4
   try clear c4b0
   try clear c4b1
   obtain ⟨x16_1, rfl, HA, HK1, BK265, HB⟩ := hrel
   cases gk with
   | zero => exact absurd HA.out (by simp [spec_biQuiet.l0])
   | succ k1 =>
    have H := HA.out
    clear HA
    simp only [spec_biQuiet.l0] at H
    by_cases c7 : x16_1 < (l1.length : Int)
    ·
     rw [if_pos c7] at H
     have c7b0 := decide_eq_true c7
     clear c7
     by_cases c8 : 0 ≤ x16_1
     ·
      rw [if_pos c8] at H
      have c8b0 := decide_eq_true c8
      clear c8
      by_cases c9 : x16_1 < (l1.length : Int)
      ·
       rw [if_pos c9] at H
       have c9b0 := decide_eq_true c9
       clear c9
       have HC10 := A_ H
       clear H
       have p266 : 0 ≤ (x16_1 : Int) := od_
       have q266 : x16_1 < (l1.length : Int) := od_
       obtain ⟨ad266, A266_0, c266_0, e266, hx266_0, hl266_0, hi266_0⟩ := at_L2 HR1.out x16_1 p266 q266
       cases e266
       (try replace hx266_0 := (HB.out.cell (World.block_lt_of_cell? w _ hx266_0)).trans hx266_0)
       have HR266_0 := A_ hi266_0
       have HC266_0 := A_ hl266_0
       clear hi266_0 hl266_0
       replace p266 := eq_true p266
       replace q266 := eq_true q266
       go_upto_region 6 with (fail)
       go_cut [45] (fun v45 wc => ∃ (kq : Nat) (x45_9 : Bool), v45 = .bool x45_9 ∧ Aside0 (spec_biQuiet.j1 kq l1 a2 x16_1 (rd_L2 l1 x16_1) l1 (l1.length : Int) x16_1 x45_9 a0_0 a0_1 l0_2 = some r) ∧ Aside0 (kq ≤ k1) ∧ Aside0 (wc.heap[gb265]? = some (.cells #[.int .i64 a0_0, .int .i64 a0_1, (.slice A0_2 l0_2.length c0_2)] 26 (0, 0))) ∧ Aside0 (Below w.heap.size w wc))
       case first =>
        have H := HC10.out
        clear HC10
        by_cases c11 : ((rd_L2 l1 x16_1).length : Int) = 2
        ·
         rw [if_pos c11] at H
         have c11b0 : (((rd_L2 l1 x16_1).length : Int) == 2) = true := beq_iff_eq.mpr c11
         have c11b1 : (((rd_L2 l1 x16_1).length : Int) != 2) = false := bne_eq_false_iff_eq.mpr c11
         clear c11
         (first | rw [c11b0] | rw [c11b1] | (simp only [i64_w, i32_w]; rw [c11b0]) | skip)
         by_cases c12 : 0 < ((rd_L2 l1 x16_1).length : Int)
         ·
          rw [if_pos c12] at H
          have c12b0 := decide_eq_true c12
          have c12b1 : decide (0 < (rd_L2 l1 x16_1).length) = true := decide_eq_true (by omega)
          clear c12
          by_cases c13 : 1 < ((rd_L2 l1 x16_1).length : Int)
          ·
           rw [if_pos c13] at H
           have c13b0 := decide_eq_true c13
           have c13b1 : decide (1 < (rd_L2 l1 x16_1).length) = true := decide_eq_true (by omega)
           clear c13
           replace H := Option.bind_eq_some_iff.mp H
           obtain ⟨t269, A140, H⟩ := H
           replace H : (if t269 = true then ((spec_boHas.f a0_0 a0_1 l0_2 (rd (rd_L2 l1 x16_1) 0) (rd (rd_L2 l1 x16_1) 1)).bind fun t272 => (spec_biQuiet.j1 k1 l1 a2 x16_1 (rd_L2 l1 x16_1) l1 (l1.length : Int) x16_1 (!t272) a0_0 a0_1 l0_2)) else (spec_biQuiet.j1 k1 l1 a2 x16_1 (rd_L2 l1 x16_1) l1 (l1.length : Int) x16_1 true a0_0 a0_1 l0_2)) = some r := H
           have A14 := A_ A140
           clear A140
           by_cases c15 : t269 = true
           ·
            subst c15
            have H1 : ((spec_boHas.f a0_0 a0_1 l0_2 (rd (rd_L2 l1 x16_1) 0) (rd (rd_L2 l1 x16_1) 1)).bind fun t272 => (spec_biQuiet.j1 k1 l1 a2 x16_1 (rd_L2 l1 x16_1) l1 (l1.length : Int) x16_1 (!t272) a0_0 a0_1 l0_2)) = some r := by rw [if_pos rfl] at H; exact H
            clear H
            have H := H1
            clear H1
            replace H := Option.bind_eq_some_iff.mp H
            obtain ⟨t272, A160, H⟩ := H
            replace H : (spec_biQuiet.j1 k1 l1 a2 x16_1 (rd_L2 l1 x16_1) l1 (l1.length : Int) x16_1 (!t272) a0_0 a0_1 l0_2) = some r := H
            have A16 := A_ A160
            clear A160
            have H' := A_ H
            clear H
            try go_wp2
            have n0_ := A_ (blk_drew BK265.out)
            have n1_ := A_ (below_drew1 HB.out)
            clear BK265
            clear HB
            have BK265 := n0_
            have HB := n1_
            clear n0_ n1_
            have p267 : 0 ≤ (0 : Int) := (by omega)
            have q267 : 0 < ((rd_L2 l1 x16_1).length : Int) := od_
            obtain ⟨ad267, e267, hx267_0⟩ := Kd.at_int HR266_0.out 0 p267 q267
            have hw267_0 := hx267_0
            (try rw [show ((0 : Int)).toNat = 0 from rfl] at hw267_0)
            (try rw [show 0 * 1 = 0 from rfl] at hw267_0)
            (try rw [Addr.add_zero'] at hw267_0)
            cases e267
            have qi267 : (0 < (rd_L2 l1 x16_1).length) = True := eq_true (by omega)
            (try rw [show ((0 : Int)).toNat = 0 from rfl] at hx267_0)
            (try rw [Addr.add_zero'] at hx267_0)
            (try replace hx267_0 := (HB.out.cell (World.block_lt_of_cell? w _ hx267_0)).trans hx267_0)
            replace p267 := eq_true p267
            replace q267 := eq_true q267
            have p268 : 0 ≤ (1 : Int) := (by omega)
            have q268 : 1 < ((rd_L2 l1 x16_1).length : Int) := od_
            obtain ⟨ad268, e268, hx268_0⟩ := Kd.at_int HR266_0.out 1 p268 q268
            have hw268_0 := hx268_0
            (try rw [show ((1 : Int)).toNat = 1 from rfl] at hw268_0)
            (try rw [show 1 * 1 = 1 from rfl] at hw268_0)
            (try simp only [Nat.reduceMul, Nat.reduceEqDiff, Go.Addr.add, ↓reduceIte] at hw268_0)
            obtain rfl : ad267 = ad268 := (by injection e268)
            (try simp only [show (1 : Int).toNat = 1 from rfl, Nat.reduceMul, Nat.reduceEqDiff, Go.Addr.add, ↓reduceIte] at hx268_0)
            have qi268 : (1 < (rd_L2 l1 x16_1).length) = True := eq_true (by omega)
            (try rw [show ((1 : Int)).toNat = 1 from rfl] at hx268_0)
            (try replace hx268_0 := (HB.out.cell (World.block_lt_of_cell? w _ hx268_0)).trans hx268_0)
            replace p268 := eq_true p268
            replace q268 := eq_true q268
            have p270 : 0 ≤ (0 : Int) := (by omega)
            have q270 : 0 < ((rd_L2 l1 x16_1).length : Int) := od_
            obtain ⟨ad270, e270, hx270_0⟩ := Kd.at_int HR266_0.out 0 p270 q270
            have hw270_0 := hx270_0
            (try rw [show ((0 : Int)).toNat = 0 from rfl] at hw270_0)
            (try rw [show 0 * 1 = 0 from rfl] at hw270_0)
            (try rw [Addr.add_zero'] at hw270_0)
            obtain rfl : ad267 = ad270 := (by injection e270)
            have qi270 : (0 < (rd_L2 l1 x16_1).length) = True := eq_true (by omega)
            (try rw [show ((0 : Int)).toNat = 0 from rfl] at hx270_0)
            (try rw [Addr.add_zero'] at hx270_0)
            (try replace hx270_0 := (HB.out.cell (World.block_lt_of_cell? w _ hx270_0)).trans hx270_0)
            replace p270 := eq_true p270
            replace q270 := eq_true q270
            have p271 : 0 ≤ (1 : Int) := (by omega)
            have q271 : 1 < ((rd_L2 l1 x16_1).length : Int) := od_
            obtain ⟨ad271, e271, hx271_0⟩ := Kd.at_int HR266_0.out 1 p271 q271
            have hw271_0 := hx271_0
            (try rw [show ((1 : Int)).toNat = 1 from rfl] at hw271_0)
            (try rw [show 1 * 1 = 1 from rfl] at hw271_0)
            (try simp only [Nat.reduceMul, Nat.reduceEqDiff, Go.Addr.add, ↓reduceIte] at hw271_0)
            obtain rfl : ad267 = ad271 := (by injection e271)
            (try simp only [show (1 : Int).toNat = 1 from rfl, Nat.reduceMul, Nat.reduceEqDiff, Go.Addr.add, ↓reduceIte] at hx271_0)
            have qi271 : (1 < (rd_L2 l1 x16_1).length) = True := eq_true (by omega)
            (try rw [show ((1 : Int)).toNat = 1 from rfl] at hx271_0)
            (try replace hx271_0 := (HB.out.cell (World.block_lt_of_cell? w _ hx271_0)).trans hx271_0)
            replace p271 := eq_true p271
            replace q271 := eq_true q271
            refine start_ (n := 25) (S := fun w' => w'.cell? ⟨gb265, 0, none⟩ = some (.int .i64 a0_0) ∧ w'.cell? ⟨gb265, 1, none⟩ = some (.int .i64 a0_1) ∧ w'.cell? ⟨gb265, 2, none⟩ = some (.slice A0_2 l0_2.length c0_2) ∧ w'.cell? ad267 = some (.int .i64 (rd (rd_L2 l1 x16_1) 0)) ∧ w'.cell? ⟨ad267.block, ad267.off + 1, none⟩ = some (.int .i64 (rd (rd_L2 l1 x16_1) 1)) ∧ w'.cell? ad267 = some (.int .i64 (rd (rd_L2 l1 x16_1) 0)) ∧ w'.cell? ⟨ad267.block, ad267.off + 1, none⟩ = some (.int .i64 (rd (rd_L2 l1 x16_1) 1))) (ds := []) (Fn.bl 25 0) (by kernel_rfl) rfl rfl ⟨(blk_cell BK265.out 0).trans rfl, (blk_cell BK265.out 1).trans rfl, (blk_cell BK265.out 2).trans rfl, (by first | exact ((HB.out.cell (World.block_lt_of_cell? w _ hw267_0)).trans hw267_0) | exact hw267_0 | (obtain ⟨z1_, z2_, z3_⟩ := Kd.at_int HR266_0.out 0 (by first | exact p267 | exact of_eq_true p267) (by first | exact q267 | exact of_eq_true q267); injection z2_ with z2_; subst z2_; first | exact z3_ | (simpa [Addr.add] using z3_))), (by first | exact ((HB.out.cell (World.block_lt_of_cell? w _ hw268_0)).trans hw268_0) | exact hw268_0 | (obtain ⟨z1_, z2_, z3_⟩ := Kd.at_int HR266_0.out 1 (by first | exact p268 | exact of_eq_true p268) (by first | exact q268 | exact of_eq_true q268); injection z2_ with z2_; subst z2_; first | exact z3_ | (simpa [Addr.add] using z3_))), (by first | exact ((HB.out.cell (World.block_lt_of_cell? w _ hw270_0)).trans hw270_0) | exact hw270_0 | (obtain ⟨z1_, z2_, z3_⟩ := Kd.at_int HR266_0.out 0 (by first | exact p270 | exact of_eq_true p270) (by first | exact q270 | exact of_eq_true q270); injection z2_ with z2_; subst z2_; first | exact z3_ | (simpa [Addr.add] using z3_))), (by first | exact ((HB.out.cell (World.block_lt_of_cell? w _ hw271_0)).trans hw271_0) | exact hw271_0 | (obtain ⟨z1_, z2_, z3_⟩ := Kd.at_int HR266_0.out 1 (by first | exact p271 | exact of_eq_true p271) (by first | exact q271 | exact of_eq_true q271); injection z2_ with z2_; subst z2_; first | exact z3_ | (simpa [Addr.add] using z3_)))⟩ (fun hHeld => ?_); refine with_tabW spec_biQuiet.tab6 spec_biQuiet.bits6 (fun HT_ HW_ => ?_)
            generalize wr.drew = w17 at BK265 HB hx267_0 hx268_0 hx270_0 hx271_0 hHeld ⊢
            refine pq_ 0 (some 21) (Fn.bl 25 1) HT_.out ?_
            refine pq_ 1 (some 22) (Fn.bl 25 3) HT_.out ?_
            refine pq_ 2 (some 23) (Fn.bl 25 7) HT_.out ?_
            refine pq_ 3 (some 24) (Fn.bl 25 15) HT_.out ?_
            refine pq_ 5 (some 26) (Fn.bl 25 47) HT_.out ?_
            refine pq_ 6 (some 27) (Fn.bl 25 111) HT_.out ?_
            refine pq_ 8 (some 29) (Fn.bl 25 367) HT_.out ?_
            refine pq_ 9 (some 30) (Fn.bl 25 879) HT_.out ?_
            refine tq_ 4 (some 25) (Fn.bl 25 895) HT_.out HW_.out hHeld ?_ (hy0 := by rintro w' ⟨s0, s1, s2, s3, s4, s5, s6⟩; go_simp; with_reducible rfl)
            refine tq_ 7 (some 28) (Fn.bl 25 1023) HT_.out HW_.out hHeld ?_ (hy0 := by rintro w' ⟨s0, s1, s2, s3, s4, s5, s6⟩; go_simp; with_reducible rfl)
            refine tq_ 10 (some 31) (Fn.bl 25 2047) HT_.out HW_.out hHeld ?_ (hy0 := by rintro w' ⟨s0, s1, s2, s3, s4, s5, s6⟩; go_simp; with_reducible rfl)
            refine one_ (i := 11) (N := some 32) (Fn.bl 25 4095) rfl rfl (one_of HT_.out (by kernel_rfl)) (by decide) (fun K hK => ?_)
            refine goes_ Try.func85 (by kernel_rfl) rfl #[.agg #[.int .i64 a0_0, .int .i64 a0_1, .slice A0_2 l0_2.length c0_2], .int .i64 (rd (rd_L2 l1 x16_1) 0), .int .i64 (rd (rd_L2 l1 x16_1) 1)] (by rfl) rfl rfl ta_ ?_
            with_reducible refine (spec_boPlace.calls k1 a0_0 a0_1 _ _ l0_2 (rd (rd_L2 l1 x16_1) 0) (rd (rd_L2 l1 x16_1) 1) true _ ?side1 ?side2 A14.out).mono ?_
            (case side1 => exact tc_ HR0_2.out)
            (case side2 => exact HC0_2.out)
            rintro e w18 ⟨rfl, hb⟩
            refine ⟨_, rfl, ?_⟩
            have n0_ := A_ (blk_below (g := gb265) (o := .cells #[.int .i64 a0_0, .int .i64 a0_1, .slice A0_2 l0_2.length c0_2] 26 (0, 0)) (tk_ BK265) hb)
            have n1_ := A_ (below_step tb_ hb)
            clear BK265
            clear HB
            have BK265 := n0_
            have HB := n1_
            clear n0_ n1_
            (try clear hb)
            (try clear hb2)
            (try clear hk)
            (try clear hi)
            refine hK.out _ _ ⟨(blk_cell BK265.out 0).trans rfl, (blk_cell BK265.out 1).trans rfl, (blk_cell BK265.out 2).trans rfl, (by first | exact ((HB.out.cell (World.block_lt_of_cell? w _ hw267_0)).trans hw267_0) | exact hw267_0 | (obtain ⟨z1_, z2_, z3_⟩ := Kd.at_int HR266_0.out 0 (by first | exact p267 | exact of_eq_true p267) (by first | exact q267 | exact of_eq_true q267); injection z2_ with z2_; subst z2_; first | exact z3_ | (simpa [Addr.add] using z3_))), (by first | exact ((HB.out.cell (World.block_lt_of_cell? w _ hw268_0)).trans hw268_0) | exact hw268_0 | (obtain ⟨z1_, z2_, z3_⟩ := Kd.at_int HR266_0.out 1 (by first | exact p268 | exact of_eq_true p268) (by first | exact q268 | exact of_eq_true q268); injection z2_ with z2_; subst z2_; first | exact z3_ | (simpa [Addr.add] using z3_))), (by first | exact ((HB.out.cell (World.block_lt_of_cell? w _ hw270_0)).trans hw270_0) | exact hw270_0 | (obtain ⟨z1_, z2_, z3_⟩ := Kd.at_int HR266_0.out 0 (by first | exact p270 | exact of_eq_true p270) (by first | exact q270 | exact of_eq_true q270); injection z2_ with z2_; subst z2_; first | exact z3_ | (simpa [Addr.add] using z3_))), (by first | exact ((HB.out.cell (World.block_lt_of_cell? w _ hw271_0)).trans hw271_0) | exact hw271_0 | (obtain ⟨z1_, z2_, z3_⟩ := Kd.at_int HR266_0.out 1 (by first | exact p271 | exact of_eq_true p271) (by first | exact q271 | exact of_eq_true q271); injection z2_ with z2_; subst z2_; first | exact z3_ | (simpa [Addr.add] using z3_)))⟩ (fun hHeld => ?_)
            clear hK K
            refine norm_ (a' := ?_) ?_ ?_
            rotate_left
            ·
             show Act.put _ (some 32) _ = _
             simp only [Act.put, List.setIfInBounds_toArray, List.set_cons_zero, List.set_cons_succ, i64_w, i32_w]
             rfl
            refine pq_ 12 (some 33) (Fn.bl 25 8191) HT_.out ?_
            refine pq_ 13 (some 34) (Fn.bl 25 16383) HT_.out ?_
            refine pq_ 14 (some 35) (Fn.bl 25 32767) HT_.out ?_
            refine pq_ 16 (some 37) (Fn.bl 25 98303) HT_.out ?_
            refine pq_ 17 (some 38) (Fn.bl 25 229375) HT_.out ?_
            refine pq_ 19 (some 40) (Fn.bl 25 753663) HT_.out ?_
            refine pq_ 20 (some 41) (Fn.bl 25 1802239) HT_.out ?_
            refine tq_ 15 (some 36) (Fn.bl 25 1835007) HT_.out HW_.out hHeld ?_ (hy0 := by rintro w' ⟨s0, s1, s2, s3, s4, s5, s6⟩; go_simp; with_reducible rfl)
            refine tq_ 18 (some 39) (Fn.bl 25 2097151) HT_.out HW_.out hHeld ?_ (hy0 := by rintro w' ⟨s0, s1, s2, s3, s4, s5, s6⟩; go_simp; with_reducible rfl)
            refine tq_ 21 (some 42) (Fn.bl 25 4194303) HT_.out HW_.out hHeld ?_ (hy0 := by rintro w' ⟨s0, s1, s2, s3, s4, s5, s6⟩; go_simp; with_reducible rfl)
            refine one_ (i := 22) (N := some 43) (Fn.bl 25 8388607) rfl rfl (one_of HT_.out (by kernel_rfl)) (by decide) (fun K hK => ?_)
            refine goes_ Try.func121 (by kernel_rfl) rfl #[.agg #[.int .i64 a0_0, .int .i64 a0_1, .slice A0_2 l0_2.length c0_2], .int .i64 (rd (rd_L2 l1 x16_1) 0), .int .i64 (rd (rd_L2 l1 x16_1) 1)] (by rfl) rfl rfl ta_ ?_
            with_reducible refine (spec_boHas.calls a0_0 a0_1 _ _ l0_2 (rd (rd_L2 l1 x16_1) 0) (rd (rd_L2 l1 x16_1) 1) t272 _ ?side1 ?side2 A16.out).mono ?_
            (case side1 => exact tc_ HR0_2.out)
            (case side2 => exact HC0_2.out)
            rintro e w19 ⟨rfl, hb⟩
            refine ⟨_, rfl, ?_⟩
            have n0_ := A_ (blk_below (g := gb265) (o := .cells #[.int .i64 a0_0, .int .i64 a0_1, .slice A0_2 l0_2.length c0_2] 26 (0, 0)) (tk_ BK265) hb)
            have n1_ := A_ (below_step tb_ hb)
            clear BK265
            clear HB
            have BK265 := n0_
            have HB := n1_
            clear n0_ n1_
            (try clear hb)
            (try clear hb2)
            (try clear hk)
            (try clear hi)
            refine hK.out _ _ ⟨(blk_cell BK265.out 0).trans rfl, (blk_cell BK265.out 1).trans rfl, (blk_cell BK265.out 2).trans rfl, (by first | exact ((HB.out.cell (World.block_lt_of_cell? w _ hw267_0)).trans hw267_0) | exact hw267_0 | (obtain ⟨z1_, z2_, z3_⟩ := Kd.at_int HR266_0.out 0 (by first | exact p267 | exact of_eq_true p267) (by first | exact q267 | exact of_eq_true q267); injection z2_ with z2_; subst z2_; first | exact z3_ | (simpa [Addr.add] using z3_))), (by first | exact ((HB.out.cell (World.block_lt_of_cell? w _ hw268_0)).trans hw268_0) | exact hw268_0 | (obtain ⟨z1_, z2_, z3_⟩ := Kd.at_int HR266_0.out 1 (by first | exact p268 | exact of_eq_true p268) (by first | exact q268 | exact of_eq_true q268); injection z2_ with z2_; subst z2_; first | exact z3_ | (simpa [Addr.add] using z3_))), (by first | exact ((HB.out.cell (World.block_lt_of_cell? w _ hw270_0)).trans hw270_0) | exact hw270_0 | (obtain ⟨z1_, z2_, z3_⟩ := Kd.at_int HR266_0.out 0 (by first | exact p270 | exact of_eq_true p270) (by first | exact q270 | exact of_eq_true q270); injection z2_ with z2_; subst z2_; first | exact z3_ | (simpa [Addr.add] using z3_))), (by first | exact ((HB.out.cell (World.block_lt_of_cell? w _ hw271_0)).trans hw271_0) | exact hw271_0 | (obtain ⟨z1_, z2_, z3_⟩ := Kd.at_int HR266_0.out 1 (by first | exact p271 | exact of_eq_true p271) (by first | exact q271 | exact of_eq_true q271); injection z2_ with z2_; subst z2_; first | exact z3_ | (simpa [Addr.add] using z3_)))⟩ (fun hHeld => ?_)
            clear hK K
            refine norm_ (a' := ?_) ?_ ?_
            rotate_left
            ·
             show Act.put _ (some 43) _ = _
             simp only [Act.put, List.setIfInBounds_toArray, List.set_cons_zero, List.set_cons_succ, i64_w, i32_w]
             rfl
            refine pq_ 23 (some 44) (Fn.bl 25 16777215) HT_.out ?_
            refine pq_ 24 (some 45) (Fn.bl 25 33554431) HT_.out ?_
            refine done_ (done_of HT_.out (by kernel_rfl)) ?_
            try go_wp2
            go_meet
            case rel => exact ⟨_, (!t272), tf_, H', ⟨by have := HK1.out; first | omega | exact Nat.le_refl _⟩, ⟨tk_ BK265⟩, ⟨tb_⟩⟩
           ·
            replace c15 := Bool.eq_false_iff.mpr c15
            subst c15
            have H1 : (spec_biQuiet.j1 k1 l1 a2 x16_1 (rd_L2 l1 x16_1) l1 (l1.length : Int) x16_1 true a0_0 a0_1 l0_2) = some r := by rw [if_neg (show ¬ (false = true) by decide)] at H; exact H
            clear H
            have H := H1
            clear H1
            have H' := A_ H
            clear H
            try go_wp2
            have n0_ := A_ (blk_drew BK265.out)
            have n1_ := A_ (below_drew1 HB.out)
            clear BK265
            clear HB
            have BK265 := n0_
            have HB := n1_
            clear n0_ n1_
            have p267 : 0 ≤ (0 : Int) := (by omega)
            have q267 : 0 < ((rd_L2 l1 x16_1).length : Int) := od_
            obtain ⟨ad267, e267, hx267_0⟩ := Kd.at_int HR266_0.out 0 p267 q267
            have hw267_0 := hx267_0
            (try rw [show ((0 : Int)).toNat = 0 from rfl] at hw267_0)
            (try rw [show 0 * 1 = 0 from rfl] at hw267_0)
            (try rw [Addr.add_zero'] at hw267_0)
            cases e267
            have qi267 : (0 < (rd_L2 l1 x16_1).length) = True := eq_true (by omega)
            (try rw [show ((0 : Int)).toNat = 0 from rfl] at hx267_0)
            (try rw [Addr.add_zero'] at hx267_0)
            (try replace hx267_0 := (HB.out.cell (World.block_lt_of_cell? w _ hx267_0)).trans hx267_0)
            replace p267 := eq_true p267
            replace q267 := eq_true q267
            have p268 : 0 ≤ (1 : Int) := (by omega)
            have q268 : 1 < ((rd_L2 l1 x16_1).length : Int) := od_
            obtain ⟨ad268, e268, hx268_0⟩ := Kd.at_int HR266_0.out 1 p268 q268
            have hw268_0 := hx268_0
            (try rw [show ((1 : Int)).toNat = 1 from rfl] at hw268_0)
            (try rw [show 1 * 1 = 1 from rfl] at hw268_0)
            (try simp only [Nat.reduceMul, Nat.reduceEqDiff, Go.Addr.add, ↓reduceIte] at hw268_0)
            obtain rfl : ad267 = ad268 := (by injection e268)
            (try simp only [show (1 : Int).toNat = 1 from rfl, Nat.reduceMul, Nat.reduceEqDiff, Go.Addr.add, ↓reduceIte] at hx268_0)
            have qi268 : (1 < (rd_L2 l1 x16_1).length) = True := eq_true (by omega)
            (try rw [show ((1 : Int)).toNat = 1 from rfl] at hx268_0)
            (try replace hx268_0 := (HB.out.cell (World.block_lt_of_cell? w _ hx268_0)).trans hx268_0)
            replace p268 := eq_true p268
            replace q268 := eq_true q268
            refine start_ (n := 25) (S := fun w' => w'.cell? ⟨gb265, 0, none⟩ = some (.int .i64 a0_0) ∧ w'.cell? ⟨gb265, 1, none⟩ = some (.int .i64 a0_1) ∧ w'.cell? ⟨gb265, 2, none⟩ = some (.slice A0_2 l0_2.length c0_2) ∧ w'.cell? ad267 = some (.int .i64 (rd (rd_L2 l1 x16_1) 0)) ∧ w'.cell? ⟨ad267.block, ad267.off + 1, none⟩ = some (.int .i64 (rd (rd_L2 l1 x16_1) 1))) (ds := []) (Fn.bl 25 0) (by kernel_rfl) rfl rfl ⟨(blk_cell BK265.out 0).trans rfl, (blk_cell BK265.out 1).trans rfl, (blk_cell BK265.out 2).trans rfl, (by first | exact ((HB.out.cell (World.block_lt_of_cell? w _ hw267_0)).trans hw267_0) | exact hw267_0 | (obtain ⟨z1_, z2_, z3_⟩ := Kd.at_int HR266_0.out 0 (by first | exact p267 | exact of_eq_true p267) (by first | exact q267 | exact of_eq_true q267); injection z2_ with z2_; subst z2_; first | exact z3_ | (simpa [Addr.add] using z3_))), (by first | exact ((HB.out.cell (World.block_lt_of_cell? w _ hw268_0)).trans hw268_0) | exact hw268_0 | (obtain ⟨z1_, z2_, z3_⟩ := Kd.at_int HR266_0.out 1 (by first | exact p268 | exact of_eq_true p268) (by first | exact q268 | exact of_eq_true q268); injection z2_ with z2_; subst z2_; first | exact z3_ | (simpa [Addr.add] using z3_)))⟩ (fun hHeld => ?_); refine with_tabW spec_biQuiet.tab6 spec_biQuiet.bits6 (fun HT_ HW_ => ?_)
            generalize wr.drew = w20 at BK265 HB hx267_0 hx268_0 hHeld ⊢
            refine pq_ 0 (some 21) (Fn.bl 25 1) HT_.out ?_
            refine pq_ 1 (some 22) (Fn.bl 25 3) HT_.out ?_
            refine pq_ 2 (some 23) (Fn.bl 25 7) HT_.out ?_
            refine pq_ 3 (some 24) (Fn.bl 25 15) HT_.out ?_
            refine pq_ 5 (some 26) (Fn.bl 25 47) HT_.out ?_
            refine pq_ 6 (some 27) (Fn.bl 25 111) HT_.out ?_
            refine pq_ 8 (some 29) (Fn.bl 25 367) HT_.out ?_
            refine pq_ 9 (some 30) (Fn.bl 25 879) HT_.out ?_
            refine tq_ 4 (some 25) (Fn.bl 25 895) HT_.out HW_.out hHeld ?_ (hy0 := by rintro w' ⟨s0, s1, s2, s3, s4⟩; go_simp; with_reducible rfl)
            refine tq_ 7 (some 28) (Fn.bl 25 1023) HT_.out HW_.out hHeld ?_ (hy0 := by rintro w' ⟨s0, s1, s2, s3, s4⟩; go_simp; with_reducible rfl)
            refine tq_ 10 (some 31) (Fn.bl 25 2047) HT_.out HW_.out hHeld ?_ (hy0 := by rintro w' ⟨s0, s1, s2, s3, s4⟩; go_simp; with_reducible rfl)
            refine one_ (i := 11) (N := some 32) (Fn.bl 25 4095) rfl rfl (one_of HT_.out (by kernel_rfl)) (by decide) (fun K hK => ?_)
            refine goes_ Try.func85 (by kernel_rfl) rfl #[.agg #[.int .i64 a0_0, .int .i64 a0_1, .slice A0_2 l0_2.length c0_2], .int .i64 (rd (rd_L2 l1 x16_1) 0), .int .i64 (rd (rd_L2 l1 x16_1) 1)] (by rfl) rfl rfl ta_ ?_
            with_reducible refine (spec_boPlace.calls k1 a0_0 a0_1 _ _ l0_2 (rd (rd_L2 l1 x16_1) 0) (rd (rd_L2 l1 x16_1) 1) false _ ?side1 ?side2 A14.out).mono ?_
            (case side1 => exact tc_ HR0_2.out)
            (case side2 => exact HC0_2.out)
            rintro e w21 ⟨rfl, hb⟩
            refine ⟨_, rfl, ?_⟩
            have n0_ := A_ (blk_below (g := gb265) (o := .cells #[.int .i64 a0_0, .int .i64 a0_1, .slice A0_2 l0_2.length c0_2] 26 (0, 0)) (tk_ BK265) hb)
            have n1_ := A_ (below_step tb_ hb)
            clear BK265
            clear HB
            have BK265 := n0_
            have HB := n1_
            clear n0_ n1_
            (try clear hb)
            (try clear hb2)
            (try clear hk)
            (try clear hi)
            refine hK.out _ _ ⟨(blk_cell BK265.out 0).trans rfl, (blk_cell BK265.out 1).trans rfl, (blk_cell BK265.out 2).trans rfl, (by first | exact ((HB.out.cell (World.block_lt_of_cell? w _ hw267_0)).trans hw267_0) | exact hw267_0 | (obtain ⟨z1_, z2_, z3_⟩ := Kd.at_int HR266_0.out 0 (by first | exact p267 | exact of_eq_true p267) (by first | exact q267 | exact of_eq_true q267); injection z2_ with z2_; subst z2_; first | exact z3_ | (simpa [Addr.add] using z3_))), (by first | exact ((HB.out.cell (World.block_lt_of_cell? w _ hw268_0)).trans hw268_0) | exact hw268_0 | (obtain ⟨z1_, z2_, z3_⟩ := Kd.at_int HR266_0.out 1 (by first | exact p268 | exact of_eq_true p268) (by first | exact q268 | exact of_eq_true q268); injection z2_ with z2_; subst z2_; first | exact z3_ | (simpa [Addr.add] using z3_)))⟩ (fun hHeld => ?_)
            clear hK K
            refine norm_ (a' := ?_) ?_ ?_
            rotate_left
            ·
             show Act.put _ (some 32) _ = _
             simp only [Act.put, List.setIfInBounds_toArray, List.set_cons_zero, List.set_cons_succ, i64_w, i32_w]
             rfl
            refine pq_ 12 (some 33) (Fn.bl 25 8191) HT_.out ?_
            refine pq_ 13 (some 34) (Fn.bl 25 16383) HT_.out ?_
            refine pq_ 14 (some 35) (Fn.bl 25 32767) HT_.out ?_
            refine pu_ 15 (some 36) (Fn.bl 25 65535) HT_.out ?_
            refine pu_ 16 (some 37) (Fn.bl 25 131071) HT_.out ?_
            refine pu_ 17 (some 38) (Fn.bl 25 262143) HT_.out ?_
            refine pu_ 18 (some 39) (Fn.bl 25 524287) HT_.out ?_
            refine pu_ 19 (some 40) (Fn.bl 25 1048575) HT_.out ?_
            refine pu_ 20 (some 41) (Fn.bl 25 2097151) HT_.out ?_
            refine pu_ 21 (some 42) (Fn.bl 25 4194303) HT_.out ?_
            refine pu_ 22 (some 43) (Fn.bl 25 8388607) HT_.out ?_
            refine pu_ 23 (some 44) (Fn.bl 25 16777215) HT_.out ?_
            refine pq_ 24 (some 45) (Fn.bl 25 33554431) HT_.out ?_
            refine done_ (done_of HT_.out (by kernel_rfl)) ?_
            try go_wp2
            go_meet
            case rel => exact ⟨_, (true), tf_, H', ⟨by have := HK1.out; first | omega | exact Nat.le_refl _⟩, ⟨tk_ BK265⟩, ⟨tb_⟩⟩
          ·
           rw [if_neg c13] at H
           exact absurd H (by simp)
         ·
          rw [if_neg c12] at H
          exact absurd H (by simp)
        ·
         rw [if_neg c11] at H
         have c11b0 : (((rd_L2 l1 x16_1).length : Int) == 2) = false := beq_eq_false_iff_ne.mpr c11
         have c11b1 : (((rd_L2 l1 x16_1).length : Int) != 2) = true := bne_iff_ne.mpr c11
         (first | rw [c11b0] | rw [c11b1] | (simp only [i64_w, i32_w]; rw [c11b0]) | skip)
         have H' := A_ H
         clear H
         try go_wp2
         have n0_ := A_ (blk_drew BK265.out)
         have n1_ := A_ (below_drew1 HB.out)
         clear BK265
         clear HB
         have BK265 := n0_
         have HB := n1_
         clear n0_ n1_
         refine start_ (n := 25) (S := fun w' => True) (ds := []) (Fn.bl 25 0) (by kernel_rfl) rfl rfl trivial (fun hHeld => ?_); refine with_tabW spec_biQuiet.tab6 spec_biQuiet.bits6 (fun HT_ HW_ => ?_)
         generalize wr.drew = w22 at BK265 HB hHeld ⊢
         refine pq_ 0 (some 21) (Fn.bl 25 1) HT_.out ?_
         refine pq_ 1 (some 22) (Fn.bl 25 3) HT_.out ?_
         refine pq_ 2 (some 23) (Fn.bl 25 7) HT_.out ?_
         refine pq_ 3 (some 24) (Fn.bl 25 15) HT_.out ?_
         refine pu_ 4 (some 25) (Fn.bl 25 31) HT_.out ?_
         refine pu_ 5 (some 26) (Fn.bl 25 63) HT_.out ?_
         refine pu_ 6 (some 27) (Fn.bl 25 127) HT_.out ?_
         refine pu_ 7 (some 28) (Fn.bl 25 255) HT_.out ?_
         refine pu_ 8 (some 29) (Fn.bl 25 511) HT_.out ?_
         refine pu_ 9 (some 30) (Fn.bl 25 1023) HT_.out ?_
         refine pu_ 10 (some 31) (Fn.bl 25 2047) HT_.out ?_
         refine pu_ 11 (some 32) (Fn.bl 25 4095) HT_.out ?_
         refine pu_ 12 (some 33) (Fn.bl 25 8191) HT_.out ?_
         refine pq_ 13 (some 34) (Fn.bl 25 16383) HT_.out ?_
         refine pq_ 14 (some 35) (Fn.bl 25 32767) HT_.out ?_
         refine pu_ 15 (some 36) (Fn.bl 25 65535) HT_.out ?_
         refine pu_ 16 (some 37) (Fn.bl 25 131071) HT_.out ?_
         refine pu_ 17 (some 38) (Fn.bl 25 262143) HT_.out ?_
         refine pu_ 18 (some 39) (Fn.bl 25 524287) HT_.out ?_
         refine pu_ 19 (some 40) (Fn.bl 25 1048575) HT_.out ?_
         refine pu_ 20 (some 41) (Fn.bl 25 2097151) HT_.out ?_
         refine pu_ 21 (some 42) (Fn.bl 25 4194303) HT_.out ?_
         refine pu_ 22 (some 43) (Fn.bl 25 8388607) HT_.out ?_
         refine pu_ 23 (some 44) (Fn.bl 25 16777215) HT_.out ?_
         refine pq_ 24 (some 45) (Fn.bl 25 33554431) HT_.out ?_
         refine done_ (done_of HT_.out (by kernel_rfl)) ?_
         try go_wp2
         go_meet
         case rel => exact ⟨_, (true), tf_, H', ⟨by have := HK1.out; first | omega | exact Nat.le_refl _⟩, ⟨tk_ BK265⟩, ⟨tb_⟩⟩
       case rest =>
        clear HC10
        try clear c1
        try clear p2
        try clear q2
        try clear hx2
        try clear qi2
        try clear c8
        try clear c11
        try clear c11b0
        try clear c11b1
        try clear c12
        try clear c13
        try clear c15
        try clear hx267_0
        try clear hx268_0
        try clear p267
        try clear p268
        try clear q267
        try clear q268
        obtain ⟨kq, x45_9, rfl, HA, HJ9, BK265, HB⟩ := hcut
        cases kq with
        | zero => exact absurd HA.out (by simp [spec_biQuiet.j1])
        | succ kj9 =>
         have H := HA.out
         clear HA
         simp only [spec_biQuiet.j1] at H
         by_cases c23 : x45_9 = true
         ·
          subst c23
          have H1 : (some false) = some r := by rw [if_pos rfl] at H; exact H
          clear H
          have H := H1
          clear H1
          obtain rfl := Option.some.inj H
          go_wp2
          go_ret
          exact ⟨te_, tb_⟩
         ·
          replace c23 := Bool.eq_false_iff.mpr c23
          subst c23
          have H1 : (if 0 ≤ x16_1 then (if x16_1 ≤ (l1.length : Int) then ((some (l1.take (x16_1 : Int).toNat : List (List Int))).bind fun y273 => (spec_biQuiet.l1 kj9 l1 a2 (rd_L2 l1 x16_1) l1 (l1.length : Int) x16_1 y273 (y273.length : Int) 0 a0_0 a0_1 l0_2)) else (none)) else (none)) = some r := by rw [if_neg (show ¬ (false = true) by decide)] at H; exact H
          clear H
          have H := H1
          clear H1
          by_cases c24 : 0 ≤ x16_1
          ·
           rw [if_pos c24] at H
           have c24b0 := eq_true c24
           have c24b1 := decide_eq_true c24
           clear c24
           by_cases c25 : x16_1 ≤ (l1.length : Int)
           ·
            rw [if_pos c25] at H
            have c25b0 := eq_true c25
            have c25b1 := decide_eq_true c25
            clear c25
            obtain ⟨y273, hy273⟩ : ∃ y_ : List (List Int), y_ = (l1.take (x16_1 : Int).toNat) := ⟨_, rfl⟩
            replace H : (spec_biQuiet.l1 kj9 l1 a2 (rd_L2 l1 x16_1) l1 (l1.length : Int) x16_1 y273 (y273.length : Int) 0 a0_0 a0_1 l0_2) = some r := ty_ hy273 H
            have Ny273 := A_ hy273
            clear hy273
            have H' := A_ H
            clear H
            have q26 : (x16_1 : Int) ≤ ((l1.length : Int) : Int) := od_
            obtain ⟨i026, hi026, _, hsz26, _⟩ := info_parts info24
            have hroom26 : l1.length ≤ c1 := HC1.out
            have hC26 : Kd.C (Kd.slice 3 (Kd.int .i64)) _ (some ad266) l1.length l1 := HR1.out
            have hcut26 := cut_to (P := Try.prog) 27 24 .i64 Try.underlying27 hi026 (some ad266) l1.length c1 x16_1 (od_) q26 hroom26
            have hr26 := Kd.C_take (m := (x16_1 : Int).toNat) hC26 (by omega)
            have hy26 : y273.length = (x16_1 : Int).toNat := (by rw [Ny273.out, List.length_take]; omega)
            rw [← Ny273.out] at hr26
            rw [← hy26] at hcut26
            have HR276 := A_ hr26
            have HC276 := A_ (show y273.length ≤ c1 from by omega)
            clear hr26 hC26 hroom26 hi026 hsz26
            have KY26 := A_ hy26
            clear hy26
            replace q26 := eq_true q26
            go_wp2
            go_loopg [50] kj9 (fun kq v50 w' => ∃ (x50_3 : Int), v50 = .int .i64 x50_3 ∧ Aside0 (spec_biQuiet.l1 kq l1 a2 (rd_L2 l1 x16_1) l1 (l1.length : Int) x16_1 y273 (y273.length : Int) x50_3 a0_0 a0_1 l0_2 = some r) ∧ Aside0 (kq ≤ kj9) ∧ Aside0 (w'.heap[gb265]? = some (.cells #[.int .i64 a0_0, .int .i64 a0_1, (.slice A0_2 l0_2.length c0_2)] 26 (0, 0))) ∧ Aside0 (Below w.heap.size w w'))
            case atStart => exact ⟨(0), tf_, H', ⟨Nat.le_refl _⟩, ⟨tk_ BK265⟩, ⟨tb_⟩⟩
            case round =>
             clear H'
             try clear c1
             try clear c2
             try clear p2
             try clear q2
             try clear hx2
             try clear qi2
             try clear c8
             try clear c11
             try clear c11b0
             try clear c11b1
             try clear c12
             try clear c13
             try clear c15
             try clear c23
             try clear c24
             try clear c24b0
             try clear c24b1
             try clear c25
             try clear c25b0
             try clear c25b1
             try clear p26
             try clear q26
             try clear hx26
             try clear qi26
             try clear hx267_0
             try clear hx268_0
             try clear p2
             try clear p267
             try clear p268
             try clear q2
             try clear q26
             try clear q267
             try clear q268
             obtain ⟨x50_3, rfl, HA, HK3, BK265, HB⟩ := hrel
             cases gk with
             | zero => exact absurd HA.out (by simp [spec_biQuiet.l1])
             | succ k3 =>
              have H := HA.out
              clear HA
              simp only [spec_biQuiet.l1] at H
              by_cases c27 : x50_3 < (y273.length : Int)
              ·
               rw [if_pos c27] at H
               have c27b0 := decide_eq_true c27
               clear c27
               by_cases c28 : 0 ≤ x50_3
               ·
                rw [if_pos c28] at H
                have c28b0 := decide_eq_true c28
                clear c28
                by_cases c29 : x50_3 < (y273.length : Int)
                ·
                 rw [if_pos c29] at H
                 have c29b0 := decide_eq_true c29
                 clear c29
                 replace H := Option.bind_eq_some_iff.mp H
                 obtain ⟨t278, A300, H⟩ := H
                 replace H : (if t278 = true then (some false) else (spec_biQuiet.l1 k3 l1 a2 (rd_L2 l1 x16_1) l1 (l1.length : Int) x16_1 y273 (y273.length : Int) (wrap64 (x50_3 + 1)) a0_0 a0_1 l0_2)) = some r := H
                 have A30 := A_ A300
                 clear A300
                 by_cases c31 : t278 = true
                 ·
                  subst c31
                  have H1 : (some false) = some r := by rw [if_pos rfl] at H; exact H
                  clear H
                  have H := H1
                  clear H1
                  obtain rfl := Option.some.inj H
                  have p277 : 0 ≤ (x50_3 : Int) := od_
                  have q277 : x50_3 < (y273.length : Int) := od_
                  obtain ⟨ad277, A277_0, c277_0, e277, hx277_0, hl277_0, hi277_0⟩ := at_L2 HR276.out x50_3 p277 q277
                  obtain rfl : ad266 = ad277 := (by injection e277)
                  (try replace hx277_0 := (HB.out.cell (World.block_lt_of_cell? w _ hx277_0)).trans hx277_0)
                  have HR277_0 := A_ hi277_0
                  have HC277_0 := A_ hl277_0
                  clear hi277_0 hl277_0
                  replace p277 := eq_true p277
                  replace q277 := eq_true q277
                  go_wp2_with (first | (refine gc_ 144 ?_; refine goesT_ (some 57) Try.func144 #[.slice A266_0 (rd_L2 l1 x16_1).length c266_0, .slice A277_0 (rd_L2 y273 x50_3).length c277_0, .int .i64 a2] ?_; (with_reducible refine (spec_biDisturb.calls _ _ (rd_L2 l1 x16_1) _ _ (rd_L2 y273 x50_3) a2 true _ ?side1 ?side2 ?side3 ?side4 A30.out).mono ?_); (case side1 => exact tc_ HR266_0.out); (case side2 => exact HC266_0.out); (case side3 => exact tc_ HR277_0.out); (case side4 => exact HC277_0.out); rintro e w' ⟨rfl, ⟨nd, rfl⟩⟩; refine ⟨_, rfl, ?_⟩))
                  go_ret
                  exact ⟨te_, tb_⟩
                 ·
                  replace c31 := Bool.eq_false_iff.mpr c31
                  subst c31
                  have H1 : (spec_biQuiet.l1 k3 l1 a2 (rd_L2 l1 x16_1) l1 (l1.length : Int) x16_1 y273 (y273.length : Int) (wrap64 (x50_3 + 1)) a0_0 a0_1 l0_2) = some r := by rw [if_neg (show ¬ (false = true) by decide)] at H; exact H
                  clear H
                  have H := H1
                  clear H1
                  have H' := A_ H
                  clear H
                  have p277 : 0 ≤ (x50_3 : Int) := od_
                  have q277 : x50_3 < (y273.length : Int) := od_
                  obtain ⟨ad277, A277_0, c277_0, e277, hx277_0, hl277_0, hi277_0⟩ := at_L2 HR276.out x50_3 p277 q277
                  obtain rfl : ad266 = ad277 := (by injection e277)
                  (try replace hx277_0 := (HB.out.cell (World.block_lt_of_cell? w _ hx277_0)).trans hx277_0)
                  have HR277_0 := A_ hi277_0
                  have HC277_0 := A_ hl277_0
                  clear hi277_0 hl277_0
                  replace p277 := eq_true p277
                  replace q277 := eq_true q277
                  go_wp2_with (first | (refine gc_ 144 ?_; refine goesT_ (some 57) Try.func144 #[.slice A266_0 (rd_L2 l1 x16_1).length c266_0, .slice A277_0 (rd_L2 y273 x50_3).length c277_0, .int .i64 a2] ?_; (with_reducible refine (spec_biDisturb.calls _ _ (rd_L2 l1 x16_1) _ _ (rd_L2 y273 x50_3) a2 false _ ?side1 ?side2 ?side3 ?side4 A30.out).mono ?_); (case side1 => exact tc_ HR266_0.out); (case side2 => exact HC266_0.out); (case side3 => exact tc_ HR277_0.out); (case side4 => exact HC277_0.out); rintro e w' ⟨rfl, ⟨nd, rfl⟩⟩; refine ⟨_, rfl, ?_⟩))
                  go_roundg k3
                  case measure => have := HK1.out; have := HJ9.out; have := HK3.out; omega
                  case rel => exact ⟨(wrap64 (x50_3 + 1)), tf_, H', ⟨by have := HK1.out; have := HJ9.out; have := HK3.out; omega⟩, ⟨tk_ BK265⟩, ⟨tb_⟩⟩
                ·
                 rw [if_neg c29] at H
                 exact absurd H (by simp)
               ·
                rw [if_neg c28] at H
                exact absurd H (by simp)
              ·
               rw [if_neg c27] at H
               have c27b0 := decide_eq_false c27
               clear c27
               have H' := A_ H
               clear H
               go_wp2
               go_roundg k3
               case measure => have := HK1.out; have := HJ9.out; have := HK3.out; omega
               case rel => exact ⟨(wrap64 (x16_1 + 1)), tf_, H', ⟨by have := HK1.out; have := HJ9.out; have := HK3.out; omega⟩, ⟨tk_ BK265⟩, ⟨tb_⟩⟩
           ·
            rw [if_neg c25] at H
            exact absurd H (by simp)
          ·
           rw [if_neg c24] at H
           exact absurd H (by simp)
      ·
       rw [if_neg c9] at H
       exact absurd H (by simp)
     ·
      rw [if_neg c8] at H
      exact absurd H (by simp)
    ·
     rw [if_neg c7] at H
     have c7b0 := decide_eq_false c7
     clear c7
     obtain rfl := Option.some.inj H
     go_wp2
     go_ret
     exact ⟨te_, tb_⟩

/-! ### spec_AreQuietBishops: function 11 -/
def spec_AreQuietBishops.f (k : Nat) (a0_0 : Int) (a0_1 : Int) (l0_2 : List Int) (l1 : List (List Int)) : Option (Bool × Bool) := (spec_boGood.f k a0_0 a0_1 l0_2).bind fun t280 => (if t280 = true then ((spec_biQuiet.f k a0_0 a0_1 l0_2 l1 0).bind fun t281 => (some (t281, true))) else (some (false, false)))
theorem spec_AreQuietBishops.mono : ∀ a0 a1 a2 a3 k, LeO (spec_AreQuietBishops.f k a0 a1 a2 a3) (spec_AreQuietBishops.f (k + 1) a0 a1 a2 a3) := by
 intro a0 a1 a2 a3 k
 unfold spec_AreQuietBishops.f
 repeat' first | (with_reducible first | exact spec_biQuiet.mono _ _ _ _ _ _ | exact spec_boGood.mono _ _ _ _ | exact LeO.refl _ | exact LeO.none _ | refine LeO.ite ?_ ?_ | refine LeO.bind ?_ (fun _ => ?_)) | exact spec_biQuiet.mono _ _ _ _ _ _ | exact spec_boGood.mono _ _ _ _ | exact LeO.none _ | refine LeO.ite ?_ ?_ | refine LeO.bind ?_ (fun _ => ?_)
theorem spec_AreQuietBishops.calls (k : Nat) (a0_0 : Int) (a0_1 : Int) (A0_2 : Option Addr) (c0_2 : Nat) (l0_2 : List Int) (A1 : Option Addr) (c1 : Nat) (l1 : List (List Int)) (r1 : Bool) (r2 : Bool) (w : World) (hr0_2 : Kd.C (Kd.int .i64) w A0_2 l0_2.length l0_2) (hc0_2 : l0_2.length ≤ c0_2) (hr1 : Kd.C (Kd.slice 3 (Kd.int .i64)) w A1 l1.length l1) (hc1 : l1.length ≤ c1) (h : spec_AreQuietBishops.f k a0_0 a0_1 l0_2 l1 = some (r1, r2)) :
  Calls Try.prog 11 #[.agg #[.int .i64 a0_0, .int .i64 a0_1, .slice A0_2 l0_2.length c0_2], .slice A1 l1.length c1] w fun e w' => e = .returned (.tuple #[.bool r1, .bool r2]) ∧ Below w.heap.size w w' := by
 have hu26 := Try.underlying26
 have HR0_2 := A_ hr0_2
 have HC0_2 := A_ hc0_2
 clear hr0_2 hc0_2
 have HR1 := A_ hr1
 have HC1 := A_ hc1
 clear hr1 hc1
 have HB := A_ (Below.refl w.heap.size w)
 have H : ((spec_boGood.f k a0_0 a0_1 l0_2).bind fun t280 => (if t280 = true then ((spec_biQuiet.f k a0_0 a0_1 l0_2 l1 0).bind fun t281 => (some (t281, true))) else (some (false, false)))) = some (r1, r2) := h
 clear h
 replace H := Option.bind_eq_some_iff.mp H
 obtain ⟨t280, A30, H⟩ := H
 replace H : (if t280 = true then ((spec_biQuiet.f k a0_0 a0_1 l0_2 l1 0).bind fun t281 => (some (t281, true))) else (some (false, false))) = some (r1, r2) := H
 have A3 := A_ A30
 clear A30
 by_cases c4 : t280 = true
 ·
  subst c4
  have H1 : ((spec_biQuiet.f k a0_0 a0_1 l0_2 l1 0).bind fun t281 => (some (t281, true))) = some (r1, r2) := by rw [if_pos rfl] at H; exact H
  clear H
  have H := H1
  clear H1
  replace H := Option.bind_eq_some_iff.mp H
  obtain ⟨t281, A50, H⟩ := H
  replace H : (some (t281, true)) = some (r1, r2) := H
  have A5 := A_ A50
  clear A50
  simp only [Option.some.injEq, Prod.mk.injEq] at H
  obtain ⟨rfl, rfl⟩ := H
  go_enter Try.func11, Try.ntmps11
  go_wp2_with (first | (refine gd_ 2 ?_; refine bx_ 2 #[.int .i64 a0_0, .int .i64 a0_1, .slice A0_2 l0_2.length c0_2] 26 ?_; intro gb279 hg w6 hbox hb; have BK279 := A_ (hbox); have GW279 := A_ ((ts_ hg : w.heap.size ≤ gb279)); have GE279 := A_ ((ts_ hg : w.heap.size ≤ gb279)); replace HB := A_ (below_step tb_ hb); clear hb hbox hg; obtain ⟨hcz7_0, hcz7_1, hcz7_2, hfz7_0, hfz7_1, hfz7_2⟩ := cf3_ BK279.out) | (refine gc_ 79 ?_; refine goesT_ (some 7) Try.func79 #[.agg #[.int .i64 a0_0, .int .i64 a0_1, .slice A0_2 l0_2.length c0_2]] ?_; (with_reducible refine (spec_boGood.calls k a0_0 a0_1 _ _ l0_2 true _ ?side1 ?side2 A3.out).mono ?_); (case side1 => exact tc_ HR0_2.out); (case side2 => exact HC0_2.out); rintro e w8 ⟨rfl, hb⟩; refine ⟨_, rfl, ?_⟩; replace BK279 := A_ (blk_below (g := gb279) (o := .cells #[.int .i64 a0_0, .int .i64 a0_1, .slice A0_2 l0_2.length c0_2] 26 (0, 0)) (tk_ BK279) hb); replace HB := A_ (below_step tb_ hb); (try clear hb); obtain ⟨hcz9_0, hcz9_1, hcz9_2, hfz9_0, hfz9_1, hfz9_2⟩ := cf3_ BK279.out) | (refine gc_ 80 ?_; refine goesT_ (some 11) Try.func80 #[.agg #[.int .i64 a0_0, .int .i64 a0_1, .slice A0_2 l0_2.length c0_2], .slice A1 l1.length c1, .int .i64 0] ?_; (with_reducible refine (spec_biQuiet.calls k a0_0 a0_1 _ _ l0_2 _ _ l1 0 t281 _ ?side1 ?side2 ?side3 ?side4 A5.out).mono ?_); (case side1 => exact tc_ HR0_2.out); (case side2 => exact HC0_2.out); (case side3 => exact tc_ HR1.out); (case side4 => exact HC1.out); rintro e w10 ⟨rfl, hb⟩; refine ⟨_, rfl, ?_⟩; replace BK279 := A_ (blk_below (g := gb279) (o := .cells #[.int .i64 a0_0, .int .i64 a0_1, .slice A0_2 l0_2.length c0_2] 26 (0, 0)) (tk_ BK279) hb); replace HB := A_ (below_step tb_ hb); (try clear hb)))
  go_ret2
  exact ⟨te_, tb_⟩
 ·
  replace c4 := Bool.eq_false_iff.mpr c4
  subst c4
  have H1 : (some (false, false)) = some (r1, r2) := by rw [if_neg (show ¬ (false = true) by decide)] at H; exact H
  clear H
  have H := H1
  clear H1
  simp only [Option.some.injEq, Prod.mk.injEq] at H
  obtain ⟨rfl, rfl⟩ := H
  go_enter Try.func11, Try.ntmps11
  go_wp2_with (first | (refine gd_ 2 ?_; refine bx_ 2 #[.int .i64 a0_0, .int .i64 a0_1, .slice A0_2 l0_2.length c0_2] 26 ?_; intro gb279 hg w11 hbox hb; have BK279 := A_ (hbox); have GW279 := A_ ((ts_ hg : w.heap.size ≤ gb279)); have GE279 := A_ ((ts_ hg : w.heap.size ≤ gb279)); replace HB := A_ (below_step tb_ hb); clear hb hbox hg; obtain ⟨hcz12_0, hcz12_1, hcz12_2, hfz12_0, hfz12_1, hfz12_2⟩ := cf3_ BK279.out) | (refine gc_ 79 ?_; refine goesT_ (some 7) Try.func79 #[.agg #[.int .i64 a0_0, .int .i64 a0_1, .slice A0_2 l0_2.length c0_2]] ?_; (with_reducible refine (spec_boGood.calls k a0_0 a0_1 _ _ l0_2 false _ ?side1 ?side2 A3.out).mono ?_); (case side1 => exact tc_ HR0_2.out); (case side2 => exact HC0_2.out); rintro e w13 ⟨rfl, hb⟩; refine ⟨_, rfl, ?_⟩; replace BK279 := A_ (blk_below (g := gb279) (o := .cells #[.int .i64 a0_0, .int .i64 a0_1, .slice A0_2 l0_2.length c0_2] 26 (0, 0)) (tk_ BK279) hb); replace HB := A_ (below_step tb_ hb); (try clear hb)))
  go_ret2
  exact ⟨te_, tb_⟩

/-! ### impl_DiagonalOf: function 12 -/
def impl_DiagonalOf.f (a0_0 : Int) (a0_1 : Int) (l0_2 : List Int) (a1 : Int) (a2 : Int) : Option (Int × Int × Bool) := (impl_IsBoard.f a0_0 a0_1 l0_2).bind fun t283 => (if t283 = true then ((impl_Board_place.f a0_0 a0_1 l0_2 a1 a2).bind fun t284 => (if t284 = true then (some (wrap64 (a1 + a2), wrap64 ((wrap64 ((wrap64 (a1 - a2)) + a0_1)) - 1), true)) else (some (0, 0, false)))) else (some (0, 0, false)))
theorem impl_DiagonalOf.calls (a0_0 : Int) (a0_1 : Int) (A0_2 : Option Addr) (c0_2 : Nat) (l0_2 : List Int) (a1 : Int) (a2 : Int) (r1 : Int) (r2 : Int) (r3 : Bool) (w : World) (hr0_2 : Kd.C (Kd.int .i64) w A0_2 l0_2.length l0_2) (hc0_2 : l0_2.length ≤ c0_2) (h : impl_DiagonalOf.f a0_0 a0_1 l0_2 a1 a2 = some (r1, r2, r3)) :
  Calls Try.prog 12 #[.agg #[.int .i64 a0_0, .int .i64 a0_1, .slice A0_2 l0_2.length c0_2], .int .i64 a1, .int .i64 a2] w fun e w' => e = .returned (.tuple #[.int .i64 r1, .int .i64 r2, .bool r3]) ∧ Below w.heap.size w w' := by
 have hu26 := Try.underlying26
 have HR0_2 := A_ hr0_2
 have HC0_2 := A_ hc0_2
 clear hr0_2 hc0_2
 have HB := A_ (Below.refl w.heap.size w)
 have H : ((impl_IsBoard.f a0_0 a0_1 l0_2).bind fun t283 => (if t283 = true then ((impl_Board_place.f a0_0 a0_1 l0_2 a1 a2).bind fun t284 => (if t284 = true then (some (wrap64 (a1 + a2), wrap64 ((wrap64 ((wrap64 (a1 - a2)) + a0_1)) - 1), true)) else (some (0, 0, false)))) else (some (0, 0, false)))) = some (r1, r2, r3) := h
 clear h
 replace H := Option.bind_eq_some_iff.mp H
 obtain ⟨t283, A40, H⟩ := H
 replace H : (if t283 = true then ((impl_Board_place.f a0_0 a0_1 l0_2 a1 a2).bind fun t284 => (if t284 = true then (some (wrap64 (a1 + a2), wrap64 ((wrap64 ((wrap64 (a1 - a2)) + a0_1)) - 1), true)) else (some (0, 0, false)))) else (some (0, 0, false))) = some (r1, r2, r3) := H
 have A4 := A_ A40
 clear A40
 by_cases c5 : t283 = true
 ·
  subst c5
  have H1 : ((impl_Board_place.f a0_0 a0_1 l0_2 a1 a2).bind fun t284 => (if t284 = true then (some (wrap64 (a1 + a2), wrap64 ((wrap64 ((wrap64 (a1 - a2)) + a0_1)) - 1), true)) else (some (0, 0, false)))) = some (r1, r2, r3) := by rw [if_pos rfl] at H; exact H
  clear H
  have H := H1
  clear H1
  replace H := Option.bind_eq_some_iff.mp H
  obtain ⟨t284, A60, H⟩ := H
  replace H : (if t284 = true then (some (wrap64 (a1 + a2), wrap64 ((wrap64 ((wrap64 (a1 - a2)) + a0_1)) - 1), true)) else (some (0, 0, false))) = some (r1, r2, r3) := H
  have A6 := A_ A60
  clear A60
  by_cases c7 : t284 = true
  ·
   subst c7
   have H1 : (some (wrap64 (a1 + a2), wrap64 ((wrap64 ((wrap64 (a1 - a2)) + a0_1)) - 1), true)) = some (r1, r2, r3) := by rw [if_pos rfl] at H; exact H
   clear H
   have H := H1
   clear H1
   simp only [Option.some.injEq, Prod.mk.injEq] at H
   obtain ⟨rfl, rfl, rfl⟩ := H
   go_enter Try.func12, Try.ntmps12
   go_wp2_with (first | (refine gd_ 3 ?_; refine bx_ 3 #[.int .i64 a0_0, .int .i64 a0_1, .slice A0_2 l0_2.length c0_2] 26 ?_; intro gb282 hg w8 hbox hb; have BK282 := A_ (hbox); have GW282 := A_ ((ts_ hg : w.heap.size ≤ gb282)); have GE282 := A_ ((ts_ hg : w.heap.size ≤ gb282)); replace HB := A_ (below_step tb_ hb); clear hb hbox hg; obtain ⟨hcz9_0, hcz9_1, hcz9_2, hfz9_0, hfz9_1, hfz9_2⟩ := cf3_ BK282.out) | (go_at_call 76; (with_reducible refine (impl_IsBoard.calls a0_0 a0_1 _ _ l0_2 true _ ?side1 ?side2 A4.out).mono ?_); (case side1 => exact tc_ HR0_2.out); (case side2 => exact HC0_2.out); rintro e w10 ⟨rfl, hb⟩; replace BK282 := A_ (blk_below (g := gb282) (o := .cells #[.int .i64 a0_0, .int .i64 a0_1, .slice A0_2 l0_2.length c0_2] 26 (0, 0)) (tk_ BK282) hb); replace HB := A_ (below_step tb_ hb); (try clear hb); obtain ⟨hcz11_0, hcz11_1, hcz11_2, hfz11_0, hfz11_1, hfz11_2⟩ := cf3_ BK282.out) | (go_at_call 81; (with_reducible refine (impl_Board_place.calls a0_0 a0_1 _ _ l0_2 a1 a2 true _ ?side1 ?side2 A6.out).mono ?_); (case side1 => exact tc_ HR0_2.out); (case side2 => exact HC0_2.out); rintro e w12 ⟨rfl, hb⟩; replace BK282 := A_ (blk_below (g := gb282) (o := .cells #[.int .i64 a0_0, .int .i64 a0_1, .slice A0_2 l0_2.length c0_2] 26 (0, 0)) (tk_ BK282) hb); replace HB := A_ (below_step tb_ hb); (try clear hb); obtain ⟨hcz13_0, hcz13_1, hcz13_2, hfz13_0, hfz13_1, hfz13_2⟩ := cf3_ BK282.out))
   repeat (go_quiet (first | (refine gd_ 3 ?_; refine bx_ 3 #[.int .i64 a0_0, .int .i64 a0_1, .slice A0_2 l0_2.length c0_2] 26 ?_; intro gb282 hg w8 hbox hb; have BK282 := A_ (hbox); have GW282 := A_ ((ts_ hg : w.heap.size ≤ gb282)); have GE282 := A_ ((ts_ hg : w.heap.size ≤ gb282)); replace HB := A_ (below_step tb_ hb); clear hb hbox hg; obtain ⟨hcz9_0, hcz9_1, hcz9_2, hfz9_0, hfz9_1, hfz9_2⟩ := cf3_ BK282.out) | (go_at_call 76; (with_reducible refine (impl_IsBoard.calls a0_0 a0_1 _ _ l0_2 true _ ?side1 ?side2 A4.out).mono ?_); (case side1 => exact tc_ HR0_2.out); (case side2 => exact HC0_2.out); rintro e w10 ⟨rfl, hb⟩; replace BK282 := A_ (blk_below (g := gb282) (o := .cells #[.int .i64 a0_0, .int .i64 a0_1, .slice A0_2 l0_2.length c0_2] 26 (0, 0)) (tk_ BK282) hb); replace HB := A_ (below_step tb_ hb); (try clear hb); obtain ⟨hcz11_0, hcz11_1, hcz11_2, hfz11_0, hfz11_1, hfz11_2⟩ := cf3_ BK282.out) | (go_at_call 81; (with_reducible refine (impl_Board_place.calls a0_0 a0_1 _ _ l0_2 a1 a2 true _ ?side1 ?side2 A6.out).mono ?_); (case side1 => exact tc_ HR0_2.out); (case side2 => exact HC0_2.out); rintro e w12 ⟨rfl, hb⟩; replace BK282 := A_ (blk_below (g := gb282) (o := .cells #[.int .i64 a0_0, .int .i64 a0_1, .slice A0_2 l0_2.length c0_2] 26 (0, 0)) (tk_ BK282) hb); replace HB := A_ (below_step tb_ hb); (try clear hb); obtain ⟨hcz13_0, hcz13_1, hcz13_2, hfz13_0, hfz13_1, hfz13_2⟩ := cf3_ BK282.out)); try go_wp2_with (first | (refine gd_ 3 ?_; refine bx_ 3 #[.int .i64 a0_0, .int .i64 a0_1, .slice A0_2 l0_2.length c0_2] 26 ?_; intro gb282 hg w8 hbox hb; have BK282 := A_ (hbox); have GW282 := A_ ((ts_ hg : w.heap.size ≤ gb282)); have GE282 := A_ ((ts_ hg : w.heap.size ≤ gb282)); replace HB := A_ (below_step tb_ hb); clear hb hbox hg; obtain ⟨hcz9_0, hcz9_1, hcz9_2, hfz9_0, hfz9_1, hfz9_2⟩ := cf3_ BK282.out) | (go_at_call 76; (with_reducible refine (impl_IsBoard.calls a0_0 a0_1 _ _ l0_2 true _ ?side1 ?side2 A4.out).mono ?_); (case side1 => exact tc_ HR0_2.out); (case side2 => exact HC0_2.out); rintro e w10 ⟨rfl, hb⟩; replace BK282 := A_ (blk_below (g := gb282) (o := .cells #[.int .i64 a0_0, .int .i64 a0_1, .slice A0_2 l0_2.length c0_2] 26 (0, 0)) (tk_ BK282) hb); replace HB := A_ (below_step tb_ hb); (try clear hb); obtain ⟨hcz11_0, hcz11_1, hcz11_2, hfz11_0, hfz11_1, hfz11_2⟩ := cf3_ BK282.out) | (go_at_call 81; (with_reducible refine (impl_Board_place.calls a0_0 a0_1 _ _ l0_2 a1 a2 true _ ?side1 ?side2 A6.out).mono ?_); (case side1 => exact tc_ HR0_2.out); (case side2 => exact HC0_2.out); rintro e w12 ⟨rfl, hb⟩; replace BK282 := A_ (blk_below (g := gb282) (o := .cells #[.int .i64 a0_0, .int .i64 a0_1, .slice A0_2 l0_2.length c0_2] 26 (0, 0)) (tk_ BK282) hb); replace HB := A_ (below_step tb_ hb); (try clear hb); obtain ⟨hcz13_0, hcz13_1, hcz13_2, hfz13_0, hfz13_1, hfz13_2⟩ := cf3_ BK282.out)))
   go_ret3
   exact ⟨te_, tb_⟩
  ·
   replace c7 := Bool.eq_false_iff.mpr c7
   subst c7
   have H1 : (some (0, 0, false)) = some (r1, r2, r3) := by rw [if_neg (show ¬ (false = true) by decide)] at H; exact H
   clear H
   have H := H1
   clear H1
   simp only [Option.some.injEq, Prod.mk.injEq] at H
   obtain ⟨rfl, rfl, rfl⟩ := H
   go_enter Try.func12, Try.ntmps12
   go_wp2_with (first | (refine gd_ 3 ?_; refine bx_ 3 #[.int .i64 a0_0, .int .i64 a0_1, .slice A0_2 l0_2.length c0_2] 26 ?_; intro gb282 hg w14 hbox hb; have BK282 := A_ (hbox); have GW282 := A_ ((ts_ hg : w.heap.size ≤ gb282)); have GE282 := A_ ((ts_ hg : w.heap.size ≤ gb282)); replace HB := A_ (below_step tb_ hb); clear hb hbox hg; obtain ⟨hcz15_0, hcz15_1, hcz15_2, hfz15_0, hfz15_1, hfz15_2⟩ := cf3_ BK282.out) | (go_at_call 76; (with_reducible refine (impl_IsBoard.calls a0_0 a0_1 _ _ l0_2 true _ ?side1 ?side2 A4.out).mono ?_); (case side1 => exact tc_ HR0_2.out); (case side2 => exact HC0_2.out); rintro e w16 ⟨rfl, hb⟩; replace BK282 := A_ (blk_below (g := gb282) (o := .cells #[.int .i64 a0_0, .int .i64 a0_1, .slice A0_2 l0_2.length c0_2] 26 (0, 0)) (tk_ BK282) hb); replace HB := A_ (below_step tb_ hb); (try clear hb); obtain ⟨hcz17_0, hcz17_1, hcz17_2, hfz17_0, hfz17_1, hfz17_2⟩ := cf3_ BK282.out) | (go_at_call 81; (with_reducible refine (impl_Board_place.calls a0_0 a0_1 _ _ l0_2 a1 a2 false _ ?side1 ?side2 A6.out).mono ?_); (case side1 => exact tc_ HR0_2.out); (case side2 => exact HC0_2.out); rintro e w18 ⟨rfl, hb⟩; replace BK282 := A_ (blk_below (g := gb282) (o := .cells #[.int .i64 a0_0, .int .i64 a0_1, .slice A0_2 l0_2.length c0_2] 26 (0, 0)) (tk_ BK282) hb); replace HB := A_ (below_step tb_ hb); (try clear hb)))
   repeat (go_quiet (first | (refine gd_ 3 ?_; refine bx_ 3 #[.int .i64 a0_0, .int .i64 a0_1, .slice A0_2 l0_2.length c0_2] 26 ?_; intro gb282 hg w14 hbox hb; have BK282 := A_ (hbox); have GW282 := A_ ((ts_ hg : w.heap.size ≤ gb282)); have GE282 := A_ ((ts_ hg : w.heap.size ≤ gb282)); replace HB := A_ (below_step tb_ hb); clear hb hbox hg; obtain ⟨hcz15_0, hcz15_1, hcz15_2, hfz15_0, hfz15_1, hfz15_2⟩ := cf3_ BK282.out) | (go_at_call 76; (with_reducible refine (impl_IsBoard.calls a0_0 a0_1 _ _ l0_2 true _ ?side1 ?side2 A4.out).mono ?_); (case side1 => exact tc_ HR0_2.out); (case side2 => exact HC0_2.out); rintro e w16 ⟨rfl, hb⟩; replace BK282 := A_ (blk_below (g := gb282) (o := .cells #[.int .i64 a0_0, .int .i64 a0_1, .slice A0_2 l0_2.length c0_2] 26 (0, 0)) (tk_ BK282) hb); replace HB := A_ (below_step tb_ hb); (try clear hb); obtain ⟨hcz17_0, hcz17_1, hcz17_2, hfz17_0, hfz17_1, hfz17_2⟩ := cf3_ BK282.out) | (go_at_call 81; (with_reducible refine (impl_Board_place.calls a0_0 a0_1 _ _ l0_2 a1 a2 false _ ?side1 ?side2 A6.out).mono ?_); (case side1 => exact tc_ HR0_2.out); (case side2 => exact HC0_2.out); rintro e w18 ⟨rfl, hb⟩; replace BK282 := A_ (blk_below (g := gb282) (o := .cells #[.int .i64 a0_0, .int .i64 a0_1, .slice A0_2 l0_2.length c0_2] 26 (0, 0)) (tk_ BK282) hb); replace HB := A_ (below_step tb_ hb); (try clear hb))); try go_wp2_with (first | (refine gd_ 3 ?_; refine bx_ 3 #[.int .i64 a0_0, .int .i64 a0_1, .slice A0_2 l0_2.length c0_2] 26 ?_; intro gb282 hg w14 hbox hb; have BK282 := A_ (hbox); have GW282 := A_ ((ts_ hg : w.heap.size ≤ gb282)); have GE282 := A_ ((ts_ hg : w.heap.size ≤ gb282)); replace HB := A_ (below_step tb_ hb); clear hb hbox hg; obtain ⟨hcz15_0, hcz15_1, hcz15_2, hfz15_0, hfz15_1, hfz15_2⟩ := cf3_ BK282.out) | (go_at_call 76; (with_reducible refine (impl_IsBoard.calls a0_0 a0_1 _ _ l0_2 true _ ?side1 ?side2 A4.out).mono ?_); (case side1 => exact tc_ HR0_2.out); (case side2 => exact HC0_2.out); rintro e w16 ⟨rfl, hb⟩; replace BK282 := A_ (blk_below (g := gb282) (o := .cells #[.int .i64 a0_0, .int .i64 a0_1, .slice A0_2 l0_2.length c0_2] 26 (0, 0)) (tk_ BK282) hb); replace HB := A_ (below_step tb_ hb); (try clear hb); obtain ⟨hcz17_0, hcz17_1, hcz17_2, hfz17_0, hfz17_1, hfz17_2⟩ := cf3_ BK282.out) | (go_at_call 81; (with_reducible refine (impl_Board_place.calls a0_0 a0_1 _ _ l0_2 a1 a2 false _ ?side1 ?side2 A6.out).mono ?_); (case side1 => exact tc_ HR0_2.out); (case side2 => exact HC0_2.out); rintro e w18 ⟨rfl, hb⟩; replace BK282 := A_ (blk_below (g := gb282) (o := .cells #[.int .i64 a0_0, .int .i64 a0_1, .slice A0_2 l0_2.length c0_2] 26 (0, 0)) (tk_ BK282) hb); replace HB := A_ (below_step tb_ hb); (try clear hb))))
   go_ret3
   exact ⟨te_, tb_⟩
 ·
  replace c5 := Bool.eq_false_iff.mpr c5
  subst c5
  have H1 : (some (0, 0, false)) = some (r1, r2, r3) := by rw [if_neg (show ¬ (false = true) by decide)] at H; exact H
  clear H
  have H := H1
  clear H1
  simp only [Option.some.injEq, Prod.mk.injEq] at H
  obtain ⟨rfl, rfl, rfl⟩ := H
  go_enter Try.func12, Try.ntmps12
  go_wp2_with (first | (refine gd_ 3 ?_; refine bx_ 3 #[.int .i64 a0_0, .int .i64 a0_1, .slice A0_2 l0_2.length c0_2] 26 ?_; intro gb282 hg w19 hbox hb; have BK282 := A_ (hbox); have GW282 := A_ ((ts_ hg : w.heap.size ≤ gb282)); have GE282 := A_ ((ts_ hg : w.heap.size ≤ gb282)); replace HB := A_ (below_step tb_ hb); clear hb hbox hg; obtain ⟨hcz20_0, hcz20_1, hcz20_2, hfz20_0, hfz20_1, hfz20_2⟩ := cf3_ BK282.out) | (go_at_call 76; (with_reducible refine (impl_IsBoard.calls a0_0 a0_1 _ _ l0_2 false _ ?side1 ?side2 A4.out).mono ?_); (case side1 => exact tc_ HR0_2.out); (case side2 => exact HC0_2.out); rintro e w21 ⟨rfl, hb⟩; replace BK282 := A_ (blk_below (g := gb282) (o := .cells #[.int .i64 a0_0, .int .i64 a0_1, .slice A0_2 l0_2.length c0_2] 26 (0, 0)) (tk_ BK282) hb); replace HB := A_ (below_step tb_ hb); (try clear hb)))
  repeat (go_quiet (first | (refine gd_ 3 ?_; refine bx_ 3 #[.int .i64 a0_0, .int .i64 a0_1, .slice A0_2 l0_2.length c0_2] 26 ?_; intro gb282 hg w19 hbox hb; have BK282 := A_ (hbox); have GW282 := A_ ((ts_ hg : w.heap.size ≤ gb282)); have GE282 := A_ ((ts_ hg : w.heap.size ≤ gb282)); replace HB := A_ (below_step tb_ hb); clear hb hbox hg; obtain ⟨hcz20_0, hcz20_1, hcz20_2, hfz20_0, hfz20_1, hfz20_2⟩ := cf3_ BK282.out) | (go_at_call 76; (with_reducible refine (impl_IsBoard.calls a0_0 a0_1 _ _ l0_2 false _ ?side1 ?side2 A4.out).mono ?_); (case side1 => exact tc_ HR0_2.out); (case side2 => exact HC0_2.out); rintro e w21 ⟨rfl, hb⟩; replace BK282 := A_ (blk_below (g := gb282) (o := .cells #[.int .i64 a0_0, .int .i64 a0_1, .slice A0_2 l0_2.length c0_2] 26 (0, 0)) (tk_ BK282) hb); replace HB := A_ (below_step tb_ hb); (try clear hb))); try go_wp2_with (first | (refine gd_ 3 ?_; refine bx_ 3 #[.int .i64 a0_0, .int .i64 a0_1, .slice A0_2 l0_2.length c0_2] 26 ?_; intro gb282 hg w19 hbox hb; have BK282 := A_ (hbox); have GW282 := A_ ((ts_ hg : w.heap.size ≤ gb282)); have GE282 := A_ ((ts_ hg : w.heap.size ≤ gb282)); replace HB := A_ (below_step tb_ hb); clear hb hbox hg; obtain ⟨hcz20_0, hcz20_1, hcz20_2, hfz20_0, hfz20_1, hfz20_2⟩ := cf3_ BK282.out) | (go_at_call 76; (with_reducible refine (impl_IsBoard.calls a0_0 a0_1 _ _ l0_2 false _ ?side1 ?side2 A4.out).mono ?_); (case side1 => exact tc_ HR0_2.out); (case side2 => exact HC0_2.out); rintro e w21 ⟨rfl, hb⟩; replace BK282 := A_ (blk_below (g := gb282) (o := .cells #[.int .i64 a0_0, .int .i64 a0_1, .slice A0_2 l0_2.length c0_2] 26 (0, 0)) (tk_ BK282) hb); replace HB := A_ (below_step tb_ hb); (try clear hb))))
  go_ret3
  exact ⟨te_, tb_⟩

/-! ### impl_HasCell: function 82 -/
def impl_HasCell.f (a0_0 : Int) (a0_1 : Int) (l0_2 : List Int) (a1 : Int) (a2 : Int) : Option (Bool × Bool) := (impl_IsBoard.f a0_0 a0_1 l0_2).bind fun t286 => (if t286 = true then ((impl_Board_place.f a0_0 a0_1 l0_2 a1 a2).bind fun t287 => (if t287 = true then ((impl_Board_has.f a0_0 a0_1 l0_2 a1 a2).bind fun t288 => (some (t288, true))) else (some (false, false)))) else (some (false, false)))
theorem impl_HasCell.calls (a0_0 : Int) (a0_1 : Int) (A0_2 : Option Addr) (c0_2 : Nat) (l0_2 : List Int) (a1 : Int) (a2 : Int) (r1 : Bool) (r2 : Bool) (w : World) (hr0_2 : Kd.C (Kd.int .i64) w A0_2 l0_2.length l0_2) (hc0_2 : l0_2.length ≤ c0_2) (h : impl_HasCell.f a0_0 a0_1 l0_2 a1 a2 = some (r1, r2)) :
  Calls Try.prog 82 #[.agg #[.int .i64 a0_0, .int .i64 a0_1, .slice A0_2 l0_2.length c0_2], .int .i64 a1, .int .i64 a2] w fun e w' => e = .returned (.tuple #[.bool r1, .bool r2]) ∧ Below w.heap.size w w' := by
 have hu26 := Try.underlying26
 have HR0_2 := A_ hr0_2
 have HC0_2 := A_ hc0_2
 clear hr0_2 hc0_2
 have HB := A_ (Below.refl w.heap.size w)
 have H : ((impl_IsBoard.f a0_0 a0_1 l0_2).bind fun t286 => (if t286 = true then ((impl_Board_place.f a0_0 a0_1 l0_2 a1 a2).bind fun t287 => (if t287 = true then ((impl_Board_has.f a0_0 a0_1 l0_2 a1 a2).bind fun t288 => (some (t288, true))) else (some (false, false)))) else (some (false, false)))) = some (r1, r2) := h
 clear h
 replace H := Option.bind_eq_some_iff.mp H
 obtain ⟨t286, A40, H⟩ := H
 replace H : (if t286 = true then ((impl_Board_place.f a0_0 a0_1 l0_2 a1 a2).bind fun t287 => (if t287 = true then ((impl_Board_has.f a0_0 a0_1 l0_2 a1 a2).bind fun t288 => (some (t288, true))) else (some (false, false)))) else (some (false, false))) = some (r1, r2) := H
 have A4 := A_ A40
 clear A40
 by_cases c5 : t286 = true
 ·
  subst c5
  have H1 : ((impl_Board_place.f a0_0 a0_1 l0_2 a1 a2).bind fun t287 => (if t287 = true then ((impl_Board_has.f a0_0 a0_1 l0_2 a1 a2).bind fun t288 => (some (t288, true))) else (some (false, false)))) = some (r1, r2) := by rw [if_pos rfl] at H; exact H
  clear H
  have H := H1
  clear H1
  replace H := Option.bind_eq_some_iff.mp H
  obtain ⟨t287, A60, H⟩ := H
  replace H : (if t287 = true then ((impl_Board_has.f a0_0 a0_1 l0_2 a1 a2).bind fun t288 => (some (t288, true))) else (some (false, false))) = some (r1, r2) := H
  have A6 := A_ A60
  clear A60
  by_cases c7 : t287 = true
  ·
   subst c7
   have H1 : ((impl_Board_has.f a0_0 a0_1 l0_2 a1 a2).bind fun t288 => (some (t288, true))) = some (r1, r2) := by rw [if_pos rfl] at H; exact H
   clear H
   have H := H1
   clear H1
   replace H := Option.bind_eq_some_iff.mp H
   obtain ⟨t288, A80, H⟩ := H
   replace H : (some (t288, true)) = some (r1, r2) := H
   have A8 := A_ A80
   clear A80
   simp only [Option.some.injEq, Prod.mk.injEq] at H
   obtain ⟨rfl, rfl⟩ := H
   go_enter Try.func82, Try.ntmps82
   go_wp2_with (first | (refine gd_ 3 ?_; refine bx_ 3 #[.int .i64 a0_0, .int .i64 a0_1, .slice A0_2 l0_2.length c0_2] 26 ?_; intro gb285 hg w9 hbox hb; have BK285 := A_ (hbox); have GW285 := A_ ((ts_ hg : w.heap.size ≤ gb285)); have GE285 := A_ ((ts_ hg : w.heap.size ≤ gb285)); replace HB := A_ (below_step tb_ hb); clear hb hbox hg; obtain ⟨hcz10_0, hcz10_1, hcz10_2, hfz10_0, hfz10_1, hfz10_2⟩ := cf3_ BK285.out) | (refine gc_ 76 ?_; refine goesT_ (some 9) Try.func76 #[.agg #[.int .i64 a0_0, .int .i64 a0_1, .slice A0_2 l0_2.length c0_2]] ?_; (with_reducible refine (impl_IsBoard.calls a0_0 a0_1 _ _ l0_2 true _ ?side1 ?side2 A4.out).mono ?_); (case side1 => exact tc_ HR0_2.out); (case side2 => exact HC0_2.out); rintro e w11 ⟨rfl, hb⟩; refine ⟨_, rfl, ?_⟩; replace BK285 := A_ (blk_below (g := gb285) (o := .cells #[.int .i64 a0_0, .int .i64 a0_1, .slice A0_2 l0_2.length c0_2] 26 (0, 0)) (tk_ BK285) hb); replace HB := A_ (below_step tb_ hb); (try clear hb); obtain ⟨hcz12_0, hcz12_1, hcz12_2, hfz12_0, hfz12_1, hfz12_2⟩ := cf3_ BK285.out) | (go_at_call 81; (with_reducible refine (impl_Board_place.calls a0_0 a0_1 _ _ l0_2 a1 a2 true _ ?side1 ?side2 A6.out).mono ?_); (case side1 => exact tc_ HR0_2.out); (case side2 => exact HC0_2.out); rintro e w13 ⟨rfl, hb⟩; replace BK285 := A_ (blk_below (g := gb285) (o := .cells #[.int .i64 a0_0, .int .i64 a0_1, .slice A0_2 l0_2.length c0_2] 26 (0, 0)) (tk_ BK285) hb); replace HB := A_ (below_step tb_ hb); (try clear hb); obtain ⟨hcz14_0, hcz14_1, hcz14_2, hfz14_0, hfz14_1, hfz14_2⟩ := cf3_ BK285.out) | (refine gc_ 119 ?_; refine goesT_ (some 21) Try.func119 #[.agg #[.int .i64 a0_0, .int .i64 a0_1, .slice A0_2 l0_2.length c0_2], .int .i64 a1, .int .i64 a2] ?_; (with_reducible refine (impl_Board_has.calls a0_0 a0_1 _ _ l0_2 a1 a2 t288 _ ?side1 ?side2 A8.out).mono ?_); (case side1 => exact tc_ HR0_2.out); (case side2 => exact HC0_2.out); rintro e w15 ⟨rfl, hb⟩; refine ⟨_, rfl, ?_⟩; replace BK285 := A_ (blk_below (g := gb285) (o := .cells #[.int .i64 a0_0, .int .i64 a0_1, .slice A0_2 l0_2.length c0_2] 26 (0, 0)) (tk_ BK285) hb); replace HB := A_ (below_step tb_ hb); (try clear hb)))
   go_ret2
   exact ⟨te_, tb_⟩
  ·
   replace c7 := Bool.eq_false_iff.mpr c7
   subst c7
   have H1 : (some (false, false)) = some (r1, r2) := by rw [if_neg (show ¬ (false = true) by decide)] at H; exact H
   clear H
   have H := H1
   clear H1
   simp only [Option.some.injEq, Prod.mk.injEq] at H
   obtain ⟨rfl, rfl⟩ := H
   go_enter Try.func82, Try.ntmps82
   go_wp2_with (first | (refine gd_ 3 ?_; refine bx_ 3 #[.int .i64 a0_0, .int .i64 a0_1, .slice A0_2 l0_2.length c0_2] 26 ?_; intro gb285 hg w16 hbox hb; have BK285 := A_ (hbox); have GW285 := A_ ((ts_ hg : w.heap.size ≤ gb285)); have GE285 := A_ ((ts_ hg : w.heap.size ≤ gb285)); replace HB := A_ (below_step tb_ hb); clear hb hbox hg; obtain ⟨hcz17_0, hcz17_1, hcz17_2, hfz17_0, hfz17_1, hfz17_2⟩ := cf3_ BK285.out) | (refine gc_ 76 ?_; refine goesT_ (some 9) Try.func76 #[.agg #[.int .i64 a0_0, .int .i64 a0_1, .slice A0_2 l0_2.length c0_2]] ?_; (with_reducible refine (impl_IsBoard.calls a0_0 a0_1 _ _ l0_2 true _ ?side1 ?side2 A4.out).mono ?_); (case side1 => exact tc_ HR0_2.out); (case side2 => exact HC0_2.out); rintro e w18 ⟨rfl, hb⟩; refine ⟨_, rfl, ?_⟩; replace BK285 := A_ (blk_below (g := gb285) (o := .cells #[.int .i64 a0_0, .int .i64 a0_1, .slice A0_2 l0_2.length c0_2] 26 (0, 0)) (tk_ BK285) hb); replace HB := A_ (below_step tb_ hb); (try clear hb); obtain ⟨hcz19_0, hcz19_1, hcz19_2, hfz19_0, hfz19_1, hfz19_2⟩ := cf3_ BK285.out) | (go_at_call 81; (with_reducible refine (impl_Board_place.calls a0_0 a0_1 _ _ l0_2 a1 a2 false _ ?side1 ?side2 A6.out).mono ?_); (case side1 => exact tc_ HR0_2.out); (case side2 => exact HC0_2.out); rintro e w20 ⟨rfl, hb⟩; replace BK285 := A_ (blk_below (g := gb285) (o := .cells #[.int .i64 a0_0, .int .i64 a0_1, .slice A0_2 l0_2.length c0_2] 26 (0, 0)) (tk_ BK285) hb); replace HB := A_ (below_step tb_ hb); (try clear hb)))
   go_ret2
   exact ⟨te_, tb_⟩
 ·
  replace c5 := Bool.eq_false_iff.mpr c5
  subst c5
  have H1 : (some (false, false)) = some (r1, r2) := by rw [if_neg (show ¬ (false = true) by decide)] at H; exact H
  clear H
  have H := H1
  clear H1
  simp only [Option.some.injEq, Prod.mk.injEq] at H
  obtain ⟨rfl, rfl⟩ := H
  go_enter Try.func82, Try.ntmps82
  go_wp2_with (first | (refine gd_ 3 ?_; refine bx_ 3 #[.int .i64 a0_0, .int .i64 a0_1, .slice A0_2 l0_2.length c0_2] 26 ?_; intro gb285 hg w21 hbox hb; have BK285 := A_ (hbox); have GW285 := A_ ((ts_ hg : w.heap.size ≤ gb285)); have GE285 := A_ ((ts_ hg : w.heap.size ≤ gb285)); replace HB := A_ (below_step tb_ hb); clear hb hbox hg; obtain ⟨hcz22_0, hcz22_1, hcz22_2, hfz22_0, hfz22_1, hfz22_2⟩ := cf3_ BK285.out) | (refine gc_ 76 ?_; refine goesT_ (some 9) Try.func76 #[.agg #[.int .i64 a0_0, .int .i64 a0_1, .slice A0_2 l0_2.length c0_2]] ?_; (with_reducible refine (impl_IsBoard.calls a0_0 a0_1 _ _ l0_2 false _ ?side1 ?side2 A4.out).mono ?_); (case side1 => exact tc_ HR0_2.out); (case side2 => exact HC0_2.out); rintro e w23 ⟨rfl, hb⟩; refine ⟨_, rfl, ?_⟩; replace BK285 := A_ (blk_below (g := gb285) (o := .cells #[.int .i64 a0_0, .int .i64 a0_1, .slice A0_2 l0_2.length c0_2] 26 (0, 0)) (tk_ BK285) hb); replace HB := A_ (below_step tb_ hb); (try clear hb)))
  go_ret2
  exact ⟨te_, tb_⟩

/-! ### laws_rOn: function 13 -/
def laws_rOn.f (a0_0 : Int) (a0_1 : Int) (l0_2 : List Int) (a1 : Int) (a2 : Int) : Option (Bool) := (impl_HasCell.f a0_0 a0_1 l0_2 a1 a2).bind fun bt290 => (if bt290.2 = true then (some bt290.1) else (some false))
theorem laws_rOn.calls (a0_0 : Int) (a0_1 : Int) (A0_2 : Option Addr) (c0_2 : Nat) (l0_2 : List Int) (a1 : Int) (a2 : Int) (r : Bool) (w : World) (hr0_2 : Kd.C (Kd.int .i64) w A0_2 l0_2.length l0_2) (hc0_2 : l0_2.length ≤ c0_2) (h : laws_rOn.f a0_0 a0_1 l0_2 a1 a2 = some r) :
  Calls Try.prog 13 #[.agg #[.int .i64 a0_0, .int .i64 a0_1, .slice A0_2 l0_2.length c0_2], .int .i64 a1, .int .i64 a2] w fun e w' => e = .returned (.bool r) ∧ Below w.heap.size w w' := by
 have hu26 := Try.underlying26
 have HR0_2 := A_ hr0_2
 have HC0_2 := A_ hc0_2
 clear hr0_2 hc0_2
 have HB := A_ (Below.refl w.heap.size w)
 have H : ((impl_HasCell.f a0_0 a0_1 l0_2 a1 a2).bind fun bt290 => (if bt290.2 = true then (some bt290.1) else (some false))) = some r := h
 clear h
 replace H := Option.bind_eq_some_iff.mp H
 obtain ⟨⟨t290, t291⟩, A40, H⟩ := H
 replace H : (if t291 = true then (some t290) else (some false)) = some r := H
 have A4 := A_ A40
 clear A40
 by_cases c5 : t291 = true
 ·
  subst c5
  have H1 : (some t290) = some r := by rw [if_pos rfl] at H; exact H
  clear H
  have H := H1
  clear H1
  obtain rfl := Option.some.inj H
  go_enter Try.func13, Try.ntmps13
  go_wp2_with (first | (refine gd_ 3 ?_; refine bx_ 3 #[.int .i64 a0_0, .int .i64 a0_1, .slice A0_2 l0_2.length c0_2] 26 ?_; intro gb289 hg w6 hbox hb; have BK289 := A_ (hbox); have GW289 := A_ ((ts_ hg : w.heap.size ≤ gb289)); have GE289 := A_ ((ts_ hg : w.heap.size ≤ gb289)); replace HB := A_ (below_step tb_ hb); clear hb hbox hg; obtain ⟨hcz7_0, hcz7_1, hcz7_2, hfz7_0, hfz7_1, hfz7_2⟩ := cf3_ BK289.out) | (refine gc_ 82 ?_; refine goesT_ (some 13) Try.func82 #[.agg #[.int .i64 a0_0, .int .i64 a0_1, .slice A0_2 l0_2.length c0_2], .int .i64 a1, .int .i64 a2] ?_; (with_reducible refine (impl_HasCell.calls a0_0 a0_1 _ _ l0_2 a1 a2 t290 true _ ?side1 ?side2 A4.out).mono ?_); (case side1 => exact tc_ HR0_2.out); (case side2 => exact HC0_2.out); rintro e w8 ⟨rfl, hb⟩; refine ⟨_, rfl, ?_⟩; replace BK289 := A_ (blk_below (g := gb289) (o := .cells #[.int .i64 a0_0, .int .i64 a0_1, .slice A0_2 l0_2.length c0_2] 26 (0, 0)) (tk_ BK289) hb); replace HB := A_ (below_step tb_ hb); (try clear hb)))
  go_ret
  exact ⟨te_, tb_⟩
 ·
  replace c5 := Bool.eq_false_iff.mpr c5
  subst c5
  have H1 : (some false) = some r := by rw [if_neg (show ¬ (false = true) by decide)] at H; exact H
  clear H
  have H := H1
  clear H1
  obtain rfl := Option.some.inj H
  go_enter Try.func13, Try.ntmps13
  go_wp2_with (first | (refine gd_ 3 ?_; refine bx_ 3 #[.int .i64 a0_0, .int .i64 a0_1, .slice A0_2 l0_2.length c0_2] 26 ?_; intro gb289 hg w9 hbox hb; have BK289 := A_ (hbox); have GW289 := A_ ((ts_ hg : w.heap.size ≤ gb289)); have GE289 := A_ ((ts_ hg : w.heap.size ≤ gb289)); replace HB := A_ (below_step tb_ hb); clear hb hbox hg; obtain ⟨hcz10_0, hcz10_1, hcz10_2, hfz10_0, hfz10_1, hfz10_2⟩ := cf3_ BK289.out) | (refine gc_ 82 ?_; refine goesT_ (some 13) Try.func82 #[.agg #[.int .i64 a0_0, .int .i64 a0_1, .slice A0_2 l0_2.length c0_2], .int .i64 a1, .int .i64 a2] ?_; (with_reducible refine (impl_HasCell.calls a0_0 a0_1 _ _ l0_2 a1 a2 t290 false _ ?side1 ?side2 A4.out).mono ?_); (case side1 => exact tc_ HR0_2.out); (case side2 => exact HC0_2.out); rintro e w11 ⟨rfl, hb⟩; refine ⟨_, rfl, ?_⟩; replace BK289 := A_ (blk_below (g := gb289) (o := .cells #[.int .i64 a0_0, .int .i64 a0_1, .slice A0_2 l0_2.length c0_2] 26 (0, 0)) (tk_ BK289) hb); replace HB := A_ (below_step tb_ hb); (try clear hb)))
  go_ret
  exact ⟨te_, tb_⟩

/-! ### spec_DrawAreQuietKings: function 14 -/
def spec_DrawAreQuietKings.f (k : Nat) (l0 : List Int) : Option (Int × Int × List Int × List (List Int)) := (spec_l1Cur_pieces.f k l0 0 0 1).bind fun t => some (t.1, t.2.1, t.2.2.1, t.2.2.2.1)
theorem spec_DrawAreQuietKings.mono : ∀ a0 k, LeO (spec_DrawAreQuietKings.f k a0) (spec_DrawAreQuietKings.f (k + 1) a0) := by
 intro a0 k
 unfold spec_DrawAreQuietKings.f
 exact LeO.bind (spec_l1Cur_pieces.mono _ _ _ _ _) (fun _ => LeO.refl _)
theorem spec_DrawAreQuietKings.far {X : World} {n gr : Nat} {b : Nat} {vv u v z v2 : Value} {q : List (List Int)} (h : Kd.V (Kd.slice 3 (Kd.int .i64)) 24 X b (fun k_ => n ≤ k_ ∧ some k_ ≠ v2.ownBlock) vv q) (hn : gr < n) (b' : Nat) (m : Nat) (hm : m ≤ n) : Kd.V (Kd.slice 3 (Kd.int .i64)) 24 (((X.setCell ⟨gr, 0, none⟩ u).setCell ⟨gr, 1, none⟩ v).setCell ⟨gr, 2, none⟩ z) b' (fun k_ => (m ≤ k_) ∧ some k_ ≠ v2.ownBlock) vv q := by
 obtain ⟨A, c, e, hl, hf⟩ := h
 refine ⟨A, c, e, hl, Kd.F_mono (Kd.F_step hf (fun k hk _ => ?_)) (fun k hk => ⟨by have := hk.1; omega, hk.2⟩)⟩
 have e : k ≠ gr := by have := hk.1; omega
 exact (Below.heap_setCell _ ⟨gr, 2, none⟩ _ k e).trans ((Below.heap_setCell _ ⟨gr, 1, none⟩ _ k e).trans (Below.heap_setCell _ ⟨gr, 0, none⟩ _ k e))
theorem spec_DrawAreQuietKings.calls (k : Nat) (A0 : Option Addr) (c0 : Nat) (l0 : List Int) (r1 : Int) (r2 : Int) (r3 : List Int) (r4 : List (List Int)) (w : World) (hr0 : Kd.C (Kd.int .u8) w A0 l0.length l0) (hc0 : l0.length ≤ c0) (h : spec_DrawAreQuietKings.f k l0 = some (r1, r2, r3, r4)) :
  Calls Try.prog 14 #[.slice A0 l0.length c0] w fun e w' => ∃ v2_ v3_ : Value, e = .returned (.tuple #[.agg #[.int .i64 r1, .int .i64 r2, v2_], v3_]) ∧ Kd.R (Kd.int .i64) 3 w' w.heap.size (fun k_ => (w.heap.size ≤ k_)) v2_ r3 ∧ Kd.V (Kd.slice 3 (Kd.int .i64)) 24 w' w.heap.size (fun k_ => (w.heap.size ≤ k_) ∧ some k_ ≠ (v2_ : Value).ownBlock) v3_ r4 ∧ Below w.heap.size w w' := by
 have hu26 := Try.underlying26
 have hu79 := Try.underlying79
 unfold spec_DrawAreQuietKings.f at h
 obtain ⟨⟨R, C, lb, q, a1, b1⟩, A1, h⟩ := Option.bind_eq_some_iff.mp h
 simp only [Option.some.injEq, Prod.mk.injEq] at h
 obtain ⟨rfl, rfl, rfl, rfl⟩ := h
 have A1 := A_ A1
 have HR0 := A_ hr0
 have HC0 := A_ hc0
 clear hr0 hc0
 go_enter Try.func14, Try.ntmps14
 go_wp2_with (first | (refine gd_ 2 ?_; refine bx_ 2 #[.int .i64 0, .int .i64 0, .slice none 0 0] 26 ?_; intro gr hg w1 hbox hb; have BR := A_ hbox; have GR := A_ hg; have HB1 := A_ hb; clear hbox hb hg) | (refine gd_ 7 ?_; refine bx_ 7 #[.slice A0 l0.length c0, .int .i64 0, .int .u64 0] 79 ?_; intro gc hg w2 hbox hb; have HI2 : Aside0 (IsS79 w w2 gc l0 0 0) := ⟨⟨_, _, hbox, (by rw [hg]; exact HB1.out.size), HR0.out⟩⟩; have HB2 := A_ (below_then HB1.out HB1.out.size hb); have BR2 := A_ (blk_below BR.out hb); have GC := A_ hg; have SZ := A_ hb.size; clear hbox hb hg) | (refine gc_ 75 ?_; refine goesT_ (some 9) Try.func75 #[.pointer (some ⟨gc, 0, none⟩), .int .i64 1] ?_; (with_reducible refine (spec_l1Cur_pieces.calls k gc l0 0 0 1 R C lb q a1 b1 w _ HI2.out HB2.out A1.out).mono ?_); rintro e w3 ⟨vb, vq, rfl, hrb, hvq, hi, hb, hk⟩; obtain ⟨Ab, cb, eb⟩ := Kd.R_slice hrb; subst eb; obtain ⟨Aq, cq, eq_, hlq_, hfq_⟩ := hvq; subst eq_; refine ⟨_, rfl, ?_⟩; have HRB := A_ hrb; have HVQ := A_ (show Kd.V (Kd.slice 3 (Kd.int .i64)) 24 w3 w2.heap.size (fun k_ => w2.heap.size ≤ k_ ∧ some k_ ≠ (.slice Ab lb.length cb : Value).ownBlock) (.slice Aq q.length cq) q from ⟨Aq, cq, rfl, hlq_, hfq_⟩); have HB3 := A_ hb; have BR3 := A_ (KeepBut.blk hk BR2.out (by have := blk_lt BR.out; have := GC.out; omega) (by simp)); clear hrb hi hb hk hlq_ hfq_; obtain ⟨hz0, hz1, hz2, hf0, hf1, hf2⟩ := cf3_ BR3.out) | fail)
 refine bodyPost_ret (results_ct rfl _ _ gr 26 #[.int .i64 R, .int .i64 C, .slice Ab lb.length cb] (0, 0) _ rfl (by refine blk_put (cs := #[.int .i64 R, .int .i64 C, .slice none 0 0]) ?_ 2 _ rfl; refine blk_put (cs := #[.int .i64 R, .int .i64 0, .slice none 0 0]) ?_ 1 _ rfl; refine blk_put (cs := #[.int .i64 0, .int .i64 0, .slice none 0 0]) ?_ 0 _ rfl; exact BR3.out) Try.underlying26 rfl (by kernel_rfl)) rfl ?_
 have hge : w.heap.size ≤ gr := by have := GR.out; omega
 have hlt : gr < w2.heap.size := by have := blk_lt BR2.out; omega
 refine ⟨_, _, rfl, ?_, ?_, ?_⟩
 ·
  refine Kd.R_mono (Kd.R_bound (Kd.R_lower (Kd.R_far (p := ⟨gr, 2, none⟩) (Kd.R_far (p := ⟨gr, 1, none⟩) (Kd.R_far (p := ⟨gr, 0, none⟩) (Kd.R_types HRB.out BR3.out (by decide)) (fun _ hk => hk.2) _) (fun _ hk => hk.2) _) (fun _ hk => hk.2) _) HB2.out.size)) (fun _ hk => hk.2.1)
 ·
  exact spec_DrawAreQuietKings.far HVQ.out hlt _ _ HB2.out.size
 ·
  exact below_set (below_set (below_set HB3.out hge) hge) hge

/-! ### impl_asKings: function 83 -/
def impl_asKings.f (l0 : List Int) (l1 : List Int) : Option (Bool) := if 0 < (l0.length : Int) then (if 0 < (l1.length : Int) then (if (mx (wrap64 ((rd l0 0) - (rd l1 0))) (wrap64 ((rd l1 0) - (rd l0 0)))) > 1 then (some true) else (if 1 < (l0.length : Int) then (if 1 < (l1.length : Int) then (some (decide ((mx (wrap64 ((rd l0 1) - (rd l1 1))) (wrap64 ((rd l1 1) - (rd l0 1)))) > 1))) else (none)) else (none))) else (none)) else (none)
theorem impl_asKings.calls (A0 : Option Addr) (c0 : Nat) (l0 : List Int) (A1 : Option Addr) (c1 : Nat) (l1 : List Int) (r : Bool) (w : World) (hr0 : Kd.C (Kd.int .i64) w A0 l0.length l0) (hc0 : l0.length ≤ c0) (hr1 : Kd.C (Kd.int .i64) w A1 l1.length l1) (hc1 : l1.length ≤ c1) (h : impl_asKings.f l0 l1 = some r) :
  Calls Try.prog 83 #[.slice A0 l0.length c0, .slice A1 l1.length c1] w fun e w' => e = .returned (.bool r) ∧ Below w.heap.size w w' := by
 have HR0 := A_ hr0
 have HC0 := A_ hc0
 clear hr0 hc0
 have HR1 := A_ hr1
 have HC1 := A_ hc1
 clear hr1 hc1
 have HB := A_ (Below.refl w.heap.size w)
 have H : (if 0 < (l0.length : Int) then (if 0 < (l1.length : Int) then (if (mx (wrap64 ((rd l0 0) - (rd l1 0))) (wrap64 ((rd l1 0) - (rd l0 0)))) > 1 then (some true) else (if 1 < (l0.length : Int) then (if 1 < (l1.length : Int) then (some (decide ((mx (wrap64 ((rd l0 1) - (rd l1 1))) (wrap64 ((rd l1 1) - (rd l0 1)))) > 1))) else (none)) else (none))) else (none)) else (none)) = some r := h
 clear h
 by_cases c3 : 0 < (l0.length : Int)
 ·
  rw [if_pos c3] at H
  have c3b0 := decide_eq_true c3
  have c3b1 : decide (0 < l0.length) = true := decide_eq_true (by omega)
  clear c3
  by_cases c4 : 0 < (l1.length : Int)
  ·
   rw [if_pos c4] at H
   have c4b0 := decide_eq_true c4
   have c4b1 : decide (0 < l1.length) = true := decide_eq_true (by omega)
   clear c4
   obtain ⟨ji5, hji5⟩ : ∃ j_ : Int, (mx (wrap64 ((rd l0 0) - (rd l1 0))) (wrap64 ((rd l1 0) - (rd l0 0)))) = j_ := ⟨_, rfl⟩
   replace H : (if (ji5) > 1 then (some true) else (if 1 < (l0.length : Int) then (if 1 < (l1.length : Int) then (some (decide ((mx (wrap64 ((rd l0 1) - (rd l1 1))) (wrap64 ((rd l1 1) - (rd l0 1)))) > 1))) else (none)) else (none))) = some r := by first | (rw [hji5] at H; exact H) | (simp only [hji5] at H ⊢; exact H)
   have hji5_ : (if (wrap64 ((rd l0 0) - (rd l1 0))) < (wrap64 ((rd l1 0) - (rd l0 0))) then (wrap64 ((rd l1 0) - (rd l0 0))) else (wrap64 ((rd l0 0) - (rd l1 0)))) = ji5 := hji5
   by_cases c6 : (ji5) > 1
   ·
    rw [if_pos c6] at H
    have c6b0 := decide_eq_true c6
    clear c6
    obtain rfl := Option.some.inj H
    have p292 : 0 ≤ (0 : Int) := (by omega)
    have q292 : 0 < (l0.length : Int) := od_
    obtain ⟨ad292, e292, hx292_0⟩ := Kd.at_int HR0.out 0 p292 q292
    cases e292
    have qi292 : (0 < l0.length) = True := eq_true (by omega)
    (try rw [show ((0 : Int)).toNat = 0 from rfl] at hx292_0)
    (try rw [Addr.add_zero'] at hx292_0)
    replace p292 := eq_true p292
    replace q292 := eq_true q292
    have p293 : 0 ≤ (0 : Int) := (by omega)
    have q293 : 0 < (l1.length : Int) := od_
    obtain ⟨ad293, e293, hx293_0⟩ := Kd.at_int HR1.out 0 p293 q293
    cases e293
    have qi293 : (0 < l1.length) = True := eq_true (by omega)
    (try rw [show ((0 : Int)).toNat = 0 from rfl] at hx293_0)
    (try rw [Addr.add_zero'] at hx293_0)
    replace p293 := eq_true p293
    replace q293 := eq_true q293
    have p294 : 0 ≤ (0 : Int) := (by omega)
    have q294 : 0 < (l1.length : Int) := od_
    obtain ⟨ad294, e294, hx294_0⟩ := Kd.at_int HR1.out 0 p294 q294
    obtain rfl : ad293 = ad294 := (by injection e294)
    have qi294 : (0 < l1.length) = True := eq_true (by omega)
    (try rw [show ((0 : Int)).toNat = 0 from rfl] at hx294_0)
    (try rw [Addr.add_zero'] at hx294_0)
    replace p294 := eq_true p294
    replace q294 := eq_true q294
    have p295 : 0 ≤ (0 : Int) := (by omega)
    have q295 : 0 < (l0.length : Int) := od_
    obtain ⟨ad295, e295, hx295_0⟩ := Kd.at_int HR0.out 0 p295 q295
    obtain rfl : ad292 = ad295 := (by injection e295)
    have qi295 : (0 < l0.length) = True := eq_true (by omega)
    (try rw [show ((0 : Int)).toNat = 0 from rfl] at hx295_0)
    (try rw [Addr.add_zero'] at hx295_0)
    replace p295 := eq_true p295
    replace q295 := eq_true q295
    go_enter Try.func83, Try.ntmps83
    go_wp2
    repeat (go_quiet (fail); try go_wp2)
    go_ret
    exact ⟨by first | rfl | (simp [errW_none, errW_some] <;> rfl) | (simp only [← hji5]; first | rfl | (simp [errW_none, errW_some] <;> rfl)) | (simp [*, errW_none, errW_some] <;> rfl), tb_⟩
   ·
    rw [if_neg c6] at H
    have c6b0 := decide_eq_false c6
    clear c6
    by_cases c7 : 1 < (l0.length : Int)
    ·
     rw [if_pos c7] at H
     have c7b0 := decide_eq_true c7
     have c7b1 : decide (1 < l0.length) = true := decide_eq_true (by omega)
     clear c7
     by_cases c8 : 1 < (l1.length : Int)
     ·
      rw [if_pos c8] at H
      have c8b0 := decide_eq_true c8
      have c8b1 : decide (1 < l1.length) = true := decide_eq_true (by omega)
      clear c8
      obtain ⟨ji9, hji9⟩ : ∃ j_ : Int, (mx (wrap64 ((rd l0 1) - (rd l1 1))) (wrap64 ((rd l1 1) - (rd l0 1)))) = j_ := ⟨_, rfl⟩
      replace H : (some (decide ((ji9) > 1))) = some r := by first | (rw [hji9] at H; exact H) | (simp only [hji9] at H ⊢; exact H)
      have hji9_ : (if (wrap64 ((rd l0 1) - (rd l1 1))) < (wrap64 ((rd l1 1) - (rd l0 1))) then (wrap64 ((rd l1 1) - (rd l0 1))) else (wrap64 ((rd l0 1) - (rd l1 1)))) = ji9 := hji9
      obtain rfl := Option.some.inj H
      have p292 : 0 ≤ (0 : Int) := (by omega)
      have q292 : 0 < (l0.length : Int) := od_
      obtain ⟨ad292, e292, hx292_0⟩ := Kd.at_int HR0.out 0 p292 q292
      cases e292
      have qi292 : (0 < l0.length) = True := eq_true (by omega)
      (try rw [show ((0 : Int)).toNat = 0 from rfl] at hx292_0)
      (try rw [Addr.add_zero'] at hx292_0)
      replace p292 := eq_true p292
      replace q292 := eq_true q292
      have p293 : 0 ≤ (0 : Int) := (by omega)
      have q293 : 0 < (l1.length : Int) := od_
      obtain ⟨ad293, e293, hx293_0⟩ := Kd.at_int HR1.out 0 p293 q293
      cases e293
      have qi293 : (0 < l1.length) = True := eq_true (by omega)
      (try rw [show ((0 : Int)).toNat = 0 from rfl] at hx293_0)
      (try rw [Addr.add_zero'] at hx293_0)
      replace p293 := eq_true p293
      replace q293 := eq_true q293
      have p294 : 0 ≤ (0 : Int) := (by omega)
      have q294 : 0 < (l1.length : Int) := od_
      obtain ⟨ad294, e294, hx294_0⟩ := Kd.at_int HR1.out 0 p294 q294
      obtain rfl : ad293 = ad294 := (by injection e294)
      have qi294 : (0 < l1.length) = True := eq_true (by omega)
      (try rw [show ((0 : Int)).toNat = 0 from rfl] at hx294_0)
      (try rw [Addr.add_zero'] at hx294_0)
      replace p294 := eq_true p294
      replace q294 := eq_true q294
      have p295 : 0 ≤ (0 : Int) := (by omega)
      have q295 : 0 < (l0.length : Int) := od_
      obtain ⟨ad295, e295, hx295_0⟩ := Kd.at_int HR0.out 0 p295 q295
      obtain rfl : ad292 = ad295 := (by injection e295)
      have qi295 : (0 < l0.length) = True := eq_true (by omega)
      (try rw [show ((0 : Int)).toNat = 0 from rfl] at hx295_0)
      (try rw [Addr.add_zero'] at hx295_0)
      replace p295 := eq_true p295
      replace q295 := eq_true q295
      have p296 : 0 ≤ (1 : Int) := (by omega)
      have q296 : 1 < (l0.length : Int) := od_
      obtain ⟨ad296, e296, hx296_0⟩ := Kd.at_int HR0.out 1 p296 q296
      obtain rfl : ad292 = ad296 := (by injection e296)
      (try simp only [show (1 : Int).toNat = 1 from rfl, Nat.reduceMul, Nat.reduceEqDiff, Go.Addr.add, ↓reduceIte] at hx296_0)
      have qi296 : (1 < l0.length) = True := eq_true (by omega)
      (try rw [show ((1 : Int)).toNat = 1 from rfl] at hx296_0)
      replace p296 := eq_true p296
      replace q296 := eq_true q296
      have p297 : 0 ≤ (1 : Int) := (by omega)
      have q297 : 1 < (l1.length : Int) := od_
      obtain ⟨ad297, e297, hx297_0⟩ := Kd.at_int HR1.out 1 p297 q297
      obtain rfl : ad293 = ad297 := (by injection e297)
      (try simp only [show (1 : Int).toNat = 1 from rfl, Nat.reduceMul, Nat.reduceEqDiff, Go.Addr.add, ↓reduceIte] at hx297_0)
      have qi297 : (1 < l1.length) = True := eq_true (by omega)
      (try rw [show ((1 : Int)).toNat = 1 from rfl] at hx297_0)
      replace p297 := eq_true p297
      replace q297 := eq_true q297
      have p298 : 0 ≤ (1 : Int) := (by omega)
      have q298 : 1 < (l1.length : Int) := od_
      obtain ⟨ad298, e298, hx298_0⟩ := Kd.at_int HR1.out 1 p298 q298
      obtain rfl : ad293 = ad298 := (by injection e298)
      (try simp only [show (1 : Int).toNat = 1 from rfl, Nat.reduceMul, Nat.reduceEqDiff, Go.Addr.add, ↓reduceIte] at hx298_0)
      have qi298 : (1 < l1.length) = True := eq_true (by omega)
      (try rw [show ((1 : Int)).toNat = 1 from rfl] at hx298_0)
      replace p298 := eq_true p298
      replace q298 := eq_true q298
      have p299 : 0 ≤ (1 : Int) := (by omega)
      have q299 : 1 < (l0.length : Int) := od_
      obtain ⟨ad299, e299, hx299_0⟩ := Kd.at_int HR0.out 1 p299 q299
      obtain rfl : ad292 = ad299 := (by injection e299)
      (try simp only [show (1 : Int).toNat = 1 from rfl, Nat.reduceMul, Nat.reduceEqDiff, Go.Addr.add, ↓reduceIte] at hx299_0)
      have qi299 : (1 < l0.length) = True := eq_true (by omega)
      (try rw [show ((1 : Int)).toNat = 1 from rfl] at hx299_0)
      replace p299 := eq_true p299
      replace q299 := eq_true q299
      go_enter Try.func83, Try.ntmps83
      go_wp2
      repeat (go_quiet (fail); try go_wp2)
      go_ret
      exact ⟨by first | rfl | (simp [errW_none, errW_some] <;> rfl) | (simp only [← hji5, ← hji9]; first | rfl | (simp [errW_none, errW_some] <;> rfl)) | (simp [*, errW_none, errW_some] <;> rfl), tb_⟩
     ·
      rw [if_neg c8] at H
      exact absurd H (by simp)
    ·
     rw [if_neg c7] at H
     exact absurd H (by simp)
  ·
   rw [if_neg c4] at H
   exact absurd H (by simp)
 ·
  rw [if_neg c3] at H
  exact absurd H (by simp)

def impl_asKings.fn : FnT57 := fun l0 l1 => impl_asKings.f l0 l1
theorem impl_asKings.fnok (w : World) : FnOk57 w (.func (.func 83) #[] #[]) impl_asKings.fn := fun A0 c0 l0 A1 c1 l1 r W hr0 hc0 hr1 hc1 h _ => ⟨83, #[], _, rfl, Try.func83, by kernel_rfl, rfl, by simpa using (impl_asKings.calls A0 c0 l0 A1 c1 l1 r W hr0 hc0 hr1 hc1 h).mono fun e w' ⟨he, hd⟩ => ⟨he, hd⟩⟩

/-! ### impl_AreQuietKings: function 15 -/
def impl_AreQuietKings.f (k : Nat) (a0_0 : Int) (a0_1 : Int) (l0_2 : List Int) (l1 : List (List Int)) : Option (Bool × Bool) := (impl_IsBoard.f a0_0 a0_1 l0_2).bind fun t301 => (if t301 = true then ((impl_Board_quiet.f k a0_0 a0_1 l0_2 l1 impl_asKings.fn).bind fun t302 => (some (t302, true))) else (some (false, false)))
theorem impl_AreQuietKings.mono : ∀ a0 a1 a2 a3 k, LeO (impl_AreQuietKings.f k a0 a1 a2 a3) (impl_AreQuietKings.f (k + 1) a0 a1 a2 a3) := by
 intro a0 a1 a2 a3 k
 unfold impl_AreQuietKings.f
 repeat' first | (with_reducible first | exact impl_Board_quiet.mono _ _ _ _ _ _ | exact LeO.refl _ | exact LeO.none _ | refine LeO.ite ?_ ?_ | refine LeO.bind ?_ (fun _ => ?_)) | exact impl_Board_quiet.mono _ _ _ _ _ _ | exact LeO.none _ | refine LeO.ite ?_ ?_ | refine LeO.bind ?_ (fun _ => ?_)
theorem impl_AreQuietKings.calls (k : Nat) (a0_0 : Int) (a0_1 : Int) (A0_2 : Option Addr) (c0_2 : Nat) (l0_2 : List Int) (A1 : Option Addr) (c1 : Nat) (l1 : List (List Int)) (r1 : Bool) (r2 : Bool) (w : World) (hr0_2 : Kd.C (Kd.int .i64) w A0_2 l0_2.length l0_2) (hc0_2 : l0_2.length ≤ c0_2) (hr1 : Kd.C (Kd.slice 3 (Kd.int .i64)) w A1 l1.length l1) (hc1 : l1.length ≤ c1) (h : impl_AreQuietKings.f k a0_0 a0_1 l0_2 l1 = some (r1, r2)) :
  Calls Try.prog 15 #[.agg #[.int .i64 a0_0, .int .i64 a0_1, .slice A0_2 l0_2.length c0_2], .slice A1 l1.length c1] w fun e w' => e = .returned (.tuple #[.bool r1, .bool r2]) ∧ Below w.heap.size w w' := by
 have hu26 := Try.underlying26
 have HR0_2 := A_ hr0_2
 have HC0_2 := A_ hc0_2
 clear hr0_2 hc0_2
 have HR1 := A_ hr1
 have HC1 := A_ hc1
 clear hr1 hc1
 have HB := A_ (Below.refl w.heap.size w)
 have H : ((impl_IsBoard.f a0_0 a0_1 l0_2).bind fun t301 => (if t301 = true then ((impl_Board_quiet.f k a0_0 a0_1 l0_2 l1 impl_asKings.fn).bind fun t302 => (some (t302, true))) else (some (false, false)))) = some (r1, r2) := h
 clear h
 replace H := Option.bind_eq_some_iff.mp H
 obtain ⟨t301, A30, H⟩ := H
 replace H : (if t301 = true then ((impl_Board_quiet.f k a0_0 a0_1 l0_2 l1 impl_asKings.fn).bind fun t302 => (some (t302, true))) else (some (false, false))) = some (r1, r2) := H
 have A3 := A_ A30
 clear A30
 by_cases c4 : t301 = true
 ·
  subst c4
  have H1 : ((impl_Board_quiet.f k a0_0 a0_1 l0_2 l1 impl_asKings.fn).bind fun t302 => (some (t302, true))) = some (r1, r2) := by rw [if_pos rfl] at H; exact H
  clear H
  have H := H1
  clear H1
  replace H := Option.bind_eq_some_iff.mp H
  obtain ⟨t302, A50, H⟩ := H
  replace H : (some (t302, true)) = some (r1, r2) := H
  have A5 := A_ A50
  clear A50
  simp only [Option.some.injEq, Prod.mk.injEq] at H
  obtain ⟨rfl, rfl⟩ := H
  go_enter Try.func15, Try.ntmps15
  go_wp2_with (first | (refine gd_ 2 ?_; refine bx_ 2 #[.int .i64 a0_0, .int .i64 a0_1, .slice A0_2 l0_2.length c0_2] 26 ?_; intro gb300 hg w6 hbox hb; have BK300 := A_ (hbox); have GW300 := A_ ((ts_ hg : w.heap.size ≤ gb300)); have GE300 := A_ ((ts_ hg : w.heap.size ≤ gb300)); replace HB := A_ (below_step tb_ hb); clear hb hbox hg; obtain ⟨hcz7_0, hcz7_1, hcz7_2, hfz7_0, hfz7_1, hfz7_2⟩ := cf3_ BK300.out) | (refine gc_ 76 ?_; refine goesT_ (some 7) Try.func76 #[.agg #[.int .i64 a0_0, .int .i64 a0_1, .slice A0_2 l0_2.length c0_2]] ?_; (with_reducible refine (impl_IsBoard.calls a0_0 a0_1 _ _ l0_2 true _ ?side1 ?side2 A3.out).mono ?_); (case side1 => exact tc_ HR0_2.out); (case side2 => exact HC0_2.out); rintro e w8 ⟨rfl, hb⟩; refine ⟨_, rfl, ?_⟩; replace BK300 := A_ (blk_below (g := gb300) (o := .cells #[.int .i64 a0_0, .int .i64 a0_1, .slice A0_2 l0_2.length c0_2] 26 (0, 0)) (tk_ BK300) hb); replace HB := A_ (below_step tb_ hb); (try clear hb); obtain ⟨hcz9_0, hcz9_1, hcz9_2, hfz9_0, hfz9_1, hfz9_2⟩ := cf3_ BK300.out) | (refine gc_ 77 ?_; refine goesT_ (some 11) Try.func77 #[.agg #[.int .i64 a0_0, .int .i64 a0_1, .slice A0_2 l0_2.length c0_2], .slice A1 l1.length c1, .func (.func 83) #[] #[]] ?_; (with_reducible refine (impl_Board_quiet.calls k a0_0 a0_1 _ _ l0_2 _ _ l1 (.func (.func 83) #[] #[]) impl_asKings.fn t302 _ ?side1 ?side2 ?side3 ?side4 ?side5 A5.out).mono ?_); (case side1 => exact tc_ HR0_2.out); (case side2 => exact HC0_2.out); (case side3 => exact tc_ HR1.out); (case side4 => exact HC1.out); (case side5 => exact impl_asKings.fnok _); rintro e w10 ⟨rfl, hb⟩; refine ⟨_, rfl, ?_⟩; replace BK300 := A_ (blk_below (g := gb300) (o := .cells #[.int .i64 a0_0, .int .i64 a0_1, .slice A0_2 l0_2.length c0_2] 26 (0, 0)) (tk_ BK300) hb); replace HB := A_ (below_step tb_ hb); (try clear hb)))
  go_ret2
  exact ⟨te_, tb_⟩
 ·
  replace c4 := Bool.eq_false_iff.mpr c4
  subst c4
  have H1 : (some (false, false)) = some (r1, r2) := by rw [if_neg (show ¬ (false = true) by decide)] at H; exact H
  clear H
  have H := H1
  clear H1
  simp only [Option.some.injEq, Prod.mk.injEq] at H
  obtain ⟨rfl, rfl⟩ := H
  go_enter Try.func15, Try.ntmps15
  go_wp2_with (first | (refine gd_ 2 ?_; refine bx_ 2 #[.int .i64 a0_0, .int .i64 a0_1, .slice A0_2 l0_2.length c0_2] 26 ?_; intro gb300 hg w11 hbox hb; have BK300 := A_ (hbox); have GW300 := A_ ((ts_ hg : w.heap.size ≤ gb300)); have GE300 := A_ ((ts_ hg : w.heap.size ≤ gb300)); replace HB := A_ (below_step tb_ hb); clear hb hbox hg; obtain ⟨hcz12_0, hcz12_1, hcz12_2, hfz12_0, hfz12_1, hfz12_2⟩ := cf3_ BK300.out) | (refine gc_ 76 ?_; refine goesT_ (some 7) Try.func76 #[.agg #[.int .i64 a0_0, .int .i64 a0_1, .slice A0_2 l0_2.length c0_2]] ?_; (with_reducible refine (impl_IsBoard.calls a0_0 a0_1 _ _ l0_2 false _ ?side1 ?side2 A3.out).mono ?_); (case side1 => exact tc_ HR0_2.out); (case side2 => exact HC0_2.out); rintro e w13 ⟨rfl, hb⟩; refine ⟨_, rfl, ?_⟩; replace BK300 := A_ (blk_below (g := gb300) (o := .cells #[.int .i64 a0_0, .int .i64 a0_1, .slice A0_2 l0_2.length c0_2] 26 (0, 0)) (tk_ BK300) hb); replace HB := A_ (below_step tb_ hb); (try clear hb)))
  go_ret2
  exact ⟨te_, tb_⟩

/-! ### spec_AreQuietKings: function 16 -/
def spec_AreQuietKings.f (k : Nat) (a0_0 : Int) (a0_1 : Int) (l0_2 : List Int) (l1 : List (List Int)) : Option (Bool × Bool) := (spec_boGood.f k a0_0 a0_1 l0_2).bind fun t304 => (if t304 = true then ((spec_biQuiet.f k a0_0 a0_1 l0_2 l1 1).bind fun t305 => (some (t305, true))) else (some (false, false)))
theorem spec_AreQuietKings.mono : ∀ a0 a1 a2 a3 k, LeO (spec_AreQuietKings.f k a0 a1 a2 a3) (spec_AreQuietKings.f (k + 1) a0 a1 a2 a3) := by
 intro a0 a1 a2 a3 k
 unfold spec_AreQuietKings.f
 repeat' first | (with_reducible first | exact spec_biQuiet.mono _ _ _ _ _ _ | exact spec_boGood.mono _ _ _ _ | exact LeO.refl _ | exact LeO.none _ | refine LeO.ite ?_ ?_ | refine LeO.bind ?_ (fun _ => ?_)) | exact spec_biQuiet.mono _ _ _ _ _ _ | exact spec_boGood.mono _ _ _ _ | exact LeO.none _ | refine LeO.ite ?_ ?_ | refine LeO.bind ?_ (fun _ => ?_)
theorem spec_AreQuietKings.calls (k : Nat) (a0_0 : Int) (a0_1 : Int) (A0_2 : Option Addr) (c0_2 : Nat) (l0_2 : List Int) (A1 : Option Addr) (c1 : Nat) (l1 : List (List Int)) (r1 : Bool) (r2 : Bool) (w : World) (hr0_2 : Kd.C (Kd.int .i64) w A0_2 l0_2.length l0_2) (hc0_2 : l0_2.length ≤ c0_2) (hr1 : Kd.C (Kd.slice 3 (Kd.int .i64)) w A1 l1.length l1) (hc1 : l1.length ≤ c1) (h : spec_AreQuietKings.f k a0_0 a0_1 l0_2 l1 = some (r1, r2)) :
  Calls Try.prog 16 #[.agg #[.int .i64 a0_0, .int .i64 a0_1, .slice A0_2 l0_2.length c0_2], .slice A1 l1.length c1] w fun e w' => e = .returned (.tuple #[.bool r1, .bool r2]) ∧ Below w.heap.size w w' := by
 have hu26 := Try.underlying26
 have HR0_2 := A_ hr0_2
 have HC0_2 := A_ hc0_2
 clear hr0_2 hc0_2
 have HR1 := A_ hr1
 have HC1 := A_ hc1
 clear hr1 hc1
 have HB := A_ (Below.refl w.heap.size w)
 have H : ((spec_boGood.f k a0_0 a0_1 l0_2).bind fun t304 => (if t304 = true then ((spec_biQuiet.f k a0_0 a0_1 l0_2 l1 1).bind fun t305 => (some (t305, true))) else (some (false, false)))) = some (r1, r2) := h
 clear h
 replace H := Option.bind_eq_some_iff.mp H
 obtain ⟨t304, A30, H⟩ := H
 replace H : (if t304 = true then ((spec_biQuiet.f k a0_0 a0_1 l0_2 l1 1).bind fun t305 => (some (t305, true))) else (some (false, false))) = some (r1, r2) := H
 have A3 := A_ A30
 clear A30
 by_cases c4 : t304 = true
 ·
  subst c4
  have H1 : ((spec_biQuiet.f k a0_0 a0_1 l0_2 l1 1).bind fun t305 => (some (t305, true))) = some (r1, r2) := by rw [if_pos rfl] at H; exact H
  clear H
  have H := H1
  clear H1
  replace H := Option.bind_eq_some_iff.mp H
  obtain ⟨t305, A50, H⟩ := H
  replace H : (some (t305, true)) = some (r1, r2) := H
  have A5 := A_ A50
  clear A50
  simp only [Option.some.injEq, Prod.mk.injEq] at H
  obtain ⟨rfl, rfl⟩ := H
  go_enter Try.func16, Try.ntmps16
  go_wp2_with (first | (refine gd_ 2 ?_; refine bx_ 2 #[.int .i64 a0_0, .int .i64 a0_1, .slice A0_2 l0_2.length c0_2] 26 ?_; intro gb303 hg w6 hbox hb; have BK303 := A_ (hbox); have GW303 := A_ ((ts_ hg : w.heap.size ≤ gb303)); have GE303 := A_ ((ts_ hg : w.heap.size ≤ gb303)); replace HB := A_ (below_step tb_ hb); clear hb hbox hg; obtain ⟨hcz7_0, hcz7_1, hcz7_2, hfz7_0, hfz7_1, hfz7_2⟩ := cf3_ BK303.out) | (refine gc_ 79 ?_; refine goesT_ (some 7) Try.func79 #[.agg #[.int .i64 a0_0, .int .i64 a0_1, .slice A0_2 l0_2.length c0_2]] ?_; (with_reducible refine (spec_boGood.calls k a0_0 a0_1 _ _ l0_2 true _ ?side1 ?side2 A3.out).mono ?_); (case side1 => exact tc_ HR0_2.out); (case side2 => exact HC0_2.out); rintro e w8 ⟨rfl, hb⟩; refine ⟨_, rfl, ?_⟩; replace BK303 := A_ (blk_below (g := gb303) (o := .cells #[.int .i64 a0_0, .int .i64 a0_1, .slice A0_2 l0_2.length c0_2] 26 (0, 0)) (tk_ BK303) hb); replace HB := A_ (below_step tb_ hb); (try clear hb); obtain ⟨hcz9_0, hcz9_1, hcz9_2, hfz9_0, hfz9_1, hfz9_2⟩ := cf3_ BK303.out) | (refine gc_ 80 ?_; refine goesT_ (some 11) Try.func80 #[.agg #[.int .i64 a0_0, .int .i64 a0_1, .slice A0_2 l0_2.length c0_2], .slice A1 l1.length c1, .int .i64 1] ?_; (with_reducible refine (spec_biQuiet.calls k a0_0 a0_1 _ _ l0_2 _ _ l1 1 t305 _ ?side1 ?side2 ?side3 ?side4 A5.out).mono ?_); (case side1 => exact tc_ HR0_2.out); (case side2 => exact HC0_2.out); (case side3 => exact tc_ HR1.out); (case side4 => exact HC1.out); rintro e w10 ⟨rfl, hb⟩; refine ⟨_, rfl, ?_⟩; replace BK303 := A_ (blk_below (g := gb303) (o := .cells #[.int .i64 a0_0, .int .i64 a0_1, .slice A0_2 l0_2.length c0_2] 26 (0, 0)) (tk_ BK303) hb); replace HB := A_ (below_step tb_ hb); (try clear hb)))
  go_ret2
  exact ⟨te_, tb_⟩
 ·
  replace c4 := Bool.eq_false_iff.mpr c4
  subst c4
  have H1 : (some (false, false)) = some (r1, r2) := by rw [if_neg (show ¬ (false = true) by decide)] at H; exact H
  clear H
  have H := H1
  clear H1
  simp only [Option.some.injEq, Prod.mk.injEq] at H
  obtain ⟨rfl, rfl⟩ := H
  go_enter Try.func16, Try.ntmps16
  go_wp2_with (first | (refine gd_ 2 ?_; refine bx_ 2 #[.int .i64 a0_0, .int .i64 a0_1, .slice A0_2 l0_2.length c0_2] 26 ?_; intro gb303 hg w11 hbox hb; have BK303 := A_ (hbox); have GW303 := A_ ((ts_ hg : w.heap.size ≤ gb303)); have GE303 := A_ ((ts_ hg : w.heap.size ≤ gb303)); replace HB := A_ (below_step tb_ hb); clear hb hbox hg; obtain ⟨hcz12_0, hcz12_1, hcz12_2, hfz12_0, hfz12_1, hfz12_2⟩ := cf3_ BK303.out) | (refine gc_ 79 ?_; refine goesT_ (some 7) Try.func79 #[.agg #[.int .i64 a0_0, .int .i64 a0_1, .slice A0_2 l0_2.length c0_2]] ?_; (with_reducible refine (spec_boGood.calls k a0_0 a0_1 _ _ l0_2 false _ ?side1 ?side2 A3.out).mono ?_); (case side1 => exact tc_ HR0_2.out); (case side2 => exact HC0_2.out); rintro e w13 ⟨rfl, hb⟩; refine ⟨_, rfl, ?_⟩; replace BK303 := A_ (blk_below (g := gb303) (o := .cells #[.int .i64 a0_0, .int .i64 a0_1, .slice A0_2 l0_2.length c0_2] 26 (0, 0)) (tk_ BK303) hb); replace HB := A_ (below_step tb_ hb); (try clear hb)))
  go_ret2
  exact ⟨te_, tb_⟩

end
end Go.Proofs.Ytjjfcghoikdopaa.P
