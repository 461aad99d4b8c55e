-- printed by wip/hprint.py of this session (the kit's print.py, patched in memory)
import Derived.Test.YthjejaoadhhpdaaPx0
import Derived.Test.YthjejaoadhhpdaaPx4
namespace Go.Proofs.Ythjejaoadhhpdaa.P
noncomputable section
open Go.RowKit Go.Proofs.YthjejaoadhhpdaaW.PrintWords Go.Proofs.YthjejaoadhhpdaaW.PrintLast Go.Proofs.YthjejaoadhhpdaaW.PrintMore
attribute [local go_sem] max2_int min2_int max_two min_two max_three min_three max_four min_four   -- for this text's walks alone
set_option linter.unusedVariables false
set_option linter.unusedSimpArgs false

/-! ### impl_onTorus_1: function 102 -/
mutual
def impl_onTorus_1.l0 : Nat → List Int → Int → List Int → Int → Int → Option (Bool)
  | 0, _, _, _, _, _ => none
  | k + 1, x0, x1, x8, x9, x10 => if x10 < x9 then (if 0 ≤ x10 then (if x10 < (x8.length : Int) then (if x10 ≤ (x0.length : Int) then ((some (x0.take (x10 : Int).toNat : List Int)).bind fun y447 => (impl_onTorus_1.l1 k x0 x1 x10 (rd x8 x10) x8 x9 x10 y447 (y447.length : Int) 0)) else (none)) else (none)) else (none)) else (some true)
def impl_onTorus_1.l1 : Nat → List Int → Int → Int → Int → List Int → Int → Int → List Int → Int → Int → Option (Bool)
  | 0, _, _, _, _, _, _, _, _, _, _ => none
  | k + 1, x0, x1, x4, x5, x8, x9, x10, x17, x18, x19 => if x19 < x18 then (if 0 ≤ x19 then (if x19 < (x17.length : Int) then (if x1 = 0 then (none) else (if (Int.tmod (wrap64 ((wrap64 ((wrap64 (x19 + (rd x17 x19))) - x4)) - x5)) x1) = 0 then (some false) else (if (Int.tmod (wrap64 ((wrap64 ((wrap64 (x19 - (rd x17 x19))) - x4)) + x5)) x1) = 0 then (some false) else (impl_onTorus_1.l1 k x0 x1 x4 x5 x8 x9 x10 x17 x18 (wrap64 (x19 + 1)))))) else (none)) else (none)) else (impl_onTorus_1.l0 k x0 x1 x8 x9 (wrap64 (x10 + 1)))
end
def impl_onTorus_1.f (k : Nat) (l0 : List Int) (a1 : Int) : Option (Bool) := impl_onTorus_1.l0 k l0 a1 l0 (l0.length : Int) 0
theorem impl_onTorus_1.mono_l : ∀ k, (∀ y0 y1 y2 y3 y4, LeO (impl_onTorus_1.l0 k y0 y1 y2 y3 y4) (impl_onTorus_1.l0 (k + 1) y0 y1 y2 y3 y4)) ∧ (∀ y0 y1 y2 y3 y4 y5 y6 y7 y8 y9, LeO (impl_onTorus_1.l1 k y0 y1 y2 y3 y4 y5 y6 y7 y8 y9) (impl_onTorus_1.l1 (k + 1) y0 y1 y2 y3 y4 y5 y6 y7 y8 y9))
  | 0 => ⟨fun _ _ _ _ _ r h => by simp [impl_onTorus_1.l0] at h, fun _ _ _ _ _ _ _ _ _ _ r h => by simp [impl_onTorus_1.l1] at h⟩
  | k + 1 => by
    obtain ⟨ih0, ih1⟩ := impl_onTorus_1.mono_l k
    refine ⟨?_, ?_⟩
    · intro y0 y1 y2 y3 y4
      unfold impl_onTorus_1.l0
      repeat' first
      | (with_reducible exact ih0 _ _ _ _ _)
      | (with_reducible exact ih1 _ _ _ _ _ _ _ _ _ _)
      | (with_reducible exact LeO.refl _)
      | (with_reducible exact LeO.none _)
      | (with_reducible refine LeO.ite ?_ ?_)
      | (with_reducible refine LeO.bind ?_ (fun _ => ?_))
      | exact ih0 _ _ _ _ _
      | exact ih1 _ _ _ _ _ _ _ _ _ _
      | exact LeO.none _
      | refine LeO.ite ?_ ?_
      | refine LeO.bind ?_ (fun _ => ?_)
    · intro y0 y1 y2 y3 y4 y5 y6 y7 y8 y9
      unfold impl_onTorus_1.l1
      repeat' first
      | (with_reducible exact ih0 _ _ _ _ _)
      | (with_reducible exact ih1 _ _ _ _ _ _ _ _ _ _)
      | (with_reducible exact LeO.refl _)
      | (with_reducible exact LeO.none _)
      | (with_reducible refine LeO.ite ?_ ?_)
      | (with_reducible refine LeO.bind ?_ (fun _ => ?_))
      | exact ih0 _ _ _ _ _
      | exact ih1 _ _ _ _ _ _ _ _ _ _
      | exact LeO.none _
      | refine LeO.ite ?_ ?_
      | refine LeO.bind ?_ (fun _ => ?_)
theorem impl_onTorus_1.mono : ∀ a0 a1 k, LeO (impl_onTorus_1.f k a0 a1) (impl_onTorus_1.f (k + 1) a0 a1) := by
  intro a0 a1 k
  obtain ⟨ih0, ih1⟩ := impl_onTorus_1.mono_l k
  unfold impl_onTorus_1.f
  repeat' first
      | (with_reducible exact ih0 _ _ _ _ _)
      | (with_reducible exact ih1 _ _ _ _ _ _ _ _ _ _)
      | (with_reducible exact LeO.refl _)
      | (with_reducible exact LeO.none _)
      | (with_reducible refine LeO.ite ?_ ?_)
      | (with_reducible refine LeO.bind ?_ (fun _ => ?_))
      | exact ih0 _ _ _ _ _
      | exact ih1 _ _ _ _ _ _ _ _ _ _
      | exact LeO.none _
      | refine LeO.ite ?_ ?_
      | refine LeO.bind ?_ (fun _ => ?_)
set_option maxHeartbeats 8000000 in
set_option maxRecDepth 100000 in
theorem impl_onTorus_1.calls (k : Nat) (A0 : Option Addr) (c0 : Nat) (l0 : List Int) (g1 : Nat) (a1 : Int) (r : Bool) (w : World) (hr0 : Kd.C (Kd.int .i64) w A0 l0.length l0) (hc0 : l0.length ≤ c0) (hq1 : w.cell? ⟨g1, 0, none⟩ = some (.int .i64 a1)) (h : impl_onTorus_1.f k l0 a1 = some r) :
    Calls Try.prog 102 #[.slice A0 l0.length c0, .pointer (some ⟨g1, 0, none⟩)] w fun e w' => e = .returned (.bool r) ∧ Below w.heap.size w w' := by
  have HR0 := Aside0.mk hr0
  have HC0 := Aside0.mk hc0
  clear hr0 hc0
  have HQ1 := Aside0.mk hq1
  clear hq1
  have HB := Aside0.mk (Below.refl w.heap.size w)
  have H : (impl_onTorus_1.l0 k l0 a1 l0 (l0.length : Int) 0) = some r := h
  clear h
  have H' := Aside0.mk H
  clear H
  go_enter Try.func102, Try.ntmps102
  have hqc1 := (HB.out.cell (World.block_lt_of_cell? w _ HQ1.out)).trans HQ1.out
  go_wp2
  go_loopg [10] k (fun kq v10 w' => ∃ (x10_1 : Int), v10 = .int .i64 x10_1 ∧ Aside0 (impl_onTorus_1.l0 kq l0 a1 l0 (l0.length : Int) x10_1 = some r) ∧ Aside0 (kq ≤ k) ∧ Aside0 (Below w.heap.size w w'))
  case atStart => exact ⟨(0), (by first | rfl | (simp; done) | (simp [*]; done)), H', ⟨Nat.le_refl _⟩, ⟨by repeat (first | (with_reducible first | exact HB.out | apply below_alloc | apply pw_below_drewN | apply below_drew1) | exact HB.out)⟩⟩
  case round =>
    clear H'
    try clear c1
    try clear q1
    try clear p2
    obtain ⟨x10_1, rfl, HA, HK1, HB⟩ := hrel
    cases gk with
    | zero => exact absurd HA.out (by simp [impl_onTorus_1.l0])
    | succ k1 =>
      have H := HA.out
      clear HA
      simp only [impl_onTorus_1.l0] at H
      by_cases c3 : x10_1 < (l0.length : Int)
      · rw [if_pos c3] at H
        have c3b0 : decide (x10_1 < (l0.length : Int)) = true := decide_eq_true c3
        clear c3
        by_cases c4 : 0 ≤ x10_1
        · rw [if_pos c4] at H
          have c4b0 : decide (0 ≤ x10_1) = true := decide_eq_true c4
          clear c4
          by_cases c5 : x10_1 < (l0.length : Int)
          · rw [if_pos c5] at H
            have c5b0 : decide (x10_1 < (l0.length : Int)) = true := decide_eq_true c5
            clear c5
            have c6b0 := eq_true (of_decide_eq_true (by first | (with_reducible assumption) | assumption) : 0 ≤ x10_1)
            by_cases c7 : x10_1 ≤ (l0.length : Int)
            · rw [if_pos c7] at H
              have c7b0 := eq_true c7
              have c7b1 : decide (x10_1 ≤ (l0.length : Int)) = true := decide_eq_true c7
              clear c7
              obtain ⟨y447, hy447⟩ : ∃ y_ : List Int, y_ = (l0.take (x10_1 : Int).toNat) := ⟨_, rfl⟩
              replace H : (impl_onTorus_1.l1 k1 l0 a1 x10_1 (rd l0 x10_1) l0 (l0.length : Int) x10_1 y447 (y447.length : Int) 0) = some r := by first | (rw [hy447]; with_reducible exact H) | (have H2_ := (Option.bind_some _ _).symm.trans H; rw [hy447]; with_reducible exact H2_) | (have H2_ := (Option.bind_some _ _).symm.trans H; with_reducible exact H2_) | with_reducible exact H | (rw [hy447]; exact H) | exact H
              have Ny447 := Aside0.mk hy447
              clear hy447
              have H' := Aside0.mk H
              clear H
              have p446 : 0 ≤ (x10_1 : Int) := of_decide_eq_true (by first | (with_reducible assumption) | assumption)
              have q446 : x10_1 < (l0.length : Int) := of_decide_eq_true (by first | (with_reducible assumption) | assumption)
              obtain ⟨ad446, e446, hx446_0⟩ := Kd.at_int HR0.out x10_1 p446 q446
              cases e446
              replace hx446_0 := (HB.out.cell (World.block_lt_of_cell? w _ hx446_0)).trans hx446_0
              replace p446 := eq_true p446
              replace q446 := eq_true q446
              have q8 : (x10_1 : Int) ≤ ((l0.length : Int) : Int) := of_decide_eq_true (by first | (with_reducible assumption) | assumption)
              obtain ⟨i08, hi08, _, hsz8, _⟩ := info_parts info3
              have hroom8 : l0.length ≤ c0 := HC0.out
              have hC8 : Kd.C (Kd.int .i64) _ (some ad446) l0.length l0 := HR0.out
              have hcut8 := cut_to (P := Try.prog) 22 3 .i64 Try.underlying22 hi08 (some ad446) l0.length c0 x10_1 (of_decide_eq_true (by first | (with_reducible assumption) | assumption)) q8 hroom8
              have hr8 := Kd.C_take (m := (x10_1 : Int).toNat) hC8 (by omega)
              have hy8 : y447.length = (x10_1 : Int).toNat := (by rw [Ny447.out, List.length_take]; omega)
              rw [← Ny447.out] at hr8
              rw [← hy8] at hcut8
              have HR450 := Aside0.mk hr8
              have HC450 := Aside0.mk (show y447.length ≤ c0 from by omega)
              clear hr8 hC8 hroom8 hi08 hsz8
              have KY8 := Aside0.mk hy8
              clear hy8
              replace q8 := eq_true q8
              have hqc1 := (HB.out.cell (World.block_lt_of_cell? w _ HQ1.out)).trans HQ1.out
              go_wp2
              go_loopg [19] k1 (fun kq v19 w' => ∃ (x19_2 : Int), v19 = .int .i64 x19_2 ∧ Aside0 (impl_onTorus_1.l1 kq l0 a1 x10_1 (rd l0 x10_1) l0 (l0.length : Int) x10_1 y447 (y447.length : Int) x19_2 = some r) ∧ Aside0 (kq ≤ k1) ∧ Aside0 (Below w.heap.size w w'))
              case atStart => exact ⟨(0), (by first | rfl | (simp; done) | (simp [*]; done)), H', ⟨Nat.le_refl _⟩, ⟨by repeat (first | (with_reducible first | exact HB.out | apply below_alloc | apply pw_below_drewN | apply below_drew1) | exact HB.out)⟩⟩
              case round =>
                clear H'
                try clear c1
                try clear q1
                try clear p2
                try clear c3
                try clear c3b0
                try clear c4
                try clear c4b0
                try clear p4
                try clear q4
                try clear hx4
                try clear c5
                try clear c5b0
                try clear c6
                try clear c6b0
                try clear c7
                try clear c7b0
                try clear c7b1
                try clear q8
                try clear hx446_0
                try clear p2
                try clear p446
                try clear q1
                try clear q446
                try clear q8
                obtain ⟨x19_2, rfl, HA, HK2, HB⟩ := hrel
                cases gk with
                | zero => exact absurd HA.out (by simp [impl_onTorus_1.l1])
                | succ k2 =>
                  have H := HA.out
                  clear HA
                  simp only [impl_onTorus_1.l1] at H
                  by_cases c9 : x19_2 < (y447.length : Int)
                  · rw [if_pos c9] at H
                    have c9b0 : decide (x19_2 < (y447.length : Int)) = true := decide_eq_true c9
                    clear c9
                    by_cases c10 : 0 ≤ x19_2
                    · rw [if_pos c10] at H
                      have c10b0 : decide (0 ≤ x19_2) = true := decide_eq_true c10
                      clear c10
                      by_cases c11 : x19_2 < (y447.length : Int)
                      · rw [if_pos c11] at H
                        have c11b0 : decide (x19_2 < (y447.length : Int)) = true := decide_eq_true c11
                        clear c11
                        by_cases c12 : a1 = 0
                        · rw [if_pos c12] at H
                          exact absurd H (by simp)
                        · rw [if_neg c12] at H
                          have c12b0 : (a1 == 0) = false := beq_eq_false_iff_ne.mpr c12
                          have c12b1 : (a1 != 0) = true := bne_iff_ne.mpr c12
                          by_cases c13 : (Int.tmod (wrap64 ((wrap64 ((wrap64 (x19_2 + (rd y447 x19_2))) - x10_1)) - (rd l0 x10_1))) a1) = 0
                          · rw [if_pos c13] at H
                            have c13b0 : ((Int.tmod (wrap64 ((wrap64 ((wrap64 (x19_2 + (rd y447 x19_2))) - x10_1)) - (rd l0 x10_1))) a1) == 0) = true := beq_iff_eq.mpr c13
                            have c13b1 : ((Int.tmod (wrap64 ((wrap64 ((wrap64 (x19_2 + (rd y447 x19_2))) - x10_1)) - (rd l0 x10_1))) a1) != 0) = false := bne_eq_false_iff_eq.mpr c13
                            clear c13
                            obtain rfl := Option.some.inj H
                            have p451 : 0 ≤ (x19_2 : Int) := of_decide_eq_true (by first | (with_reducible assumption) | assumption)
                            have q451 : x19_2 < (y447.length : Int) := of_decide_eq_true (by first | (with_reducible assumption) | assumption)
                            obtain ⟨ad451, e451, hx451_0⟩ := Kd.at_int HR450.out x19_2 p451 q451
                            obtain rfl : ad446 = ad451 := (by injection e451)
                            replace hx451_0 := (HB.out.cell (World.block_lt_of_cell? w _ hx451_0)).trans hx451_0
                            replace p451 := eq_true p451
                            replace q451 := eq_true q451
                            have hqc1 := (HB.out.cell (World.block_lt_of_cell? w _ HQ1.out)).trans HQ1.out
                            go_wp2
                            go_ret
                            exact ⟨by first | rfl | (simp [errW_none, errW_some] <;> rfl) | (simp [*, errW_none, errW_some] <;> rfl), by repeat (first | (with_reducible first | exact HB.out | apply below_alloc | apply pw_below_drewN | apply below_drew1) | exact HB.out)⟩
                          · rw [if_neg c13] at H
                            have c13b0 : ((Int.tmod (wrap64 ((wrap64 ((wrap64 (x19_2 + (rd y447 x19_2))) - x10_1)) - (rd l0 x10_1))) a1) == 0) = false := beq_eq_false_iff_ne.mpr c13
                            have c13b1 : ((Int.tmod (wrap64 ((wrap64 ((wrap64 (x19_2 + (rd y447 x19_2))) - x10_1)) - (rd l0 x10_1))) a1) != 0) = true := bne_iff_ne.mpr c13
                            by_cases c14 : (Int.tmod (wrap64 ((wrap64 ((wrap64 (x19_2 - (rd y447 x19_2))) - x10_1)) + (rd l0 x10_1))) a1) = 0
                            · rw [if_pos c14] at H
                              have c14b0 : ((Int.tmod (wrap64 ((wrap64 ((wrap64 (x19_2 - (rd y447 x19_2))) - x10_1)) + (rd l0 x10_1))) a1) == 0) = true := beq_iff_eq.mpr c14
                              have c14b1 : ((Int.tmod (wrap64 ((wrap64 ((wrap64 (x19_2 - (rd y447 x19_2))) - x10_1)) + (rd l0 x10_1))) a1) != 0) = false := bne_eq_false_iff_eq.mpr c14
                              clear c14
                              obtain rfl := Option.some.inj H
                              have p451 : 0 ≤ (x19_2 : Int) := of_decide_eq_true (by first | (with_reducible assumption) | assumption)
                              have q451 : x19_2 < (y447.length : Int) := of_decide_eq_true (by first | (with_reducible assumption) | assumption)
                              obtain ⟨ad451, e451, hx451_0⟩ := Kd.at_int HR450.out x19_2 p451 q451
                              obtain rfl : ad446 = ad451 := (by injection e451)
                              replace hx451_0 := (HB.out.cell (World.block_lt_of_cell? w _ hx451_0)).trans hx451_0
                              replace p451 := eq_true p451
                              replace q451 := eq_true q451
                              have hqc1 := (HB.out.cell (World.block_lt_of_cell? w _ HQ1.out)).trans HQ1.out
                              go_wp2
                              go_ret
                              exact ⟨by first | rfl | (simp [errW_none, errW_some] <;> rfl) | (simp [*, errW_none, errW_some] <;> rfl), by repeat (first | (with_reducible first | exact HB.out | apply below_alloc | apply pw_below_drewN | apply below_drew1) | exact HB.out)⟩
                            · rw [if_neg c14] at H
                              have c14b0 : ((Int.tmod (wrap64 ((wrap64 ((wrap64 (x19_2 - (rd y447 x19_2))) - x10_1)) + (rd l0 x10_1))) a1) == 0) = false := beq_eq_false_iff_ne.mpr c14
                              have c14b1 : ((Int.tmod (wrap64 ((wrap64 ((wrap64 (x19_2 - (rd y447 x19_2))) - x10_1)) + (rd l0 x10_1))) a1) != 0) = true := bne_iff_ne.mpr c14
                              have H' := Aside0.mk H
                              clear H
                              have p451 : 0 ≤ (x19_2 : Int) := of_decide_eq_true (by first | (with_reducible assumption) | assumption)
                              have q451 : x19_2 < (y447.length : Int) := of_decide_eq_true (by first | (with_reducible assumption) | assumption)
                              obtain ⟨ad451, e451, hx451_0⟩ := Kd.at_int HR450.out x19_2 p451 q451
                              obtain rfl : ad446 = ad451 := (by injection e451)
                              replace hx451_0 := (HB.out.cell (World.block_lt_of_cell? w _ hx451_0)).trans hx451_0
                              replace p451 := eq_true p451
                              replace q451 := eq_true q451
                              have hqc1 := (HB.out.cell (World.block_lt_of_cell? w _ HQ1.out)).trans HQ1.out
                              go_wp2
                              go_roundg k2
                              case measure => have := HK1.out; have := HK2.out; omega
                              case rel => exact ⟨(wrap64 (x19_2 + 1)), (by first | rfl | (simp; done) | (simp [*]; done)), H', ⟨by have := HK1.out; have := HK2.out; omega⟩, ⟨by repeat (first | (with_reducible first | exact HB.out | apply below_alloc | apply pw_below_drewN | apply below_drew1) | exact HB.out)⟩⟩
                      · rw [if_neg c11] at H
                        exact absurd H (by simp)
                    · rw [if_neg c10] at H
                      exact absurd H (by simp)
                  · rw [if_neg c9] at H
                    have c9b0 : decide (x19_2 < (y447.length : Int)) = false := decide_eq_false c9
                    clear c9
                    have H' := Aside0.mk H
                    clear H
                    have hqc1 := (HB.out.cell (World.block_lt_of_cell? w _ HQ1.out)).trans HQ1.out
                    go_wp2
                    go_roundg k2
                    case measure => have := HK1.out; have := HK2.out; omega
                    case rel => exact ⟨(wrap64 (x10_1 + 1)), (by first | rfl | (simp; done) | (simp [*]; done)), H', ⟨by have := HK1.out; have := HK2.out; omega⟩, ⟨by repeat (first | (with_reducible first | exact HB.out | apply below_alloc | apply pw_below_drewN | apply below_drew1) | exact HB.out)⟩⟩
            · rw [if_neg c7] at H
              exact absurd H (by simp)
          · rw [if_neg c5] at H
            exact absurd H (by simp)
        · rw [if_neg c4] at H
          exact absurd H (by simp)
      · rw [if_neg c3] at H
        have c3b0 : decide (x10_1 < (l0.length : Int)) = false := decide_eq_false c3
        clear c3
        obtain rfl := Option.some.inj H
        have hqc1 := (HB.out.cell (World.block_lt_of_cell? w _ HQ1.out)).trans HQ1.out
        go_wp2
        go_ret
        exact ⟨by first | rfl | (simp [errW_none, errW_some] <;> rfl) | (simp [*, errW_none, errW_some] <;> rfl), by repeat (first | (with_reducible first | exact HB.out | apply below_alloc | apply pw_below_drewN | apply below_drew1) | exact HB.out)⟩

-- NOT PRINTED: function 80 (impl_onTorus)

/-! ### impl_AreOnTorus: function 41 -/
def impl_AreOnTorus.f (k : Nat) (l0 : List Int) : Option (Bool × Bool) := (impl_isList.f k l0).bind fun t => (if t = true then ((impl_onTorus_1.f k l0 (l0.length : Int)).bind fun u => (some (u, true))) else (some (false, false)))
theorem impl_AreOnTorus.mono : ∀ a0 k, LeO (impl_AreOnTorus.f k a0) (impl_AreOnTorus.f (k + 1) a0) := by
  intro a0 k
  unfold impl_AreOnTorus.f
  refine LeO.bind (impl_isList.mono _ _) (fun _ => ?_)
  refine LeO.ite ?_ (LeO.refl _)
  exact LeO.bind (impl_onTorus_1.mono _ _ _) (fun _ => LeO.refl _)
set_option maxHeartbeats 8000000 in
set_option maxRecDepth 100000 in
theorem impl_AreOnTorus.maker (n : Int) (w : World) : Calls Try.prog 80 #[.int .i64 n] w fun e w' => ∃ g : Nat, e = .returned (.func (.func 102) #[] #[.pointer (some ⟨g, 0, none⟩)]) ∧ w'.cell? ⟨g, 0, none⟩ = some (.int .i64 n) ∧ Below w.heap.size w w' := by
  have hmf_ : ∀ (fn : Go.Fn) (first cap : Array Value) (w : World), (Instr.makeFunc fn first cap).run Try.prog w = .ok (.func fn first cap) w := fun _ _ _ _ => rfl
  go_enter Try.func80, Try.ntmps80
  go_wp2
  go_ret
  exact ⟨_, rfl, by go_simp, below_alloc (Below.refl _ _) _⟩
set_option maxHeartbeats 8000000 in
set_option maxRecDepth 100000 in
theorem impl_AreOnTorus.calls (k : Nat) (A0 : Option Addr) (c0 : Nat) (l0 : List Int) (r1 : Bool) (r2 : Bool) (w : World) (hr0 : Kd.C (Kd.int .i64) w A0 l0.length l0) (hc0 : l0.length ≤ c0) (h : impl_AreOnTorus.f k l0 = some (r1, r2)) :
    Calls Try.prog 41 #[.slice A0 l0.length c0] w fun e w' => e = .returned (.tuple #[.bool r1, .bool r2]) ∧ Below w.heap.size w w' := by
  have HR0 := Aside0.mk hr0
  have HC0 := Aside0.mk hc0
  clear hr0 hc0
  have HB := Aside0.mk (Below.refl w.heap.size w)
  have hmf_ : ∀ (fn : Go.Fn) (first cap : Array Value) (w : World), (Instr.makeFunc fn first cap).run Try.prog w = .ok (.func fn first cap) w := fun _ _ _ _ => rfl
  unfold impl_AreOnTorus.f at h
  obtain ⟨t, A2, H⟩ := Option.bind_eq_some_iff.mp h
  have A2' := Aside0.mk A2
  clear A2 h
  cases t with
  | false =>
    simp only [Bool.false_eq_true, if_false, Option.some.injEq, Prod.mk.injEq] at H
    obtain ⟨rfl, rfl⟩ := H
    go_enter Try.func41, Try.ntmps41
    go_wp2_with (first | (go_at_call 62; (with_reducible refine (impl_isList.calls k A0 c0 l0 false _ (Kd.C_below HR0.out ?s1) HC0.out A2'.out).mono ?_); (case s1 => repeat (first | (with_reducible first | exact HB.out | apply below_alloc | apply pw_below_drewN | apply below_drew1) | exact HB.out)); rintro e w1 ⟨rfl, ⟨nd, rfl⟩⟩))
    go_ret2
    exact ⟨rfl, by repeat (first | (with_reducible first | exact HB.out | apply below_alloc | apply pw_below_drewN | apply below_drew1) | exact HB.out)⟩
  | true =>
    simp only [if_true] at H
    obtain ⟨u, A3, H⟩ := Option.bind_eq_some_iff.mp H
    have A3' := Aside0.mk A3
    clear A3
    simp only [Option.some.injEq, Prod.mk.injEq] at H
    obtain ⟨rfl, rfl⟩ := H
    go_enter Try.func41, Try.ntmps41
    go_wp2_with (first | (go_at_call 62; (with_reducible refine (impl_isList.calls k A0 c0 l0 true _ (Kd.C_below HR0.out ?s1) HC0.out A2'.out).mono ?_); (case s1 => repeat (first | (with_reducible first | exact HB.out | apply below_alloc | apply pw_below_drewN | apply below_drew1) | exact HB.out)); rintro e w1 ⟨rfl, ⟨nd, rfl⟩⟩) | (go_at_call 80; (with_reducible refine (impl_AreOnTorus.maker (l0.length : Int) _).mono ?_); rintro e w2 ⟨g, rfl, hg, hb⟩; have HG := Aside0.mk hg; have HB2 := Aside0.mk (below_step (pw_below_drewN HB.out nd) hb); clear hb hg) | (go_at_call 102; (with_reducible refine (impl_onTorus_1.calls k A0 c0 l0 g (l0.length : Int) u _ (Kd.C_below HR0.out HB2.out) HC0.out HG.out A3'.out).mono ?_); rintro e w3 ⟨rfl, hb⟩; have HB3 := Aside0.mk (below_step HB2.out hb); clear hb))
    go_ret2
    exact ⟨rfl, by repeat (first | (with_reducible first | exact HB3.out | apply below_alloc | apply pw_below_drewN | apply below_drew1) | exact HB3.out)⟩

end
end Go.Proofs.Ythjejaoadhhpdaa.P
