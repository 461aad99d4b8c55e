-- printed by wip/hprint.py of this session (the kit's print.py, patched in memory)
import Derived.Test.YthjejaoadhhpdaaPx0
import Derived.Test.YthjejaoadhhpdaaPx2
namespace Go.Proofs.Ythjejaoadhhpdaa.P
open Go.RowKit Go.Proofs.YthjejaoadhhpdaaW.PrintWords Go.Proofs.YthjejaoadhhpdaaW.PrintLast Go.Proofs.YthjejaoadhhpdaaW.PrintMore
attribute [local go_sem] max2_int min2_int max_two min_two max_three min_three max_four min_four   -- for this text's walks alone
set_option linter.unusedVariables false
set_option linter.unusedSimpArgs false

/-! ### spec_quWatched: function 89 -/
mutual
def spec_quWatched.l0 : Nat → Int → List (List Int) → Int → Option (Bool)
  | 0, _, _, _ => none
  | k + 1, x0, x1, x5 => if x5 < x0 then (spec_quWatched.l1 k x0 x1 x5 0) else (some true)
def spec_quWatched.l1 : Nat → Int → List (List Int) → Int → Int → Option (Bool)
  | 0, _, _, _, _ => none
  | k + 1, x0, x1, x5, x6 => if x6 < x0 then (spec_quWatched.l2 k x0 x1 x5 x6 false x1 (x1.length : Int) 0) else (spec_quWatched.l0 k x0 x1 (wrap64 (x5 + 1)))
def spec_quWatched.l2 : Nat → Int → List (List Int) → Int → Int → Bool → List (List Int) → Int → Int → Option (Bool)
  | 0, _, _, _, _, _, _, _, _ => none
  | k + 1, x0, x1, x5, x6, x7, x22, x23, x24 => if x24 < x23 then (if 0 ≤ x24 then (if x24 < (x22.length : Int) then (if 0 < ((rd_L1 x22 x24).length : Int) then ((spec_l1Abs.f (wrap64 ((rd (rd_L1 x22 x24) 0) - x5))).bind fun t560 => (if 1 < ((rd_L1 x22 x24).length : Int) then ((spec_l1Abs.f (wrap64 ((rd (rd_L1 x22 x24) 1) - x6))).bind fun t562 => (if x7 = true then (spec_quWatched.l2 k x0 x1 x5 x6 true x22 x23 (wrap64 (x24 + 1))) else (if t560 = 0 then (spec_quWatched.l2 k x0 x1 x5 x6 true x22 x23 (wrap64 (x24 + 1))) else (if t562 = 0 then (spec_quWatched.l2 k x0 x1 x5 x6 true x22 x23 (wrap64 (x24 + 1))) else (spec_quWatched.l2 k x0 x1 x5 x6 (t560 == t562) x22 x23 (wrap64 (x24 + 1))))))) else (none))) else (none)) else (none)) else (none)) else (if x7 = true then (spec_quWatched.l1 k x0 x1 x5 (wrap64 (x6 + 1))) else (some false))
end
def spec_quWatched.f (k : Nat) (a0 : Int) (l1 : List (List Int)) : Option (Bool) := spec_quWatched.l0 k a0 l1 0
theorem spec_quWatched.mono_l : ∀ k, (∀ y0 y1 y2, LeO (spec_quWatched.l0 k y0 y1 y2) (spec_quWatched.l0 (k + 1) y0 y1 y2)) ∧ (∀ y0 y1 y2 y3, LeO (spec_quWatched.l1 k y0 y1 y2 y3) (spec_quWatched.l1 (k + 1) y0 y1 y2 y3)) ∧ (∀ y0 y1 y2 y3 y4 y5 y6 y7, LeO (spec_quWatched.l2 k y0 y1 y2 y3 y4 y5 y6 y7) (spec_quWatched.l2 (k + 1) y0 y1 y2 y3 y4 y5 y6 y7))
  | 0 => ⟨fun _ _ _ r h => by simp [spec_quWatched.l0] at h, fun _ _ _ _ r h => by simp [spec_quWatched.l1] at h, fun _ _ _ _ _ _ _ _ r h => by simp [spec_quWatched.l2] at h⟩
  | k + 1 => by
    obtain ⟨ih0, ih1, ih2⟩ := spec_quWatched.mono_l k
    refine ⟨?_, ?_, ?_⟩
    · intro y0 y1 y2
      unfold spec_quWatched.l0
      repeat' first
      | (with_reducible exact ih0 _ _ _)
      | (with_reducible exact ih1 _ _ _ _)
      | (with_reducible exact ih2 _ _ _ _ _ _ _ _)
      | (with_reducible exact LeO.refl _)
      | (with_reducible exact LeO.none _)
      | (with_reducible refine LeO.ite ?_ ?_)
      | (with_reducible refine LeO.bind ?_ (fun _ => ?_))
      | exact ih0 _ _ _
      | exact ih1 _ _ _ _
      | exact ih2 _ _ _ _ _ _ _ _
      | exact LeO.none _
      | refine LeO.ite ?_ ?_
      | refine LeO.bind ?_ (fun _ => ?_)
    · intro y0 y1 y2 y3
      unfold spec_quWatched.l1
      repeat' first
      | (with_reducible exact ih0 _ _ _)
      | (with_reducible exact ih1 _ _ _ _)
      | (with_reducible exact ih2 _ _ _ _ _ _ _ _)
      | (with_reducible exact LeO.refl _)
      | (with_reducible exact LeO.none _)
      | (with_reducible refine LeO.ite ?_ ?_)
      | (with_reducible refine LeO.bind ?_ (fun _ => ?_))
      | exact ih0 _ _ _
      | exact ih1 _ _ _ _
      | exact ih2 _ _ _ _ _ _ _ _
      | exact LeO.none _
      | refine LeO.ite ?_ ?_
      | refine LeO.bind ?_ (fun _ => ?_)
    · intro y0 y1 y2 y3 y4 y5 y6 y7
      unfold spec_quWatched.l2
      repeat' first
      | (with_reducible exact ih0 _ _ _)
      | (with_reducible exact ih1 _ _ _ _)
      | (with_reducible exact ih2 _ _ _ _ _ _ _ _)
      | (with_reducible exact LeO.refl _)
      | (with_reducible exact LeO.none _)
      | (with_reducible refine LeO.ite ?_ ?_)
      | (with_reducible refine LeO.bind ?_ (fun _ => ?_))
      | exact ih0 _ _ _
      | exact ih1 _ _ _ _
      | exact ih2 _ _ _ _ _ _ _ _
      | exact LeO.none _
      | refine LeO.ite ?_ ?_
      | refine LeO.bind ?_ (fun _ => ?_)
theorem spec_quWatched.mono : ∀ a0 a1 k, LeO (spec_quWatched.f k a0 a1) (spec_quWatched.f (k + 1) a0 a1) := by
  intro a0 a1 k
  obtain ⟨ih0, ih1, ih2⟩ := spec_quWatched.mono_l k
  unfold spec_quWatched.f
  repeat' first
      | (with_reducible exact ih0 _ _ _)
      | (with_reducible exact ih1 _ _ _ _)
      | (with_reducible exact ih2 _ _ _ _ _ _ _ _)
      | (with_reducible exact LeO.refl _)
      | (with_reducible exact LeO.none _)
      | (with_reducible refine LeO.ite ?_ ?_)
      | (with_reducible refine LeO.bind ?_ (fun _ => ?_))
      | exact ih0 _ _ _
      | exact ih1 _ _ _ _
      | exact ih2 _ _ _ _ _ _ _ _
      | exact LeO.none _
      | refine LeO.ite ?_ ?_
      | refine LeO.bind ?_ (fun _ => ?_)
set_option maxHeartbeats 8000000 in
set_option maxRecDepth 100000 in
theorem spec_quWatched.calls (k : Nat) (a0 : Int) (A1 : Option Addr) (c1 : Nat) (l1 : List (List Int)) (r : Bool) (w : World) (hr1 : Kd.C (Kd.slice 3 (Kd.int .i64)) w A1 l1.length l1) (hc1 : l1.length ≤ c1) (h : spec_quWatched.f k a0 l1 = some r) :
    Calls Try.prog 89 #[.int .i64 a0, .slice A1 l1.length c1] w fun e w' => e = .returned (.bool r) ∧ Drawn0 w w' := by
  have HR1 := Aside0.mk hr1
  have HC1 := Aside0.mk hc1
  clear hr1 hc1
  have H : (spec_quWatched.l0 k a0 l1 0) = some r := h
  clear h
  have H' := Aside0.mk H
  clear H
  go_enter Try.func89, Try.ntmps89
  go_wp2
  repeat (go_quiet (fail); try go_wp2)
  go_loopg [5] k (fun kq v5 w' => ∃ (x5_1 : Int), v5 = .int .i64 x5_1 ∧ Aside0 (spec_quWatched.l0 kq a0 l1 x5_1 = some r) ∧ Aside0 (kq ≤ k) ∧ Drawn0 w w')
  case atStart => exact ⟨(0), (by first | rfl | (simp; done) | (simp [*]; done)), H', ⟨Nat.le_refl _⟩, by repeat (first | exact Drawn0.refl _ | apply Drawn0.step)⟩
  case round =>
    clear H'
    try clear c1
    try clear p2
    obtain ⟨x5_1, rfl, HA, HK1, ⟨m1, rfl⟩⟩ := hrel
    cases gk with
    | zero => exact absurd HA.out (by simp [spec_quWatched.l0])
    | succ k1 =>
      have H := HA.out
      clear HA
      simp only [spec_quWatched.l0] at H
      by_cases c3 : x5_1 < a0
      · rw [if_pos c3] at H
        have c3b0 : decide (x5_1 < a0) = true := decide_eq_true c3
        clear c3
        have H' := Aside0.mk H
        clear H
        go_wp2
        repeat (go_quiet (fail); try go_wp2)
        go_loopg [6] k1 (fun kq v6 w' => ∃ (x6_2 : Int), v6 = .int .i64 x6_2 ∧ Aside0 (spec_quWatched.l1 kq a0 l1 x5_1 x6_2 = some r) ∧ Aside0 (kq ≤ k1) ∧ Drawn0 w w')
        case atStart => exact ⟨(0), (by first | rfl | (simp; done) | (simp [*]; done)), H', ⟨Nat.le_refl _⟩, by repeat (first | exact Drawn0.refl _ | apply Drawn0.step)⟩
        case round =>
          clear H'
          try clear c1
          try clear p2
          try clear c3
          try clear c3b0
          try clear p2
          obtain ⟨x6_2, rfl, HA, HK2, ⟨m2, rfl⟩⟩ := hrel
          cases gk with
          | zero => exact absurd HA.out (by simp [spec_quWatched.l1])
          | succ k2 =>
            have H := HA.out
            clear HA
            simp only [spec_quWatched.l1] at H
            by_cases c4 : x6_2 < a0
            · rw [if_pos c4] at H
              have c4b0 : decide (x6_2 < a0) = true := decide_eq_true c4
              clear c4
              have H' := Aside0.mk H
              clear H
              go_wp2
              repeat (go_quiet (fail); try go_wp2)
              go_loopg [7, 24] k2 (fun kq v7 v24 w' => ∃ (x7_3 : Bool) (x24_3 : Int), v7 = .bool x7_3 ∧ v24 = .int .i64 x24_3 ∧ Aside0 (spec_quWatched.l2 kq a0 l1 x5_1 x6_2 x7_3 l1 (l1.length : Int) x24_3 = some r) ∧ Aside0 (kq ≤ k2) ∧ Drawn0 w w')
              case atStart => exact ⟨(false), (0), (by first | rfl | (simp; done) | (simp [*]; done)), (by first | rfl | (simp; done) | (simp [*]; done)), H', ⟨Nat.le_refl _⟩, by repeat (first | exact Drawn0.refl _ | apply Drawn0.step)⟩
              case round =>
                clear H'
                try clear c1
                try clear p2
                try clear c3
                try clear c3b0
                try clear c4
                try clear c4b0
                try clear p2
                obtain ⟨x7_3, x24_3, rfl, rfl, HA, HK3, ⟨m3, rfl⟩⟩ := hrel
                cases gk with
                | zero => exact absurd HA.out (by simp [spec_quWatched.l2])
                | succ k3 =>
                  have H := HA.out
                  clear HA
                  simp only [spec_quWatched.l2] at H
                  by_cases c5 : x24_3 < (l1.length : Int)
                  · rw [if_pos c5] at H
                    have c5b0 : decide (x24_3 < (l1.length : Int)) = true := decide_eq_true c5
                    clear c5
                    by_cases c6 : 0 ≤ x24_3
                    · rw [if_pos c6] at H
                      have c6b0 : decide (0 ≤ x24_3) = true := decide_eq_true c6
                      clear c6
                      by_cases c7 : x24_3 < (l1.length : Int)
                      · rw [if_pos c7] at H
                        have c7b0 : decide (x24_3 < (l1.length : Int)) = true := decide_eq_true c7
                        clear c7
                        by_cases c8 : 0 < ((rd_L1 l1 x24_3).length : Int)
                        · rw [if_pos c8] at H
                          have c8b0 : decide (0 < ((rd_L1 l1 x24_3).length : Int)) = true := decide_eq_true c8
                          have c8b1 : decide (0 < (rd_L1 l1 x24_3).length) = true := decide_eq_true (by omega)
                          clear c8
                          replace H := Option.bind_eq_some_iff.mp H
                          obtain ⟨t560, A90, H⟩ := H
                          replace H : (if 1 < ((rd_L1 l1 x24_3).length : Int) then ((spec_l1Abs.f (wrap64 ((rd (rd_L1 l1 x24_3) 1) - x6_2))).bind fun t562 => (if x7_3 = true then (spec_quWatched.l2 k3 a0 l1 x5_1 x6_2 true l1 (l1.length : Int) (wrap64 (x24_3 + 1))) else (if t560 = 0 then (spec_quWatched.l2 k3 a0 l1 x5_1 x6_2 true l1 (l1.length : Int) (wrap64 (x24_3 + 1))) else (if t562 = 0 then (spec_quWatched.l2 k3 a0 l1 x5_1 x6_2 true l1 (l1.length : Int) (wrap64 (x24_3 + 1))) else (spec_quWatched.l2 k3 a0 l1 x5_1 x6_2 (t560 == t562) l1 (l1.length : Int) (wrap64 (x24_3 + 1))))))) else (none)) = some r := H
                          have A9 := Aside0.mk A90
                          clear A90
                          by_cases c10 : 1 < ((rd_L1 l1 x24_3).length : Int)
                          · rw [if_pos c10] at H
                            have c10b0 : decide (1 < ((rd_L1 l1 x24_3).length : Int)) = true := decide_eq_true c10
                            have c10b1 : decide (1 < (rd_L1 l1 x24_3).length) = true := decide_eq_true (by omega)
                            clear c10
                            replace H := Option.bind_eq_some_iff.mp H
                            obtain ⟨t562, A110, H⟩ := H
                            replace H : (if x7_3 = true then (spec_quWatched.l2 k3 a0 l1 x5_1 x6_2 true l1 (l1.length : Int) (wrap64 (x24_3 + 1))) else (if t560 = 0 then (spec_quWatched.l2 k3 a0 l1 x5_1 x6_2 true l1 (l1.length : Int) (wrap64 (x24_3 + 1))) else (if t562 = 0 then (spec_quWatched.l2 k3 a0 l1 x5_1 x6_2 true l1 (l1.length : Int) (wrap64 (x24_3 + 1))) else (spec_quWatched.l2 k3 a0 l1 x5_1 x6_2 (t560 == t562) l1 (l1.length : Int) (wrap64 (x24_3 + 1)))))) = some r := H
                            have A11 := Aside0.mk A110
                            clear A110
                            by_cases c12 : x7_3 = true
                            · subst c12
                              have H1 : (spec_quWatched.l2 k3 a0 l1 x5_1 x6_2 true l1 (l1.length : Int) (wrap64 (x24_3 + 1))) = some r := by rw [if_pos rfl] at H; exact H
                              clear H
                              have H := H1
                              clear H1
                              have H' := Aside0.mk H
                              clear H
                              have p558 : 0 ≤ (x24_3 : Int) := of_decide_eq_true (by first | (with_reducible assumption) | assumption)
                              have q558 : x24_3 < (l1.length : Int) := of_decide_eq_true (by first | (with_reducible assumption) | assumption)
                              obtain ⟨ad558, A558_0, c558_0, e558, hx558_0, hl558_0, hi558_0⟩ := at_L1 HR1.out x24_3 p558 q558
                              cases e558
                              have HR558_0 := Aside0.mk hi558_0
                              have HC558_0 := Aside0.mk hl558_0
                              clear hi558_0 hl558_0
                              replace p558 := eq_true p558
                              replace q558 := eq_true q558
                              have p559 : 0 ≤ (0 : Int) := (by omega)
                              have q559 : 0 < ((rd_L1 l1 x24_3).length : Int) := of_decide_eq_true (by first | (with_reducible assumption) | assumption)
                              obtain ⟨ad559, e559, hx559_0⟩ := Kd.at_int HR558_0.out 0 p559 q559
                              cases e559
                              have qi559 : (0 < (rd_L1 l1 x24_3).length) = True := eq_true (by omega)
                              (try rw [show ((0 : Int)).toNat = 0 from rfl] at hx559_0)
                              (try rw [Addr.add_zero'] at hx559_0)
                              replace p559 := eq_true p559
                              replace q559 := eq_true q559
                              have p561 : 0 ≤ (1 : Int) := (by omega)
                              have q561 : 1 < ((rd_L1 l1 x24_3).length : Int) := of_decide_eq_true (by first | (with_reducible assumption) | assumption)
                              obtain ⟨ad561, e561, hx561_0⟩ := Kd.at_int HR558_0.out 1 p561 q561
                              obtain rfl : ad559 = ad561 := (by injection e561)
                              (try simp only [show (1 : Int).toNat = 1 from rfl, Nat.reduceMul, Nat.reduceEqDiff, Go.Addr.add, ↓reduceIte] at hx561_0)
                              have qi561 : (1 < (rd_L1 l1 x24_3).length) = True := eq_true (by omega)
                              (try rw [show ((1 : Int)).toNat = 1 from rfl] at hx561_0)
                              replace p561 := eq_true p561
                              replace q561 := eq_true q561
                              go_wp2_with (first | (go_at_call 97; (with_reducible refine (spec_l1Abs.calls (wrap64 ((rd (rd_L1 l1 x24_3) 0) - x5_1)) t560 _ A9.out).mono ?_); rintro e w' ⟨rfl, ⟨nd, rfl⟩⟩; (try first | exact ⟨rfl, _, World.drewN_drewN _ _ _⟩ | exact ⟨rfl, _, Eq.trans (World.drewN_drewN _ _ _) (congrArg (World.drewN _) (Nat.add_assoc _ _ _))⟩)) | (go_at_call 97; (with_reducible refine (spec_l1Abs.calls (wrap64 ((rd (rd_L1 l1 x24_3) 1) - x6_2)) t562 _ A11.out).mono ?_); rintro e w' ⟨rfl, ⟨nd, rfl⟩⟩; (try first | exact ⟨rfl, _, World.drewN_drewN _ _ _⟩ | exact ⟨rfl, _, Eq.trans (World.drewN_drewN _ _ _) (congrArg (World.drewN _) (Nat.add_assoc _ _ _))⟩)))
                              repeat (go_quiet (first | (go_at_call 97; (with_reducible refine (spec_l1Abs.calls (wrap64 ((rd (rd_L1 l1 x24_3) 0) - x5_1)) t560 _ A9.out).mono ?_); rintro e w' ⟨rfl, ⟨nd, rfl⟩⟩; (try first | exact ⟨rfl, _, World.drewN_drewN _ _ _⟩ | exact ⟨rfl, _, Eq.trans (World.drewN_drewN _ _ _) (congrArg (World.drewN _) (Nat.add_assoc _ _ _))⟩)) | (go_at_call 97; (with_reducible refine (spec_l1Abs.calls (wrap64 ((rd (rd_L1 l1 x24_3) 1) - x6_2)) t562 _ A11.out).mono ?_); rintro e w' ⟨rfl, ⟨nd, rfl⟩⟩; (try first | exact ⟨rfl, _, World.drewN_drewN _ _ _⟩ | exact ⟨rfl, _, Eq.trans (World.drewN_drewN _ _ _) (congrArg (World.drewN _) (Nat.add_assoc _ _ _))⟩))); try go_wp2_with (first | (go_at_call 97; (with_reducible refine (spec_l1Abs.calls (wrap64 ((rd (rd_L1 l1 x24_3) 0) - x5_1)) t560 _ A9.out).mono ?_); rintro e w' ⟨rfl, ⟨nd, rfl⟩⟩; (try first | exact ⟨rfl, _, World.drewN_drewN _ _ _⟩ | exact ⟨rfl, _, Eq.trans (World.drewN_drewN _ _ _) (congrArg (World.drewN _) (Nat.add_assoc _ _ _))⟩)) | (go_at_call 97; (with_reducible refine (spec_l1Abs.calls (wrap64 ((rd (rd_L1 l1 x24_3) 1) - x6_2)) t562 _ A11.out).mono ?_); rintro e w' ⟨rfl, ⟨nd, rfl⟩⟩; (try first | exact ⟨rfl, _, World.drewN_drewN _ _ _⟩ | exact ⟨rfl, _, Eq.trans (World.drewN_drewN _ _ _) (congrArg (World.drewN _) (Nat.add_assoc _ _ _))⟩))))
                              go_roundg k3
                              case measure => have := HK1.out; have := HK2.out; have := HK3.out; omega
                              case rel => exact ⟨(true), (wrap64 (x24_3 + 1)), (by first | rfl | (simp; done) | (simp [*]; done)), (by first | rfl | (simp; done) | (simp [*]; done)), H', ⟨by have := HK1.out; have := HK2.out; have := HK3.out; omega⟩, by repeat (first | exact Drawn0.refl _ | apply Drawn0.step)⟩
                            · replace c12 := Bool.eq_false_iff.mpr c12
                              subst c12
                              have H1 : (if t560 = 0 then (spec_quWatched.l2 k3 a0 l1 x5_1 x6_2 true l1 (l1.length : Int) (wrap64 (x24_3 + 1))) else (if t562 = 0 then (spec_quWatched.l2 k3 a0 l1 x5_1 x6_2 true l1 (l1.length : Int) (wrap64 (x24_3 + 1))) else (spec_quWatched.l2 k3 a0 l1 x5_1 x6_2 (t560 == t562) l1 (l1.length : Int) (wrap64 (x24_3 + 1))))) = some r := by rw [if_neg (show ¬ (false = true) by decide)] at H; exact H
                              clear H
                              have H := H1
                              clear H1
                              by_cases c13 : t560 = 0
                              · rw [if_pos c13] at H
                                have c13b0 : (t560 == 0) = true := beq_iff_eq.mpr c13
                                have c13b1 : (t560 != 0) = false := bne_eq_false_iff_eq.mpr c13
                                clear c13
                                have H' := Aside0.mk H
                                clear H
                                have p558 : 0 ≤ (x24_3 : Int) := of_decide_eq_true (by first | (with_reducible assumption) | assumption)
                                have q558 : x24_3 < (l1.length : Int) := of_decide_eq_true (by first | (with_reducible assumption) | assumption)
                                obtain ⟨ad558, A558_0, c558_0, e558, hx558_0, hl558_0, hi558_0⟩ := at_L1 HR1.out x24_3 p558 q558
                                cases e558
                                have HR558_0 := Aside0.mk hi558_0
                                have HC558_0 := Aside0.mk hl558_0
                                clear hi558_0 hl558_0
                                replace p558 := eq_true p558
                                replace q558 := eq_true q558
                                have p559 : 0 ≤ (0 : Int) := (by omega)
                                have q559 : 0 < ((rd_L1 l1 x24_3).length : Int) := of_decide_eq_true (by first | (with_reducible assumption) | assumption)
                                obtain ⟨ad559, e559, hx559_0⟩ := Kd.at_int HR558_0.out 0 p559 q559
                                cases e559
                                have qi559 : (0 < (rd_L1 l1 x24_3).length) = True := eq_true (by omega)
                                (try rw [show ((0 : Int)).toNat = 0 from rfl] at hx559_0)
                                (try rw [Addr.add_zero'] at hx559_0)
                                replace p559 := eq_true p559
                                replace q559 := eq_true q559
                                have p561 : 0 ≤ (1 : Int) := (by omega)
                                have q561 : 1 < ((rd_L1 l1 x24_3).length : Int) := of_decide_eq_true (by first | (with_reducible assumption) | assumption)
                                obtain ⟨ad561, e561, hx561_0⟩ := Kd.at_int HR558_0.out 1 p561 q561
                                obtain rfl : ad559 = ad561 := (by injection e561)
                                (try simp only [show (1 : Int).toNat = 1 from rfl, Nat.reduceMul, Nat.reduceEqDiff, Go.Addr.add, ↓reduceIte] at hx561_0)
                                have qi561 : (1 < (rd_L1 l1 x24_3).length) = True := eq_true (by omega)
                                (try rw [show ((1 : Int)).toNat = 1 from rfl] at hx561_0)
                                replace p561 := eq_true p561
                                replace q561 := eq_true q561
                                go_wp2_with (first | (go_at_call 97; (with_reducible refine (spec_l1Abs.calls (wrap64 ((rd (rd_L1 l1 x24_3) 0) - x5_1)) t560 _ A9.out).mono ?_); rintro e w' ⟨rfl, ⟨nd, rfl⟩⟩; (try first | exact ⟨rfl, _, World.drewN_drewN _ _ _⟩ | exact ⟨rfl, _, Eq.trans (World.drewN_drewN _ _ _) (congrArg (World.drewN _) (Nat.add_assoc _ _ _))⟩)) | (go_at_call 97; (with_reducible refine (spec_l1Abs.calls (wrap64 ((rd (rd_L1 l1 x24_3) 1) - x6_2)) t562 _ A11.out).mono ?_); rintro e w' ⟨rfl, ⟨nd, rfl⟩⟩; (try first | exact ⟨rfl, _, World.drewN_drewN _ _ _⟩ | exact ⟨rfl, _, Eq.trans (World.drewN_drewN _ _ _) (congrArg (World.drewN _) (Nat.add_assoc _ _ _))⟩)))
                                repeat (go_quiet (first | (go_at_call 97; (with_reducible refine (spec_l1Abs.calls (wrap64 ((rd (rd_L1 l1 x24_3) 0) - x5_1)) t560 _ A9.out).mono ?_); rintro e w' ⟨rfl, ⟨nd, rfl⟩⟩; (try first | exact ⟨rfl, _, World.drewN_drewN _ _ _⟩ | exact ⟨rfl, _, Eq.trans (World.drewN_drewN _ _ _) (congrArg (World.drewN _) (Nat.add_assoc _ _ _))⟩)) | (go_at_call 97; (with_reducible refine (spec_l1Abs.calls (wrap64 ((rd (rd_L1 l1 x24_3) 1) - x6_2)) t562 _ A11.out).mono ?_); rintro e w' ⟨rfl, ⟨nd, rfl⟩⟩; (try first | exact ⟨rfl, _, World.drewN_drewN _ _ _⟩ | exact ⟨rfl, _, Eq.trans (World.drewN_drewN _ _ _) (congrArg (World.drewN _) (Nat.add_assoc _ _ _))⟩))); try go_wp2_with (first | (go_at_call 97; (with_reducible refine (spec_l1Abs.calls (wrap64 ((rd (rd_L1 l1 x24_3) 0) - x5_1)) t560 _ A9.out).mono ?_); rintro e w' ⟨rfl, ⟨nd, rfl⟩⟩; (try first | exact ⟨rfl, _, World.drewN_drewN _ _ _⟩ | exact ⟨rfl, _, Eq.trans (World.drewN_drewN _ _ _) (congrArg (World.drewN _) (Nat.add_assoc _ _ _))⟩)) | (go_at_call 97; (with_reducible refine (spec_l1Abs.calls (wrap64 ((rd (rd_L1 l1 x24_3) 1) - x6_2)) t562 _ A11.out).mono ?_); rintro e w' ⟨rfl, ⟨nd, rfl⟩⟩; (try first | exact ⟨rfl, _, World.drewN_drewN _ _ _⟩ | exact ⟨rfl, _, Eq.trans (World.drewN_drewN _ _ _) (congrArg (World.drewN _) (Nat.add_assoc _ _ _))⟩))))
                                go_roundg k3
                                case measure => have := HK1.out; have := HK2.out; have := HK3.out; omega
                                case rel => exact ⟨(true), (wrap64 (x24_3 + 1)), (by first | rfl | (simp; done) | (simp [*]; done)), (by first | rfl | (simp; done) | (simp [*]; done)), H', ⟨by have := HK1.out; have := HK2.out; have := HK3.out; omega⟩, by repeat (first | exact Drawn0.refl _ | apply Drawn0.step)⟩
                              · rw [if_neg c13] at H
                                have c13b0 : (t560 == 0) = false := beq_eq_false_iff_ne.mpr c13
                                have c13b1 : (t560 != 0) = true := bne_iff_ne.mpr c13
                                by_cases c14 : t562 = 0
                                · rw [if_pos c14] at H
                                  have c14b0 : (t562 == 0) = true := beq_iff_eq.mpr c14
                                  have c14b1 : (t562 != 0) = false := bne_eq_false_iff_eq.mpr c14
                                  clear c14
                                  have H' := Aside0.mk H
                                  clear H
                                  have p558 : 0 ≤ (x24_3 : Int) := of_decide_eq_true (by first | (with_reducible assumption) | assumption)
                                  have q558 : x24_3 < (l1.length : Int) := of_decide_eq_true (by first | (with_reducible assumption) | assumption)
                                  obtain ⟨ad558, A558_0, c558_0, e558, hx558_0, hl558_0, hi558_0⟩ := at_L1 HR1.out x24_3 p558 q558
                                  cases e558
                                  have HR558_0 := Aside0.mk hi558_0
                                  have HC558_0 := Aside0.mk hl558_0
                                  clear hi558_0 hl558_0
                                  replace p558 := eq_true p558
                                  replace q558 := eq_true q558
                                  have p559 : 0 ≤ (0 : Int) := (by omega)
                                  have q559 : 0 < ((rd_L1 l1 x24_3).length : Int) := of_decide_eq_true (by first | (with_reducible assumption) | assumption)
                                  obtain ⟨ad559, e559, hx559_0⟩ := Kd.at_int HR558_0.out 0 p559 q559
                                  cases e559
                                  have qi559 : (0 < (rd_L1 l1 x24_3).length) = True := eq_true (by omega)
                                  (try rw [show ((0 : Int)).toNat = 0 from rfl] at hx559_0)
                                  (try rw [Addr.add_zero'] at hx559_0)
                                  replace p559 := eq_true p559
                                  replace q559 := eq_true q559
                                  have p561 : 0 ≤ (1 : Int) := (by omega)
                                  have q561 : 1 < ((rd_L1 l1 x24_3).length : Int) := of_decide_eq_true (by first | (with_reducible assumption) | assumption)
                                  obtain ⟨ad561, e561, hx561_0⟩ := Kd.at_int HR558_0.out 1 p561 q561
                                  obtain rfl : ad559 = ad561 := (by injection e561)
                                  (try simp only [show (1 : Int).toNat = 1 from rfl, Nat.reduceMul, Nat.reduceEqDiff, Go.Addr.add, ↓reduceIte] at hx561_0)
                                  have qi561 : (1 < (rd_L1 l1 x24_3).length) = True := eq_true (by omega)
                                  (try rw [show ((1 : Int)).toNat = 1 from rfl] at hx561_0)
                                  replace p561 := eq_true p561
                                  replace q561 := eq_true q561
                                  go_wp2_with (first | (go_at_call 97; (with_reducible refine (spec_l1Abs.calls (wrap64 ((rd (rd_L1 l1 x24_3) 0) - x5_1)) t560 _ A9.out).mono ?_); rintro e w' ⟨rfl, ⟨nd, rfl⟩⟩; (try first | exact ⟨rfl, _, World.drewN_drewN _ _ _⟩ | exact ⟨rfl, _, Eq.trans (World.drewN_drewN _ _ _) (congrArg (World.drewN _) (Nat.add_assoc _ _ _))⟩)) | (go_at_call 97; (with_reducible refine (spec_l1Abs.calls (wrap64 ((rd (rd_L1 l1 x24_3) 1) - x6_2)) t562 _ A11.out).mono ?_); rintro e w' ⟨rfl, ⟨nd, rfl⟩⟩; (try first | exact ⟨rfl, _, World.drewN_drewN _ _ _⟩ | exact ⟨rfl, _, Eq.trans (World.drewN_drewN _ _ _) (congrArg (World.drewN _) (Nat.add_assoc _ _ _))⟩)))
                                  repeat (go_quiet (first | (go_at_call 97; (with_reducible refine (spec_l1Abs.calls (wrap64 ((rd (rd_L1 l1 x24_3) 0) - x5_1)) t560 _ A9.out).mono ?_); rintro e w' ⟨rfl, ⟨nd, rfl⟩⟩; (try first | exact ⟨rfl, _, World.drewN_drewN _ _ _⟩ | exact ⟨rfl, _, Eq.trans (World.drewN_drewN _ _ _) (congrArg (World.drewN _) (Nat.add_assoc _ _ _))⟩)) | (go_at_call 97; (with_reducible refine (spec_l1Abs.calls (wrap64 ((rd (rd_L1 l1 x24_3) 1) - x6_2)) t562 _ A11.out).mono ?_); rintro e w' ⟨rfl, ⟨nd, rfl⟩⟩; (try first | exact ⟨rfl, _, World.drewN_drewN _ _ _⟩ | exact ⟨rfl, _, Eq.trans (World.drewN_drewN _ _ _) (congrArg (World.drewN _) (Nat.add_assoc _ _ _))⟩))); try go_wp2_with (first | (go_at_call 97; (with_reducible refine (spec_l1Abs.calls (wrap64 ((rd (rd_L1 l1 x24_3) 0) - x5_1)) t560 _ A9.out).mono ?_); rintro e w' ⟨rfl, ⟨nd, rfl⟩⟩; (try first | exact ⟨rfl, _, World.drewN_drewN _ _ _⟩ | exact ⟨rfl, _, Eq.trans (World.drewN_drewN _ _ _) (congrArg (World.drewN _) (Nat.add_assoc _ _ _))⟩)) | (go_at_call 97; (with_reducible refine (spec_l1Abs.calls (wrap64 ((rd (rd_L1 l1 x24_3) 1) - x6_2)) t562 _ A11.out).mono ?_); rintro e w' ⟨rfl, ⟨nd, rfl⟩⟩; (try first | exact ⟨rfl, _, World.drewN_drewN _ _ _⟩ | exact ⟨rfl, _, Eq.trans (World.drewN_drewN _ _ _) (congrArg (World.drewN _) (Nat.add_assoc _ _ _))⟩))))
                                  go_roundg k3
                                  case measure => have := HK1.out; have := HK2.out; have := HK3.out; omega
                                  case rel => exact ⟨(true), (wrap64 (x24_3 + 1)), (by first | rfl | (simp; done) | (simp [*]; done)), (by first | rfl | (simp; done) | (simp [*]; done)), H', ⟨by have := HK1.out; have := HK2.out; have := HK3.out; omega⟩, by repeat (first | exact Drawn0.refl _ | apply Drawn0.step)⟩
                                · rw [if_neg c14] at H
                                  have c14b0 : (t562 == 0) = false := beq_eq_false_iff_ne.mpr c14
                                  have c14b1 : (t562 != 0) = true := bne_iff_ne.mpr c14
                                  have H' := Aside0.mk H
                                  clear H
                                  have p558 : 0 ≤ (x24_3 : Int) := of_decide_eq_true (by first | (with_reducible assumption) | assumption)
                                  have q558 : x24_3 < (l1.length : Int) := of_decide_eq_true (by first | (with_reducible assumption) | assumption)
                                  obtain ⟨ad558, A558_0, c558_0, e558, hx558_0, hl558_0, hi558_0⟩ := at_L1 HR1.out x24_3 p558 q558
                                  cases e558
                                  have HR558_0 := Aside0.mk hi558_0
                                  have HC558_0 := Aside0.mk hl558_0
                                  clear hi558_0 hl558_0
                                  replace p558 := eq_true p558
                                  replace q558 := eq_true q558
                                  have p559 : 0 ≤ (0 : Int) := (by omega)
                                  have q559 : 0 < ((rd_L1 l1 x24_3).length : Int) := of_decide_eq_true (by first | (with_reducible assumption) | assumption)
                                  obtain ⟨ad559, e559, hx559_0⟩ := Kd.at_int HR558_0.out 0 p559 q559
                                  cases e559
                                  have qi559 : (0 < (rd_L1 l1 x24_3).length) = True := eq_true (by omega)
                                  (try rw [show ((0 : Int)).toNat = 0 from rfl] at hx559_0)
                                  (try rw [Addr.add_zero'] at hx559_0)
                                  replace p559 := eq_true p559
                                  replace q559 := eq_true q559
                                  have p561 : 0 ≤ (1 : Int) := (by omega)
                                  have q561 : 1 < ((rd_L1 l1 x24_3).length : Int) := of_decide_eq_true (by first | (with_reducible assumption) | assumption)
                                  obtain ⟨ad561, e561, hx561_0⟩ := Kd.at_int HR558_0.out 1 p561 q561
                                  obtain rfl : ad559 = ad561 := (by injection e561)
                                  (try simp only [show (1 : Int).toNat = 1 from rfl, Nat.reduceMul, Nat.reduceEqDiff, Go.Addr.add, ↓reduceIte] at hx561_0)
                                  have qi561 : (1 < (rd_L1 l1 x24_3).length) = True := eq_true (by omega)
                                  (try rw [show ((1 : Int)).toNat = 1 from rfl] at hx561_0)
                                  replace p561 := eq_true p561
                                  replace q561 := eq_true q561
                                  go_wp2_with (first | (go_at_call 97; (with_reducible refine (spec_l1Abs.calls (wrap64 ((rd (rd_L1 l1 x24_3) 0) - x5_1)) t560 _ A9.out).mono ?_); rintro e w' ⟨rfl, ⟨nd, rfl⟩⟩; (try first | exact ⟨rfl, _, World.drewN_drewN _ _ _⟩ | exact ⟨rfl, _, Eq.trans (World.drewN_drewN _ _ _) (congrArg (World.drewN _) (Nat.add_assoc _ _ _))⟩)) | (go_at_call 97; (with_reducible refine (spec_l1Abs.calls (wrap64 ((rd (rd_L1 l1 x24_3) 1) - x6_2)) t562 _ A11.out).mono ?_); rintro e w' ⟨rfl, ⟨nd, rfl⟩⟩; (try first | exact ⟨rfl, _, World.drewN_drewN _ _ _⟩ | exact ⟨rfl, _, Eq.trans (World.drewN_drewN _ _ _) (congrArg (World.drewN _) (Nat.add_assoc _ _ _))⟩)))
                                  repeat (go_quiet (first | (go_at_call 97; (with_reducible refine (spec_l1Abs.calls (wrap64 ((rd (rd_L1 l1 x24_3) 0) - x5_1)) t560 _ A9.out).mono ?_); rintro e w' ⟨rfl, ⟨nd, rfl⟩⟩; (try first | exact ⟨rfl, _, World.drewN_drewN _ _ _⟩ | exact ⟨rfl, _, Eq.trans (World.drewN_drewN _ _ _) (congrArg (World.drewN _) (Nat.add_assoc _ _ _))⟩)) | (go_at_call 97; (with_reducible refine (spec_l1Abs.calls (wrap64 ((rd (rd_L1 l1 x24_3) 1) - x6_2)) t562 _ A11.out).mono ?_); rintro e w' ⟨rfl, ⟨nd, rfl⟩⟩; (try first | exact ⟨rfl, _, World.drewN_drewN _ _ _⟩ | exact ⟨rfl, _, Eq.trans (World.drewN_drewN _ _ _) (congrArg (World.drewN _) (Nat.add_assoc _ _ _))⟩))); try go_wp2_with (first | (go_at_call 97; (with_reducible refine (spec_l1Abs.calls (wrap64 ((rd (rd_L1 l1 x24_3) 0) - x5_1)) t560 _ A9.out).mono ?_); rintro e w' ⟨rfl, ⟨nd, rfl⟩⟩; (try first | exact ⟨rfl, _, World.drewN_drewN _ _ _⟩ | exact ⟨rfl, _, Eq.trans (World.drewN_drewN _ _ _) (congrArg (World.drewN _) (Nat.add_assoc _ _ _))⟩)) | (go_at_call 97; (with_reducible refine (spec_l1Abs.calls (wrap64 ((rd (rd_L1 l1 x24_3) 1) - x6_2)) t562 _ A11.out).mono ?_); rintro e w' ⟨rfl, ⟨nd, rfl⟩⟩; (try first | exact ⟨rfl, _, World.drewN_drewN _ _ _⟩ | exact ⟨rfl, _, Eq.trans (World.drewN_drewN _ _ _) (congrArg (World.drewN _) (Nat.add_assoc _ _ _))⟩))))
                                  go_roundg k3
                                  case measure => have := HK1.out; have := HK2.out; have := HK3.out; omega
                                  case rel => exact ⟨((t560 == t562)), (wrap64 (x24_3 + 1)), (by first | rfl | (simp; done) | (simp [*]; done)), (by first | rfl | (simp; done) | (simp [*]; done)), H', ⟨by have := HK1.out; have := HK2.out; have := HK3.out; omega⟩, by repeat (first | exact Drawn0.refl _ | apply Drawn0.step)⟩
                          · rw [if_neg c10] at H
                            exact absurd H (by simp)
                        · rw [if_neg c8] at H
                          exact absurd H (by simp)
                      · rw [if_neg c7] at H
                        exact absurd H (by simp)
                    · rw [if_neg c6] at H
                      exact absurd H (by simp)
                  · rw [if_neg c5] at H
                    have c5b0 : decide (x24_3 < (l1.length : Int)) = false := decide_eq_false c5
                    clear c5
                    by_cases c15 : x7_3 = true
                    · subst c15
                      have H1 : (spec_quWatched.l1 k3 a0 l1 x5_1 (wrap64 (x6_2 + 1))) = some r := by rw [if_pos rfl] at H; exact H
                      clear H
                      have H := H1
                      clear H1
                      have H' := Aside0.mk H
                      clear H
                      go_wp2
                      repeat (go_quiet (fail); try go_wp2)
                      go_roundg k3
                      case measure => have := HK1.out; have := HK2.out; have := HK3.out; omega
                      case rel => exact ⟨(wrap64 (x6_2 + 1)), (by first | rfl | (simp; done) | (simp [*]; done)), H', ⟨by have := HK1.out; have := HK2.out; have := HK3.out; omega⟩, by repeat (first | exact Drawn0.refl _ | apply Drawn0.step)⟩
                    · replace c15 := Bool.eq_false_iff.mpr c15
                      subst c15
                      have H1 : (some false) = some r := by rw [if_neg (show ¬ (false = true) by decide)] at H; exact H
                      clear H
                      have H := H1
                      clear H1
                      obtain rfl := Option.some.inj H
                      go_wp2
                      repeat (go_quiet (fail); try go_wp2)
                      go_ret
                      exact ⟨by first | rfl | (simp; done) | (simp [*]; done), by repeat (first | exact Drawn0.refl _ | apply Drawn0.step)⟩
            · rw [if_neg c4] at H
              have c4b0 : decide (x6_2 < a0) = false := decide_eq_false c4
              clear c4
              have H' := Aside0.mk H
              clear H
              go_wp2
              repeat (go_quiet (fail); try go_wp2)
              go_roundg k2
              case measure => have := HK1.out; have := HK2.out; omega
              case rel => exact ⟨(wrap64 (x5_1 + 1)), (by first | rfl | (simp; done) | (simp [*]; done)), H', ⟨by have := HK1.out; have := HK2.out; omega⟩, by repeat (first | exact Drawn0.refl _ | apply Drawn0.step)⟩
      · rw [if_neg c3] at H
        have c3b0 : decide (x5_1 < a0) = false := decide_eq_false c3
        clear c3
        obtain rfl := Option.some.inj H
        go_wp2
        repeat (go_quiet (fail); try go_wp2)
        go_ret
        exact ⟨by first | rfl | (simp; done) | (simp [*]; done), by repeat (first | exact Drawn0.refl _ | apply Drawn0.step)⟩

end Go.Proofs.Ythjejaoadhhpdaa.P
