-- printed functions (wip/slim.py)
import Derived.Test.YthlcaikplebpmaaPx0
namespace Go.Proofs.Ythlcaikplebpmaa.P
noncomputable section
set_option maxHeartbeats 8000000
set_option maxRecDepth 100000
open Go.RowKit Go.Proofs.YthlcaikplebpmaaW.PrintWords Go.Proofs.YthlcaikplebpmaaW.PrintLast Go.Proofs.YthlcaikplebpmaaW.PrintMore
attribute [local go_sem] max2_int min2_int max_two min_two max_three min_three max_four min_four   -- for this text's walks alone
set_option linter.unusedVariables false
set_option linter.unusedSimpArgs false

/-! ### spec_l1Most: function 196 -/
def spec_l1Most.f (a0 : Int) (a1 : Int) : Option (Int) := if a0 > a1 then (some a0) else (some a1)
theorem spec_l1Most.calls (a0 : Int) (a1 : Int) (r : Int) (w : World) (h : spec_l1Most.f a0 a1 = some r) :
  Calls Try.prog 196 #[.int .i64 a0, .int .i64 a1] w fun e w' => e = .returned (.int .i64 r) ∧ Drawn0 w w' := by
 have H : (if a0 > a1 then (some a0) else (some a1)) = some r := h
 clear h
 by_cases c3 : a0 > a1
 ·
  rw [if_pos c3] at H
  have c3b0 := decide_eq_true c3
  clear c3
  obtain rfl := Option.some.inj H
  go_enter Try.func196, Try.ntmps196
  go_wp2
  go_ret
  exact ⟨tf_, dr_⟩
 ·
  rw [if_neg c3] at H
  have c3b0 := decide_eq_false c3
  clear c3
  obtain rfl := Option.some.inj H
  go_enter Try.func196, Try.ntmps196
  go_wp2
  go_ret
  exact ⟨tf_, dr_⟩

/-! ### spec_l1Abs: function 193 -/
def spec_l1Abs.f (a0 : Int) : Option (Int) := (spec_l1Most.f a0 (wrap64 (-a0))).bind fun t767 => (some t767)
theorem spec_l1Abs.calls (a0 : Int) (r : Int) (w : World) (h : spec_l1Abs.f a0 = some r) :
  Calls Try.prog 193 #[.int .i64 a0] w fun e w' => e = .returned (.int .i64 r) ∧ Drawn0 w w' := by
 have H : ((spec_l1Most.f a0 (wrap64 (-a0))).bind fun t767 => (some t767)) = some r := h
 clear h
 replace H := Option.bind_eq_some_iff.mp H
 obtain ⟨t767, A20, H⟩ := H
 replace H : (some t767) = some r := H
 have A2 := A_ A20
 clear A20
 obtain rfl := Option.some.inj H
 go_enter Try.func193, Try.ntmps193
 go_wp2_with (first | (refine gc_ 196 ?_; refine goesT_ (some 6) Try.func196 #[.int .i64 a0, .int .i64 (wrap64 (-a0))] ?_; (with_reducible refine (spec_l1Most.calls a0 (wrap64 (-a0)) t767 _ A2.out).mono ?_); rintro e w' ⟨rfl, ⟨nd, rfl⟩⟩; refine ⟨_, rfl, ?_⟩))
 go_ret
 exact ⟨tf_, dr_⟩

/-! ### spec_quWatched: function 127 -/
mutual
def spec_quWatched.l0 : Nat → Int → List (List Int) → Int → Option (Bool)
 | 0, _, _, _ => none
 | k + 1, x0, x1, x5 => if x5 < x0 then (spec_quWatched.l1 k x0 x1 x5 0) else (some true)
def spec_quWatched.l1 : Nat → Int → List (List Int) → Int → Int → Option (Bool)
 | 0, _, _, _, _ => none
 | k + 1, x0, x1, x5, x6 => if x6 < x0 then (spec_quWatched.l2 k x0 x1 x5 x6 false x1 (x1.length : Int) 0) else (spec_quWatched.l0 k x0 x1 (wrap64 (x5 + 1)))
def spec_quWatched.l2 : Nat → Int → List (List Int) → Int → Int → Bool → List (List Int) → Int → Int → Option (Bool)
 | 0, _, _, _, _, _, _, _, _ => none
 | k + 1, x0, x1, x5, x6, x7, x22, x23, x24 => if x24 < x23 then (if 0 ≤ x24 then (if x24 < (x22.length : Int) then (if 0 < ((rd_L1 x22 x24).length : Int) then ((spec_l1Abs.f (wrap64 ((rd (rd_L1 x22 x24) 0) - x5))).bind fun t850 => (if 1 < ((rd_L1 x22 x24).length : Int) then ((spec_l1Abs.f (wrap64 ((rd (rd_L1 x22 x24) 1) - x6))).bind fun t852 => (if x7 = true then (spec_quWatched.l2 k x0 x1 x5 x6 true x22 x23 (wrap64 (x24 + 1))) else (if t850 = 0 then (spec_quWatched.l2 k x0 x1 x5 x6 true x22 x23 (wrap64 (x24 + 1))) else (if t852 = 0 then (spec_quWatched.l2 k x0 x1 x5 x6 true x22 x23 (wrap64 (x24 + 1))) else (spec_quWatched.l2 k x0 x1 x5 x6 (t850 == t852) x22 x23 (wrap64 (x24 + 1))))))) else (none))) else (none)) else (none)) else (none)) else (if x7 = true then (spec_quWatched.l1 k x0 x1 x5 (wrap64 (x6 + 1))) else (some false))
end
def spec_quWatched.f (k : Nat) (a0 : Int) (l1 : List (List Int)) : Option (Bool) := spec_quWatched.l0 k a0 l1 0
theorem spec_quWatched.mono_l : ∀ k, (∀ y0 y1 y2, LeO (spec_quWatched.l0 k y0 y1 y2) (spec_quWatched.l0 (k + 1) y0 y1 y2)) ∧ (∀ y0 y1 y2 y3, LeO (spec_quWatched.l1 k y0 y1 y2 y3) (spec_quWatched.l1 (k + 1) y0 y1 y2 y3)) ∧ (∀ y0 y1 y2 y3 y4 y5 y6 y7, LeO (spec_quWatched.l2 k y0 y1 y2 y3 y4 y5 y6 y7) (spec_quWatched.l2 (k + 1) y0 y1 y2 y3 y4 y5 y6 y7))
 | 0 => ⟨fun _ _ _ r h => by simp [spec_quWatched.l0] at h, fun _ _ _ _ r h => by simp [spec_quWatched.l1] at h, fun _ _ _ _ _ _ _ _ r h => by simp [spec_quWatched.l2] at h⟩
 | k + 1 => by
  obtain ⟨ih0, ih1, ih2⟩ := spec_quWatched.mono_l k
  refine ⟨?_, ?_, ?_⟩
  ·
   intro y0 y1 y2
   unfold spec_quWatched.l0
   repeat' first | (with_reducible first | exact ih0 _ _ _ | exact ih1 _ _ _ _ | exact ih2 _ _ _ _ _ _ _ _ | exact LeO.refl _ | exact LeO.none _ | refine LeO.ite ?_ ?_ | refine LeO.bind ?_ (fun _ => ?_)) | exact ih0 _ _ _ | exact ih1 _ _ _ _ | exact ih2 _ _ _ _ _ _ _ _ | exact LeO.none _ | refine LeO.ite ?_ ?_ | refine LeO.bind ?_ (fun _ => ?_)
  ·
   intro y0 y1 y2 y3
   unfold spec_quWatched.l1
   repeat' first | (with_reducible first | exact ih0 _ _ _ | exact ih1 _ _ _ _ | exact ih2 _ _ _ _ _ _ _ _ | exact LeO.refl _ | exact LeO.none _ | refine LeO.ite ?_ ?_ | refine LeO.bind ?_ (fun _ => ?_)) | exact ih0 _ _ _ | exact ih1 _ _ _ _ | exact ih2 _ _ _ _ _ _ _ _ | exact LeO.none _ | refine LeO.ite ?_ ?_ | refine LeO.bind ?_ (fun _ => ?_)
  ·
   intro y0 y1 y2 y3 y4 y5 y6 y7
   unfold spec_quWatched.l2
   repeat' first | (with_reducible first | exact ih0 _ _ _ | exact ih1 _ _ _ _ | exact ih2 _ _ _ _ _ _ _ _ | exact LeO.refl _ | exact LeO.none _ | refine LeO.ite ?_ ?_ | refine LeO.bind ?_ (fun _ => ?_)) | exact ih0 _ _ _ | exact ih1 _ _ _ _ | exact ih2 _ _ _ _ _ _ _ _ | exact LeO.none _ | refine LeO.ite ?_ ?_ | refine LeO.bind ?_ (fun _ => ?_)
theorem spec_quWatched.mono : ∀ a0 a1 k, LeO (spec_quWatched.f k a0 a1) (spec_quWatched.f (k + 1) a0 a1) := by
 intro a0 a1 k
 obtain ⟨ih0, ih1, ih2⟩ := spec_quWatched.mono_l k
 unfold spec_quWatched.f
 repeat' first | (with_reducible first | exact ih0 _ _ _ | exact ih1 _ _ _ _ | exact ih2 _ _ _ _ _ _ _ _ | exact LeO.refl _ | exact LeO.none _ | refine LeO.ite ?_ ?_ | refine LeO.bind ?_ (fun _ => ?_)) | exact ih0 _ _ _ | exact ih1 _ _ _ _ | exact ih2 _ _ _ _ _ _ _ _ | exact LeO.none _ | refine LeO.ite ?_ ?_ | refine LeO.bind ?_ (fun _ => ?_)
theorem spec_quWatched.calls (k : Nat) (a0 : Int) (A1 : Option Addr) (c1 : Nat) (l1 : List (List Int)) (r : Bool) (w : World) (hr1 : Kd.C (Kd.slice 3 (Kd.int .i64)) w A1 l1.length l1) (hc1 : l1.length ≤ c1) (h : spec_quWatched.f k a0 l1 = some r) :
  Calls Try.prog 127 #[.int .i64 a0, .slice A1 l1.length c1] w fun e w' => e = .returned (.bool r) ∧ Drawn0 w w' := by
 have HR1 := A_ hr1
 have HC1 := A_ hc1
 clear hr1 hc1
 have H : (spec_quWatched.l0 k a0 l1 0) = some r := h
 clear h
 have H' := A_ H
 clear H
 go_enter Try.func127, Try.ntmps127
 go_wp2
 repeat (go_quiet (fail); try go_wp2)
 go_loopg [5] k (fun kq v5 w' => ∃ (x5_1 : Int), v5 = .int .i64 x5_1 ∧ Aside0 (spec_quWatched.l0 kq a0 l1 x5_1 = some r) ∧ Aside0 (kq ≤ k) ∧ Drawn0 w w')
 case atStart => exact ⟨(0), tf_, H', ⟨Nat.le_refl _⟩, dr_⟩
 case round =>
  clear H'
  try clear c1
  try clear p2
  obtain ⟨x5_1, rfl, HA, HK1, ⟨m1, rfl⟩⟩ := hrel
  cases gk with
  | zero => exact absurd HA.out (by simp [spec_quWatched.l0])
  | succ k1 =>
   have H := HA.out
   clear HA
   simp only [spec_quWatched.l0] at H
   by_cases c3 : x5_1 < a0
   ·
    rw [if_pos c3] at H
    have c3b0 := decide_eq_true c3
    clear c3
    have H' := A_ H
    clear H
    go_wp2
    repeat (go_quiet (fail); try go_wp2)
    go_loopg [6] k1 (fun kq v6 w' => ∃ (x6_2 : Int), v6 = .int .i64 x6_2 ∧ Aside0 (spec_quWatched.l1 kq a0 l1 x5_1 x6_2 = some r) ∧ Aside0 (kq ≤ k1) ∧ Drawn0 w w')
    case atStart => exact ⟨(0), tf_, H', ⟨Nat.le_refl _⟩, dr_⟩
    case round =>
     clear H'
     try clear c1
     try clear p2
     try clear c3
     try clear c3b0
     try clear p2
     obtain ⟨x6_2, rfl, HA, HK2, ⟨m2, rfl⟩⟩ := hrel
     cases gk with
     | zero => exact absurd HA.out (by simp [spec_quWatched.l1])
     | succ k2 =>
      have H := HA.out
      clear HA
      simp only [spec_quWatched.l1] at H
      by_cases c4 : x6_2 < a0
      ·
       rw [if_pos c4] at H
       have c4b0 := decide_eq_true c4
       clear c4
       have H' := A_ H
       clear H
       go_wp2
       repeat (go_quiet (fail); try go_wp2)
       go_loopg [7, 24] k2 (fun kq v7 v24 w' => ∃ (x7_3 : Bool) (x24_3 : Int), v7 = .bool x7_3 ∧ v24 = .int .i64 x24_3 ∧ Aside0 (spec_quWatched.l2 kq a0 l1 x5_1 x6_2 x7_3 l1 (l1.length : Int) x24_3 = some r) ∧ Aside0 (kq ≤ k2) ∧ Drawn0 w w')
       case atStart => exact ⟨(false), (0), tf_, tf_, H', ⟨Nat.le_refl _⟩, dr_⟩
       case round =>
        clear H'
        try clear c1
        try clear p2
        try clear c3
        try clear c3b0
        try clear c4
        try clear c4b0
        try clear p2
        obtain ⟨x7_3, x24_3, rfl, rfl, HA, HK3, ⟨m3, rfl⟩⟩ := hrel
        cases gk with
        | zero => exact absurd HA.out (by simp [spec_quWatched.l2])
        | succ k3 =>
         have H := HA.out
         clear HA
         simp only [spec_quWatched.l2] at H
         by_cases c5 : x24_3 < (l1.length : Int)
         ·
          rw [if_pos c5] at H
          have c5b0 := decide_eq_true c5
          clear c5
          by_cases c6 : 0 ≤ x24_3
          ·
           rw [if_pos c6] at H
           have c6b0 := decide_eq_true c6
           clear c6
           by_cases c7 : x24_3 < (l1.length : Int)
           ·
            rw [if_pos c7] at H
            have c7b0 := decide_eq_true c7
            clear c7
            by_cases c8 : 0 < ((rd_L1 l1 x24_3).length : Int)
            ·
             rw [if_pos c8] at H
             have c8b0 := decide_eq_true c8
             have c8b1 : decide (0 < (rd_L1 l1 x24_3).length) = true := decide_eq_true (by omega)
             clear c8
             replace H := Option.bind_eq_some_iff.mp H
             obtain ⟨t850, A90, H⟩ := H
             replace H : (if 1 < ((rd_L1 l1 x24_3).length : Int) then ((spec_l1Abs.f (wrap64 ((rd (rd_L1 l1 x24_3) 1) - x6_2))).bind fun t852 => (if x7_3 = true then (spec_quWatched.l2 k3 a0 l1 x5_1 x6_2 true l1 (l1.length : Int) (wrap64 (x24_3 + 1))) else (if t850 = 0 then (spec_quWatched.l2 k3 a0 l1 x5_1 x6_2 true l1 (l1.length : Int) (wrap64 (x24_3 + 1))) else (if t852 = 0 then (spec_quWatched.l2 k3 a0 l1 x5_1 x6_2 true l1 (l1.length : Int) (wrap64 (x24_3 + 1))) else (spec_quWatched.l2 k3 a0 l1 x5_1 x6_2 (t850 == t852) l1 (l1.length : Int) (wrap64 (x24_3 + 1))))))) else (none)) = some r := H
             have A9 := A_ A90
             clear A90
             by_cases c10 : 1 < ((rd_L1 l1 x24_3).length : Int)
             ·
              rw [if_pos c10] at H
              have c10b0 := decide_eq_true c10
              have c10b1 : decide (1 < (rd_L1 l1 x24_3).length) = true := decide_eq_true (by omega)
              clear c10
              replace H := Option.bind_eq_some_iff.mp H
              obtain ⟨t852, A110, H⟩ := H
              replace H : (if x7_3 = true then (spec_quWatched.l2 k3 a0 l1 x5_1 x6_2 true l1 (l1.length : Int) (wrap64 (x24_3 + 1))) else (if t850 = 0 then (spec_quWatched.l2 k3 a0 l1 x5_1 x6_2 true l1 (l1.length : Int) (wrap64 (x24_3 + 1))) else (if t852 = 0 then (spec_quWatched.l2 k3 a0 l1 x5_1 x6_2 true l1 (l1.length : Int) (wrap64 (x24_3 + 1))) else (spec_quWatched.l2 k3 a0 l1 x5_1 x6_2 (t850 == t852) l1 (l1.length : Int) (wrap64 (x24_3 + 1)))))) = some r := H
              have A11 := A_ A110
              clear A110
              by_cases c12 : x7_3 = true
              ·
               subst c12
               have H1 : (spec_quWatched.l2 k3 a0 l1 x5_1 x6_2 true l1 (l1.length : Int) (wrap64 (x24_3 + 1))) = some r := by rw [if_pos rfl] at H; exact H
               clear H
               have H := H1
               clear H1
               have H' := A_ H
               clear H
               have p848 : 0 ≤ (x24_3 : Int) := od_
               have q848 : x24_3 < (l1.length : Int) := od_
               obtain ⟨ad848, A848_0, c848_0, e848, hx848_0, hl848_0, hi848_0⟩ := at_L1 HR1.out x24_3 p848 q848
               cases e848
               have HR848_0 := A_ hi848_0
               have HC848_0 := A_ hl848_0
               clear hi848_0 hl848_0
               replace p848 := eq_true p848
               replace q848 := eq_true q848
               have p849 : 0 ≤ (0 : Int) := (by omega)
               have q849 : 0 < ((rd_L1 l1 x24_3).length : Int) := od_
               obtain ⟨ad849, e849, hx849_0⟩ := Kd.at_int HR848_0.out 0 p849 q849
               cases e849
               have qi849 : (0 < (rd_L1 l1 x24_3).length) = True := eq_true (by omega)
               (try rw [show ((0 : Int)).toNat = 0 from rfl] at hx849_0)
               (try rw [Addr.add_zero'] at hx849_0)
               replace p849 := eq_true p849
               replace q849 := eq_true q849
               have p851 : 0 ≤ (1 : Int) := (by omega)
               have q851 : 1 < ((rd_L1 l1 x24_3).length : Int) := od_
               obtain ⟨ad851, e851, hx851_0⟩ := Kd.at_int HR848_0.out 1 p851 q851
               obtain rfl : ad849 = ad851 := (by injection e851)
               (try simp only [show (1 : Int).toNat = 1 from rfl, Nat.reduceMul, Nat.reduceEqDiff, Go.Addr.add, ↓reduceIte] at hx851_0)
               have qi851 : (1 < (rd_L1 l1 x24_3).length) = True := eq_true (by omega)
               (try rw [show ((1 : Int)).toNat = 1 from rfl] at hx851_0)
               replace p851 := eq_true p851
               replace q851 := eq_true q851
               go_wp2_with (first | (go_at_call 193; (with_reducible refine (spec_l1Abs.calls (wrap64 ((rd (rd_L1 l1 x24_3) 0) - x5_1)) t850 _ A9.out).mono ?_); rintro e w' ⟨rfl, ⟨nd, rfl⟩⟩; (try exact dn_)) | (go_at_call 193; (with_reducible refine (spec_l1Abs.calls (wrap64 ((rd (rd_L1 l1 x24_3) 1) - x6_2)) t852 _ A11.out).mono ?_); rintro e w' ⟨rfl, ⟨nd, rfl⟩⟩; (try exact dn_)))
               repeat (go_quiet (first | (go_at_call 193; (with_reducible refine (spec_l1Abs.calls (wrap64 ((rd (rd_L1 l1 x24_3) 0) - x5_1)) t850 _ A9.out).mono ?_); rintro e w' ⟨rfl, ⟨nd, rfl⟩⟩; (try exact dn_)) | (go_at_call 193; (with_reducible refine (spec_l1Abs.calls (wrap64 ((rd (rd_L1 l1 x24_3) 1) - x6_2)) t852 _ A11.out).mono ?_); rintro e w' ⟨rfl, ⟨nd, rfl⟩⟩; (try exact dn_))); try go_wp2_with (first | (go_at_call 193; (with_reducible refine (spec_l1Abs.calls (wrap64 ((rd (rd_L1 l1 x24_3) 0) - x5_1)) t850 _ A9.out).mono ?_); rintro e w' ⟨rfl, ⟨nd, rfl⟩⟩; (try exact dn_)) | (go_at_call 193; (with_reducible refine (spec_l1Abs.calls (wrap64 ((rd (rd_L1 l1 x24_3) 1) - x6_2)) t852 _ A11.out).mono ?_); rintro e w' ⟨rfl, ⟨nd, rfl⟩⟩; (try exact dn_))))
               go_roundg k3
               case measure => have := HK1.out; have := HK2.out; have := HK3.out; omega
               case rel => exact ⟨(true), (wrap64 (x24_3 + 1)), tf_, tf_, H', ⟨by have := HK1.out; have := HK2.out; have := HK3.out; omega⟩, dr_⟩
              ·
               replace c12 := Bool.eq_false_iff.mpr c12
               subst c12
               have H1 : (if t850 = 0 then (spec_quWatched.l2 k3 a0 l1 x5_1 x6_2 true l1 (l1.length : Int) (wrap64 (x24_3 + 1))) else (if t852 = 0 then (spec_quWatched.l2 k3 a0 l1 x5_1 x6_2 true l1 (l1.length : Int) (wrap64 (x24_3 + 1))) else (spec_quWatched.l2 k3 a0 l1 x5_1 x6_2 (t850 == t852) l1 (l1.length : Int) (wrap64 (x24_3 + 1))))) = some r := by rw [if_neg (show ¬ (false = true) by decide)] at H; exact H
               clear H
               have H := H1
               clear H1
               by_cases c13 : t850 = 0
               ·
                rw [if_pos c13] at H
                have c13b0 : (t850 == 0) = true := beq_iff_eq.mpr c13
                have c13b1 : (t850 != 0) = false := bne_eq_false_iff_eq.mpr c13
                clear c13
                have H' := A_ H
                clear H
                have p848 : 0 ≤ (x24_3 : Int) := od_
                have q848 : x24_3 < (l1.length : Int) := od_
                obtain ⟨ad848, A848_0, c848_0, e848, hx848_0, hl848_0, hi848_0⟩ := at_L1 HR1.out x24_3 p848 q848
                cases e848
                have HR848_0 := A_ hi848_0
                have HC848_0 := A_ hl848_0
                clear hi848_0 hl848_0
                replace p848 := eq_true p848
                replace q848 := eq_true q848
                have p849 : 0 ≤ (0 : Int) := (by omega)
                have q849 : 0 < ((rd_L1 l1 x24_3).length : Int) := od_
                obtain ⟨ad849, e849, hx849_0⟩ := Kd.at_int HR848_0.out 0 p849 q849
                cases e849
                have qi849 : (0 < (rd_L1 l1 x24_3).length) = True := eq_true (by omega)
                (try rw [show ((0 : Int)).toNat = 0 from rfl] at hx849_0)
                (try rw [Addr.add_zero'] at hx849_0)
                replace p849 := eq_true p849
                replace q849 := eq_true q849
                have p851 : 0 ≤ (1 : Int) := (by omega)
                have q851 : 1 < ((rd_L1 l1 x24_3).length : Int) := od_
                obtain ⟨ad851, e851, hx851_0⟩ := Kd.at_int HR848_0.out 1 p851 q851
                obtain rfl : ad849 = ad851 := (by injection e851)
                (try simp only [show (1 : Int).toNat = 1 from rfl, Nat.reduceMul, Nat.reduceEqDiff, Go.Addr.add, ↓reduceIte] at hx851_0)
                have qi851 : (1 < (rd_L1 l1 x24_3).length) = True := eq_true (by omega)
                (try rw [show ((1 : Int)).toNat = 1 from rfl] at hx851_0)
                replace p851 := eq_true p851
                replace q851 := eq_true q851
                go_wp2_with (first | (go_at_call 193; (with_reducible refine (spec_l1Abs.calls (wrap64 ((rd (rd_L1 l1 x24_3) 0) - x5_1)) t850 _ A9.out).mono ?_); rintro e w' ⟨rfl, ⟨nd, rfl⟩⟩; (try exact dn_)) | (go_at_call 193; (with_reducible refine (spec_l1Abs.calls (wrap64 ((rd (rd_L1 l1 x24_3) 1) - x6_2)) t852 _ A11.out).mono ?_); rintro e w' ⟨rfl, ⟨nd, rfl⟩⟩; (try exact dn_)))
                repeat (go_quiet (first | (go_at_call 193; (with_reducible refine (spec_l1Abs.calls (wrap64 ((rd (rd_L1 l1 x24_3) 0) - x5_1)) t850 _ A9.out).mono ?_); rintro e w' ⟨rfl, ⟨nd, rfl⟩⟩; (try exact dn_)) | (go_at_call 193; (with_reducible refine (spec_l1Abs.calls (wrap64 ((rd (rd_L1 l1 x24_3) 1) - x6_2)) t852 _ A11.out).mono ?_); rintro e w' ⟨rfl, ⟨nd, rfl⟩⟩; (try exact dn_))); try go_wp2_with (first | (go_at_call 193; (with_reducible refine (spec_l1Abs.calls (wrap64 ((rd (rd_L1 l1 x24_3) 0) - x5_1)) t850 _ A9.out).mono ?_); rintro e w' ⟨rfl, ⟨nd, rfl⟩⟩; (try exact dn_)) | (go_at_call 193; (with_reducible refine (spec_l1Abs.calls (wrap64 ((rd (rd_L1 l1 x24_3) 1) - x6_2)) t852 _ A11.out).mono ?_); rintro e w' ⟨rfl, ⟨nd, rfl⟩⟩; (try exact dn_))))
                go_roundg k3
                case measure => have := HK1.out; have := HK2.out; have := HK3.out; omega
                case rel => exact ⟨(true), (wrap64 (x24_3 + 1)), tf_, tf_, H', ⟨by have := HK1.out; have := HK2.out; have := HK3.out; omega⟩, dr_⟩
               ·
                rw [if_neg c13] at H
                have c13b0 : (t850 == 0) = false := beq_eq_false_iff_ne.mpr c13
                have c13b1 : (t850 != 0) = true := bne_iff_ne.mpr c13
                by_cases c14 : t852 = 0
                ·
                 rw [if_pos c14] at H
                 have c14b0 : (t852 == 0) = true := beq_iff_eq.mpr c14
                 have c14b1 : (t852 != 0) = false := bne_eq_false_iff_eq.mpr c14
                 clear c14
                 have H' := A_ H
                 clear H
                 have p848 : 0 ≤ (x24_3 : Int) := od_
                 have q848 : x24_3 < (l1.length : Int) := od_
                 obtain ⟨ad848, A848_0, c848_0, e848, hx848_0, hl848_0, hi848_0⟩ := at_L1 HR1.out x24_3 p848 q848
                 cases e848
                 have HR848_0 := A_ hi848_0
                 have HC848_0 := A_ hl848_0
                 clear hi848_0 hl848_0
                 replace p848 := eq_true p848
                 replace q848 := eq_true q848
                 have p849 : 0 ≤ (0 : Int) := (by omega)
                 have q849 : 0 < ((rd_L1 l1 x24_3).length : Int) := od_
                 obtain ⟨ad849, e849, hx849_0⟩ := Kd.at_int HR848_0.out 0 p849 q849
                 cases e849
                 have qi849 : (0 < (rd_L1 l1 x24_3).length) = True := eq_true (by omega)
                 (try rw [show ((0 : Int)).toNat = 0 from rfl] at hx849_0)
                 (try rw [Addr.add_zero'] at hx849_0)
                 replace p849 := eq_true p849
                 replace q849 := eq_true q849
                 have p851 : 0 ≤ (1 : Int) := (by omega)
                 have q851 : 1 < ((rd_L1 l1 x24_3).length : Int) := od_
                 obtain ⟨ad851, e851, hx851_0⟩ := Kd.at_int HR848_0.out 1 p851 q851
                 obtain rfl : ad849 = ad851 := (by injection e851)
                 (try simp only [show (1 : Int).toNat = 1 from rfl, Nat.reduceMul, Nat.reduceEqDiff, Go.Addr.add, ↓reduceIte] at hx851_0)
                 have qi851 : (1 < (rd_L1 l1 x24_3).length) = True := eq_true (by omega)
                 (try rw [show ((1 : Int)).toNat = 1 from rfl] at hx851_0)
                 replace p851 := eq_true p851
                 replace q851 := eq_true q851
                 go_wp2_with (first | (go_at_call 193; (with_reducible refine (spec_l1Abs.calls (wrap64 ((rd (rd_L1 l1 x24_3) 0) - x5_1)) t850 _ A9.out).mono ?_); rintro e w' ⟨rfl, ⟨nd, rfl⟩⟩; (try exact dn_)) | (go_at_call 193; (with_reducible refine (spec_l1Abs.calls (wrap64 ((rd (rd_L1 l1 x24_3) 1) - x6_2)) t852 _ A11.out).mono ?_); rintro e w' ⟨rfl, ⟨nd, rfl⟩⟩; (try exact dn_)))
                 repeat (go_quiet (first | (go_at_call 193; (with_reducible refine (spec_l1Abs.calls (wrap64 ((rd (rd_L1 l1 x24_3) 0) - x5_1)) t850 _ A9.out).mono ?_); rintro e w' ⟨rfl, ⟨nd, rfl⟩⟩; (try exact dn_)) | (go_at_call 193; (with_reducible refine (spec_l1Abs.calls (wrap64 ((rd (rd_L1 l1 x24_3) 1) - x6_2)) t852 _ A11.out).mono ?_); rintro e w' ⟨rfl, ⟨nd, rfl⟩⟩; (try exact dn_))); try go_wp2_with (first | (go_at_call 193; (with_reducible refine (spec_l1Abs.calls (wrap64 ((rd (rd_L1 l1 x24_3) 0) - x5_1)) t850 _ A9.out).mono ?_); rintro e w' ⟨rfl, ⟨nd, rfl⟩⟩; (try exact dn_)) | (go_at_call 193; (with_reducible refine (spec_l1Abs.calls (wrap64 ((rd (rd_L1 l1 x24_3) 1) - x6_2)) t852 _ A11.out).mono ?_); rintro e w' ⟨rfl, ⟨nd, rfl⟩⟩; (try exact dn_))))
                 go_roundg k3
                 case measure => have := HK1.out; have := HK2.out; have := HK3.out; omega
                 case rel => exact ⟨(true), (wrap64 (x24_3 + 1)), tf_, tf_, H', ⟨by have := HK1.out; have := HK2.out; have := HK3.out; omega⟩, dr_⟩
                ·
                 rw [if_neg c14] at H
                 have c14b0 : (t852 == 0) = false := beq_eq_false_iff_ne.mpr c14
                 have c14b1 : (t852 != 0) = true := bne_iff_ne.mpr c14
                 have H' := A_ H
                 clear H
                 have p848 : 0 ≤ (x24_3 : Int) := od_
                 have q848 : x24_3 < (l1.length : Int) := od_
                 obtain ⟨ad848, A848_0, c848_0, e848, hx848_0, hl848_0, hi848_0⟩ := at_L1 HR1.out x24_3 p848 q848
                 cases e848
                 have HR848_0 := A_ hi848_0
                 have HC848_0 := A_ hl848_0
                 clear hi848_0 hl848_0
                 replace p848 := eq_true p848
                 replace q848 := eq_true q848
                 have p849 : 0 ≤ (0 : Int) := (by omega)
                 have q849 : 0 < ((rd_L1 l1 x24_3).length : Int) := od_
                 obtain ⟨ad849, e849, hx849_0⟩ := Kd.at_int HR848_0.out 0 p849 q849
                 cases e849
                 have qi849 : (0 < (rd_L1 l1 x24_3).length) = True := eq_true (by omega)
                 (try rw [show ((0 : Int)).toNat = 0 from rfl] at hx849_0)
                 (try rw [Addr.add_zero'] at hx849_0)
                 replace p849 := eq_true p849
                 replace q849 := eq_true q849
                 have p851 : 0 ≤ (1 : Int) := (by omega)
                 have q851 : 1 < ((rd_L1 l1 x24_3).length : Int) := od_
                 obtain ⟨ad851, e851, hx851_0⟩ := Kd.at_int HR848_0.out 1 p851 q851
                 obtain rfl : ad849 = ad851 := (by injection e851)
                 (try simp only [show (1 : Int).toNat = 1 from rfl, Nat.reduceMul, Nat.reduceEqDiff, Go.Addr.add, ↓reduceIte] at hx851_0)
                 have qi851 : (1 < (rd_L1 l1 x24_3).length) = True := eq_true (by omega)
                 (try rw [show ((1 : Int)).toNat = 1 from rfl] at hx851_0)
                 replace p851 := eq_true p851
                 replace q851 := eq_true q851
                 go_wp2_with (first | (go_at_call 193; (with_reducible refine (spec_l1Abs.calls (wrap64 ((rd (rd_L1 l1 x24_3) 0) - x5_1)) t850 _ A9.out).mono ?_); rintro e w' ⟨rfl, ⟨nd, rfl⟩⟩; (try exact dn_)) | (go_at_call 193; (with_reducible refine (spec_l1Abs.calls (wrap64 ((rd (rd_L1 l1 x24_3) 1) - x6_2)) t852 _ A11.out).mono ?_); rintro e w' ⟨rfl, ⟨nd, rfl⟩⟩; (try exact dn_)))
                 repeat (go_quiet (first | (go_at_call 193; (with_reducible refine (spec_l1Abs.calls (wrap64 ((rd (rd_L1 l1 x24_3) 0) - x5_1)) t850 _ A9.out).mono ?_); rintro e w' ⟨rfl, ⟨nd, rfl⟩⟩; (try exact dn_)) | (go_at_call 193; (with_reducible refine (spec_l1Abs.calls (wrap64 ((rd (rd_L1 l1 x24_3) 1) - x6_2)) t852 _ A11.out).mono ?_); rintro e w' ⟨rfl, ⟨nd, rfl⟩⟩; (try exact dn_))); try go_wp2_with (first | (go_at_call 193; (with_reducible refine (spec_l1Abs.calls (wrap64 ((rd (rd_L1 l1 x24_3) 0) - x5_1)) t850 _ A9.out).mono ?_); rintro e w' ⟨rfl, ⟨nd, rfl⟩⟩; (try exact dn_)) | (go_at_call 193; (with_reducible refine (spec_l1Abs.calls (wrap64 ((rd (rd_L1 l1 x24_3) 1) - x6_2)) t852 _ A11.out).mono ?_); rintro e w' ⟨rfl, ⟨nd, rfl⟩⟩; (try exact dn_))))
                 go_roundg k3
                 case measure => have := HK1.out; have := HK2.out; have := HK3.out; omega
                 case rel => exact ⟨((t850 == t852)), (wrap64 (x24_3 + 1)), tf_, tf_, H', ⟨by have := HK1.out; have := HK2.out; have := HK3.out; omega⟩, dr_⟩
             ·
              rw [if_neg c10] at H
              exact absurd H (by simp)
            ·
             rw [if_neg c8] at H
             exact absurd H (by simp)
           ·
            rw [if_neg c7] at H
            exact absurd H (by simp)
          ·
           rw [if_neg c6] at H
           exact absurd H (by simp)
         ·
          rw [if_neg c5] at H
          have c5b0 := decide_eq_false c5
          clear c5
          by_cases c15 : x7_3 = true
          ·
           subst c15
           have H1 : (spec_quWatched.l1 k3 a0 l1 x5_1 (wrap64 (x6_2 + 1))) = some r := by rw [if_pos rfl] at H; exact H
           clear H
           have H := H1
           clear H1
           have H' := A_ H
           clear H
           go_wp2
           repeat (go_quiet (fail); try go_wp2)
           go_roundg k3
           case measure => have := HK1.out; have := HK2.out; have := HK3.out; omega
           case rel => exact ⟨(wrap64 (x6_2 + 1)), tf_, H', ⟨by have := HK1.out; have := HK2.out; have := HK3.out; omega⟩, dr_⟩
          ·
           replace c15 := Bool.eq_false_iff.mpr c15
           subst c15
           have H1 : (some false) = some r := by rw [if_neg (show ¬ (false = true) by decide)] at H; exact H
           clear H
           have H := H1
           clear H1
           obtain rfl := Option.some.inj H
           go_wp2
           repeat (go_quiet (fail); try go_wp2)
           go_ret
           exact ⟨tf_, dr_⟩
      ·
       rw [if_neg c4] at H
       have c4b0 := decide_eq_false c4
       clear c4
       have H' := A_ H
       clear H
       go_wp2
       repeat (go_quiet (fail); try go_wp2)
       go_roundg k2
       case measure => have := HK1.out; have := HK2.out; omega
       case rel => exact ⟨(wrap64 (x5_1 + 1)), tf_, H', ⟨by have := HK1.out; have := HK2.out; omega⟩, dr_⟩
   ·
    rw [if_neg c3] at H
    have c3b0 := decide_eq_false c3
    clear c3
    obtain rfl := Option.some.inj H
    go_wp2
    repeat (go_quiet (fail); try go_wp2)
    go_ret
    exact ⟨tf_, dr_⟩

end
end Go.Proofs.Ythlcaikplebpmaa.P
