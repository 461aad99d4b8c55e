-- printed functions (wip/slim.py)
import Derived.Test.YthlcaikplebpmaaPx0
import Derived.Test.YthlcaikplebpmaaQ3d13ff768b
namespace Go.Proofs.Ythlcaikplebpmaa.P
noncomputable section
set_option maxHeartbeats 8000000
set_option maxRecDepth 100000
open Go.RowKit Go.Proofs.YthlcaikplebpmaaW.PrintWords Go.Proofs.YthlcaikplebpmaaW.PrintLast Go.Proofs.YthlcaikplebpmaaW.PrintMore
attribute [local go_sem] max2_int min2_int max_two min_two max_three min_three max_four min_four   -- for this text's walks alone
set_option linter.unusedVariables false
set_option linter.unusedSimpArgs false

/-! ### spec_fiBlocks: function 154 -/
mutual
def spec_fiBlocks.l0 : Nat → List (List Int) → Bool → Int → List (List Int) → Int → Int → Option (Int)
 | 0, _, _, _, _, _, _ => none
 | k + 1, x0, x1, x5, x16, x17, x18 => if x18 < x17 then (if 0 ≤ x18 then (if x18 < (x16.length : Int) then (if ((rd_L1 x16 x18).length : Int) = 0 then (some 0) else (if ((rd_L1 x16 x18).length : Int) > (wrap64 (6 - x5)) then (some 0) else (spec_fiBlocks.l0 k x0 x1 (wrap64 (x5 + ((rd_L1 x16 x18).length : Int))) x16 x17 (wrap64 (x18 + 1))))) else (none)) else (none)) else (spec_fiBlocks.l1 k x0 x1 x5 ([] : List Int) x0 (x0.length : Int) 0)
def spec_fiBlocks.l1 : Nat → List (List Int) → Bool → Int → List Int → List (List Int) → Int → Int → Option (Int)
 | 0, _, _, _, _, _, _, _ => none
 | k + 1, x0, x1, x5, x8, x37, x38, x39 => if x39 < x38 then (if 0 ≤ x39 then (if x39 < (x37.length : Int) then (spec_fiBlocks.l2 k x0 x1 x5 x8 x39 (rd_L1 x37 x39) x37 x38 x39 (rd_L1 x37 x39) ((rd_L1 x37 x39).length : Int) 0) else (none)) else (none)) else (some x5)
def spec_fiBlocks.l2 : Nat → List (List Int) → Bool → Int → List Int → Int → List Int → List (List Int) → Int → Int → List Int → Int → Int → Option (Int)
 | 0, _, _, _, _, _, _, _, _, _, _, _, _ => none
 | k + 1, x0, x1, x5, x8, x9, x10, x37, x38, x39, x44, x45, x46 => if x46 < x45 then (if 0 ≤ x46 then (if x46 < (x44.length : Int) then ((spec_l1In.f (rd x44 x46) 0 (wrap64 (x5 - 1))).bind fun t1437 => (if t1437 = true then ((spec_l1Has.f k x8 (rd x44 x46)).bind fun t1438 => (if t1438 = true then (some 0) else (if x46 > 0 then (if 0 < (x10.length : Int) then (if (rd x44 x46) < (rd x10 0) then (some 0) else (if x1 = true then (if 0 ≤ (wrap64 (x46 - 1)) then (if (wrap64 (x46 - 1)) < (x10.length : Int) then (if (rd x44 x46) < (rd x10 (wrap64 (x46 - 1))) then (some 0) else (if x8.length < 17592186044416 then (spec_fiBlocks.l2 k x0 x1 x5 (x8 ++ [rd x44 x46]) x9 x10 x37 x38 x39 x44 x45 (wrap64 (x46 + 1))) else (none))) else (none)) else (none)) else (if x8.length < 17592186044416 then (spec_fiBlocks.l2 k x0 x1 x5 (x8 ++ [rd x44 x46]) x9 x10 x37 x38 x39 x44 x45 (wrap64 (x46 + 1))) else (none)))) else (none)) else (if x8.length < 17592186044416 then (spec_fiBlocks.l2 k x0 x1 x5 (x8 ++ [rd x44 x46]) x9 x10 x37 x38 x39 x44 x45 (wrap64 (x46 + 1))) else (none))))) else (some 0))) else (none)) else (none)) else (if x9 > 0 then (if 0 < (x10.length : Int) then (if 0 ≤ (wrap64 (x9 - 1)) then (if (wrap64 (x9 - 1)) < (x0.length : Int) then (if 0 < ((rd_L1 x0 (wrap64 (x9 - 1))).length : Int) then (if (rd x10 0) < (rd (rd_L1 x0 (wrap64 (x9 - 1))) 0) then (some 0) else (spec_fiBlocks.l1 k x0 x1 x5 x8 x37 x38 (wrap64 (x39 + 1)))) else (none)) else (none)) else (none)) else (none)) else (spec_fiBlocks.l1 k x0 x1 x5 x8 x37 x38 (wrap64 (x39 + 1))))
end
def spec_fiBlocks.f (k : Nat) (l0 : List (List Int)) (a1 : Bool) : Option (Int) := if (l0.length : Int) > 6 then (some 0) else (spec_fiBlocks.l0 k l0 a1 0 l0 (l0.length : Int) 0)
theorem spec_fiBlocks.mono_l : ∀ k, (∀ y0 y1 y2 y3 y4 y5, LeO (spec_fiBlocks.l0 k y0 y1 y2 y3 y4 y5) (spec_fiBlocks.l0 (k + 1) y0 y1 y2 y3 y4 y5)) ∧ (∀ y0 y1 y2 y3 y4 y5 y6, LeO (spec_fiBlocks.l1 k y0 y1 y2 y3 y4 y5 y6) (spec_fiBlocks.l1 (k + 1) y0 y1 y2 y3 y4 y5 y6)) ∧ (∀ y0 y1 y2 y3 y4 y5 y6 y7 y8 y9 y10 y11, LeO (spec_fiBlocks.l2 k y0 y1 y2 y3 y4 y5 y6 y7 y8 y9 y10 y11) (spec_fiBlocks.l2 (k + 1) y0 y1 y2 y3 y4 y5 y6 y7 y8 y9 y10 y11))
 | 0 => ⟨fun _ _ _ _ _ _ r h => by simp [spec_fiBlocks.l0] at h, fun _ _ _ _ _ _ _ r h => by simp [spec_fiBlocks.l1] at h, fun _ _ _ _ _ _ _ _ _ _ _ _ r h => by simp [spec_fiBlocks.l2] at h⟩
 | k + 1 => by
  obtain ⟨ih0, ih1, ih2⟩ := spec_fiBlocks.mono_l k
  refine ⟨?_, ?_, ?_⟩
  ·
   intro y0 y1 y2 y3 y4 y5
   unfold spec_fiBlocks.l0
   repeat' first | (with_reducible first | exact ih0 _ _ _ _ _ _ | exact ih1 _ _ _ _ _ _ _ | exact ih2 _ _ _ _ _ _ _ _ _ _ _ _ | exact spec_l1Has.mono _ _ _ | exact LeO.refl _ | exact LeO.none _ | refine LeO.ite ?_ ?_ | refine LeO.bind ?_ (fun _ => ?_)) | exact ih0 _ _ _ _ _ _ | exact ih1 _ _ _ _ _ _ _ | exact ih2 _ _ _ _ _ _ _ _ _ _ _ _ | exact spec_l1Has.mono _ _ _ | exact LeO.none _ | refine LeO.ite ?_ ?_ | refine LeO.bind ?_ (fun _ => ?_)
  ·
   intro y0 y1 y2 y3 y4 y5 y6
   unfold spec_fiBlocks.l1
   repeat' first | (with_reducible first | exact ih0 _ _ _ _ _ _ | exact ih1 _ _ _ _ _ _ _ | exact ih2 _ _ _ _ _ _ _ _ _ _ _ _ | exact spec_l1Has.mono _ _ _ | exact LeO.refl _ | exact LeO.none _ | refine LeO.ite ?_ ?_ | refine LeO.bind ?_ (fun _ => ?_)) | exact ih0 _ _ _ _ _ _ | exact ih1 _ _ _ _ _ _ _ | exact ih2 _ _ _ _ _ _ _ _ _ _ _ _ | exact spec_l1Has.mono _ _ _ | exact LeO.none _ | refine LeO.ite ?_ ?_ | refine LeO.bind ?_ (fun _ => ?_)
  ·
   intro y0 y1 y2 y3 y4 y5 y6 y7 y8 y9 y10 y11
   unfold spec_fiBlocks.l2
   repeat' first | (with_reducible first | exact ih0 _ _ _ _ _ _ | exact ih1 _ _ _ _ _ _ _ | exact ih2 _ _ _ _ _ _ _ _ _ _ _ _ | exact spec_l1Has.mono _ _ _ | exact LeO.refl _ | exact LeO.none _ | refine LeO.ite ?_ ?_ | refine LeO.bind ?_ (fun _ => ?_)) | exact ih0 _ _ _ _ _ _ | exact ih1 _ _ _ _ _ _ _ | exact ih2 _ _ _ _ _ _ _ _ _ _ _ _ | exact spec_l1Has.mono _ _ _ | exact LeO.none _ | refine LeO.ite ?_ ?_ | refine LeO.bind ?_ (fun _ => ?_)
theorem spec_fiBlocks.mono : ∀ a0 a1 k, LeO (spec_fiBlocks.f k a0 a1) (spec_fiBlocks.f (k + 1) a0 a1) := by
 intro a0 a1 k
 obtain ⟨ih0, ih1, ih2⟩ := spec_fiBlocks.mono_l k
 unfold spec_fiBlocks.f
 repeat' first | (with_reducible first | exact ih0 _ _ _ _ _ _ | exact ih1 _ _ _ _ _ _ _ | exact ih2 _ _ _ _ _ _ _ _ _ _ _ _ | exact spec_l1Has.mono _ _ _ | exact LeO.refl _ | exact LeO.none _ | refine LeO.ite ?_ ?_ | refine LeO.bind ?_ (fun _ => ?_)) | exact ih0 _ _ _ _ _ _ | exact ih1 _ _ _ _ _ _ _ | exact ih2 _ _ _ _ _ _ _ _ _ _ _ _ | exact spec_l1Has.mono _ _ _ | exact LeO.none _ | refine LeO.ite ?_ ?_ | refine LeO.bind ?_ (fun _ => ?_)
theorem spec_fiBlocks.calls (k : Nat) (A0 : Option Addr) (c0 : Nat) (l0 : List (List Int)) (a1 : Bool) (r : Int) (w : World) (hr0 : Kd.C (Kd.slice 3 (Kd.int .i64)) w A0 l0.length l0) (hc0 : l0.length ≤ c0) (h : spec_fiBlocks.f k l0 a1 = some r) :
  Calls Try.prog 154 #[.slice A0 l0.length c0, .bool a1] w fun e w' => e = .returned (.int .i64 r) ∧ Below w.heap.size w w' := by
 have HR0 := A_ hr0
 have HC0 := A_ hc0
 clear hr0 hc0
 have HB := A_ (Below.refl w.heap.size w)
 have H : (if (l0.length : Int) > 6 then (some 0) else (spec_fiBlocks.l0 k l0 a1 0 l0 (l0.length : Int) 0)) = some r := h
 clear h
 by_cases c3 : (l0.length : Int) > 6
 ·
  rw [if_pos c3] at H
  have c3b0 := decide_eq_true c3
  have c3b1 : decide (6 < l0.length) = true := decide_eq_true (by omega)
  clear c3
  obtain rfl := Option.some.inj H
  go_enter Try.func154, Try.ntmps154
  go_wp2
  repeat (go_quiet (fail); try go_wp2)
  go_ret
  exact ⟨te_, tb_⟩
 ·
  rw [if_neg c3] at H
  have c3b0 := decide_eq_false c3
  have c3b1 : decide (6 < l0.length) = false := decide_eq_false (by omega)
  clear c3
  have H' := A_ H
  clear H
  go_enter Try.func154, Try.ntmps154
  go_wp2
  repeat (go_quiet (fail); try go_wp2)
  go_loopg [5, 18] k (fun kq v5 v18 w' => ∃ (x5_1 : Int) (x18_1 : Int), v5 = .int .i64 x5_1 ∧ v18 = .int .i64 x18_1 ∧ Aside0 (spec_fiBlocks.l0 kq l0 a1 x5_1 l0 (l0.length : Int) x18_1 = some r) ∧ Aside0 (kq ≤ k) ∧ Aside0 (Below w.heap.size w w'))
  case atStart => exact ⟨(0), (0), tf_, tf_, H', ⟨Nat.le_refl _⟩, ⟨tb_⟩⟩
  case round =>
   clear H'
   try clear c1
   try clear p2
   try clear c3
   try clear c3b0
   try clear c3b1
   obtain ⟨x5_1, x18_1, rfl, rfl, HA, HK1, HB⟩ := hrel
   cases gk with
   | zero => exact absurd HA.out (by simp [spec_fiBlocks.l0])
   | succ k1 =>
    have H := HA.out
    clear HA
    simp only [spec_fiBlocks.l0] at H
    by_cases c4 : x18_1 < (l0.length : Int)
    ·
     rw [if_pos c4] at H
     have c4b0 := decide_eq_true c4
     clear c4
     by_cases c5 : 0 ≤ x18_1
     ·
      rw [if_pos c5] at H
      have c5b0 := decide_eq_true c5
      clear c5
      by_cases c6 : x18_1 < (l0.length : Int)
      ·
       rw [if_pos c6] at H
       have c6b0 := decide_eq_true c6
       clear c6
       by_cases c7 : ((rd_L1 l0 x18_1).length : Int) = 0
       ·
        rw [if_pos c7] at H
        have c7b0 : (((rd_L1 l0 x18_1).length : Int) == 0) = true := beq_iff_eq.mpr c7
        have c7b1 : (((rd_L1 l0 x18_1).length : Int) != 0) = false := bne_eq_false_iff_eq.mpr c7
        clear c7
        obtain rfl := Option.some.inj H
        have p1431 : 0 ≤ (x18_1 : Int) := od_
        have q1431 : x18_1 < (l0.length : Int) := od_
        obtain ⟨ad1431, A1431_0, c1431_0, e1431, hx1431_0, hl1431_0, hi1431_0⟩ := at_L1 HR0.out x18_1 p1431 q1431
        cases e1431
        (try replace hx1431_0 := (HB.out.cell (World.block_lt_of_cell? w _ hx1431_0)).trans hx1431_0)
        have HR1431_0 := A_ hi1431_0
        have HC1431_0 := A_ hl1431_0
        clear hi1431_0 hl1431_0
        replace p1431 := eq_true p1431
        replace q1431 := eq_true q1431
        go_wp2
        repeat (go_quiet (fail); try go_wp2)
        go_ret
        exact ⟨te_, tb_⟩
       ·
        rw [if_neg c7] at H
        have c7b0 : (((rd_L1 l0 x18_1).length : Int) == 0) = false := beq_eq_false_iff_ne.mpr c7
        have c7b1 : (((rd_L1 l0 x18_1).length : Int) != 0) = true := bne_iff_ne.mpr c7
        have c7b2 : ¬ ((rd_L1 l0 x18_1) = []) := fun h_ => c7 (by rw [h_]; rfl)
        by_cases c8 : ((rd_L1 l0 x18_1).length : Int) > (wrap64 (6 - x5_1))
        ·
         rw [if_pos c8] at H
         have c8b0 := decide_eq_true c8
         clear c8
         obtain rfl := Option.some.inj H
         have p1431 : 0 ≤ (x18_1 : Int) := od_
         have q1431 : x18_1 < (l0.length : Int) := od_
         obtain ⟨ad1431, A1431_0, c1431_0, e1431, hx1431_0, hl1431_0, hi1431_0⟩ := at_L1 HR0.out x18_1 p1431 q1431
         cases e1431
         (try replace hx1431_0 := (HB.out.cell (World.block_lt_of_cell? w _ hx1431_0)).trans hx1431_0)
         have HR1431_0 := A_ hi1431_0
         have HC1431_0 := A_ hl1431_0
         clear hi1431_0 hl1431_0
         replace p1431 := eq_true p1431
         replace q1431 := eq_true q1431
         go_wp2
         repeat (go_quiet (fail); try go_wp2)
         go_ret
         exact ⟨te_, tb_⟩
        ·
         rw [if_neg c8] at H
         have c8b0 := decide_eq_false c8
         clear c8
         have H' := A_ H
         clear H
         have p1431 : 0 ≤ (x18_1 : Int) := od_
         have q1431 : x18_1 < (l0.length : Int) := od_
         obtain ⟨ad1431, A1431_0, c1431_0, e1431, hx1431_0, hl1431_0, hi1431_0⟩ := at_L1 HR0.out x18_1 p1431 q1431
         cases e1431
         (try replace hx1431_0 := (HB.out.cell (World.block_lt_of_cell? w _ hx1431_0)).trans hx1431_0)
         have HR1431_0 := A_ hi1431_0
         have HC1431_0 := A_ hl1431_0
         clear hi1431_0 hl1431_0
         replace p1431 := eq_true p1431
         replace q1431 := eq_true q1431
         go_wp2
         repeat (go_quiet (fail); try go_wp2)
         go_roundg k1
         case measure => have := HK1.out; omega
         case rel => exact ⟨(wrap64 (x5_1 + ((rd_L1 l0 x18_1).length : Int))), (wrap64 (x18_1 + 1)), tf_, tf_, H', ⟨by have := HK1.out; omega⟩, ⟨tb_⟩⟩
      ·
       rw [if_neg c6] at H
       exact absurd H (by simp)
     ·
      rw [if_neg c5] at H
      exact absurd H (by simp)
    ·
     rw [if_neg c4] at H
     have c4b0 := decide_eq_false c4
     clear c4
     have H' := A_ H
     clear H
     go_wp2
     repeat (go_quiet (fail); try go_wp2)
     go_loopg [8, 39] k1 (fun kq v8 v39 w' => ∃ (x8_2 : List Int) (x39_2 : Int), v39 = .int .i64 x39_2 ∧ Aside0 (spec_fiBlocks.l1 kq l0 a1 x5_1 x8_2 l0 (l0.length : Int) x39_2 = some r) ∧ Aside0 (kq ≤ k1) ∧ Aside0 (Kd.R (Kd.int .i64) 3 w' w.heap.size (fun _ => True) v8 x8_2) ∧ Aside0 (Below w.heap.size w w'))
     case atStart => exact ⟨(([] : List Int)), (0), tf_, H', ⟨Nat.le_refl _⟩, ⟨by first | exact Kd.R_nil _ _ _ _ _ | exact Kd.N_nil _ _ _ _ _ | exact Kd.V_nil _ _ _ _ _ | exact Kd.Q_nil _ _ _ _ _ | exact Kd.S_nil _ _ _ _ _⟩, ⟨tb_⟩⟩
     case round =>
      clear H'
      try clear c1
      try clear p1
      try clear q1
      try clear hx1
      try clear p2
      try clear c3
      try clear c3b0
      try clear c3b1
      try clear c4
      try clear c4b0
      try clear c5
      try clear c5b0
      try clear c6
      try clear c6b0
      try clear p6
      try clear c7
      try clear c7b0
      try clear c7b1
      try clear c7b2
      try clear c8
      try clear c8b0
      try clear hx1431_0
      try clear p1431
      try clear p2
      try clear q1431
      obtain ⟨x8_2, x39_2, rfl, HA, HK2, HO_8, HB⟩ := hrel
      cases gk with
      | zero => exact absurd HA.out (by simp [spec_fiBlocks.l1])
      | succ k2 =>
       have H := HA.out
       clear HA
       simp only [spec_fiBlocks.l1] at H
       by_cases c9 : x39_2 < (l0.length : Int)
       ·
        rw [if_pos c9] at H
        have c9b0 := decide_eq_true c9
        clear c9
        by_cases c10 : 0 ≤ x39_2
        ·
         rw [if_pos c10] at H
         have c10b0 := decide_eq_true c10
         clear c10
         by_cases c11 : x39_2 < (l0.length : Int)
         ·
          rw [if_pos c11] at H
          have c11b0 := decide_eq_true c11
          clear c11
          have H' := A_ H
          clear H
          have p1432 : 0 ≤ (x39_2 : Int) := od_
          have q1432 : x39_2 < (l0.length : Int) := od_
          obtain ⟨ad1432, A1432_0, c1432_0, e1432, hx1432_0, hl1432_0, hi1432_0⟩ := at_L1 HR0.out x39_2 p1432 q1432
          cases e1432
          (try replace hx1432_0 := (HB.out.cell (World.block_lt_of_cell? w _ hx1432_0)).trans hx1432_0)
          have HR1432_0 := A_ hi1432_0
          have HC1432_0 := A_ hl1432_0
          clear hi1432_0 hl1432_0
          replace p1432 := eq_true p1432
          replace q1432 := eq_true q1432
          go_wp2
          repeat (go_quiet (fail); try go_wp2)
          go_loopg [8, 46] k2 (fun kq v8 v46 w' => ∃ (x8_3 : List Int) (x46_3 : Int), v46 = .int .i64 x46_3 ∧ Aside0 (spec_fiBlocks.l2 kq l0 a1 x5_1 x8_3 x39_2 (rd_L1 l0 x39_2) l0 (l0.length : Int) x39_2 (rd_L1 l0 x39_2) ((rd_L1 l0 x39_2).length : Int) x46_3 = some r) ∧ Aside0 (kq ≤ k2) ∧ Aside0 (Kd.R (Kd.int .i64) 3 w' w.heap.size (fun _ => True) v8 x8_3) ∧ Aside0 (Below w.heap.size w w'))
          case atStart => exact ⟨(x8_2), (0), tf_, H', ⟨Nat.le_refl _⟩, ⟨tr_x HO_8.out⟩, ⟨tb_⟩⟩
          case round =>
           clear H'
           try clear c1
           try clear p1
           try clear q1
           try clear hx1
           try clear p2
           try clear c3
           try clear c3b0
           try clear c3b1
           try clear c4
           try clear c4b0
           try clear c5
           try clear c5b0
           try clear c6
           try clear c6b0
           try clear p6
           try clear c7
           try clear c7b0
           try clear c7b1
           try clear c7b2
           try clear c8
           try clear c8b0
           try clear c9
           try clear c9b0
           try clear c10
           try clear c10b0
           try clear c11
           try clear c11b0
           try clear hx1431_0
           try clear hx1432_0
           try clear p1
           try clear p1431
           try clear p1432
           try clear p2
           try clear p6
           try clear q1
           try clear q1431
           try clear q1432
           obtain ⟨x8_3, x46_3, rfl, HA, HK3, HO_8, HB⟩ := hrel
           cases gk with
           | zero => exact absurd HA.out (by simp [spec_fiBlocks.l2])
           | succ k3 =>
            have H := HA.out
            clear HA
            simp only [spec_fiBlocks.l2] at H
            by_cases c12 : x46_3 < ((rd_L1 l0 x39_2).length : Int)
            ·
             rw [if_pos c12] at H
             have c12b0 := decide_eq_true c12
             clear c12
             by_cases c13 : 0 ≤ x46_3
             ·
              rw [if_pos c13] at H
              have c13b0 := decide_eq_true c13
              clear c13
              by_cases c14 : x46_3 < ((rd_L1 l0 x39_2).length : Int)
              ·
               rw [if_pos c14] at H
               have c14b0 := decide_eq_true c14
               clear c14
               replace H := Option.bind_eq_some_iff.mp H
               obtain ⟨t1437, A150, H⟩ := H
               replace H : (if t1437 = true then ((spec_l1Has.f k3 x8_3 (rd (rd_L1 l0 x39_2) x46_3)).bind fun t1438 => (if t1438 = true then (some 0) else (if x46_3 > 0 then (if 0 < ((rd_L1 l0 x39_2).length : Int) then (if (rd (rd_L1 l0 x39_2) x46_3) < (rd (rd_L1 l0 x39_2) 0) then (some 0) else (if a1 = true then (if 0 ≤ (wrap64 (x46_3 - 1)) then (if (wrap64 (x46_3 - 1)) < ((rd_L1 l0 x39_2).length : Int) then (if (rd (rd_L1 l0 x39_2) x46_3) < (rd (rd_L1 l0 x39_2) (wrap64 (x46_3 - 1))) then (some 0) else (if x8_3.length < 17592186044416 then (spec_fiBlocks.l2 k3 l0 a1 x5_1 (x8_3 ++ [rd (rd_L1 l0 x39_2) x46_3]) x39_2 (rd_L1 l0 x39_2) l0 (l0.length : Int) x39_2 (rd_L1 l0 x39_2) ((rd_L1 l0 x39_2).length : Int) (wrap64 (x46_3 + 1))) else (none))) else (none)) else (none)) else (if x8_3.length < 17592186044416 then (spec_fiBlocks.l2 k3 l0 a1 x5_1 (x8_3 ++ [rd (rd_L1 l0 x39_2) x46_3]) x39_2 (rd_L1 l0 x39_2) l0 (l0.length : Int) x39_2 (rd_L1 l0 x39_2) ((rd_L1 l0 x39_2).length : Int) (wrap64 (x46_3 + 1))) else (none)))) else (none)) else (if x8_3.length < 17592186044416 then (spec_fiBlocks.l2 k3 l0 a1 x5_1 (x8_3 ++ [rd (rd_L1 l0 x39_2) x46_3]) x39_2 (rd_L1 l0 x39_2) l0 (l0.length : Int) x39_2 (rd_L1 l0 x39_2) ((rd_L1 l0 x39_2).length : Int) (wrap64 (x46_3 + 1))) else (none))))) else (some 0)) = some r := H
               have A15 := A_ A150
               clear A150
               by_cases c16 : t1437 = true
               ·
                subst c16
                have H1 : ((spec_l1Has.f k3 x8_3 (rd (rd_L1 l0 x39_2) x46_3)).bind fun t1438 => (if t1438 = true then (some 0) else (if x46_3 > 0 then (if 0 < ((rd_L1 l0 x39_2).length : Int) then (if (rd (rd_L1 l0 x39_2) x46_3) < (rd (rd_L1 l0 x39_2) 0) then (some 0) else (if a1 = true then (if 0 ≤ (wrap64 (x46_3 - 1)) then (if (wrap64 (x46_3 - 1)) < ((rd_L1 l0 x39_2).length : Int) then (if (rd (rd_L1 l0 x39_2) x46_3) < (rd (rd_L1 l0 x39_2) (wrap64 (x46_3 - 1))) then (some 0) else (if x8_3.length < 17592186044416 then (spec_fiBlocks.l2 k3 l0 a1 x5_1 (x8_3 ++ [rd (rd_L1 l0 x39_2) x46_3]) x39_2 (rd_L1 l0 x39_2) l0 (l0.length : Int) x39_2 (rd_L1 l0 x39_2) ((rd_L1 l0 x39_2).length : Int) (wrap64 (x46_3 + 1))) else (none))) else (none)) else (none)) else (if x8_3.length < 17592186044416 then (spec_fiBlocks.l2 k3 l0 a1 x5_1 (x8_3 ++ [rd (rd_L1 l0 x39_2) x46_3]) x39_2 (rd_L1 l0 x39_2) l0 (l0.length : Int) x39_2 (rd_L1 l0 x39_2) ((rd_L1 l0 x39_2).length : Int) (wrap64 (x46_3 + 1))) else (none)))) else (none)) else (if x8_3.length < 17592186044416 then (spec_fiBlocks.l2 k3 l0 a1 x5_1 (x8_3 ++ [rd (rd_L1 l0 x39_2) x46_3]) x39_2 (rd_L1 l0 x39_2) l0 (l0.length : Int) x39_2 (rd_L1 l0 x39_2) ((rd_L1 l0 x39_2).length : Int) (wrap64 (x46_3 + 1))) else (none))))) = some r := by rw [if_pos rfl] at H; exact H
                clear H
                have H := H1
                clear H1
                replace H := Option.bind_eq_some_iff.mp H
                obtain ⟨t1438, A170, H⟩ := H
                replace H : (if t1438 = true then (some 0) else (if x46_3 > 0 then (if 0 < ((rd_L1 l0 x39_2).length : Int) then (if (rd (rd_L1 l0 x39_2) x46_3) < (rd (rd_L1 l0 x39_2) 0) then (some 0) else (if a1 = true then (if 0 ≤ (wrap64 (x46_3 - 1)) then (if (wrap64 (x46_3 - 1)) < ((rd_L1 l0 x39_2).length : Int) then (if (rd (rd_L1 l0 x39_2) x46_3) < (rd (rd_L1 l0 x39_2) (wrap64 (x46_3 - 1))) then (some 0) else (if x8_3.length < 17592186044416 then (spec_fiBlocks.l2 k3 l0 a1 x5_1 (x8_3 ++ [rd (rd_L1 l0 x39_2) x46_3]) x39_2 (rd_L1 l0 x39_2) l0 (l0.length : Int) x39_2 (rd_L1 l0 x39_2) ((rd_L1 l0 x39_2).length : Int) (wrap64 (x46_3 + 1))) else (none))) else (none)) else (none)) else (if x8_3.length < 17592186044416 then (spec_fiBlocks.l2 k3 l0 a1 x5_1 (x8_3 ++ [rd (rd_L1 l0 x39_2) x46_3]) x39_2 (rd_L1 l0 x39_2) l0 (l0.length : Int) x39_2 (rd_L1 l0 x39_2) ((rd_L1 l0 x39_2).length : Int) (wrap64 (x46_3 + 1))) else (none)))) else (none)) else (if x8_3.length < 17592186044416 then (spec_fiBlocks.l2 k3 l0 a1 x5_1 (x8_3 ++ [rd (rd_L1 l0 x39_2) x46_3]) x39_2 (rd_L1 l0 x39_2) l0 (l0.length : Int) x39_2 (rd_L1 l0 x39_2) ((rd_L1 l0 x39_2).length : Int) (wrap64 (x46_3 + 1))) else (none)))) = some r := H
                have A17 := A_ A170
                clear A170
                by_cases c18 : t1438 = true
                ·
                 subst c18
                 have H1 : (some 0) = some r := by rw [if_pos rfl] at H; exact H
                 clear H
                 have H := H1
                 clear H1
                 obtain rfl := Option.some.inj H
                 have p1436 : 0 ≤ (x46_3 : Int) := od_
                 have q1436 : x46_3 < ((rd_L1 l0 x39_2).length : Int) := od_
                 obtain ⟨ad1436, e1436, hx1436_0⟩ := Kd.at_int HR1432_0.out x46_3 p1436 q1436
                 cases e1436
                 (try replace hx1436_0 := (HB.out.cell (World.block_lt_of_cell? w _ hx1436_0)).trans hx1436_0)
                 replace p1436 := eq_true p1436
                 replace q1436 := eq_true q1436
                 go_wp2_with (first | (go_at_call 111; (with_reducible refine (spec_l1In.calls (rd (rd_L1 l0 x39_2) x46_3) 0 (wrap64 (x5_1 - 1)) true _ A15.out).mono ?_); rintro e w' ⟨rfl, ⟨nd, rfl⟩⟩; (try exact dn_); obtain ⟨Ao19, co19, eo19⟩ := Kd.R_slice HO_8.out; subst eo19) | (go_at_call 204; (with_reducible refine (spec_l1Has.calls k3 _ _ x8_3 (rd (rd_L1 l0 x39_2) x46_3) true _ ?side1 ?side2 A17.out).mono ?_); (case side1 => exact tc0_ (Kd.R_reads' HO_8.out).2.2); (case side2 => exact (Kd.R_reads' HO_8.out).2.1); rintro e w' ⟨rfl, ⟨nd, rfl⟩⟩; (try exact dn_)))
                 repeat (go_quiet (first | (go_at_call 111; (with_reducible refine (spec_l1In.calls (rd (rd_L1 l0 x39_2) x46_3) 0 (wrap64 (x5_1 - 1)) true _ A15.out).mono ?_); rintro e w' ⟨rfl, ⟨nd, rfl⟩⟩; (try exact dn_); obtain ⟨Ao19, co19, eo19⟩ := Kd.R_slice HO_8.out; subst eo19) | (go_at_call 204; (with_reducible refine (spec_l1Has.calls k3 _ _ x8_3 (rd (rd_L1 l0 x39_2) x46_3) true _ ?side1 ?side2 A17.out).mono ?_); (case side1 => exact tc0_ (Kd.R_reads' HO_8.out).2.2); (case side2 => exact (Kd.R_reads' HO_8.out).2.1); rintro e w' ⟨rfl, ⟨nd, rfl⟩⟩; (try exact dn_))); try go_wp2_with (first | (go_at_call 111; (with_reducible refine (spec_l1In.calls (rd (rd_L1 l0 x39_2) x46_3) 0 (wrap64 (x5_1 - 1)) true _ A15.out).mono ?_); rintro e w' ⟨rfl, ⟨nd, rfl⟩⟩; (try exact dn_); obtain ⟨Ao19, co19, eo19⟩ := Kd.R_slice HO_8.out; subst eo19) | (go_at_call 204; (with_reducible refine (spec_l1Has.calls k3 _ _ x8_3 (rd (rd_L1 l0 x39_2) x46_3) true _ ?side1 ?side2 A17.out).mono ?_); (case side1 => exact tc0_ (Kd.R_reads' HO_8.out).2.2); (case side2 => exact (Kd.R_reads' HO_8.out).2.1); rintro e w' ⟨rfl, ⟨nd, rfl⟩⟩; (try exact dn_))))
                 go_ret
                 exact ⟨te_, tb_⟩
                ·
                 replace c18 := Bool.eq_false_iff.mpr c18
                 subst c18
                 have H1 : (if x46_3 > 0 then (if 0 < ((rd_L1 l0 x39_2).length : Int) then (if (rd (rd_L1 l0 x39_2) x46_3) < (rd (rd_L1 l0 x39_2) 0) then (some 0) else (if a1 = true then (if 0 ≤ (wrap64 (x46_3 - 1)) then (if (wrap64 (x46_3 - 1)) < ((rd_L1 l0 x39_2).length : Int) then (if (rd (rd_L1 l0 x39_2) x46_3) < (rd (rd_L1 l0 x39_2) (wrap64 (x46_3 - 1))) then (some 0) else (if x8_3.length < 17592186044416 then (spec_fiBlocks.l2 k3 l0 a1 x5_1 (x8_3 ++ [rd (rd_L1 l0 x39_2) x46_3]) x39_2 (rd_L1 l0 x39_2) l0 (l0.length : Int) x39_2 (rd_L1 l0 x39_2) ((rd_L1 l0 x39_2).length : Int) (wrap64 (x46_3 + 1))) else (none))) else (none)) else (none)) else (if x8_3.length < 17592186044416 then (spec_fiBlocks.l2 k3 l0 a1 x5_1 (x8_3 ++ [rd (rd_L1 l0 x39_2) x46_3]) x39_2 (rd_L1 l0 x39_2) l0 (l0.length : Int) x39_2 (rd_L1 l0 x39_2) ((rd_L1 l0 x39_2).length : Int) (wrap64 (x46_3 + 1))) else (none)))) else (none)) else (if x8_3.length < 17592186044416 then (spec_fiBlocks.l2 k3 l0 a1 x5_1 (x8_3 ++ [rd (rd_L1 l0 x39_2) x46_3]) x39_2 (rd_L1 l0 x39_2) l0 (l0.length : Int) x39_2 (rd_L1 l0 x39_2) ((rd_L1 l0 x39_2).length : Int) (wrap64 (x46_3 + 1))) else (none))) = some r := by rw [if_neg (show ¬ (false = true) by decide)] at H; exact H
                 clear H
                 have H := H1
                 clear H1
                 by_cases c20 : x46_3 > 0
                 ·
                  rw [if_pos c20] at H
                  have c20b0 := decide_eq_true c20
                  clear c20
                  by_cases c21 : 0 < ((rd_L1 l0 x39_2).length : Int)
                  ·
                   rw [if_pos c21] at H
                   have c21b0 := decide_eq_true c21
                   have c21b1 : decide (0 < (rd_L1 l0 x39_2).length) = true := decide_eq_true (by omega)
                   clear c21
                   by_cases c22 : (rd (rd_L1 l0 x39_2) x46_3) < (rd (rd_L1 l0 x39_2) 0)
                   ·
                    rw [if_pos c22] at H
                    have c22b0 := decide_eq_true c22
                    clear c22
                    obtain rfl := Option.some.inj H
                    have p1436 : 0 ≤ (x46_3 : Int) := od_
                    have q1436 : x46_3 < ((rd_L1 l0 x39_2).length : Int) := od_
                    obtain ⟨ad1436, e1436, hx1436_0⟩ := Kd.at_int HR1432_0.out x46_3 p1436 q1436
                    cases e1436
                    (try replace hx1436_0 := (HB.out.cell (World.block_lt_of_cell? w _ hx1436_0)).trans hx1436_0)
                    replace p1436 := eq_true p1436
                    replace q1436 := eq_true q1436
                    have p1439 : 0 ≤ (0 : Int) := (by omega)
                    have q1439 : 0 < ((rd_L1 l0 x39_2).length : Int) := od_
                    obtain ⟨ad1439, e1439, hx1439_0⟩ := Kd.at_int HR1432_0.out 0 p1439 q1439
                    obtain rfl : ad1436 = ad1439 := (by injection e1439)
                    have qi1439 : (0 < (rd_L1 l0 x39_2).length) = True := eq_true (by omega)
                    (try rw [show ((0 : Int)).toNat = 0 from rfl] at hx1439_0)
                    (try rw [Addr.add_zero'] at hx1439_0)
                    (try replace hx1439_0 := (HB.out.cell (World.block_lt_of_cell? w _ hx1439_0)).trans hx1439_0)
                    replace p1439 := eq_true p1439
                    replace q1439 := eq_true q1439
                    go_wp2_with (first | (go_at_call 111; (with_reducible refine (spec_l1In.calls (rd (rd_L1 l0 x39_2) x46_3) 0 (wrap64 (x5_1 - 1)) true _ A15.out).mono ?_); rintro e w' ⟨rfl, ⟨nd, rfl⟩⟩; (try exact dn_); obtain ⟨Ao23, co23, eo23⟩ := Kd.R_slice HO_8.out; subst eo23) | (go_at_call 204; (with_reducible refine (spec_l1Has.calls k3 _ _ x8_3 (rd (rd_L1 l0 x39_2) x46_3) false _ ?side1 ?side2 A17.out).mono ?_); (case side1 => exact tc0_ (Kd.R_reads' HO_8.out).2.2); (case side2 => exact (Kd.R_reads' HO_8.out).2.1); rintro e w' ⟨rfl, ⟨nd, rfl⟩⟩; (try exact dn_)))
                    repeat (go_quiet (first | (go_at_call 111; (with_reducible refine (spec_l1In.calls (rd (rd_L1 l0 x39_2) x46_3) 0 (wrap64 (x5_1 - 1)) true _ A15.out).mono ?_); rintro e w' ⟨rfl, ⟨nd, rfl⟩⟩; (try exact dn_); obtain ⟨Ao23, co23, eo23⟩ := Kd.R_slice HO_8.out; subst eo23) | (go_at_call 204; (with_reducible refine (spec_l1Has.calls k3 _ _ x8_3 (rd (rd_L1 l0 x39_2) x46_3) false _ ?side1 ?side2 A17.out).mono ?_); (case side1 => exact tc0_ (Kd.R_reads' HO_8.out).2.2); (case side2 => exact (Kd.R_reads' HO_8.out).2.1); rintro e w' ⟨rfl, ⟨nd, rfl⟩⟩; (try exact dn_))); try go_wp2_with (first | (go_at_call 111; (with_reducible refine (spec_l1In.calls (rd (rd_L1 l0 x39_2) x46_3) 0 (wrap64 (x5_1 - 1)) true _ A15.out).mono ?_); rintro e w' ⟨rfl, ⟨nd, rfl⟩⟩; (try exact dn_); obtain ⟨Ao23, co23, eo23⟩ := Kd.R_slice HO_8.out; subst eo23) | (go_at_call 204; (with_reducible refine (spec_l1Has.calls k3 _ _ x8_3 (rd (rd_L1 l0 x39_2) x46_3) false _ ?side1 ?side2 A17.out).mono ?_); (case side1 => exact tc0_ (Kd.R_reads' HO_8.out).2.2); (case side2 => exact (Kd.R_reads' HO_8.out).2.1); rintro e w' ⟨rfl, ⟨nd, rfl⟩⟩; (try exact dn_))))
                    go_ret
                    exact ⟨te_, tb_⟩
                   ·
                    rw [if_neg c22] at H
                    have c22b0 := decide_eq_false c22
                    clear c22
                    by_cases c24 : a1 = true
                    ·
                     subst c24
                     have H1 : (if 0 ≤ (wrap64 (x46_3 - 1)) then (if (wrap64 (x46_3 - 1)) < ((rd_L1 l0 x39_2).length : Int) then (if (rd (rd_L1 l0 x39_2) x46_3) < (rd (rd_L1 l0 x39_2) (wrap64 (x46_3 - 1))) then (some 0) else (if x8_3.length < 17592186044416 then (spec_fiBlocks.l2 k3 l0 true x5_1 (x8_3 ++ [rd (rd_L1 l0 x39_2) x46_3]) x39_2 (rd_L1 l0 x39_2) l0 (l0.length : Int) x39_2 (rd_L1 l0 x39_2) ((rd_L1 l0 x39_2).length : Int) (wrap64 (x46_3 + 1))) else (none))) else (none)) else (none)) = some r := by rw [if_pos rfl] at H; exact H
                     clear H
                     have H := H1
                     clear H1
                     obtain ⟨ji25, hji25⟩ : ∃ j_ : Int, (wrap64 (x46_3 - 1)) = j_ := ⟨_, rfl⟩
                     replace H : (if 0 ≤ (ji25) then (if (ji25) < ((rd_L1 l0 x39_2).length : Int) then (if (rd (rd_L1 l0 x39_2) x46_3) < (rd (rd_L1 l0 x39_2) (ji25)) then (some 0) else (if x8_3.length < 17592186044416 then (spec_fiBlocks.l2 k3 l0 true x5_1 (x8_3 ++ [rd (rd_L1 l0 x39_2) x46_3]) x39_2 (rd_L1 l0 x39_2) l0 (l0.length : Int) x39_2 (rd_L1 l0 x39_2) ((rd_L1 l0 x39_2).length : Int) (wrap64 (x46_3 + 1))) else (none))) else (none)) else (none)) = some r := by first | (rw [hji25] at H; exact H) | (simp only [hji25] at H ⊢; exact H)
                     (try rw [hji25] at A15)
                     (try rw [hji25] at A17)
                     have hji25w : (IntKind.i64.wrap (x46_3 - 1)) = ji25 := (i64_w _).trans hji25
                     by_cases c26 : 0 ≤ (ji25)
                     ·
                      rw [if_pos c26] at H
                      have c26b0 := decide_eq_true c26
                      clear c26
                      by_cases c27 : (ji25) < ((rd_L1 l0 x39_2).length : Int)
                      ·
                       rw [if_pos c27] at H
                       have c27b0 := decide_eq_true c27
                       clear c27
                       by_cases c28 : (rd (rd_L1 l0 x39_2) x46_3) < (rd (rd_L1 l0 x39_2) (ji25))
                       ·
                        rw [if_pos c28] at H
                        have c28b0 := decide_eq_true c28
                        clear c28
                        obtain rfl := Option.some.inj H
                        have p1436 : 0 ≤ (x46_3 : Int) := od_
                        have q1436 : x46_3 < ((rd_L1 l0 x39_2).length : Int) := od_
                        obtain ⟨ad1436, e1436, hx1436_0⟩ := Kd.at_int HR1432_0.out x46_3 p1436 q1436
                        cases e1436
                        (try replace hx1436_0 := (HB.out.cell (World.block_lt_of_cell? w _ hx1436_0)).trans hx1436_0)
                        replace p1436 := eq_true p1436
                        replace q1436 := eq_true q1436
                        have p1439 : 0 ≤ (0 : Int) := (by omega)
                        have q1439 : 0 < ((rd_L1 l0 x39_2).length : Int) := od_
                        obtain ⟨ad1439, e1439, hx1439_0⟩ := Kd.at_int HR1432_0.out 0 p1439 q1439
                        obtain rfl : ad1436 = ad1439 := (by injection e1439)
                        have qi1439 : (0 < (rd_L1 l0 x39_2).length) = True := eq_true (by omega)
                        (try rw [show ((0 : Int)).toNat = 0 from rfl] at hx1439_0)
                        (try rw [Addr.add_zero'] at hx1439_0)
                        (try replace hx1439_0 := (HB.out.cell (World.block_lt_of_cell? w _ hx1439_0)).trans hx1439_0)
                        replace p1439 := eq_true p1439
                        replace q1439 := eq_true q1439
                        have p1440 : 0 ≤ ((ji25) : Int) := od_
                        have q1440 : (ji25) < ((rd_L1 l0 x39_2).length : Int) := od_
                        obtain ⟨ad1440, e1440, hx1440_0⟩ := Kd.at_int HR1432_0.out (ji25) p1440 q1440
                        obtain rfl : ad1436 = ad1440 := (by injection e1440)
                        (try replace hx1440_0 := (HB.out.cell (World.block_lt_of_cell? w _ hx1440_0)).trans hx1440_0)
                        replace p1440 := eq_true p1440
                        replace q1440 := eq_true q1440
                        go_wp2_with (first | (go_at_call 111; (with_reducible refine (spec_l1In.calls (rd (rd_L1 l0 x39_2) x46_3) 0 (wrap64 (x5_1 - 1)) true _ A15.out).mono ?_); rintro e w' ⟨rfl, ⟨nd, rfl⟩⟩; (try exact dn_); obtain ⟨Ao29, co29, eo29⟩ := Kd.R_slice HO_8.out; subst eo29) | (go_at_call 204; (with_reducible refine (spec_l1Has.calls k3 _ _ x8_3 (rd (rd_L1 l0 x39_2) x46_3) false _ ?side1 ?side2 A17.out).mono ?_); (case side1 => exact tc0_ (Kd.R_reads' HO_8.out).2.2); (case side2 => exact (Kd.R_reads' HO_8.out).2.1); rintro e w' ⟨rfl, ⟨nd, rfl⟩⟩; (try exact dn_)))
                        repeat (go_quiet (first | (go_at_call 111; (with_reducible refine (spec_l1In.calls (rd (rd_L1 l0 x39_2) x46_3) 0 (wrap64 (x5_1 - 1)) true _ A15.out).mono ?_); rintro e w' ⟨rfl, ⟨nd, rfl⟩⟩; (try exact dn_); obtain ⟨Ao29, co29, eo29⟩ := Kd.R_slice HO_8.out; subst eo29) | (go_at_call 204; (with_reducible refine (spec_l1Has.calls k3 _ _ x8_3 (rd (rd_L1 l0 x39_2) x46_3) false _ ?side1 ?side2 A17.out).mono ?_); (case side1 => exact tc0_ (Kd.R_reads' HO_8.out).2.2); (case side2 => exact (Kd.R_reads' HO_8.out).2.1); rintro e w' ⟨rfl, ⟨nd, rfl⟩⟩; (try exact dn_))); try go_wp2_with (first | (go_at_call 111; (with_reducible refine (spec_l1In.calls (rd (rd_L1 l0 x39_2) x46_3) 0 (wrap64 (x5_1 - 1)) true _ A15.out).mono ?_); rintro e w' ⟨rfl, ⟨nd, rfl⟩⟩; (try exact dn_); obtain ⟨Ao29, co29, eo29⟩ := Kd.R_slice HO_8.out; subst eo29) | (go_at_call 204; (with_reducible refine (spec_l1Has.calls k3 _ _ x8_3 (rd (rd_L1 l0 x39_2) x46_3) false _ ?side1 ?side2 A17.out).mono ?_); (case side1 => exact tc0_ (Kd.R_reads' HO_8.out).2.2); (case side2 => exact (Kd.R_reads' HO_8.out).2.1); rintro e w' ⟨rfl, ⟨nd, rfl⟩⟩; (try exact dn_))))
                        go_ret
                        exact ⟨by first | rfl | (simp [errW_none, errW_some] <;> rfl) | (simp only [← hji25]; first | rfl | (simp [errW_none, errW_some] <;> rfl)) | (simp [*, errW_none, errW_some] <;> rfl), tb_⟩
                       ·
                        rw [if_neg c28] at H
                        have c28b0 := decide_eq_false c28
                        clear c28
                        by_cases c30 : x8_3.length < 17592186044416
                        ·
                         rw [if_pos c30] at H
                         have LMc30 := A_ c30
                         clear c30
                         obtain ⟨y1441, hy1441⟩ : ∃ y_ : List Int, y_ = (x8_3 ++ [rd (rd_L1 l0 x39_2) x46_3]) := ⟨_, rfl⟩
                         replace H : (spec_fiBlocks.l2 k3 l0 true x5_1 y1441 x39_2 (rd_L1 l0 x39_2) l0 (l0.length : Int) x39_2 (rd_L1 l0 x39_2) ((rd_L1 l0 x39_2).length : Int) (wrap64 (x46_3 + 1))) = some r := ty_ hy1441 H
                         have Ny1441 := A_ hy1441
                         clear hy1441
                         have H' := A_ H
                         clear H
                         have p1436 : 0 ≤ (x46_3 : Int) := od_
                         have q1436 : x46_3 < ((rd_L1 l0 x39_2).length : Int) := od_
                         obtain ⟨ad1436, e1436, hx1436_0⟩ := Kd.at_int HR1432_0.out x46_3 p1436 q1436
                         cases e1436
                         (try replace hx1436_0 := (HB.out.cell (World.block_lt_of_cell? w _ hx1436_0)).trans hx1436_0)
                         replace p1436 := eq_true p1436
                         replace q1436 := eq_true q1436
                         have p1439 : 0 ≤ (0 : Int) := (by omega)
                         have q1439 : 0 < ((rd_L1 l0 x39_2).length : Int) := od_
                         obtain ⟨ad1439, e1439, hx1439_0⟩ := Kd.at_int HR1432_0.out 0 p1439 q1439
                         obtain rfl : ad1436 = ad1439 := (by injection e1439)
                         have qi1439 : (0 < (rd_L1 l0 x39_2).length) = True := eq_true (by omega)
                         (try rw [show ((0 : Int)).toNat = 0 from rfl] at hx1439_0)
                         (try rw [Addr.add_zero'] at hx1439_0)
                         (try replace hx1439_0 := (HB.out.cell (World.block_lt_of_cell? w _ hx1439_0)).trans hx1439_0)
                         replace p1439 := eq_true p1439
                         replace q1439 := eq_true q1439
                         have p1440 : 0 ≤ ((ji25) : Int) := od_
                         have q1440 : (ji25) < ((rd_L1 l0 x39_2).length : Int) := od_
                         obtain ⟨ad1440, e1440, hx1440_0⟩ := Kd.at_int HR1432_0.out (ji25) p1440 q1440
                         obtain rfl : ad1436 = ad1440 := (by injection e1440)
                         (try replace hx1440_0 := (HB.out.cell (World.block_lt_of_cell? w _ hx1440_0)).trans hx1440_0)
                         replace p1440 := eq_true p1440
                         replace q1440 := eq_true q1440
                         go_wp2_with (first | (go_at_call 111; (with_reducible refine (spec_l1In.calls (rd (rd_L1 l0 x39_2) x46_3) 0 (wrap64 (x5_1 - 1)) true _ A15.out).mono ?_); rintro e w' ⟨rfl, ⟨nd, rfl⟩⟩; (try exact dn_); obtain ⟨Ao31, co31, eo31⟩ := Kd.R_slice HO_8.out; subst eo31) | (go_at_call 204; (with_reducible refine (spec_l1Has.calls k3 _ _ x8_3 (rd (rd_L1 l0 x39_2) x46_3) false _ ?side1 ?side2 A17.out).mono ?_); (case side1 => exact tc0_ (Kd.R_reads' HO_8.out).2.2); (case side2 => exact (Kd.R_reads' HO_8.out).2.1); rintro e w' ⟨rfl, ⟨nd, rfl⟩⟩; (try exact dn_)) | ((with_reducible refine gate_builtin (b := .append) (xs := #[.tmp 84, .tmp 86]) rfl ?_); (try (refine gate_guard (by rfl) ?_; dsimp only)); at_builtin; refine Kd.R_append (Kd.int .i64) (w0 := w) w.heap.size rfl (.tmp 84) (.tmp 86) 22 3 (.int .i64 0) 8 rfl Try.underlying22 info3 rfl (by decide) (by omega) (.slice Ao31 x8_3.length co31) x8_3 (rd (rd_L1 l0 x39_2) x46_3) [.int .i64 (rd (rd_L1 l0 x39_2) x46_3)] (fun _ => True) (fun _ => False) rfl rfl ?aP (fun _ hk => hk.elim) ?aF ?aO ?aB ?aS ?aL ?_; (case aP => exact rfl); (case aB => exact tb_); (case aF => exact (fun _ _ => trivial)); (case aO => exact (tr_x HO_8.out)); (case aS => exact (below_size tb_)); (case aL => have := LMc30.out; omega); intro v1442 w32 ho hb hg hat; rw [← Ny1441.out] at ho; have n0_ := A_ (hb); have n1_ := A_ (ho); clear HB; clear HO_8; have HB := n0_; have HO1443 := n1_; clear n0_ n1_; clear ho hb hg hat))
                         repeat (go_quiet (first | (go_at_call 111; (with_reducible refine (spec_l1In.calls (rd (rd_L1 l0 x39_2) x46_3) 0 (wrap64 (x5_1 - 1)) true _ A15.out).mono ?_); rintro e w' ⟨rfl, ⟨nd, rfl⟩⟩; (try exact dn_); obtain ⟨Ao31, co31, eo31⟩ := Kd.R_slice HO_8.out; subst eo31) | (go_at_call 204; (with_reducible refine (spec_l1Has.calls k3 _ _ x8_3 (rd (rd_L1 l0 x39_2) x46_3) false _ ?side1 ?side2 A17.out).mono ?_); (case side1 => exact tc0_ (Kd.R_reads' HO_8.out).2.2); (case side2 => exact (Kd.R_reads' HO_8.out).2.1); rintro e w' ⟨rfl, ⟨nd, rfl⟩⟩; (try exact dn_)) | ((with_reducible refine gate_builtin (b := .append) (xs := #[.tmp 84, .tmp 86]) rfl ?_); (try (refine gate_guard (by rfl) ?_; dsimp only)); at_builtin; refine Kd.R_append (Kd.int .i64) (w0 := w) w.heap.size rfl (.tmp 84) (.tmp 86) 22 3 (.int .i64 0) 8 rfl Try.underlying22 info3 rfl (by decide) (by omega) (.slice Ao31 x8_3.length co31) x8_3 (rd (rd_L1 l0 x39_2) x46_3) [.int .i64 (rd (rd_L1 l0 x39_2) x46_3)] (fun _ => True) (fun _ => False) rfl rfl ?aP (fun _ hk => hk.elim) ?aF ?aO ?aB ?aS ?aL ?_; (case aP => exact rfl); (case aB => exact tb_); (case aF => exact (fun _ _ => trivial)); (case aO => exact (tr_x HO_8.out)); (case aS => exact (below_size tb_)); (case aL => have := LMc30.out; omega); intro v1442 w32 ho hb hg hat; rw [← Ny1441.out] at ho; have n0_ := A_ (hb); have n1_ := A_ (ho); clear HB; clear HO_8; have HB := n0_; have HO1443 := n1_; clear n0_ n1_; clear ho hb hg hat)); try go_wp2_with (first | (go_at_call 111; (with_reducible refine (spec_l1In.calls (rd (rd_L1 l0 x39_2) x46_3) 0 (wrap64 (x5_1 - 1)) true _ A15.out).mono ?_); rintro e w' ⟨rfl, ⟨nd, rfl⟩⟩; (try exact dn_); obtain ⟨Ao31, co31, eo31⟩ := Kd.R_slice HO_8.out; subst eo31) | (go_at_call 204; (with_reducible refine (spec_l1Has.calls k3 _ _ x8_3 (rd (rd_L1 l0 x39_2) x46_3) false _ ?side1 ?side2 A17.out).mono ?_); (case side1 => exact tc0_ (Kd.R_reads' HO_8.out).2.2); (case side2 => exact (Kd.R_reads' HO_8.out).2.1); rintro e w' ⟨rfl, ⟨nd, rfl⟩⟩; (try exact dn_)) | ((with_reducible refine gate_builtin (b := .append) (xs := #[.tmp 84, .tmp 86]) rfl ?_); (try (refine gate_guard (by rfl) ?_; dsimp only)); at_builtin; refine Kd.R_append (Kd.int .i64) (w0 := w) w.heap.size rfl (.tmp 84) (.tmp 86) 22 3 (.int .i64 0) 8 rfl Try.underlying22 info3 rfl (by decide) (by omega) (.slice Ao31 x8_3.length co31) x8_3 (rd (rd_L1 l0 x39_2) x46_3) [.int .i64 (rd (rd_L1 l0 x39_2) x46_3)] (fun _ => True) (fun _ => False) rfl rfl ?aP (fun _ hk => hk.elim) ?aF ?aO ?aB ?aS ?aL ?_; (case aP => exact rfl); (case aB => exact tb_); (case aF => exact (fun _ _ => trivial)); (case aO => exact (tr_x HO_8.out)); (case aS => exact (below_size tb_)); (case aL => have := LMc30.out; omega); intro v1442 w32 ho hb hg hat; rw [← Ny1441.out] at ho; have n0_ := A_ (hb); have n1_ := A_ (ho); clear HB; clear HO_8; have HB := n0_; have HO1443 := n1_; clear n0_ n1_; clear ho hb hg hat)))
                         go_roundg k3
                         case measure => have := HK1.out; have := HK2.out; have := HK3.out; omega
                         case rel => exact ⟨(y1441), (wrap64 (x46_3 + 1)), tf_, H', ⟨by have := HK1.out; have := HK2.out; have := HK3.out; omega⟩, ⟨tr_x HO1443.out⟩, ⟨tb_⟩⟩
                        ·
                         rw [if_neg c30] at H
                         exact absurd H (by simp)
                      ·
                       rw [if_neg c27] at H
                       exact absurd H (by simp)
                     ·
                      rw [if_neg c26] at H
                      exact absurd H (by simp)
                    ·
                     replace c24 := Bool.eq_false_iff.mpr c24
                     subst c24
                     have H1 : (if x8_3.length < 17592186044416 then (spec_fiBlocks.l2 k3 l0 false x5_1 (x8_3 ++ [rd (rd_L1 l0 x39_2) x46_3]) x39_2 (rd_L1 l0 x39_2) l0 (l0.length : Int) x39_2 (rd_L1 l0 x39_2) ((rd_L1 l0 x39_2).length : Int) (wrap64 (x46_3 + 1))) else (none)) = some r := by rw [if_neg (show ¬ (false = true) by decide)] at H; exact H
                     clear H
                     have H := H1
                     clear H1
                     by_cases c33 : x8_3.length < 17592186044416
                     ·
                      rw [if_pos c33] at H
                      have LMc33 := A_ c33
                      clear c33
                      obtain ⟨y1444, hy1444⟩ : ∃ y_ : List Int, y_ = (x8_3 ++ [rd (rd_L1 l0 x39_2) x46_3]) := ⟨_, rfl⟩
                      replace H : (spec_fiBlocks.l2 k3 l0 false x5_1 y1444 x39_2 (rd_L1 l0 x39_2) l0 (l0.length : Int) x39_2 (rd_L1 l0 x39_2) ((rd_L1 l0 x39_2).length : Int) (wrap64 (x46_3 + 1))) = some r := ty_ hy1444 H
                      have Ny1444 := A_ hy1444
                      clear hy1444
                      have H' := A_ H
                      clear H
                      have p1436 : 0 ≤ (x46_3 : Int) := od_
                      have q1436 : x46_3 < ((rd_L1 l0 x39_2).length : Int) := od_
                      obtain ⟨ad1436, e1436, hx1436_0⟩ := Kd.at_int HR1432_0.out x46_3 p1436 q1436
                      cases e1436
                      (try replace hx1436_0 := (HB.out.cell (World.block_lt_of_cell? w _ hx1436_0)).trans hx1436_0)
                      replace p1436 := eq_true p1436
                      replace q1436 := eq_true q1436
                      have p1439 : 0 ≤ (0 : Int) := (by omega)
                      have q1439 : 0 < ((rd_L1 l0 x39_2).length : Int) := od_
                      obtain ⟨ad1439, e1439, hx1439_0⟩ := Kd.at_int HR1432_0.out 0 p1439 q1439
                      obtain rfl : ad1436 = ad1439 := (by injection e1439)
                      have qi1439 : (0 < (rd_L1 l0 x39_2).length) = True := eq_true (by omega)
                      (try rw [show ((0 : Int)).toNat = 0 from rfl] at hx1439_0)
                      (try rw [Addr.add_zero'] at hx1439_0)
                      (try replace hx1439_0 := (HB.out.cell (World.block_lt_of_cell? w _ hx1439_0)).trans hx1439_0)
                      replace p1439 := eq_true p1439
                      replace q1439 := eq_true q1439
                      go_wp2_with (first | (go_at_call 111; (with_reducible refine (spec_l1In.calls (rd (rd_L1 l0 x39_2) x46_3) 0 (wrap64 (x5_1 - 1)) true _ A15.out).mono ?_); rintro e w' ⟨rfl, ⟨nd, rfl⟩⟩; (try exact dn_); obtain ⟨Ao34, co34, eo34⟩ := Kd.R_slice HO_8.out; subst eo34) | (go_at_call 204; (with_reducible refine (spec_l1Has.calls k3 _ _ x8_3 (rd (rd_L1 l0 x39_2) x46_3) false _ ?side1 ?side2 A17.out).mono ?_); (case side1 => exact tc0_ (Kd.R_reads' HO_8.out).2.2); (case side2 => exact (Kd.R_reads' HO_8.out).2.1); rintro e w' ⟨rfl, ⟨nd, rfl⟩⟩; (try exact dn_)) | ((with_reducible refine gate_builtin (b := .append) (xs := #[.tmp 84, .tmp 86]) rfl ?_); (try (refine gate_guard (by rfl) ?_; dsimp only)); at_builtin; refine Kd.R_append (Kd.int .i64) (w0 := w) w.heap.size rfl (.tmp 84) (.tmp 86) 22 3 (.int .i64 0) 8 rfl Try.underlying22 info3 rfl (by decide) (by omega) (.slice Ao34 x8_3.length co34) x8_3 (rd (rd_L1 l0 x39_2) x46_3) [.int .i64 (rd (rd_L1 l0 x39_2) x46_3)] (fun _ => True) (fun _ => False) rfl rfl ?aP (fun _ hk => hk.elim) ?aF ?aO ?aB ?aS ?aL ?_; (case aP => exact rfl); (case aB => exact tb_); (case aF => exact (fun _ _ => trivial)); (case aO => exact (tr_x HO_8.out)); (case aS => exact (below_size tb_)); (case aL => have := LMc33.out; omega); intro v1445 w35 ho hb hg hat; rw [← Ny1444.out] at ho; have n0_ := A_ (hb); have n1_ := A_ (ho); clear HB; clear HO_8; have HB := n0_; have HO1446 := n1_; clear n0_ n1_; clear ho hb hg hat))
                      repeat (go_quiet (first | (go_at_call 111; (with_reducible refine (spec_l1In.calls (rd (rd_L1 l0 x39_2) x46_3) 0 (wrap64 (x5_1 - 1)) true _ A15.out).mono ?_); rintro e w' ⟨rfl, ⟨nd, rfl⟩⟩; (try exact dn_); obtain ⟨Ao34, co34, eo34⟩ := Kd.R_slice HO_8.out; subst eo34) | (go_at_call 204; (with_reducible refine (spec_l1Has.calls k3 _ _ x8_3 (rd (rd_L1 l0 x39_2) x46_3) false _ ?side1 ?side2 A17.out).mono ?_); (case side1 => exact tc0_ (Kd.R_reads' HO_8.out).2.2); (case side2 => exact (Kd.R_reads' HO_8.out).2.1); rintro e w' ⟨rfl, ⟨nd, rfl⟩⟩; (try exact dn_)) | ((with_reducible refine gate_builtin (b := .append) (xs := #[.tmp 84, .tmp 86]) rfl ?_); (try (refine gate_guard (by rfl) ?_; dsimp only)); at_builtin; refine Kd.R_append (Kd.int .i64) (w0 := w) w.heap.size rfl (.tmp 84) (.tmp 86) 22 3 (.int .i64 0) 8 rfl Try.underlying22 info3 rfl (by decide) (by omega) (.slice Ao34 x8_3.length co34) x8_3 (rd (rd_L1 l0 x39_2) x46_3) [.int .i64 (rd (rd_L1 l0 x39_2) x46_3)] (fun _ => True) (fun _ => False) rfl rfl ?aP (fun _ hk => hk.elim) ?aF ?aO ?aB ?aS ?aL ?_; (case aP => exact rfl); (case aB => exact tb_); (case aF => exact (fun _ _ => trivial)); (case aO => exact (tr_x HO_8.out)); (case aS => exact (below_size tb_)); (case aL => have := LMc33.out; omega); intro v1445 w35 ho hb hg hat; rw [← Ny1444.out] at ho; have n0_ := A_ (hb); have n1_ := A_ (ho); clear HB; clear HO_8; have HB := n0_; have HO1446 := n1_; clear n0_ n1_; clear ho hb hg hat)); try go_wp2_with (first | (go_at_call 111; (with_reducible refine (spec_l1In.calls (rd (rd_L1 l0 x39_2) x46_3) 0 (wrap64 (x5_1 - 1)) true _ A15.out).mono ?_); rintro e w' ⟨rfl, ⟨nd, rfl⟩⟩; (try exact dn_); obtain ⟨Ao34, co34, eo34⟩ := Kd.R_slice HO_8.out; subst eo34) | (go_at_call 204; (with_reducible refine (spec_l1Has.calls k3 _ _ x8_3 (rd (rd_L1 l0 x39_2) x46_3) false _ ?side1 ?side2 A17.out).mono ?_); (case side1 => exact tc0_ (Kd.R_reads' HO_8.out).2.2); (case side2 => exact (Kd.R_reads' HO_8.out).2.1); rintro e w' ⟨rfl, ⟨nd, rfl⟩⟩; (try exact dn_)) | ((with_reducible refine gate_builtin (b := .append) (xs := #[.tmp 84, .tmp 86]) rfl ?_); (try (refine gate_guard (by rfl) ?_; dsimp only)); at_builtin; refine Kd.R_append (Kd.int .i64) (w0 := w) w.heap.size rfl (.tmp 84) (.tmp 86) 22 3 (.int .i64 0) 8 rfl Try.underlying22 info3 rfl (by decide) (by omega) (.slice Ao34 x8_3.length co34) x8_3 (rd (rd_L1 l0 x39_2) x46_3) [.int .i64 (rd (rd_L1 l0 x39_2) x46_3)] (fun _ => True) (fun _ => False) rfl rfl ?aP (fun _ hk => hk.elim) ?aF ?aO ?aB ?aS ?aL ?_; (case aP => exact rfl); (case aB => exact tb_); (case aF => exact (fun _ _ => trivial)); (case aO => exact (tr_x HO_8.out)); (case aS => exact (below_size tb_)); (case aL => have := LMc33.out; omega); intro v1445 w35 ho hb hg hat; rw [← Ny1444.out] at ho; have n0_ := A_ (hb); have n1_ := A_ (ho); clear HB; clear HO_8; have HB := n0_; have HO1446 := n1_; clear n0_ n1_; clear ho hb hg hat)))
                      go_roundg k3
                      case measure => have := HK1.out; have := HK2.out; have := HK3.out; omega
                      case rel => exact ⟨(y1444), (wrap64 (x46_3 + 1)), tf_, H', ⟨by have := HK1.out; have := HK2.out; have := HK3.out; omega⟩, ⟨tr_x HO1446.out⟩, ⟨tb_⟩⟩
                     ·
                      rw [if_neg c33] at H
                      exact absurd H (by simp)
                  ·
                   rw [if_neg c21] at H
                   exact absurd H (by simp)
                 ·
                  rw [if_neg c20] at H
                  have c20b0 := decide_eq_false c20
                  clear c20
                  by_cases c36 : x8_3.length < 17592186044416
                  ·
                   rw [if_pos c36] at H
                   have LMc36 := A_ c36
                   clear c36
                   obtain ⟨y1447, hy1447⟩ : ∃ y_ : List Int, y_ = (x8_3 ++ [rd (rd_L1 l0 x39_2) x46_3]) := ⟨_, rfl⟩
                   replace H : (spec_fiBlocks.l2 k3 l0 a1 x5_1 y1447 x39_2 (rd_L1 l0 x39_2) l0 (l0.length : Int) x39_2 (rd_L1 l0 x39_2) ((rd_L1 l0 x39_2).length : Int) (wrap64 (x46_3 + 1))) = some r := ty_ hy1447 H
                   have Ny1447 := A_ hy1447
                   clear hy1447
                   have H' := A_ H
                   clear H
                   have p1436 : 0 ≤ (x46_3 : Int) := od_
                   have q1436 : x46_3 < ((rd_L1 l0 x39_2).length : Int) := od_
                   obtain ⟨ad1436, e1436, hx1436_0⟩ := Kd.at_int HR1432_0.out x46_3 p1436 q1436
                   cases e1436
                   (try replace hx1436_0 := (HB.out.cell (World.block_lt_of_cell? w _ hx1436_0)).trans hx1436_0)
                   replace p1436 := eq_true p1436
                   replace q1436 := eq_true q1436
                   go_wp2_with (first | (go_at_call 111; (with_reducible refine (spec_l1In.calls (rd (rd_L1 l0 x39_2) x46_3) 0 (wrap64 (x5_1 - 1)) true _ A15.out).mono ?_); rintro e w' ⟨rfl, ⟨nd, rfl⟩⟩; (try exact dn_); obtain ⟨Ao37, co37, eo37⟩ := Kd.R_slice HO_8.out; subst eo37) | (go_at_call 204; (with_reducible refine (spec_l1Has.calls k3 _ _ x8_3 (rd (rd_L1 l0 x39_2) x46_3) false _ ?side1 ?side2 A17.out).mono ?_); (case side1 => exact tc0_ (Kd.R_reads' HO_8.out).2.2); (case side2 => exact (Kd.R_reads' HO_8.out).2.1); rintro e w' ⟨rfl, ⟨nd, rfl⟩⟩; (try exact dn_)) | ((with_reducible refine gate_builtin (b := .append) (xs := #[.tmp 84, .tmp 86]) rfl ?_); (try (refine gate_guard (by rfl) ?_; dsimp only)); at_builtin; refine Kd.R_append (Kd.int .i64) (w0 := w) w.heap.size rfl (.tmp 84) (.tmp 86) 22 3 (.int .i64 0) 8 rfl Try.underlying22 info3 rfl (by decide) (by omega) (.slice Ao37 x8_3.length co37) x8_3 (rd (rd_L1 l0 x39_2) x46_3) [.int .i64 (rd (rd_L1 l0 x39_2) x46_3)] (fun _ => True) (fun _ => False) rfl rfl ?aP (fun _ hk => hk.elim) ?aF ?aO ?aB ?aS ?aL ?_; (case aP => exact rfl); (case aB => exact tb_); (case aF => exact (fun _ _ => trivial)); (case aO => exact (tr_x HO_8.out)); (case aS => exact (below_size tb_)); (case aL => have := LMc36.out; omega); intro v1448 w38 ho hb hg hat; rw [← Ny1447.out] at ho; have n0_ := A_ (hb); have n1_ := A_ (ho); clear HB; clear HO_8; have HB := n0_; have HO1449 := n1_; clear n0_ n1_; clear ho hb hg hat))
                   repeat (go_quiet (first | (go_at_call 111; (with_reducible refine (spec_l1In.calls (rd (rd_L1 l0 x39_2) x46_3) 0 (wrap64 (x5_1 - 1)) true _ A15.out).mono ?_); rintro e w' ⟨rfl, ⟨nd, rfl⟩⟩; (try exact dn_); obtain ⟨Ao37, co37, eo37⟩ := Kd.R_slice HO_8.out; subst eo37) | (go_at_call 204; (with_reducible refine (spec_l1Has.calls k3 _ _ x8_3 (rd (rd_L1 l0 x39_2) x46_3) false _ ?side1 ?side2 A17.out).mono ?_); (case side1 => exact tc0_ (Kd.R_reads' HO_8.out).2.2); (case side2 => exact (Kd.R_reads' HO_8.out).2.1); rintro e w' ⟨rfl, ⟨nd, rfl⟩⟩; (try exact dn_)) | ((with_reducible refine gate_builtin (b := .append) (xs := #[.tmp 84, .tmp 86]) rfl ?_); (try (refine gate_guard (by rfl) ?_; dsimp only)); at_builtin; refine Kd.R_append (Kd.int .i64) (w0 := w) w.heap.size rfl (.tmp 84) (.tmp 86) 22 3 (.int .i64 0) 8 rfl Try.underlying22 info3 rfl (by decide) (by omega) (.slice Ao37 x8_3.length co37) x8_3 (rd (rd_L1 l0 x39_2) x46_3) [.int .i64 (rd (rd_L1 l0 x39_2) x46_3)] (fun _ => True) (fun _ => False) rfl rfl ?aP (fun _ hk => hk.elim) ?aF ?aO ?aB ?aS ?aL ?_; (case aP => exact rfl); (case aB => exact tb_); (case aF => exact (fun _ _ => trivial)); (case aO => exact (tr_x HO_8.out)); (case aS => exact (below_size tb_)); (case aL => have := LMc36.out; omega); intro v1448 w38 ho hb hg hat; rw [← Ny1447.out] at ho; have n0_ := A_ (hb); have n1_ := A_ (ho); clear HB; clear HO_8; have HB := n0_; have HO1449 := n1_; clear n0_ n1_; clear ho hb hg hat)); try go_wp2_with (first | (go_at_call 111; (with_reducible refine (spec_l1In.calls (rd (rd_L1 l0 x39_2) x46_3) 0 (wrap64 (x5_1 - 1)) true _ A15.out).mono ?_); rintro e w' ⟨rfl, ⟨nd, rfl⟩⟩; (try exact dn_); obtain ⟨Ao37, co37, eo37⟩ := Kd.R_slice HO_8.out; subst eo37) | (go_at_call 204; (with_reducible refine (spec_l1Has.calls k3 _ _ x8_3 (rd (rd_L1 l0 x39_2) x46_3) false _ ?side1 ?side2 A17.out).mono ?_); (case side1 => exact tc0_ (Kd.R_reads' HO_8.out).2.2); (case side2 => exact (Kd.R_reads' HO_8.out).2.1); rintro e w' ⟨rfl, ⟨nd, rfl⟩⟩; (try exact dn_)) | ((with_reducible refine gate_builtin (b := .append) (xs := #[.tmp 84, .tmp 86]) rfl ?_); (try (refine gate_guard (by rfl) ?_; dsimp only)); at_builtin; refine Kd.R_append (Kd.int .i64) (w0 := w) w.heap.size rfl (.tmp 84) (.tmp 86) 22 3 (.int .i64 0) 8 rfl Try.underlying22 info3 rfl (by decide) (by omega) (.slice Ao37 x8_3.length co37) x8_3 (rd (rd_L1 l0 x39_2) x46_3) [.int .i64 (rd (rd_L1 l0 x39_2) x46_3)] (fun _ => True) (fun _ => False) rfl rfl ?aP (fun _ hk => hk.elim) ?aF ?aO ?aB ?aS ?aL ?_; (case aP => exact rfl); (case aB => exact tb_); (case aF => exact (fun _ _ => trivial)); (case aO => exact (tr_x HO_8.out)); (case aS => exact (below_size tb_)); (case aL => have := LMc36.out; omega); intro v1448 w38 ho hb hg hat; rw [← Ny1447.out] at ho; have n0_ := A_ (hb); have n1_ := A_ (ho); clear HB; clear HO_8; have HB := n0_; have HO1449 := n1_; clear n0_ n1_; clear ho hb hg hat)))
                   go_roundg k3
                   case measure => have := HK1.out; have := HK2.out; have := HK3.out; omega
                   case rel => exact ⟨(y1447), (wrap64 (x46_3 + 1)), tf_, H', ⟨by have := HK1.out; have := HK2.out; have := HK3.out; omega⟩, ⟨tr_x HO1449.out⟩, ⟨tb_⟩⟩
                  ·
                   rw [if_neg c36] at H
                   exact absurd H (by simp)
               ·
                replace c16 := Bool.eq_false_iff.mpr c16
                subst c16
                have H1 : (some 0) = some r := by rw [if_neg (show ¬ (false = true) by decide)] at H; exact H
                clear H
                have H := H1
                clear H1
                obtain rfl := Option.some.inj H
                have p1436 : 0 ≤ (x46_3 : Int) := od_
                have q1436 : x46_3 < ((rd_L1 l0 x39_2).length : Int) := od_
                obtain ⟨ad1436, e1436, hx1436_0⟩ := Kd.at_int HR1432_0.out x46_3 p1436 q1436
                cases e1436
                (try replace hx1436_0 := (HB.out.cell (World.block_lt_of_cell? w _ hx1436_0)).trans hx1436_0)
                replace p1436 := eq_true p1436
                replace q1436 := eq_true q1436
                go_wp2_with (first | (go_at_call 111; (with_reducible refine (spec_l1In.calls (rd (rd_L1 l0 x39_2) x46_3) 0 (wrap64 (x5_1 - 1)) false _ A15.out).mono ?_); rintro e w' ⟨rfl, ⟨nd, rfl⟩⟩; (try exact dn_)))
                repeat (go_quiet (first | (go_at_call 111; (with_reducible refine (spec_l1In.calls (rd (rd_L1 l0 x39_2) x46_3) 0 (wrap64 (x5_1 - 1)) false _ A15.out).mono ?_); rintro e w' ⟨rfl, ⟨nd, rfl⟩⟩; (try exact dn_))); try go_wp2_with (first | (go_at_call 111; (with_reducible refine (spec_l1In.calls (rd (rd_L1 l0 x39_2) x46_3) 0 (wrap64 (x5_1 - 1)) false _ A15.out).mono ?_); rintro e w' ⟨rfl, ⟨nd, rfl⟩⟩; (try exact dn_))))
                go_ret
                exact ⟨te_, tb_⟩
              ·
               rw [if_neg c14] at H
               exact absurd H (by simp)
             ·
              rw [if_neg c13] at H
              exact absurd H (by simp)
            ·
             rw [if_neg c12] at H
             have c12b0 := decide_eq_false c12
             clear c12
             by_cases c39 : x39_2 > 0
             ·
              rw [if_pos c39] at H
              have c39b0 := decide_eq_true c39
              clear c39
              by_cases c40 : 0 < ((rd_L1 l0 x39_2).length : Int)
              ·
               rw [if_pos c40] at H
               have c40b0 := decide_eq_true c40
               have c40b1 : decide (0 < (rd_L1 l0 x39_2).length) = true := decide_eq_true (by omega)
               clear c40
               obtain ⟨ji41, hji41⟩ : ∃ j_ : Int, (wrap64 (x39_2 - 1)) = j_ := ⟨_, rfl⟩
               replace H : (if 0 ≤ (ji41) then (if (ji41) < (l0.length : Int) then (if 0 < ((rd_L1 l0 (ji41)).length : Int) then (if (rd (rd_L1 l0 x39_2) 0) < (rd (rd_L1 l0 (ji41)) 0) then (some 0) else (spec_fiBlocks.l1 k3 l0 a1 x5_1 x8_3 l0 (l0.length : Int) (wrap64 (x39_2 + 1)))) else (none)) else (none)) else (none)) = some r := by first | (rw [hji41] at H; exact H) | (simp only [hji41] at H ⊢; exact H)
               have hji41w : (IntKind.i64.wrap (x39_2 - 1)) = ji41 := (i64_w _).trans hji41
               by_cases c42 : 0 ≤ (ji41)
               ·
                rw [if_pos c42] at H
                have c42b0 := decide_eq_true c42
                clear c42
                by_cases c43 : (ji41) < (l0.length : Int)
                ·
                 rw [if_pos c43] at H
                 have c43b0 := decide_eq_true c43
                 clear c43
                 by_cases c44 : 0 < ((rd_L1 l0 (ji41)).length : Int)
                 ·
                  rw [if_pos c44] at H
                  have c44b0 := decide_eq_true c44
                  have c44b1 : decide (0 < (rd_L1 l0 (ji41)).length) = true := decide_eq_true (by omega)
                  clear c44
                  by_cases c45 : (rd (rd_L1 l0 x39_2) 0) < (rd (rd_L1 l0 (ji41)) 0)
                  ·
                   rw [if_pos c45] at H
                   have c45b0 := decide_eq_true c45
                   clear c45
                   obtain rfl := Option.some.inj H
                   have p1433 : 0 ≤ (0 : Int) := (by omega)
                   have q1433 : 0 < ((rd_L1 l0 x39_2).length : Int) := od_
                   obtain ⟨ad1433, e1433, hx1433_0⟩ := Kd.at_int HR1432_0.out 0 p1433 q1433
                   cases e1433
                   have qi1433 : (0 < (rd_L1 l0 x39_2).length) = True := eq_true (by omega)
                   (try rw [show ((0 : Int)).toNat = 0 from rfl] at hx1433_0)
                   (try rw [Addr.add_zero'] at hx1433_0)
                   (try replace hx1433_0 := (HB.out.cell (World.block_lt_of_cell? w _ hx1433_0)).trans hx1433_0)
                   replace p1433 := eq_true p1433
                   replace q1433 := eq_true q1433
                   have p1434 : 0 ≤ ((ji41) : Int) := od_
                   have q1434 : (ji41) < (l0.length : Int) := od_
                   obtain ⟨ad1434, A1434_0, c1434_0, e1434, hx1434_0, hl1434_0, hi1434_0⟩ := at_L1 HR0.out (ji41) p1434 q1434
                   obtain rfl : ad1432 = ad1434 := (by injection e1434)
                   (try replace hx1434_0 := (HB.out.cell (World.block_lt_of_cell? w _ hx1434_0)).trans hx1434_0)
                   have HR1434_0 := A_ hi1434_0
                   have HC1434_0 := A_ hl1434_0
                   clear hi1434_0 hl1434_0
                   replace p1434 := eq_true p1434
                   replace q1434 := eq_true q1434
                   have p1435 : 0 ≤ (0 : Int) := (by omega)
                   have q1435 : 0 < ((rd_L1 l0 (ji41)).length : Int) := od_
                   obtain ⟨ad1435, e1435, hx1435_0⟩ := Kd.at_int HR1434_0.out 0 p1435 q1435
                   cases e1435
                   have qi1435 : (0 < (rd_L1 l0 (ji41)).length) = True := eq_true (by omega)
                   (try rw [show ((0 : Int)).toNat = 0 from rfl] at hx1435_0)
                   (try rw [Addr.add_zero'] at hx1435_0)
                   (try replace hx1435_0 := (HB.out.cell (World.block_lt_of_cell? w _ hx1435_0)).trans hx1435_0)
                   replace p1435 := eq_true p1435
                   replace q1435 := eq_true q1435
                   go_wp2
                   repeat (go_quiet (fail); try go_wp2)
                   go_ret
                   exact ⟨by first | rfl | (simp [errW_none, errW_some] <;> rfl) | (simp only [← hji41]; first | rfl | (simp [errW_none, errW_some] <;> rfl)) | (simp [*, errW_none, errW_some] <;> rfl), tb_⟩
                  ·
                   rw [if_neg c45] at H
                   have c45b0 := decide_eq_false c45
                   clear c45
                   have H' := A_ H
                   clear H
                   have p1433 : 0 ≤ (0 : Int) := (by omega)
                   have q1433 : 0 < ((rd_L1 l0 x39_2).length : Int) := od_
                   obtain ⟨ad1433, e1433, hx1433_0⟩ := Kd.at_int HR1432_0.out 0 p1433 q1433
                   cases e1433
                   have qi1433 : (0 < (rd_L1 l0 x39_2).length) = True := eq_true (by omega)
                   (try rw [show ((0 : Int)).toNat = 0 from rfl] at hx1433_0)
                   (try rw [Addr.add_zero'] at hx1433_0)
                   (try replace hx1433_0 := (HB.out.cell (World.block_lt_of_cell? w _ hx1433_0)).trans hx1433_0)
                   replace p1433 := eq_true p1433
                   replace q1433 := eq_true q1433
                   have p1434 : 0 ≤ ((ji41) : Int) := od_
                   have q1434 : (ji41) < (l0.length : Int) := od_
                   obtain ⟨ad1434, A1434_0, c1434_0, e1434, hx1434_0, hl1434_0, hi1434_0⟩ := at_L1 HR0.out (ji41) p1434 q1434
                   obtain rfl : ad1432 = ad1434 := (by injection e1434)
                   (try replace hx1434_0 := (HB.out.cell (World.block_lt_of_cell? w _ hx1434_0)).trans hx1434_0)
                   have HR1434_0 := A_ hi1434_0
                   have HC1434_0 := A_ hl1434_0
                   clear hi1434_0 hl1434_0
                   replace p1434 := eq_true p1434
                   replace q1434 := eq_true q1434
                   have p1435 : 0 ≤ (0 : Int) := (by omega)
                   have q1435 : 0 < ((rd_L1 l0 (ji41)).length : Int) := od_
                   obtain ⟨ad1435, e1435, hx1435_0⟩ := Kd.at_int HR1434_0.out 0 p1435 q1435
                   cases e1435
                   have qi1435 : (0 < (rd_L1 l0 (ji41)).length) = True := eq_true (by omega)
                   (try rw [show ((0 : Int)).toNat = 0 from rfl] at hx1435_0)
                   (try rw [Addr.add_zero'] at hx1435_0)
                   (try replace hx1435_0 := (HB.out.cell (World.block_lt_of_cell? w _ hx1435_0)).trans hx1435_0)
                   replace p1435 := eq_true p1435
                   replace q1435 := eq_true q1435
                   go_wp2
                   repeat (go_quiet (fail); try go_wp2)
                   go_roundg k3
                   case measure => have := HK1.out; have := HK2.out; have := HK3.out; omega
                   case rel => exact ⟨(x8_3), (wrap64 (x39_2 + 1)), tf_, H', ⟨by have := HK1.out; have := HK2.out; have := HK3.out; omega⟩, ⟨tr_x HO_8.out⟩, ⟨tb_⟩⟩
                 ·
                  rw [if_neg c44] at H
                  exact absurd H (by simp)
                ·
                 rw [if_neg c43] at H
                 exact absurd H (by simp)
               ·
                rw [if_neg c42] at H
                exact absurd H (by simp)
              ·
               rw [if_neg c40] at H
               exact absurd H (by simp)
             ·
              rw [if_neg c39] at H
              have c39b0 := decide_eq_false c39
              clear c39
              have H' := A_ H
              clear H
              go_wp2
              repeat (go_quiet (fail); try go_wp2)
              go_roundg k3
              case measure => have := HK1.out; have := HK2.out; have := HK3.out; omega
              case rel => exact ⟨(x8_3), (wrap64 (x39_2 + 1)), tf_, H', ⟨by have := HK1.out; have := HK2.out; have := HK3.out; omega⟩, ⟨tr_x HO_8.out⟩, ⟨tb_⟩⟩
         ·
          rw [if_neg c11] at H
          exact absurd H (by simp)
        ·
         rw [if_neg c10] at H
         exact absurd H (by simp)
       ·
        rw [if_neg c9] at H
        have c9b0 := decide_eq_false c9
        clear c9
        obtain rfl := Option.some.inj H
        go_wp2
        repeat (go_quiet (fail); try go_wp2)
        go_ret
        exact ⟨te_, tb_⟩

end
end Go.Proofs.Ythlcaikplebpmaa.P
