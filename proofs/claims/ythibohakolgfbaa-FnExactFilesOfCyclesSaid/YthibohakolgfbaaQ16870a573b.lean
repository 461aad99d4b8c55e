-- printed functions (wip/slim.py)
import Derived.Test.YthibohakolgfbaaPx0
import Derived.Test.YthibohakolgfbaaQ39d991b42c
import Derived.Test.YthibohakolgfbaaQ42a57f82b3
import Derived.Test.YthibohakolgfbaaQ7c7280ea9a
import Derived.Test.YthibohakolgfbaaPx45
namespace Go.Proofs.Ythibohakolgfbaa.P
noncomputable section
open Go.RowKit Go.Proofs.YthibohakolgfbaaW.PrintWords Go.Proofs.YthibohakolgfbaaW.PrintLast Go.Proofs.YthibohakolgfbaaW.PrintMore
attribute [local go_sem] max2_int min2_int max_two min_two max_three min_three max_four min_four   -- for this text's walks alone
set_option linter.unusedVariables false
set_option linter.unusedSimpArgs false

/-! ### spec_FilesOfCycles: function 51 -/
mutual
def spec_FilesOfCycles.l0 : Nat → List Int → List (List Int) → Int → Int → Option (List Int × Bool)
  | 0, _, _, _, _ => none
  | k + 1, x5, x18, x19, x20 => if x20 < x19 then (if 0 ≤ x20 then (if x20 < (x18.length : Int) then (spec_FilesOfCycles.l1 k x5 (rd_L1 x18 x20) x18 x19 x20 (rd_L1 x18 x20) ((rd_L1 x18 x20).length : Int) 0) else (none)) else (none)) else (some (x5, true))
def spec_FilesOfCycles.l1 : Nat → List Int → List Int → List (List Int) → Int → Int → List Int → Int → Int → Option (List Int × Bool)
  | 0, _, _, _, _, _, _, _, _ => none
  | k + 1, x5, x7, x18, x19, x20, x24, x25, x26 => if x26 < x25 then (if 0 ≤ x26 then (if x26 < (x24.length : Int) then (if 0 ≤ (rd x24 x26) then (if (rd x24 x26) < (x5.length : Int) then (if x26 ≤ (x7.length : Int) then ((some (x7.take (x26 : Int).toNat : List Int)).bind fun y849 => (spec_FilesOfCycles.l2 k (x5.set ((rd x24 x26) : Int).toNat (-1)) x7 (rd x24 x26) x18 x19 x20 x24 x25 x26 y849 (y849.length : Int) 0)) else (none)) else (none)) else (none)) else (none)) else (none)) else (spec_FilesOfCycles.l0 k x5 x18 x19 (wrap64 (x20 + 1)))
def spec_FilesOfCycles.l2 : Nat → List Int → List Int → Int → List (List Int) → Int → Int → List Int → Int → Int → List Int → Int → Int → Option (List Int × Bool)
  | 0, _, _, _, _, _, _, _, _, _, _, _, _ => none
  | k + 1, x5, x7, x9, x18, x19, x20, x24, x25, x26, x36, x37, x38 => if x38 < x37 then (if 0 ≤ x38 then (if x38 < (x36.length : Int) then (if (rd x36 x38) < x9 then (if 0 ≤ x9 then (if x9 < (x5.length : Int) then (spec_FilesOfCycles.l2 k (x5.set (x9 : Int).toNat (rd x36 x38)) x7 x9 x18 x19 x20 x24 x25 x26 x36 x37 (wrap64 (x38 + 1))) else (none)) else (none)) else (spec_FilesOfCycles.l2 k x5 x7 x9 x18 x19 x20 x24 x25 x26 x36 x37 (wrap64 (x38 + 1)))) else (none)) else (none)) else (spec_FilesOfCycles.l1 k x5 x7 x18 x19 x20 x24 x25 (wrap64 (x26 + 1)))
end
def spec_FilesOfCycles.f (k : Nat) (l0 : List (List Int)) : Option (List Int × Bool) := (spec_fiBlocks.f k l0 false).bind fun t842 => (if t842 = 0 then (some (([] : List Int), false)) else (if 0 ≤ t842 then (if (t842 : Int).toNat ≤ 35184372088832 then (spec_FilesOfCycles.l0 k (List.replicate (t842 : Int).toNat 0) l0 (l0.length : Int) 0) else (none)) else (none)))
theorem spec_FilesOfCycles.mono_l : ∀ k, (∀ y0 y1 y2 y3, LeO (spec_FilesOfCycles.l0 k y0 y1 y2 y3) (spec_FilesOfCycles.l0 (k + 1) y0 y1 y2 y3)) ∧ (∀ y0 y1 y2 y3 y4 y5 y6 y7, LeO (spec_FilesOfCycles.l1 k y0 y1 y2 y3 y4 y5 y6 y7) (spec_FilesOfCycles.l1 (k + 1) y0 y1 y2 y3 y4 y5 y6 y7)) ∧ (∀ y0 y1 y2 y3 y4 y5 y6 y7 y8 y9 y10 y11, LeO (spec_FilesOfCycles.l2 k y0 y1 y2 y3 y4 y5 y6 y7 y8 y9 y10 y11) (spec_FilesOfCycles.l2 (k + 1) y0 y1 y2 y3 y4 y5 y6 y7 y8 y9 y10 y11))
  | 0 => ⟨fun _ _ _ _ r h => by simp [spec_FilesOfCycles.l0] at h, fun _ _ _ _ _ _ _ _ r h => by simp [spec_FilesOfCycles.l1] at h, fun _ _ _ _ _ _ _ _ _ _ _ _ r h => by simp [spec_FilesOfCycles.l2] at h⟩
  | k + 1 => by
    obtain ⟨ih0, ih1, ih2⟩ := spec_FilesOfCycles.mono_l k
    refine ⟨?_, ?_, ?_⟩
    · intro y0 y1 y2 y3
      unfold spec_FilesOfCycles.l0
      repeat' first
      | (with_reducible exact ih0 _ _ _ _)
      | (with_reducible exact ih1 _ _ _ _ _ _ _ _)
      | (with_reducible exact ih2 _ _ _ _ _ _ _ _ _ _ _ _)
      | (with_reducible exact spec_fiBlocks.mono _ _ _)
      | (with_reducible exact LeO.refl _)
      | (with_reducible exact LeO.none _)
      | (with_reducible refine LeO.ite ?_ ?_)
      | (with_reducible refine LeO.bind ?_ (fun _ => ?_))
      | exact ih0 _ _ _ _
      | exact ih1 _ _ _ _ _ _ _ _
      | exact ih2 _ _ _ _ _ _ _ _ _ _ _ _
      | exact spec_fiBlocks.mono _ _ _
      | exact LeO.none _
      | refine LeO.ite ?_ ?_
      | refine LeO.bind ?_ (fun _ => ?_)
    · intro y0 y1 y2 y3 y4 y5 y6 y7
      unfold spec_FilesOfCycles.l1
      repeat' first
      | (with_reducible exact ih0 _ _ _ _)
      | (with_reducible exact ih1 _ _ _ _ _ _ _ _)
      | (with_reducible exact ih2 _ _ _ _ _ _ _ _ _ _ _ _)
      | (with_reducible exact spec_fiBlocks.mono _ _ _)
      | (with_reducible exact LeO.refl _)
      | (with_reducible exact LeO.none _)
      | (with_reducible refine LeO.ite ?_ ?_)
      | (with_reducible refine LeO.bind ?_ (fun _ => ?_))
      | exact ih0 _ _ _ _
      | exact ih1 _ _ _ _ _ _ _ _
      | exact ih2 _ _ _ _ _ _ _ _ _ _ _ _
      | exact spec_fiBlocks.mono _ _ _
      | exact LeO.none _
      | refine LeO.ite ?_ ?_
      | refine LeO.bind ?_ (fun _ => ?_)
    · intro y0 y1 y2 y3 y4 y5 y6 y7 y8 y9 y10 y11
      unfold spec_FilesOfCycles.l2
      repeat' first
      | (with_reducible exact ih0 _ _ _ _)
      | (with_reducible exact ih1 _ _ _ _ _ _ _ _)
      | (with_reducible exact ih2 _ _ _ _ _ _ _ _ _ _ _ _)
      | (with_reducible exact spec_fiBlocks.mono _ _ _)
      | (with_reducible exact LeO.refl _)
      | (with_reducible exact LeO.none _)
      | (with_reducible refine LeO.ite ?_ ?_)
      | (with_reducible refine LeO.bind ?_ (fun _ => ?_))
      | exact ih0 _ _ _ _
      | exact ih1 _ _ _ _ _ _ _ _
      | exact ih2 _ _ _ _ _ _ _ _ _ _ _ _
      | exact spec_fiBlocks.mono _ _ _
      | exact LeO.none _
      | refine LeO.ite ?_ ?_
      | refine LeO.bind ?_ (fun _ => ?_)
theorem spec_FilesOfCycles.mono : ∀ a0 k, LeO (spec_FilesOfCycles.f k a0) (spec_FilesOfCycles.f (k + 1) a0) := by
  intro a0 k
  obtain ⟨ih0, ih1, ih2⟩ := spec_FilesOfCycles.mono_l k
  unfold spec_FilesOfCycles.f
  repeat' first
      | (with_reducible exact ih0 _ _ _ _)
      | (with_reducible exact ih1 _ _ _ _ _ _ _ _)
      | (with_reducible exact ih2 _ _ _ _ _ _ _ _ _ _ _ _)
      | (with_reducible exact spec_fiBlocks.mono _ _ _)
      | (with_reducible exact LeO.refl _)
      | (with_reducible exact LeO.none _)
      | (with_reducible refine LeO.ite ?_ ?_)
      | (with_reducible refine LeO.bind ?_ (fun _ => ?_))
      | exact ih0 _ _ _ _
      | exact ih1 _ _ _ _ _ _ _ _
      | exact ih2 _ _ _ _ _ _ _ _ _ _ _ _
      | exact spec_fiBlocks.mono _ _ _
      | exact LeO.none _
      | refine LeO.ite ?_ ?_
      | refine LeO.bind ?_ (fun _ => ?_)
set_option maxHeartbeats 8000000 in
set_option maxRecDepth 100000 in
theorem spec_FilesOfCycles.calls (k : Nat) (A0 : Option Addr) (c0 : Nat) (l0 : List (List Int)) (r1 : List Int) (r2 : Bool) (w : World) (hr0 : Kd.C (Kd.slice 3 (Kd.int .i64)) w A0 l0.length l0) (hc0 : l0.length ≤ c0) (h : spec_FilesOfCycles.f k l0 = some (r1, r2)) :
    Calls Try.prog 51 #[.slice A0 l0.length c0] w fun e w' => ∃ v0_ : Value, e = .returned (.tuple #[v0_, .bool r2]) ∧ Kd.R (Kd.int .i64) 3 w' w.heap.size (fun _ => True) v0_ r1 ∧ Below w.heap.size w w' := by
  have HR0 := Aside0.mk hr0
  have HC0 := Aside0.mk hc0
  clear hr0 hc0
  have HB := Aside0.mk (Below.refl w.heap.size w)
  have H : ((spec_fiBlocks.f k l0 false).bind fun t842 => (if t842 = 0 then (some (([] : List Int), false)) else (if 0 ≤ t842 then (if (t842 : Int).toNat ≤ 35184372088832 then (spec_FilesOfCycles.l0 k (List.replicate (t842 : Int).toNat 0) l0 (l0.length : Int) 0) else (none)) else (none)))) = some (r1, r2) := h
  clear h
  replace H := Option.bind_eq_some_iff.mp H
  obtain ⟨t842, A20, H⟩ := H
  replace H : (if t842 = 0 then (some (([] : List Int), false)) else (if 0 ≤ t842 then (if (t842 : Int).toNat ≤ 35184372088832 then (spec_FilesOfCycles.l0 k (List.replicate (t842 : Int).toNat 0) l0 (l0.length : Int) 0) else (none)) else (none))) = some (r1, r2) := H
  have A2 := Aside0.mk A20
  clear A20
  by_cases c3 : t842 = 0
  · rw [if_pos c3] at H
    have c3b0 : (t842 == 0) = true := beq_iff_eq.mpr c3
    have c3b1 : (t842 != 0) = false := bne_eq_false_iff_eq.mpr c3
    clear c3
    simp only [Option.some.injEq, Prod.mk.injEq] at H
    obtain ⟨rfl, rfl⟩ := H
    go_enter Try.func51, Try.ntmps51
    go_wp2_with (first | ((with_reducible refine gate_callee (f := 88) rfl ?_); refine goesL_ (some 13) rfl rfl Try.func88 (by kernel_rfl) rfl #[.slice A0 l0.length c0, .bool false] rfl (by (try simp only [List.map_toArray, List.map_cons, List.map_nil]); first | done | rfl | (simp only [List.length_drop, List.length_take]; rfl)) ?_; (with_reducible refine (spec_fiBlocks.calls k _ _ l0 false t842 _ ?side1 ?side2 A2.out).mono ?_); (case side1 => repeat (first | exact HR0.out | (with_reducible refine Kd.C_alloc ?_ _) | (with_reducible refine Kd.C_drewN ?_ _) | (with_reducible refine Kd.C_drew ?_))); (case side2 => exact HC0.out); rintro e w4 ⟨rfl, hb⟩; refine ⟨_, rfl, ?_⟩; have n0_ := Aside0.mk (below_step (by repeat (first | (with_reducible first | exact HB.out | apply below_alloc | apply pw_below_drewN | apply below_drew1) | exact HB.out)) hb); clear HB; have HB := n0_; clear n0_; (try clear hb); (try clear hb2); (try clear hk); (try clear hi)))
    go_ret2
    exact ⟨_, by first | rfl | (simp [errW_none, errW_some] <;> rfl) | (simp [*, errW_none, errW_some] <;> rfl), by first | exact Kd.R_nil _ _ _ _ _ | exact Kd.N_nil _ _ _ _ _ | exact Kd.V_nil _ _ _ _ _ | exact Kd.Q_nil _ _ _ _ _ | exact Kd.S_nil _ _ _ _ _, by repeat (first | (with_reducible first | exact HB.out | apply below_alloc | apply pw_below_drewN | apply below_drew1) | exact HB.out)⟩
  · rw [if_neg c3] at H
    have c3b0 : (t842 == 0) = false := beq_eq_false_iff_ne.mpr c3
    have c3b1 : (t842 != 0) = true := bne_iff_ne.mpr c3
    by_cases c5 : 0 ≤ t842
    · rw [if_pos c5] at H
      have c5b0 := eq_true c5
      have c5b1 : decide (0 ≤ t842) = true := decide_eq_true c5
      clear c5
      by_cases c6 : (t842 : Int).toNat ≤ 35184372088832
      · rw [if_pos c6] at H
        have c6b0 := eq_true c6
        have c6b1 : decide ((t842 : Int).toNat ≤ 35184372088832) = true := decide_eq_true c6
        clear c6
        obtain ⟨y843, hy843⟩ : ∃ y_ : List Int, y_ = (List.replicate (t842 : Int).toNat 0) := ⟨_, rfl⟩
        replace H : (spec_FilesOfCycles.l0 k y843 l0 (l0.length : Int) 0) = some (r1, r2) := by first | (rw [hy843]; with_reducible exact H) | (have H2_ := (Option.bind_some _ _).symm.trans H; rw [hy843]; with_reducible exact H2_) | (have H2_ := (Option.bind_some _ _).symm.trans H; with_reducible exact H2_) | with_reducible exact H | (rw [hy843]; exact H) | exact H
        have Ny843 := Aside0.mk hy843
        clear hy843
        have H' := Aside0.mk H
        clear H
        go_enter Try.func51, Try.ntmps51
        go_wp2_with (first | ((with_reducible refine gate_callee (f := 88) rfl ?_); refine goesL_ (some 13) rfl rfl Try.func88 (by kernel_rfl) rfl #[.slice A0 l0.length c0, .bool false] rfl (by (try simp only [List.map_toArray, List.map_cons, List.map_nil]); first | done | rfl | (simp only [List.length_drop, List.length_take]; rfl)) ?_; (with_reducible refine (spec_fiBlocks.calls k _ _ l0 false t842 _ ?side1 ?side2 A2.out).mono ?_); (case side1 => repeat (first | exact HR0.out | (with_reducible refine Kd.C_alloc ?_ _) | (with_reducible refine Kd.C_drewN ?_ _) | (with_reducible refine Kd.C_drew ?_))); (case side2 => exact HC0.out); rintro e w7 ⟨rfl, hb⟩; refine ⟨_, rfl, ?_⟩; have n0_ := Aside0.mk (below_step (by repeat (first | (with_reducible first | exact HB.out | apply below_alloc | apply pw_below_drewN | apply below_drew1) | exact HB.out)) hb); clear HB; have HB := n0_; clear n0_; (try clear hb); (try clear hb2); (try clear hk); (try clear hi)) | ((with_reducible refine gate_dst (N := 17) rfl ?_); refine Kd.R_make (Kd.int .i64) _ 3 rfl (N := 17) rfl 22 _ _ rfl t842 rfl rfl Try.underlying22 (.int .i64 0) 8 info3 rfl (by decide) (by omega) 0 (ok := fun _ => True) (okp := fun _ => True) rfl (fun _ hk => hk) trivial (of_decide_eq_true (by first | (with_reducible assumption) | assumption)) (Nat.le_trans (Nat.mul_le_mul_right _ (of_decide_eq_true (by first | (with_reducible assumption) | assumption) : t842.toNat ≤ 35184372088832)) (by omega)) (Below.refl _ _) (Nat.le_refl _) ?_; intro v844 w8 ho9 hb hg_ hnew_; clear hg_ hnew_; (first | rw [← Ny843.out] at ho9 | (simp only [Int.reduceToNat] at ho9; rw [← Ny843.out] at ho9)); have n0_ := Aside0.mk (Kd.R_lower ho9 (below_size (by repeat (first | (with_reducible first | exact HB.out | apply below_alloc | apply pw_below_drewN | apply below_drew1) | exact HB.out)))); have n1_ := Aside0.mk (below_step (by repeat (first | (with_reducible first | exact HB.out | apply below_alloc | apply pw_below_drewN | apply below_drew1) | exact HB.out)) hb); clear HB; have HO845 := n0_; have HB := n1_; clear n0_ n1_; clear hb ho9))
        go_loopg [20] k (fun kq v20 w' => ∃ (x5_1 : List Int) (x20_1 : Int), v20 = .int .i64 x20_1 ∧ Aside0 (spec_FilesOfCycles.l0 kq x5_1 l0 (l0.length : Int) x20_1 = some (r1, r2)) ∧ Aside0 (kq ≤ k) ∧ Aside0 (Kd.R (Kd.int .i64) 3 w' w.heap.size (fun _ => True) v844 x5_1) ∧ Aside0 (Below w.heap.size w w'))
        case atStart => exact ⟨(y843), (0), (by first | rfl | (simp; done) | (simp [*]; done)), H', ⟨Nat.le_refl _⟩, ⟨by (with_reducible repeat (first | apply Kd.R_alloc | apply Kd.R_drewN | apply Kd.R_drew)); exact HO845.out⟩, ⟨by repeat (first | (with_reducible first | exact HB.out | apply below_alloc | apply pw_below_drewN | apply below_drew1) | exact HB.out)⟩⟩
        case round =>
          clear H'
          try clear p2
          try clear c3
          try clear c3b0
          try clear c3b1
          try clear c5
          try clear c5b0
          try clear c5b1
          try clear c6
          try clear c6b0
          try clear c6b1
          try clear c8
          obtain ⟨x5_1, x20_1, rfl, HA, HK1, HO_5, HB⟩ := hrel
          cases gk with
          | zero => exact absurd HA.out (by simp [spec_FilesOfCycles.l0])
          | succ k1 =>
            have H := HA.out
            clear HA
            simp only [spec_FilesOfCycles.l0] at H
            by_cases c10 : x20_1 < (l0.length : Int)
            · rw [if_pos c10] at H
              have c10b0 : decide (x20_1 < (l0.length : Int)) = true := decide_eq_true c10
              clear c10
              by_cases c11 : 0 ≤ x20_1
              · rw [if_pos c11] at H
                have c11b0 : decide (0 ≤ x20_1) = true := decide_eq_true c11
                clear c11
                by_cases c12 : x20_1 < (l0.length : Int)
                · rw [if_pos c12] at H
                  have c12b0 : decide (x20_1 < (l0.length : Int)) = true := decide_eq_true c12
                  clear c12
                  have H' := Aside0.mk H
                  clear H
                  have p846 : 0 ≤ (x20_1 : Int) := of_decide_eq_true (by first | (with_reducible assumption) | assumption)
                  have q846 : x20_1 < (l0.length : Int) := of_decide_eq_true (by first | (with_reducible assumption) | assumption)
                  obtain ⟨ad846, A846_0, c846_0, e846, hx846_0, hl846_0, hi846_0⟩ := at_L1 HR0.out x20_1 p846 q846
                  cases e846
                  (try replace hx846_0 := (HB.out.cell (World.block_lt_of_cell? w _ hx846_0)).trans hx846_0)
                  have HR846_0 := Aside0.mk hi846_0
                  have HC846_0 := Aside0.mk hl846_0
                  clear hi846_0 hl846_0
                  replace p846 := eq_true p846
                  replace q846 := eq_true q846
                  go_wp2
                  go_loopg [26] k1 (fun kq v26 w' => ∃ (x5_2 : List Int) (x26_2 : Int), v26 = .int .i64 x26_2 ∧ Aside0 (spec_FilesOfCycles.l1 kq x5_2 (rd_L1 l0 x20_1) l0 (l0.length : Int) x20_1 (rd_L1 l0 x20_1) ((rd_L1 l0 x20_1).length : Int) x26_2 = some (r1, r2)) ∧ Aside0 (kq ≤ k1) ∧ Aside0 (Kd.R (Kd.int .i64) 3 w' w.heap.size (fun _ => True) v844 x5_2) ∧ Aside0 (Below w.heap.size w w'))
                  case atStart => exact ⟨(x5_1), (0), (by first | rfl | (simp; done) | (simp [*]; done)), H', ⟨Nat.le_refl _⟩, ⟨by (with_reducible repeat (first | apply Kd.R_alloc | apply Kd.R_drewN | apply Kd.R_drew)); exact HO_5.out⟩, ⟨by repeat (first | (with_reducible first | exact HB.out | apply below_alloc | apply pw_below_drewN | apply below_drew1) | exact HB.out)⟩⟩
                  case round =>
                    clear H'
                    try clear c1
                    try clear p2
                    try clear c3
                    try clear c3b0
                    try clear c3b1
                    try clear c5
                    try clear c5b0
                    try clear c5b1
                    try clear c6
                    try clear c6b0
                    try clear c6b1
                    try clear c8
                    try clear p8
                    try clear q8
                    try clear hx8
                    try clear c10
                    try clear c10b0
                    try clear c11
                    try clear c11b0
                    try clear c12
                    try clear c12b0
                    try clear hx846_0
                    try clear p2
                    try clear p846
                    try clear q846
                    obtain ⟨x5_2, x26_2, rfl, HA, HK2, HO_5, HB⟩ := hrel
                    cases gk with
                    | zero => exact absurd HA.out (by simp [spec_FilesOfCycles.l1])
                    | succ k2 =>
                      have H := HA.out
                      clear HA
                      simp only [spec_FilesOfCycles.l1] at H
                      by_cases c13 : x26_2 < ((rd_L1 l0 x20_1).length : Int)
                      · rw [if_pos c13] at H
                        have c13b0 : decide (x26_2 < ((rd_L1 l0 x20_1).length : Int)) = true := decide_eq_true c13
                        clear c13
                        by_cases c14 : 0 ≤ x26_2
                        · rw [if_pos c14] at H
                          have c14b0 : decide (0 ≤ x26_2) = true := decide_eq_true c14
                          clear c14
                          by_cases c15 : x26_2 < ((rd_L1 l0 x20_1).length : Int)
                          · rw [if_pos c15] at H
                            have c15b0 : decide (x26_2 < ((rd_L1 l0 x20_1).length : Int)) = true := decide_eq_true c15
                            clear c15
                            by_cases c16 : 0 ≤ (rd (rd_L1 l0 x20_1) x26_2)
                            · rw [if_pos c16] at H
                              have c16b0 : decide (0 ≤ (rd (rd_L1 l0 x20_1) x26_2)) = true := decide_eq_true c16
                              clear c16
                              by_cases c17 : (rd (rd_L1 l0 x20_1) x26_2) < (x5_2.length : Int)
                              · rw [if_pos c17] at H
                                have c17b0 : decide ((rd (rd_L1 l0 x20_1) x26_2) < (x5_2.length : Int)) = true := decide_eq_true c17
                                clear c17
                                obtain ⟨y848, hy848⟩ : ∃ y_ : List Int, y_ = (x5_2.set ((rd (rd_L1 l0 x20_1) x26_2) : Int).toNat (-1)) := ⟨_, rfl⟩
                                replace H : (if x26_2 ≤ ((rd_L1 l0 x20_1).length : Int) then ((some ((rd_L1 l0 x20_1).take (x26_2 : Int).toNat : List Int)).bind fun y849 => (spec_FilesOfCycles.l2 k2 y848 (rd_L1 l0 x20_1) (rd (rd_L1 l0 x20_1) x26_2) l0 (l0.length : Int) x20_1 (rd_L1 l0 x20_1) ((rd_L1 l0 x20_1).length : Int) x26_2 y849 (y849.length : Int) 0)) else (none)) = some (r1, r2) := by first | (rw [hy848]; with_reducible exact H) | (have H2_ := (Option.bind_some _ _).symm.trans H; rw [hy848]; with_reducible exact H2_) | (have H2_ := (Option.bind_some _ _).symm.trans H; with_reducible exact H2_) | with_reducible exact H | (rw [hy848]; exact H) | exact H
                                have Ny848 := Aside0.mk hy848
                                clear hy848
                                have c19b0 := eq_true (of_decide_eq_true (by first | (with_reducible assumption) | assumption) : 0 ≤ x26_2)
                                by_cases c20 : x26_2 ≤ ((rd_L1 l0 x20_1).length : Int)
                                · rw [if_pos c20] at H
                                  have c20b0 := eq_true c20
                                  have c20b1 : decide (x26_2 ≤ ((rd_L1 l0 x20_1).length : Int)) = true := decide_eq_true c20
                                  clear c20
                                  obtain ⟨y849, hy849⟩ : ∃ y_ : List Int, y_ = ((rd_L1 l0 x20_1).take (x26_2 : Int).toNat) := ⟨_, rfl⟩
                                  replace H : (spec_FilesOfCycles.l2 k2 y848 (rd_L1 l0 x20_1) (rd (rd_L1 l0 x20_1) x26_2) l0 (l0.length : Int) x20_1 (rd_L1 l0 x20_1) ((rd_L1 l0 x20_1).length : Int) x26_2 y849 (y849.length : Int) 0) = some (r1, r2) := by first | (rw [hy849]; with_reducible exact H) | (have H2_ := (Option.bind_some _ _).symm.trans H; rw [hy849]; with_reducible exact H2_) | (have H2_ := (Option.bind_some _ _).symm.trans H; with_reducible exact H2_) | with_reducible exact H | (rw [hy849]; exact H) | exact H
                                  have Ny849 := Aside0.mk hy849
                                  clear hy849
                                  have H' := Aside0.mk H
                                  clear H
                                  have p847 : 0 ≤ (x26_2 : Int) := of_decide_eq_true (by first | (with_reducible assumption) | assumption)
                                  have q847 : x26_2 < ((rd_L1 l0 x20_1).length : Int) := of_decide_eq_true (by first | (with_reducible assumption) | assumption)
                                  obtain ⟨ad847, e847, hx847_0⟩ := Kd.at_int HR846_0.out x26_2 p847 q847
                                  cases e847
                                  (try replace hx847_0 := (HB.out.cell (World.block_lt_of_cell? w _ hx847_0)).trans hx847_0)
                                  replace p847 := eq_true p847
                                  replace q847 := eq_true q847
                                  have p18 : 0 ≤ ((rd (rd_L1 l0 x20_1) x26_2) : Int) := of_decide_eq_true (by first | (with_reducible assumption) | assumption)
                                  have q18 : ((rd (rd_L1 l0 x20_1) x26_2) : Int) < ((x5_2.length : Int) : Int) := of_decide_eq_true (by first | (with_reducible assumption) | assumption)
                                  obtain ⟨go18, co18, eo18, gb18, gl18, cl18, HG18⟩ := Kd.R_form HO_5.out (by omega)
                                  (first | cases eo18 | (injection eo18 with ea_ en_ ec_; (first | subst ea_ | (injection ea_ with ea_; subst ea_)); subst ec_; clear en_))
                                  have GB18 := Aside0.mk gb18
                                  have GG18 := Aside0.mk HG18
                                  clear gb18 gl18 HG18
                                  obtain ⟨hx18_0, hf18_0⟩ := Kd.R_celln 0 HO_5.out ((rd (rd_L1 l0 x20_1) x26_2) : Int) p18 q18
                                  replace p18 := eq_true p18
                                  replace q18 := eq_true q18
                                  have HP21 := Kd.R_putg HO_5.out ((rd (rd_L1 l0 x20_1) x26_2) : Int) (-1)
                                  go_wp2_with (first | ((with_reducible refine gate_store (t := 3) (p := 33) rfl ?_); refine store_event (t := 3) (p := 33) (v := ?vo_w22) (w1 := (wr.setCell ⟨go18, ((rd (rd_L1 l0 x20_1) x26_2) : Int).toNat, none⟩ (.int .i64 (-1)))) ?hg ?ho ?hn ?hr ?_; (case ho => rfl); (case hg => rfl); (case hn => rfl); (case hr => first | (go_simp; done) | (go_simp; rfl)); intro w22 hw; have hg : wr.grownBy w22 (some go18) := (by rw [hw]; exact HP21.2); have hp_ : Kd.R (Kd.int .i64) 3 w22 w.heap.size (fun _ => True) (.slice (some ⟨go18, 0, none⟩) x5_2.length co18) y848 := (by rw [hw, Ny848.out]; exact HP21.1); clear HP21; have n0_ := Aside0.mk (hp_); have n1_ := Aside0.mk ((by rw [hw]; exact below_set (HB.out) GB18.out : Below w.heap.size w w22)); clear HO_5; clear HB; have HO_5 := n0_; have HB := n1_; clear n0_ n1_; clear hg hw hp_; have q23 : (x26_2 : Int) ≤ (((rd_L1 l0 x20_1).length : Int) : Int) := of_decide_eq_true (by first | (with_reducible assumption) | assumption); obtain ⟨i023, hi023, _, hsz23, _⟩ := info_parts info3; have hroom23 : (rd_L1 l0 x20_1).length ≤ c846_0 := HC846_0.out; have hC23 : Kd.C (Kd.int .i64) _ (some ad847) (rd_L1 l0 x20_1).length (rd_L1 l0 x20_1) := HR846_0.out; have hcut23 := cut_to (P := Try.prog) 22 3 .i64 Try.underlying22 hi023 (some ad847) (rd_L1 l0 x20_1).length c846_0 x26_2 (of_decide_eq_true (by first | (with_reducible assumption) | assumption)) q23 hroom23; have hr23 := Kd.C_take (m := (x26_2 : Int).toNat) hC23 (by omega); have hy23 : y849.length = (x26_2 : Int).toNat := (by rw [Ny849.out, List.length_take]; omega); rw [← Ny849.out] at hr23; rw [← hy23] at hcut23; have HR852 := Aside0.mk hr23; have HC852 := Aside0.mk (show y849.length ≤ c846_0 from by omega); clear hr23 hC23 hroom23 hi023 hsz23; have KY23 := Aside0.mk hy23; clear hy23; replace q23 := eq_true q23))
                                  go_loopg [38] k2 (fun kq v38 w' => ∃ (x5_3 : List Int) (x38_3 : Int), v38 = .int .i64 x38_3 ∧ Aside0 (spec_FilesOfCycles.l2 kq x5_3 (rd_L1 l0 x20_1) (rd (rd_L1 l0 x20_1) x26_2) l0 (l0.length : Int) x20_1 (rd_L1 l0 x20_1) ((rd_L1 l0 x20_1).length : Int) x26_2 y849 (y849.length : Int) x38_3 = some (r1, r2)) ∧ Aside0 (kq ≤ k2) ∧ Aside0 (Kd.R (Kd.int .i64) 3 w' w.heap.size (fun _ => True) (.slice (some ⟨go18, 0, none⟩) x5_2.length co18) x5_3) ∧ Aside0 (Below w.heap.size w w'))
                                  case atStart => exact ⟨(y848), (0), (by first | rfl | (simp; done) | (simp [*]; done)), H', ⟨Nat.le_refl _⟩, ⟨by (with_reducible repeat (first | apply Kd.R_alloc | apply Kd.R_drewN | apply Kd.R_drew)); exact HO_5.out⟩, ⟨by repeat (first | (with_reducible first | exact HB.out | apply below_alloc | apply pw_below_drewN | apply below_drew1) | exact HB.out)⟩⟩
                                  case round =>
                                    clear H'
                                    try clear c1
                                    try clear p1
                                    try clear q1
                                    try clear hx1
                                    try clear hf1
                                    try clear c2
                                    try clear p2
                                    try clear q2
                                    try clear c3
                                    try clear c3b0
                                    try clear c3b1
                                    try clear c5
                                    try clear c5b0
                                    try clear c5b1
                                    try clear c6
                                    try clear c6b0
                                    try clear c6b1
                                    try clear c8
                                    try clear p8
                                    try clear q8
                                    try clear hx8
                                    try clear c10
                                    try clear c10b0
                                    try clear c11
                                    try clear c11b0
                                    try clear c12
                                    try clear c12b0
                                    try clear c13
                                    try clear c13b0
                                    try clear c14
                                    try clear c14b0
                                    try clear c15
                                    try clear c15b0
                                    try clear c16
                                    try clear c16b0
                                    try clear c17
                                    try clear c17b0
                                    try clear p18
                                    try clear q18
                                    try clear hx18
                                    try clear hf18
                                    try clear c19
                                    try clear c19b0
                                    try clear c20
                                    try clear c20b0
                                    try clear c20b1
                                    try clear q23
                                    try clear hx18_0
                                    try clear hx846_0
                                    try clear hx847_0
                                    try clear p18
                                    try clear p2
                                    try clear p8
                                    try clear p846
                                    try clear p847
                                    try clear q18
                                    try clear q23
                                    try clear q8
                                    try clear q846
                                    try clear q847
                                    obtain ⟨x5_3, x38_3, rfl, HA, HK3, HO_5, HB⟩ := hrel
                                    have hl5_3 := (Kd.R_reads' HO_5.out).1
                                    rw [hl5_3] at HO_5
                                    (try simp only [hl5_3])
                                    cases gk with
                                    | zero => exact absurd HA.out (by simp [spec_FilesOfCycles.l2])
                                    | succ k3 =>
                                      have H := HA.out
                                      clear HA
                                      simp only [spec_FilesOfCycles.l2] at H
                                      by_cases c24 : x38_3 < (y849.length : Int)
                                      · rw [if_pos c24] at H
                                        have c24b0 : decide (x38_3 < (y849.length : Int)) = true := decide_eq_true c24
                                        clear c24
                                        by_cases c25 : 0 ≤ x38_3
                                        · rw [if_pos c25] at H
                                          have c25b0 : decide (0 ≤ x38_3) = true := decide_eq_true c25
                                          clear c25
                                          by_cases c26 : x38_3 < (y849.length : Int)
                                          · rw [if_pos c26] at H
                                            have c26b0 : decide (x38_3 < (y849.length : Int)) = true := decide_eq_true c26
                                            clear c26
                                            by_cases c27 : (rd y849 x38_3) < (rd (rd_L1 l0 x20_1) x26_2)
                                            · rw [if_pos c27] at H
                                              have c27b0 : decide ((rd y849 x38_3) < (rd (rd_L1 l0 x20_1) x26_2)) = true := decide_eq_true c27
                                              clear c27
                                              by_cases c28 : 0 ≤ (rd (rd_L1 l0 x20_1) x26_2)
                                              · rw [if_pos c28] at H
                                                have c28b0 : decide (0 ≤ (rd (rd_L1 l0 x20_1) x26_2)) = true := decide_eq_true c28
                                                clear c28
                                                by_cases c29 : (rd (rd_L1 l0 x20_1) x26_2) < (x5_3.length : Int)
                                                · rw [if_pos c29] at H
                                                  have c29b0 : decide ((rd (rd_L1 l0 x20_1) x26_2) < (x5_3.length : Int)) = true := decide_eq_true c29
                                                  clear c29
                                                  obtain ⟨y854, hy854⟩ : ∃ y_ : List Int, y_ = (x5_3.set ((rd (rd_L1 l0 x20_1) x26_2) : Int).toNat (rd y849 x38_3)) := ⟨_, rfl⟩
                                                  replace H : (spec_FilesOfCycles.l2 k3 y854 (rd_L1 l0 x20_1) (rd (rd_L1 l0 x20_1) x26_2) l0 (l0.length : Int) x20_1 (rd_L1 l0 x20_1) ((rd_L1 l0 x20_1).length : Int) x26_2 y849 (y849.length : Int) (wrap64 (x38_3 + 1))) = some (r1, r2) := by first | (rw [hy854]; with_reducible exact H) | (have H2_ := (Option.bind_some _ _).symm.trans H; rw [hy854]; with_reducible exact H2_) | (have H2_ := (Option.bind_some _ _).symm.trans H; with_reducible exact H2_) | with_reducible exact H | (rw [hy854]; exact H) | exact H
                                                  have Ny854 := Aside0.mk hy854
                                                  clear hy854
                                                  have H' := Aside0.mk H
                                                  clear H
                                                  have p853 : 0 ≤ (x38_3 : Int) := of_decide_eq_true (by first | (with_reducible assumption) | assumption)
                                                  have q853 : x38_3 < (y849.length : Int) := of_decide_eq_true (by first | (with_reducible assumption) | assumption)
                                                  obtain ⟨ad853, e853, hx853_0⟩ := Kd.at_int HR852.out x38_3 p853 q853
                                                  obtain rfl : ad847 = ad853 := (by injection e853)
                                                  (try replace hx853_0 := (HB.out.cell (World.block_lt_of_cell? w _ hx853_0)).trans hx853_0)
                                                  replace p853 := eq_true p853
                                                  replace q853 := eq_true q853
                                                  have p30 : 0 ≤ ((rd (rd_L1 l0 x20_1) x26_2) : Int) := of_decide_eq_true (by first | (with_reducible assumption) | assumption)
                                                  have q30 : ((rd (rd_L1 l0 x20_1) x26_2) : Int) < ((x5_3.length : Int) : Int) := of_decide_eq_true (by first | (with_reducible assumption) | assumption)
                                                  obtain ⟨hx30_0, hf30_0⟩ := Kd.R_celln 0 HO_5.out ((rd (rd_L1 l0 x20_1) x26_2) : Int) p30 q30
                                                  replace p30 := eq_true p30
                                                  replace q30 := eq_true q30
                                                  have HP31 := Kd.R_putg HO_5.out ((rd (rd_L1 l0 x20_1) x26_2) : Int) (rd y849 x38_3)
                                                  go_wp2_with (first | ((with_reducible refine gate_store (t := 3) (p := 48) rfl ?_); refine store_event (t := 3) (p := 48) (v := ?vo_w32) (w1 := (wr.setCell ⟨go18, ((rd (rd_L1 l0 x20_1) x26_2) : Int).toNat, none⟩ (.int .i64 (rd y849 x38_3)))) ?hg ?ho ?hn ?hr ?_; (case ho => rfl); (case hg => rfl); (case hn => rfl); (case hr => first | (go_simp; done) | (go_simp; rfl)); intro w32 hw; have hg : wr.grownBy w32 (some go18) := (by rw [hw]; exact HP31.2); have hp_ : Kd.R (Kd.int .i64) 3 w32 w.heap.size (fun _ => True) (.slice (some ⟨go18, 0, none⟩) x5_3.length co18) y854 := (by rw [hw, Ny854.out]; exact HP31.1); clear HP31; have n0_ := Aside0.mk (hp_); have n1_ := Aside0.mk ((by rw [hw]; exact below_set (HB.out) GB18.out : Below w.heap.size w w32)); clear HO_5; clear HB; have HO_5 := n0_; have HB := n1_; clear n0_ n1_; clear hg hw hp_))
                                                  (try simp only [← hl5_3])
                                                  go_roundg k3
                                                  case measure => have := HK1.out; have := HK2.out; have := HK3.out; omega
                                                  case rel => exact ⟨(y854), (wrap64 (x38_3 + 1)), (by first | rfl | (simp; done) | (simp [*]; done)), H', ⟨by have := HK1.out; have := HK2.out; have := HK3.out; omega⟩, ⟨by (try simp only [hl5_3]); (with_reducible repeat (first | apply Kd.R_alloc | apply Kd.R_drewN | apply Kd.R_drew)); exact HO_5.out⟩, ⟨by repeat (first | (with_reducible first | exact HB.out | apply below_alloc | apply pw_below_drewN | apply below_drew1) | exact HB.out)⟩⟩
                                                · rw [if_neg c29] at H
                                                  exact absurd H (by simp)
                                              · rw [if_neg c28] at H
                                                exact absurd H (by simp)
                                            · rw [if_neg c27] at H
                                              have c27b0 : decide ((rd y849 x38_3) < (rd (rd_L1 l0 x20_1) x26_2)) = false := decide_eq_false c27
                                              clear c27
                                              have H' := Aside0.mk H
                                              clear H
                                              have p853 : 0 ≤ (x38_3 : Int) := of_decide_eq_true (by first | (with_reducible assumption) | assumption)
                                              have q853 : x38_3 < (y849.length : Int) := of_decide_eq_true (by first | (with_reducible assumption) | assumption)
                                              obtain ⟨ad853, e853, hx853_0⟩ := Kd.at_int HR852.out x38_3 p853 q853
                                              obtain rfl : ad847 = ad853 := (by injection e853)
                                              (try replace hx853_0 := (HB.out.cell (World.block_lt_of_cell? w _ hx853_0)).trans hx853_0)
                                              replace p853 := eq_true p853
                                              replace q853 := eq_true q853
                                              go_wp2
                                              (try simp only [← hl5_3])
                                              go_roundg k3
                                              case measure => have := HK1.out; have := HK2.out; have := HK3.out; omega
                                              case rel => exact ⟨(x5_3), (wrap64 (x38_3 + 1)), (by first | rfl | (simp; done) | (simp [*]; done)), H', ⟨by have := HK1.out; have := HK2.out; have := HK3.out; omega⟩, ⟨by (try simp only [hl5_3]); (with_reducible repeat (first | apply Kd.R_alloc | apply Kd.R_drewN | apply Kd.R_drew)); exact HO_5.out⟩, ⟨by repeat (first | (with_reducible first | exact HB.out | apply below_alloc | apply pw_below_drewN | apply below_drew1) | exact HB.out)⟩⟩
                                          · rw [if_neg c26] at H
                                            exact absurd H (by simp)
                                        · rw [if_neg c25] at H
                                          exact absurd H (by simp)
                                      · rw [if_neg c24] at H
                                        have c24b0 : decide (x38_3 < (y849.length : Int)) = false := decide_eq_false c24
                                        clear c24
                                        have H' := Aside0.mk H
                                        clear H
                                        go_wp2
                                        (try simp only [← hl5_3])
                                        go_roundg k3
                                        case measure => have := HK1.out; have := HK2.out; have := HK3.out; omega
                                        case rel => exact ⟨(x5_3), (wrap64 (x26_2 + 1)), (by first | rfl | (simp; done) | (simp [*]; done)), H', ⟨by have := HK1.out; have := HK2.out; have := HK3.out; omega⟩, ⟨by (try simp only [hl5_3]); (with_reducible repeat (first | apply Kd.R_alloc | apply Kd.R_drewN | apply Kd.R_drew)); exact HO_5.out⟩, ⟨by repeat (first | (with_reducible first | exact HB.out | apply below_alloc | apply pw_below_drewN | apply below_drew1) | exact HB.out)⟩⟩
                                · rw [if_neg c20] at H
                                  exact absurd H (by simp)
                              · rw [if_neg c17] at H
                                exact absurd H (by simp)
                            · rw [if_neg c16] at H
                              exact absurd H (by simp)
                          · rw [if_neg c15] at H
                            exact absurd H (by simp)
                        · rw [if_neg c14] at H
                          exact absurd H (by simp)
                      · rw [if_neg c13] at H
                        have c13b0 : decide (x26_2 < ((rd_L1 l0 x20_1).length : Int)) = false := decide_eq_false c13
                        clear c13
                        have H' := Aside0.mk H
                        clear H
                        go_wp2
                        go_roundg k2
                        case measure => have := HK1.out; have := HK2.out; omega
                        case rel => exact ⟨(x5_2), (wrap64 (x20_1 + 1)), (by first | rfl | (simp; done) | (simp [*]; done)), H', ⟨by have := HK1.out; have := HK2.out; omega⟩, ⟨by (with_reducible repeat (first | apply Kd.R_alloc | apply Kd.R_drewN | apply Kd.R_drew)); exact HO_5.out⟩, ⟨by repeat (first | (with_reducible first | exact HB.out | apply below_alloc | apply pw_below_drewN | apply below_drew1) | exact HB.out)⟩⟩
                · rw [if_neg c12] at H
                  exact absurd H (by simp)
              · rw [if_neg c11] at H
                exact absurd H (by simp)
            · rw [if_neg c10] at H
              have c10b0 : decide (x20_1 < (l0.length : Int)) = false := decide_eq_false c10
              clear c10
              simp only [Option.some.injEq, Prod.mk.injEq] at H
              obtain ⟨rfl, rfl⟩ := H
              go_wp2
              go_ret2
              exact ⟨_, by first | rfl | (simp [errW_none, errW_some] <;> rfl) | (simp [*, errW_none, errW_some] <;> rfl), by (with_reducible repeat (first | apply Kd.R_alloc | apply Kd.R_drewN | apply Kd.R_drew)); exact HO_5.out, by repeat (first | (with_reducible first | exact HB.out | apply below_alloc | apply pw_below_drewN | apply below_drew1) | exact HB.out)⟩
      · rw [if_neg c6] at H
        exact absurd H (by simp)
    · rw [if_neg c5] at H
      exact absurd H (by simp)

/-! ### impl_FilesOfCycles: function 52 -/
mutual
def impl_FilesOfCycles.l0 : Nat → List Int → List (List Int) → Int → Int → Option (List Int × Bool)
  | 0, _, _, _, _ => none
  | k + 1, x4, x17, x18, x19 => if x19 < x18 then (if 0 ≤ x19 then (if x19 < (x17.length : Int) then (impl_FilesOfCycles.l1 k x4 (rd_L1 x17 x19) x17 x18 x19 (rd_L1 x17 x19) ((rd_L1 x17 x19).length : Int) 0) else (none)) else (none)) else (some (x4, true))
def impl_FilesOfCycles.l1 : Nat → List Int → List Int → List (List Int) → Int → Int → List Int → Int → Int → Option (List Int × Bool)
  | 0, _, _, _, _, _, _, _, _ => none
  | k + 1, x4, x6, x17, x18, x19, x23, x24, x25 => if x25 < x24 then (if 0 ≤ x25 then (if x25 < (x23.length : Int) then (impl_FilesOfCycles.l2 k x4 x6 (rd x23 x25) (wrap64 (x25 - 1)) x17 x18 x19 x23 x24 x25) else (none)) else (none)) else (impl_FilesOfCycles.l0 k x4 x17 x18 (wrap64 (x19 + 1)))
def impl_FilesOfCycles.l2 : Nat → List Int → List Int → Int → Int → List (List Int) → Int → Int → List Int → Int → Int → Option (List Int × Bool)
  | 0, _, _, _, _, _, _, _, _, _, _ => none
  | k + 1, x4, x6, x8, x9, x17, x18, x19, x23, x24, x25 => if x9 ≥ 0 then (if 0 ≤ x8 then (if x8 < (x4.length : Int) then (impl_FilesOfCycles.j3 k x4 x6 x8 x9 x17 x18 x19 x23 x24 x25 ((rd x4 x8) == (-1))) else (none)) else (none)) else (impl_FilesOfCycles.j3 k x4 x6 x8 x9 x17 x18 x19 x23 x24 x25 false)
def impl_FilesOfCycles.j3 : Nat → List Int → List Int → Int → Int → List (List Int) → Int → Int → List Int → Int → Int → Bool → Option (List Int × Bool)
  | 0, _, _, _, _, _, _, _, _, _, _, _ => none
  | k + 1, x4, x6, x8, x9, x17, x18, x19, x23, x24, x25, x40 => if x40 = true then (if 0 ≤ x9 then (if x9 < (x6.length : Int) then (if (rd x6 x9) < x8 then (if 0 ≤ x8 then (if x8 < (x4.length : Int) then (impl_FilesOfCycles.l2 k (x4.set (x8 : Int).toNat (rd x6 x9)) x6 x8 (wrap64 (x9 - 1)) x17 x18 x19 x23 x24 x25) else (none)) else (none)) else (impl_FilesOfCycles.l2 k x4 x6 x8 (wrap64 (x9 - 1)) x17 x18 x19 x23 x24 x25)) else (none)) else (none)) else (impl_FilesOfCycles.l1 k x4 x6 x17 x18 x19 x23 x24 (wrap64 (x25 + 1)))
end
def impl_FilesOfCycles.f (k : Nat) (l0 : List (List Int)) : Option (List Int × Bool) := (impl_areBlocks.f k l0 false).bind fun t855 => (if t855 = true then ((impl_size.f k l0).bind fun t859 => ((slices_Repeat_int_int.f (([(-1)] : List Int)) t859).bind fun t860 => (impl_FilesOfCycles.l0 k t860 l0 (l0.length : Int) 0))) else (some (([] : List Int), false)))
theorem impl_FilesOfCycles.mono_l : ∀ k, (∀ y0 y1 y2 y3, LeO (impl_FilesOfCycles.l0 k y0 y1 y2 y3) (impl_FilesOfCycles.l0 (k + 1) y0 y1 y2 y3)) ∧ (∀ y0 y1 y2 y3 y4 y5 y6 y7, LeO (impl_FilesOfCycles.l1 k y0 y1 y2 y3 y4 y5 y6 y7) (impl_FilesOfCycles.l1 (k + 1) y0 y1 y2 y3 y4 y5 y6 y7)) ∧ (∀ y0 y1 y2 y3 y4 y5 y6 y7 y8 y9, LeO (impl_FilesOfCycles.l2 k y0 y1 y2 y3 y4 y5 y6 y7 y8 y9) (impl_FilesOfCycles.l2 (k + 1) y0 y1 y2 y3 y4 y5 y6 y7 y8 y9)) ∧ (∀ y0 y1 y2 y3 y4 y5 y6 y7 y8 y9 y10, LeO (impl_FilesOfCycles.j3 k y0 y1 y2 y3 y4 y5 y6 y7 y8 y9 y10) (impl_FilesOfCycles.j3 (k + 1) y0 y1 y2 y3 y4 y5 y6 y7 y8 y9 y10))
  | 0 => ⟨fun _ _ _ _ r h => by simp [impl_FilesOfCycles.l0] at h, fun _ _ _ _ _ _ _ _ r h => by simp [impl_FilesOfCycles.l1] at h, fun _ _ _ _ _ _ _ _ _ _ r h => by simp [impl_FilesOfCycles.l2] at h, fun _ _ _ _ _ _ _ _ _ _ _ r h => by simp [impl_FilesOfCycles.j3] at h⟩
  | k + 1 => by
    obtain ⟨ih0, ih1, ih2, ih3⟩ := impl_FilesOfCycles.mono_l k
    refine ⟨?_, ?_, ?_, ?_⟩
    · intro y0 y1 y2 y3
      unfold impl_FilesOfCycles.l0
      repeat' first
      | (with_reducible exact ih0 _ _ _ _)
      | (with_reducible exact ih1 _ _ _ _ _ _ _ _)
      | (with_reducible exact ih2 _ _ _ _ _ _ _ _ _ _)
      | (with_reducible exact ih3 _ _ _ _ _ _ _ _ _ _ _)
      | (with_reducible exact impl_areBlocks.mono _ _ _)
      | (with_reducible exact impl_size.mono _ _)
      | (with_reducible exact LeO.refl _)
      | (with_reducible exact LeO.none _)
      | (with_reducible refine LeO.ite ?_ ?_)
      | (with_reducible refine LeO.bind ?_ (fun _ => ?_))
      | exact ih0 _ _ _ _
      | exact ih1 _ _ _ _ _ _ _ _
      | exact ih2 _ _ _ _ _ _ _ _ _ _
      | exact ih3 _ _ _ _ _ _ _ _ _ _ _
      | exact impl_areBlocks.mono _ _ _
      | exact impl_size.mono _ _
      | exact LeO.none _
      | refine LeO.ite ?_ ?_
      | refine LeO.bind ?_ (fun _ => ?_)
    · intro y0 y1 y2 y3 y4 y5 y6 y7
      unfold impl_FilesOfCycles.l1
      repeat' first
      | (with_reducible exact ih0 _ _ _ _)
      | (with_reducible exact ih1 _ _ _ _ _ _ _ _)
      | (with_reducible exact ih2 _ _ _ _ _ _ _ _ _ _)
      | (with_reducible exact ih3 _ _ _ _ _ _ _ _ _ _ _)
      | (with_reducible exact impl_areBlocks.mono _ _ _)
      | (with_reducible exact impl_size.mono _ _)
      | (with_reducible exact LeO.refl _)
      | (with_reducible exact LeO.none _)
      | (with_reducible refine LeO.ite ?_ ?_)
      | (with_reducible refine LeO.bind ?_ (fun _ => ?_))
      | exact ih0 _ _ _ _
      | exact ih1 _ _ _ _ _ _ _ _
      | exact ih2 _ _ _ _ _ _ _ _ _ _
      | exact ih3 _ _ _ _ _ _ _ _ _ _ _
      | exact impl_areBlocks.mono _ _ _
      | exact impl_size.mono _ _
      | exact LeO.none _
      | refine LeO.ite ?_ ?_
      | refine LeO.bind ?_ (fun _ => ?_)
    · intro y0 y1 y2 y3 y4 y5 y6 y7 y8 y9
      unfold impl_FilesOfCycles.l2
      repeat' first
      | (with_reducible exact ih0 _ _ _ _)
      | (with_reducible exact ih1 _ _ _ _ _ _ _ _)
      | (with_reducible exact ih2 _ _ _ _ _ _ _ _ _ _)
      | (with_reducible exact ih3 _ _ _ _ _ _ _ _ _ _ _)
      | (with_reducible exact impl_areBlocks.mono _ _ _)
      | (with_reducible exact impl_size.mono _ _)
      | (with_reducible exact LeO.refl _)
      | (with_reducible exact LeO.none _)
      | (with_reducible refine LeO.ite ?_ ?_)
      | (with_reducible refine LeO.bind ?_ (fun _ => ?_))
      | exact ih0 _ _ _ _
      | exact ih1 _ _ _ _ _ _ _ _
      | exact ih2 _ _ _ _ _ _ _ _ _ _
      | exact ih3 _ _ _ _ _ _ _ _ _ _ _
      | exact impl_areBlocks.mono _ _ _
      | exact impl_size.mono _ _
      | exact LeO.none _
      | refine LeO.ite ?_ ?_
      | refine LeO.bind ?_ (fun _ => ?_)
    · intro y0 y1 y2 y3 y4 y5 y6 y7 y8 y9 y10
      unfold impl_FilesOfCycles.j3
      repeat' first
      | (with_reducible exact ih0 _ _ _ _)
      | (with_reducible exact ih1 _ _ _ _ _ _ _ _)
      | (with_reducible exact ih2 _ _ _ _ _ _ _ _ _ _)
      | (with_reducible exact ih3 _ _ _ _ _ _ _ _ _ _ _)
      | (with_reducible exact impl_areBlocks.mono _ _ _)
      | (with_reducible exact impl_size.mono _ _)
      | (with_reducible exact LeO.refl _)
      | (with_reducible exact LeO.none _)
      | (with_reducible refine LeO.ite ?_ ?_)
      | (with_reducible refine LeO.bind ?_ (fun _ => ?_))
      | exact ih0 _ _ _ _
      | exact ih1 _ _ _ _ _ _ _ _
      | exact ih2 _ _ _ _ _ _ _ _ _ _
      | exact ih3 _ _ _ _ _ _ _ _ _ _ _
      | exact impl_areBlocks.mono _ _ _
      | exact impl_size.mono _ _
      | exact LeO.none _
      | refine LeO.ite ?_ ?_
      | refine LeO.bind ?_ (fun _ => ?_)
theorem impl_FilesOfCycles.mono : ∀ a0 k, LeO (impl_FilesOfCycles.f k a0) (impl_FilesOfCycles.f (k + 1) a0) := by
  intro a0 k
  obtain ⟨ih0, ih1, ih2, ih3⟩ := impl_FilesOfCycles.mono_l k
  unfold impl_FilesOfCycles.f
  repeat' first
      | (with_reducible exact ih0 _ _ _ _)
      | (with_reducible exact ih1 _ _ _ _ _ _ _ _)
      | (with_reducible exact ih2 _ _ _ _ _ _ _ _ _ _)
      | (with_reducible exact ih3 _ _ _ _ _ _ _ _ _ _ _)
      | (with_reducible exact impl_areBlocks.mono _ _ _)
      | (with_reducible exact impl_size.mono _ _)
      | (with_reducible exact LeO.refl _)
      | (with_reducible exact LeO.none _)
      | (with_reducible refine LeO.ite ?_ ?_)
      | (with_reducible refine LeO.bind ?_ (fun _ => ?_))
      | exact ih0 _ _ _ _
      | exact ih1 _ _ _ _ _ _ _ _
      | exact ih2 _ _ _ _ _ _ _ _ _ _
      | exact ih3 _ _ _ _ _ _ _ _ _ _ _
      | exact impl_areBlocks.mono _ _ _
      | exact impl_size.mono _ _
      | exact LeO.none _
      | refine LeO.ite ?_ ?_
      | refine LeO.bind ?_ (fun _ => ?_)
set_option maxHeartbeats 8000000 in
set_option maxRecDepth 100000 in
theorem impl_FilesOfCycles.calls (k : Nat) (A0 : Option Addr) (c0 : Nat) (l0 : List (List Int)) (r1 : List Int) (r2 : Bool) (w : World) (hr0 : Kd.C (Kd.slice 3 (Kd.int .i64)) w A0 l0.length l0) (hc0 : l0.length ≤ c0) (h : impl_FilesOfCycles.f k l0 = some (r1, r2)) :
    Calls Try.prog 52 #[.slice A0 l0.length c0] w fun e w' => ∃ v0_ : Value, e = .returned (.tuple #[v0_, .bool r2]) ∧ Kd.R (Kd.int .i64) 3 w' w.heap.size (fun _ => True) v0_ r1 ∧ Below w.heap.size w w' := by
  have HR0 := Aside0.mk hr0
  have HC0 := Aside0.mk hc0
  clear hr0 hc0
  have HB := Aside0.mk (Below.refl w.heap.size w)
  have H : ((impl_areBlocks.f k l0 false).bind fun t855 => (if t855 = true then ((impl_size.f k l0).bind fun t859 => ((slices_Repeat_int_int.f (([(-1)] : List Int)) t859).bind fun t860 => (impl_FilesOfCycles.l0 k t860 l0 (l0.length : Int) 0))) else (some (([] : List Int), false)))) = some (r1, r2) := h
  clear h
  replace H := Option.bind_eq_some_iff.mp H
  obtain ⟨t855, A20, H⟩ := H
  replace H : (if t855 = true then ((impl_size.f k l0).bind fun t859 => ((slices_Repeat_int_int.f (([(-1)] : List Int)) t859).bind fun t860 => (impl_FilesOfCycles.l0 k t860 l0 (l0.length : Int) 0))) else (some (([] : List Int), false))) = some (r1, r2) := H
  have A2 := Aside0.mk A20
  clear A20
  by_cases c3 : t855 = true
  · subst c3
    have H1 : ((impl_size.f k l0).bind fun t859 => ((slices_Repeat_int_int.f (([(-1)] : List Int)) t859).bind fun t860 => (impl_FilesOfCycles.l0 k t860 l0 (l0.length : Int) 0))) = some (r1, r2) := by rw [if_pos rfl] at H; exact H
    clear H
    have H := H1
    clear H1
    obtain ⟨y856, hy856⟩ : ∃ y_ : List Int, y_ = (([(-1)] : List Int)) := ⟨_, rfl⟩
    replace H : ((impl_size.f k l0).bind fun t859 => ((slices_Repeat_int_int.f y856 t859).bind fun t860 => (impl_FilesOfCycles.l0 k t860 l0 (l0.length : Int) 0))) = some (r1, r2) := by first | (rw [hy856]; with_reducible exact H) | (have H2_ := (Option.bind_some _ _).symm.trans H; rw [hy856]; with_reducible exact H2_) | (have H2_ := (Option.bind_some _ _).symm.trans H; with_reducible exact H2_) | with_reducible exact H | (rw [hy856]; exact H) | exact H
    have Ny856 := Aside0.mk hy856
    clear hy856
    replace H := Option.bind_eq_some_iff.mp H
    obtain ⟨t859, A40, H⟩ := H
    replace H : ((slices_Repeat_int_int.f y856 t859).bind fun t860 => (impl_FilesOfCycles.l0 k t860 l0 (l0.length : Int) 0)) = some (r1, r2) := H
    have A4 := Aside0.mk A40
    clear A40
    replace H := Option.bind_eq_some_iff.mp H
    obtain ⟨t860, A50, H⟩ := H
    replace H : (impl_FilesOfCycles.l0 k t860 l0 (l0.length : Int) 0) = some (r1, r2) := H
    have A5 := Aside0.mk A50
    clear A50
    have H' := Aside0.mk H
    clear H
    go_enter Try.func52, Try.ntmps52
    go_wp2_with (first | ((with_reducible refine gate_callee (f := 89) rfl ?_); refine goesL_ (some 11) rfl rfl Try.func89 (by kernel_rfl) rfl #[.slice A0 l0.length c0, .bool false] rfl (by (try simp only [List.map_toArray, List.map_cons, List.map_nil]); first | done | rfl | (simp only [List.length_drop, List.length_take]; rfl)) ?_; (with_reducible refine (impl_areBlocks.calls k _ _ l0 false true _ ?side1 ?side2 A2.out).mono ?_); (case side1 => repeat (first | exact HR0.out | (with_reducible refine Kd.C_alloc ?_ _) | (with_reducible refine Kd.C_drewN ?_ _) | (with_reducible refine Kd.C_drew ?_))); (case side2 => exact HC0.out); rintro e w6 ⟨rfl, hb⟩; refine ⟨_, rfl, ?_⟩; have n0_ := Aside0.mk (below_step (by repeat (first | (with_reducible first | exact HB.out | apply below_alloc | apply pw_below_drewN | apply below_drew1) | exact HB.out)) hb); clear HB; have HB := n0_; clear n0_; (try clear hb); (try clear hb2); (try clear hk); (try clear hi)) | ((with_reducible refine gate_dst (N := 13) rfl ?_); refine Kd.R_lit (Kd.int .i64) _ 3 ?hg (N := 13) ?hd (xs := ([(-1)] : List Int)) (inner := [.int .i64 (-1)]) (ok := fun _ => True) (okp := fun _ => True) ?hr ?hp (fun _ hk => hk) trivial (Below.refl _ _) (Nat.le_refl _) (by simp) ?_; (case hd => rfl); (case hg => rfl); (case hr => first | (go_simp; done) | (go_simp; rfl)); (case hp => exact (Reps.one (show Kd.M (Kd.int .i64) _ _ _ (-1) [.int .i64 (-1)] from rfl) (Reps.none _ _))); intro v857 w7 ho8 hb hg_ hnew_; clear hg_ hnew_; (first | rw [← Ny856.out] at ho8 | (simp only [Int.reduceToNat] at ho8; rw [← Ny856.out] at ho8)); have n0_ := Aside0.mk (Kd.R_lower ho8 (below_size (by repeat (first | (with_reducible first | exact HB.out | apply below_alloc | apply pw_below_drewN | apply below_drew1) | exact HB.out)))); have n1_ := Aside0.mk (below_step (by repeat (first | (with_reducible first | exact HB.out | apply below_alloc | apply pw_below_drewN | apply below_drew1) | exact HB.out)) hb); clear HB; have HO858 := n0_; have HB := n1_; clear n0_ n1_; clear hb ho8) | ((with_reducible refine gate_callee (f := 91) rfl ?_); refine goesL_ (some 15) rfl rfl Try.func91 (by kernel_rfl) rfl #[.slice A0 l0.length c0] rfl (by (try simp only [List.map_toArray, List.map_cons, List.map_nil]); first | done | rfl | (simp only [List.length_drop, List.length_take]; rfl)) ?_; (with_reducible refine (impl_size.calls k _ _ l0 t859 _ ?side1 ?side2 A4.out).mono ?_); (case side1 => repeat (first | exact (Kd.C_below HR0.out HB.out) | exact HR0.out | (with_reducible refine Kd.C_alloc ?_ _) | (with_reducible refine Kd.C_drewN ?_ _) | (with_reducible refine Kd.C_drew ?_))); (case side2 => exact HC0.out); rintro e w' ⟨rfl, ⟨nd, rfl⟩⟩; refine ⟨_, rfl, ?_⟩; obtain ⟨Ao9, co9, eo9⟩ := Kd.R_slice HO858.out; subst eo9) | ((with_reducible refine gate_callee (f := 90) rfl ?_); refine goesL_ (some 16) rfl rfl Try.func90 (by kernel_rfl) rfl #[.slice Ao9 y856.length co9, .int .i64 t859] rfl (by (try simp only [List.map_toArray, List.map_cons, List.map_nil]); first | done | rfl | (simp only [List.length_drop, List.length_take]; rfl)) ?_; (with_reducible refine (slices_Repeat_int_int.calls _ _ y856 t859 t860 _ ?side1 ?side2 A5.out).mono ?_); (case side1 => repeat (first | exact (Kd.R_reads' HO858.out).2.2 | (with_reducible refine Kd.C_alloc ?_ _) | (with_reducible refine Kd.C_drewN ?_ _) | (with_reducible refine Kd.C_drew ?_))); (case side2 => exact (Kd.R_reads' HO858.out).2.1); rintro e w10 ⟨v861, rfl, ho0, hb⟩; refine ⟨_, rfl, ?_⟩; have n0_ := Aside0.mk (Kd.R_elder' (by (with_reducible repeat (first | apply Kd.R_alloc | apply Kd.R_drewN | apply Kd.R_drew)); exact HO858.out) (Kd.R_base ho0) hb); have n1_ := Aside0.mk (Kd.R_lower (Kd.R_new' ho0 (Kd.R_lt (by (with_reducible repeat (first | apply Kd.R_alloc | apply Kd.R_drewN | apply Kd.R_drew)); exact HO858.out))) (below_size (by repeat (first | (with_reducible first | exact HB.out | apply below_alloc | apply pw_below_drewN | apply below_drew1) | exact HB.out)))); have n2_ := Aside0.mk (below_step (by repeat (first | (with_reducible first | exact HB.out | apply below_alloc | apply pw_below_drewN | apply below_drew1) | exact HB.out)) hb); clear HO858; clear HB; have HO858 := n0_; have HO862 := n1_; have HB := n2_; clear n0_ n1_ n2_; (try clear hb); (try clear hb2); (try clear hk); (try clear hi); (try clear ho0)))
    go_loopg [19] k (fun kq v19 w' => ∃ (x4_1 : List Int) (x19_1 : Int), v19 = .int .i64 x19_1 ∧ Aside0 (impl_FilesOfCycles.l0 kq x4_1 l0 (l0.length : Int) x19_1 = some (r1, r2)) ∧ Aside0 (kq ≤ k) ∧ Aside0 (Kd.R (Kd.int .i64) 3 w' w.heap.size (fun _ => True) v861 x4_1) ∧ Aside0 (Below w.heap.size w w'))
    case atStart => exact ⟨(t860), (0), (by first | rfl | (simp; done) | (simp [*]; done)), H', ⟨Nat.le_refl _⟩, ⟨by (with_reducible repeat (first | apply Kd.R_alloc | apply Kd.R_drewN | apply Kd.R_drew)); exact Kd.R_mono HO862.out (fun _ hk => trivial)⟩, ⟨by repeat (first | (with_reducible first | exact HB.out | apply below_alloc | apply pw_below_drewN | apply below_drew1) | exact HB.out)⟩⟩
    case round =>
      clear H'
      try clear p2
      try clear c3
      try clear c5
      try clear c8
      try clear c9
      obtain ⟨x4_1, x19_1, rfl, HA, HK1, HO_4, HB⟩ := hrel
      cases gk with
      | zero => exact absurd HA.out (by simp [impl_FilesOfCycles.l0])
      | succ k1 =>
        have H := HA.out
        clear HA
        simp only [impl_FilesOfCycles.l0] at H
        by_cases c11 : x19_1 < (l0.length : Int)
        · rw [if_pos c11] at H
          have c11b0 : decide (x19_1 < (l0.length : Int)) = true := decide_eq_true c11
          clear c11
          by_cases c12 : 0 ≤ x19_1
          · rw [if_pos c12] at H
            have c12b0 : decide (0 ≤ x19_1) = true := decide_eq_true c12
            clear c12
            by_cases c13 : x19_1 < (l0.length : Int)
            · rw [if_pos c13] at H
              have c13b0 : decide (x19_1 < (l0.length : Int)) = true := decide_eq_true c13
              clear c13
              have H' := Aside0.mk H
              clear H
              have p863 : 0 ≤ (x19_1 : Int) := of_decide_eq_true (by first | (with_reducible assumption) | assumption)
              have q863 : x19_1 < (l0.length : Int) := of_decide_eq_true (by first | (with_reducible assumption) | assumption)
              obtain ⟨ad863, A863_0, c863_0, e863, hx863_0, hl863_0, hi863_0⟩ := at_L1 HR0.out x19_1 p863 q863
              cases e863
              (try replace hx863_0 := (HB.out.cell (World.block_lt_of_cell? w _ hx863_0)).trans hx863_0)
              have HR863_0 := Aside0.mk hi863_0
              have HC863_0 := Aside0.mk hl863_0
              clear hi863_0 hl863_0
              replace p863 := eq_true p863
              replace q863 := eq_true q863
              go_wp2
              go_loopg [25] k1 (fun kq v25 w' => ∃ (x4_2 : List Int) (x25_2 : Int), v25 = .int .i64 x25_2 ∧ Aside0 (impl_FilesOfCycles.l1 kq x4_2 (rd_L1 l0 x19_1) l0 (l0.length : Int) x19_1 (rd_L1 l0 x19_1) ((rd_L1 l0 x19_1).length : Int) x25_2 = some (r1, r2)) ∧ Aside0 (kq ≤ k1) ∧ Aside0 (Kd.R (Kd.int .i64) 3 w' w.heap.size (fun _ => True) v861 x4_2) ∧ Aside0 (Below w.heap.size w w'))
              case atStart => exact ⟨(x4_1), (0), (by first | rfl | (simp; done) | (simp [*]; done)), H', ⟨Nat.le_refl _⟩, ⟨by (with_reducible repeat (first | apply Kd.R_alloc | apply Kd.R_drewN | apply Kd.R_drew)); exact HO_4.out⟩, ⟨by repeat (first | (with_reducible first | exact HB.out | apply below_alloc | apply pw_below_drewN | apply below_drew1) | exact HB.out)⟩⟩
              case round =>
                clear H'
                try clear c1
                try clear p2
                try clear c3
                try clear c5
                try clear c8
                try clear p8
                try clear q8
                try clear hx8
                try clear c9
                try clear c11
                try clear c11b0
                try clear c12
                try clear c12b0
                try clear c13
                try clear c13b0
                try clear hx863_0
                try clear p2
                try clear p863
                try clear q863
                obtain ⟨x4_2, x25_2, rfl, HA, HK2, HO_4, HB⟩ := hrel
                cases gk with
                | zero => exact absurd HA.out (by simp [impl_FilesOfCycles.l1])
                | succ k2 =>
                  have H := HA.out
                  clear HA
                  simp only [impl_FilesOfCycles.l1] at H
                  by_cases c14 : x25_2 < ((rd_L1 l0 x19_1).length : Int)
                  · rw [if_pos c14] at H
                    have c14b0 : decide (x25_2 < ((rd_L1 l0 x19_1).length : Int)) = true := decide_eq_true c14
                    clear c14
                    by_cases c15 : 0 ≤ x25_2
                    · rw [if_pos c15] at H
                      have c15b0 : decide (0 ≤ x25_2) = true := decide_eq_true c15
                      clear c15
                      by_cases c16 : x25_2 < ((rd_L1 l0 x19_1).length : Int)
                      · rw [if_pos c16] at H
                        have c16b0 : decide (x25_2 < ((rd_L1 l0 x19_1).length : Int)) = true := decide_eq_true c16
                        clear c16
                        have H' := Aside0.mk H
                        clear H
                        have p864 : 0 ≤ (x25_2 : Int) := of_decide_eq_true (by first | (with_reducible assumption) | assumption)
                        have q864 : x25_2 < ((rd_L1 l0 x19_1).length : Int) := of_decide_eq_true (by first | (with_reducible assumption) | assumption)
                        obtain ⟨ad864, e864, hx864_0⟩ := Kd.at_int HR863_0.out x25_2 p864 q864
                        cases e864
                        (try replace hx864_0 := (HB.out.cell (World.block_lt_of_cell? w _ hx864_0)).trans hx864_0)
                        replace p864 := eq_true p864
                        replace q864 := eq_true q864
                        go_wp2
                        go_loopg [9] k2 (fun kq v9 w' => ∃ (x4_3 : List Int) (x9_3 : Int), v9 = .int .i64 x9_3 ∧ Aside0 (impl_FilesOfCycles.l2 kq x4_3 (rd_L1 l0 x19_1) (rd (rd_L1 l0 x19_1) x25_2) x9_3 l0 (l0.length : Int) x19_1 (rd_L1 l0 x19_1) ((rd_L1 l0 x19_1).length : Int) x25_2 = some (r1, r2)) ∧ Aside0 (kq ≤ k2) ∧ Aside0 (Kd.R (Kd.int .i64) 3 w' w.heap.size (fun _ => True) v861 x4_3) ∧ Aside0 (Below w.heap.size w w'))
                        case atStart => exact ⟨(x4_2), (wrap64 (x25_2 - 1)), (by first | rfl | (simp; done) | (simp [*]; done)), H', ⟨Nat.le_refl _⟩, ⟨by (with_reducible repeat (first | apply Kd.R_alloc | apply Kd.R_drewN | apply Kd.R_drew)); exact HO_4.out⟩, ⟨by repeat (first | (with_reducible first | exact HB.out | apply below_alloc | apply pw_below_drewN | apply below_drew1) | exact HB.out)⟩⟩
                        case round =>
                          clear H'
                          try clear c1
                          try clear p2
                          try clear c3
                          try clear c5
                          try clear p6
                          try clear c8
                          try clear p8
                          try clear q8
                          try clear hx8
                          try clear c9
                          try clear c11
                          try clear c11b0
                          try clear c12
                          try clear c12b0
                          try clear c13
                          try clear c13b0
                          try clear c14
                          try clear c14b0
                          try clear c15
                          try clear c15b0
                          try clear c16
                          try clear c16b0
                          try clear hx863_0
                          try clear hx864_0
                          try clear p2
                          try clear p8
                          try clear p863
                          try clear p864
                          try clear q8
                          try clear q863
                          try clear q864
                          obtain ⟨x4_3, x9_3, rfl, HA, HK3, HO_4, HB⟩ := hrel
                          cases gk with
                          | zero => exact absurd HA.out (by simp [impl_FilesOfCycles.l2])
                          | succ k3 =>
                            have H := HA.out
                            clear HA
                            simp only [impl_FilesOfCycles.l2] at H
                            have HC17 := Aside0.mk H
                            clear H
                            go_upto_region 11 with (fail)
                            go_cut [40] (fun v40 wc => ∃ (kq : Nat) (x40_16 : Bool), v40 = .bool x40_16 ∧ Aside0 (impl_FilesOfCycles.j3 kq x4_3 (rd_L1 l0 x19_1) (rd (rd_L1 l0 x19_1) x25_2) x9_3 l0 (l0.length : Int) x19_1 (rd_L1 l0 x19_1) ((rd_L1 l0 x19_1).length : Int) x25_2 x40_16 = some (r1, r2)) ∧ Aside0 (kq ≤ k3) ∧ Aside0 (Kd.R (Kd.int .i64) 3 wc w.heap.size (fun _ => True) v861 x4_3) ∧ Aside0 (Below w.heap.size w wc))
                            case first =>
                              have H := HC17.out
                              clear HC17
                              by_cases c18 : x9_3 ≥ 0
                              · rw [if_pos c18] at H
                                have c18b0 : decide (0 ≤ x9_3) = true := decide_eq_true c18
                                clear c18
                                (first | rw [c18b0] | (simp only [i64_w, i32_w]; rw [c18b0]) | skip)
                                by_cases c19 : 0 ≤ (rd (rd_L1 l0 x19_1) x25_2)
                                · rw [if_pos c19] at H
                                  have c19b0 : decide (0 ≤ (rd (rd_L1 l0 x19_1) x25_2)) = true := decide_eq_true c19
                                  clear c19
                                  by_cases c20 : (rd (rd_L1 l0 x19_1) x25_2) < (x4_3.length : Int)
                                  · rw [if_pos c20] at H
                                    have c20b0 : decide ((rd (rd_L1 l0 x19_1) x25_2) < (x4_3.length : Int)) = true := decide_eq_true c20
                                    clear c20
                                    have H' := Aside0.mk H
                                    clear H
                                    obtain ⟨Ao21, co21, eo21⟩ := Kd.R_slice HO_4.out
                                    subst eo21
                                    have p865 : 0 ≤ ((rd (rd_L1 l0 x19_1) x25_2) : Int) := of_decide_eq_true (by first | (with_reducible assumption) | assumption)
                                    have q865 : (rd (rd_L1 l0 x19_1) x25_2) < (x4_3.length : Int) := of_decide_eq_true (by first | (with_reducible assumption) | assumption)
                                    obtain ⟨ad865, e865, hx865_0⟩ := Kd.at_int (Kd.R_reads' HO_4.out).2.2 (rd (rd_L1 l0 x19_1) x25_2) p865 q865
                                    cases e865
                                    replace p865 := eq_true p865
                                    replace q865 := eq_true q865
                                    go_wp2
                                    go_meet
                                    case rel => exact ⟨_, (((rd x4_3 (rd (rd_L1 l0 x19_1) x25_2)) == (-1))), (by first | rfl | (simp; done) | (simp [*]; done)), H', ⟨by have := HK1.out; have := HK2.out; have := HK3.out; first | omega | exact Nat.le_refl _⟩, ⟨by (with_reducible repeat (first | apply Kd.R_alloc | apply Kd.R_drewN | apply Kd.R_drew)); exact HO_4.out⟩, ⟨by repeat (first | (with_reducible first | exact HB.out | apply below_alloc | apply pw_below_drewN | apply below_drew1) | exact HB.out)⟩⟩
                                  · rw [if_neg c20] at H
                                    exact absurd H (by simp)
                                · rw [if_neg c19] at H
                                  exact absurd H (by simp)
                              · rw [if_neg c18] at H
                                have c18b0 : decide (0 ≤ x9_3) = false := decide_eq_false c18
                                clear c18
                                (first | rw [c18b0] | (simp only [i64_w, i32_w]; rw [c18b0]) | skip)
                                have H' := Aside0.mk H
                                clear H
                                go_wp2
                                go_meet
                                case rel => exact ⟨_, (false), (by first | rfl | (simp; done) | (simp [*]; done)), H', ⟨by have := HK1.out; have := HK2.out; have := HK3.out; first | omega | exact Nat.le_refl _⟩, ⟨by (with_reducible repeat (first | apply Kd.R_alloc | apply Kd.R_drewN | apply Kd.R_drew)); exact HO_4.out⟩, ⟨by repeat (first | (with_reducible first | exact HB.out | apply below_alloc | apply pw_below_drewN | apply below_drew1) | exact HB.out)⟩⟩
                            case rest =>
                              clear HC17
                              try clear c1
                              try clear c2
                              try clear p2
                              try clear c3
                              try clear c5
                              try clear p6
                              try clear c8
                              try clear p8
                              try clear q8
                              try clear hx8
                              try clear c9
                              try clear c11
                              try clear c11b0
                              try clear c12
                              try clear c12b0
                              try clear c13
                              try clear c13b0
                              try clear c14
                              try clear c14b0
                              try clear c15
                              try clear c15b0
                              try clear c16
                              try clear c16b0
                              try clear c18
                              try clear c18b0
                              try clear c19
                              try clear c19b0
                              try clear c20
                              try clear c20b0
                              try clear hx863_0
                              try clear hx864_0
                              try clear hx865_0
                              try clear p2
                              try clear p6
                              try clear p8
                              try clear p863
                              try clear p864
                              try clear p865
                              try clear q8
                              try clear q863
                              try clear q864
                              try clear q865
                              obtain ⟨kq, x40_16, rfl, HA, HJ16, HO_4, HB⟩ := hcut
                              cases kq with
                              | zero => exact absurd HA.out (by simp [impl_FilesOfCycles.j3])
                              | succ kj16 =>
                                have H := HA.out
                                clear HA
                                simp only [impl_FilesOfCycles.j3] at H
                                by_cases c22 : x40_16 = true
                                · subst c22
                                  have H1 : (if 0 ≤ x9_3 then (if x9_3 < ((rd_L1 l0 x19_1).length : Int) then (if (rd (rd_L1 l0 x19_1) x9_3) < (rd (rd_L1 l0 x19_1) x25_2) then (if 0 ≤ (rd (rd_L1 l0 x19_1) x25_2) then (if (rd (rd_L1 l0 x19_1) x25_2) < (x4_3.length : Int) then (impl_FilesOfCycles.l2 kj16 (x4_3.set ((rd (rd_L1 l0 x19_1) x25_2) : Int).toNat (rd (rd_L1 l0 x19_1) x9_3)) (rd_L1 l0 x19_1) (rd (rd_L1 l0 x19_1) x25_2) (wrap64 (x9_3 - 1)) l0 (l0.length : Int) x19_1 (rd_L1 l0 x19_1) ((rd_L1 l0 x19_1).length : Int) x25_2) else (none)) else (none)) else (impl_FilesOfCycles.l2 kj16 x4_3 (rd_L1 l0 x19_1) (rd (rd_L1 l0 x19_1) x25_2) (wrap64 (x9_3 - 1)) l0 (l0.length : Int) x19_1 (rd_L1 l0 x19_1) ((rd_L1 l0 x19_1).length : Int) x25_2)) else (none)) else (none)) = some (r1, r2) := by rw [if_pos rfl] at H; exact H
                                  clear H
                                  have H := H1
                                  clear H1
                                  by_cases c23 : 0 ≤ x9_3
                                  · rw [if_pos c23] at H
                                    have c23b0 : decide (0 ≤ x9_3) = true := decide_eq_true c23
                                    clear c23
                                    by_cases c24 : x9_3 < ((rd_L1 l0 x19_1).length : Int)
                                    · rw [if_pos c24] at H
                                      have c24b0 : decide (x9_3 < ((rd_L1 l0 x19_1).length : Int)) = true := decide_eq_true c24
                                      clear c24
                                      by_cases c25 : (rd (rd_L1 l0 x19_1) x9_3) < (rd (rd_L1 l0 x19_1) x25_2)
                                      · rw [if_pos c25] at H
                                        have c25b0 : decide ((rd (rd_L1 l0 x19_1) x9_3) < (rd (rd_L1 l0 x19_1) x25_2)) = true := decide_eq_true c25
                                        clear c25
                                        by_cases c26 : 0 ≤ (rd (rd_L1 l0 x19_1) x25_2)
                                        · rw [if_pos c26] at H
                                          have c26b0 : decide (0 ≤ (rd (rd_L1 l0 x19_1) x25_2)) = true := decide_eq_true c26
                                          clear c26
                                          by_cases c27 : (rd (rd_L1 l0 x19_1) x25_2) < (x4_3.length : Int)
                                          · rw [if_pos c27] at H
                                            have c27b0 : decide ((rd (rd_L1 l0 x19_1) x25_2) < (x4_3.length : Int)) = true := decide_eq_true c27
                                            clear c27
                                            obtain ⟨y868, hy868⟩ : ∃ y_ : List Int, y_ = (x4_3.set ((rd (rd_L1 l0 x19_1) x25_2) : Int).toNat (rd (rd_L1 l0 x19_1) x9_3)) := ⟨_, rfl⟩
                                            replace H : (impl_FilesOfCycles.l2 kj16 y868 (rd_L1 l0 x19_1) (rd (rd_L1 l0 x19_1) x25_2) (wrap64 (x9_3 - 1)) l0 (l0.length : Int) x19_1 (rd_L1 l0 x19_1) ((rd_L1 l0 x19_1).length : Int) x25_2) = some (r1, r2) := by first | (rw [hy868]; with_reducible exact H) | (have H2_ := (Option.bind_some _ _).symm.trans H; rw [hy868]; with_reducible exact H2_) | (have H2_ := (Option.bind_some _ _).symm.trans H; with_reducible exact H2_) | with_reducible exact H | (rw [hy868]; exact H) | exact H
                                            have Ny868 := Aside0.mk hy868
                                            clear hy868
                                            have H' := Aside0.mk H
                                            clear H
                                            have p866 : 0 ≤ (x9_3 : Int) := of_decide_eq_true (by first | (with_reducible assumption) | assumption)
                                            have q866 : x9_3 < ((rd_L1 l0 x19_1).length : Int) := of_decide_eq_true (by first | (with_reducible assumption) | assumption)
                                            obtain ⟨ad866, e866, hx866_0⟩ := Kd.at_int HR863_0.out x9_3 p866 q866
                                            obtain rfl : ad864 = ad866 := (by injection e866)
                                            (try replace hx866_0 := (HB.out.cell (World.block_lt_of_cell? w _ hx866_0)).trans hx866_0)
                                            replace p866 := eq_true p866
                                            replace q866 := eq_true q866
                                            have p867 : 0 ≤ (x9_3 : Int) := of_decide_eq_true (by first | (with_reducible assumption) | assumption)
                                            have q867 : x9_3 < ((rd_L1 l0 x19_1).length : Int) := of_decide_eq_true (by first | (with_reducible assumption) | assumption)
                                            obtain ⟨ad867, e867, hx867_0⟩ := Kd.at_int HR863_0.out x9_3 p867 q867
                                            obtain rfl : ad864 = ad867 := (by injection e867)
                                            (try replace hx867_0 := (HB.out.cell (World.block_lt_of_cell? w _ hx867_0)).trans hx867_0)
                                            replace p867 := eq_true p867
                                            replace q867 := eq_true q867
                                            have p28 : 0 ≤ ((rd (rd_L1 l0 x19_1) x25_2) : Int) := of_decide_eq_true (by first | (with_reducible assumption) | assumption)
                                            have q28 : ((rd (rd_L1 l0 x19_1) x25_2) : Int) < ((x4_3.length : Int) : Int) := of_decide_eq_true (by first | (with_reducible assumption) | assumption)
                                            obtain ⟨go28, co28, eo28, gb28, gl28, cl28, HG28⟩ := Kd.R_form HO_4.out (by omega)
                                            (first | cases eo28 | (injection eo28 with ea_ en_ ec_; (first | subst ea_ | (injection ea_ with ea_; subst ea_)); subst ec_; clear en_))
                                            have GB28 := Aside0.mk gb28
                                            have GG28 := Aside0.mk HG28
                                            clear gb28 gl28 HG28
                                            obtain ⟨hx28_0, hf28_0⟩ := Kd.R_celln 0 HO_4.out ((rd (rd_L1 l0 x19_1) x25_2) : Int) p28 q28
                                            replace p28 := eq_true p28
                                            replace q28 := eq_true q28
                                            have HP29 := Kd.R_putg HO_4.out ((rd (rd_L1 l0 x19_1) x25_2) : Int) (rd (rd_L1 l0 x19_1) x9_3)
                                            go_wp2_with (first | ((with_reducible refine gate_store (t := 3) (p := 55) rfl ?_); refine store_event (t := 3) (p := 55) (v := ?vo_w30) (w1 := (wc.setCell ⟨go28, ((rd (rd_L1 l0 x19_1) x25_2) : Int).toNat, none⟩ (.int .i64 (rd (rd_L1 l0 x19_1) x9_3)))) ?hg ?ho ?hn ?hr ?_; (case ho => rfl); (case hg => rfl); (case hn => rfl); (case hr => first | (go_simp; done) | (go_simp; rfl)); intro w30 hw; have hg : wc.grownBy w30 (some go28) := (by rw [hw]; exact HP29.2); have hp_ : Kd.R (Kd.int .i64) 3 w30 w.heap.size (fun _ => True) (.slice (some ⟨go28, 0, none⟩) x4_3.length co28) y868 := (by rw [hw, Ny868.out]; exact HP29.1); clear HP29; have n0_ := Aside0.mk (hp_); have n1_ := Aside0.mk ((by rw [hw]; exact below_set (HB.out) GB28.out : Below w.heap.size w w30)); clear HO_4; clear HB; have HO_4 := n0_; have HB := n1_; clear n0_ n1_; clear hg hw hp_))
                                            go_roundg kj16
                                            case measure => have := HK1.out; have := HK2.out; have := HK3.out; have := HJ16.out; omega
                                            case rel => exact ⟨(y868), (wrap64 (x9_3 - 1)), (by first | rfl | (simp; done) | (simp [*]; done)), H', ⟨by have := HK1.out; have := HK2.out; have := HK3.out; have := HJ16.out; omega⟩, ⟨by (with_reducible repeat (first | apply Kd.R_alloc | apply Kd.R_drewN | apply Kd.R_drew)); exact HO_4.out⟩, ⟨by repeat (first | (with_reducible first | exact HB.out | apply below_alloc | apply pw_below_drewN | apply below_drew1) | exact HB.out)⟩⟩
                                          · rw [if_neg c27] at H
                                            exact absurd H (by simp)
                                        · rw [if_neg c26] at H
                                          exact absurd H (by simp)
                                      · rw [if_neg c25] at H
                                        have c25b0 : decide ((rd (rd_L1 l0 x19_1) x9_3) < (rd (rd_L1 l0 x19_1) x25_2)) = false := decide_eq_false c25
                                        clear c25
                                        have H' := Aside0.mk H
                                        clear H
                                        have p866 : 0 ≤ (x9_3 : Int) := of_decide_eq_true (by first | (with_reducible assumption) | assumption)
                                        have q866 : x9_3 < ((rd_L1 l0 x19_1).length : Int) := of_decide_eq_true (by first | (with_reducible assumption) | assumption)
                                        obtain ⟨ad866, e866, hx866_0⟩ := Kd.at_int HR863_0.out x9_3 p866 q866
                                        obtain rfl : ad864 = ad866 := (by injection e866)
                                        (try replace hx866_0 := (HB.out.cell (World.block_lt_of_cell? w _ hx866_0)).trans hx866_0)
                                        replace p866 := eq_true p866
                                        replace q866 := eq_true q866
                                        go_wp2
                                        go_roundg kj16
                                        case measure => have := HK1.out; have := HK2.out; have := HK3.out; have := HJ16.out; omega
                                        case rel => exact ⟨(x4_3), (wrap64 (x9_3 - 1)), (by first | rfl | (simp; done) | (simp [*]; done)), H', ⟨by have := HK1.out; have := HK2.out; have := HK3.out; have := HJ16.out; omega⟩, ⟨by (with_reducible repeat (first | apply Kd.R_alloc | apply Kd.R_drewN | apply Kd.R_drew)); exact HO_4.out⟩, ⟨by repeat (first | (with_reducible first | exact HB.out | apply below_alloc | apply pw_below_drewN | apply below_drew1) | exact HB.out)⟩⟩
                                    · rw [if_neg c24] at H
                                      exact absurd H (by simp)
                                  · rw [if_neg c23] at H
                                    exact absurd H (by simp)
                                · replace c22 := Bool.eq_false_iff.mpr c22
                                  subst c22
                                  have H1 : (impl_FilesOfCycles.l1 kj16 x4_3 (rd_L1 l0 x19_1) l0 (l0.length : Int) x19_1 (rd_L1 l0 x19_1) ((rd_L1 l0 x19_1).length : Int) (wrap64 (x25_2 + 1))) = some (r1, r2) := by rw [if_neg (show ¬ (false = true) by decide)] at H; exact H
                                  clear H
                                  have H := H1
                                  clear H1
                                  have H' := Aside0.mk H
                                  clear H
                                  go_wp2
                                  go_roundg kj16
                                  case measure => have := HK1.out; have := HK2.out; have := HK3.out; have := HJ16.out; omega
                                  case rel => exact ⟨(x4_3), (wrap64 (x25_2 + 1)), (by first | rfl | (simp; done) | (simp [*]; done)), H', ⟨by have := HK1.out; have := HK2.out; have := HK3.out; have := HJ16.out; omega⟩, ⟨by (with_reducible repeat (first | apply Kd.R_alloc | apply Kd.R_drewN | apply Kd.R_drew)); exact HO_4.out⟩, ⟨by repeat (first | (with_reducible first | exact HB.out | apply below_alloc | apply pw_below_drewN | apply below_drew1) | exact HB.out)⟩⟩
                      · rw [if_neg c16] at H
                        exact absurd H (by simp)
                    · rw [if_neg c15] at H
                      exact absurd H (by simp)
                  · rw [if_neg c14] at H
                    have c14b0 : decide (x25_2 < ((rd_L1 l0 x19_1).length : Int)) = false := decide_eq_false c14
                    clear c14
                    have H' := Aside0.mk H
                    clear H
                    go_wp2
                    go_roundg k2
                    case measure => have := HK1.out; have := HK2.out; omega
                    case rel => exact ⟨(x4_2), (wrap64 (x19_1 + 1)), (by first | rfl | (simp; done) | (simp [*]; done)), H', ⟨by have := HK1.out; have := HK2.out; omega⟩, ⟨by (with_reducible repeat (first | apply Kd.R_alloc | apply Kd.R_drewN | apply Kd.R_drew)); exact HO_4.out⟩, ⟨by repeat (first | (with_reducible first | exact HB.out | apply below_alloc | apply pw_below_drewN | apply below_drew1) | exact HB.out)⟩⟩
            · rw [if_neg c13] at H
              exact absurd H (by simp)
          · rw [if_neg c12] at H
            exact absurd H (by simp)
        · rw [if_neg c11] at H
          have c11b0 : decide (x19_1 < (l0.length : Int)) = false := decide_eq_false c11
          clear c11
          simp only [Option.some.injEq, Prod.mk.injEq] at H
          obtain ⟨rfl, rfl⟩ := H
          go_wp2
          go_ret2
          exact ⟨_, by first | rfl | (simp [errW_none, errW_some] <;> rfl) | (simp [*, errW_none, errW_some] <;> rfl), by (with_reducible repeat (first | apply Kd.R_alloc | apply Kd.R_drewN | apply Kd.R_drew)); exact HO_4.out, by repeat (first | (with_reducible first | exact HB.out | apply below_alloc | apply pw_below_drewN | apply below_drew1) | exact HB.out)⟩
  · replace c3 := Bool.eq_false_iff.mpr c3
    subst c3
    have H1 : (some (([] : List Int), false)) = some (r1, r2) := by rw [if_neg (show ¬ (false = true) by decide)] at H; exact H
    clear H
    have H := H1
    clear H1
    simp only [Option.some.injEq, Prod.mk.injEq] at H
    obtain ⟨rfl, rfl⟩ := H
    go_enter Try.func52, Try.ntmps52
    go_wp2_with (first | ((with_reducible refine gate_callee (f := 89) rfl ?_); refine goesL_ (some 11) rfl rfl Try.func89 (by kernel_rfl) rfl #[.slice A0 l0.length c0, .bool false] rfl (by (try simp only [List.map_toArray, List.map_cons, List.map_nil]); first | done | rfl | (simp only [List.length_drop, List.length_take]; rfl)) ?_; (with_reducible refine (impl_areBlocks.calls k _ _ l0 false false _ ?side1 ?side2 A2.out).mono ?_); (case side1 => repeat (first | exact HR0.out | (with_reducible refine Kd.C_alloc ?_ _) | (with_reducible refine Kd.C_drewN ?_ _) | (with_reducible refine Kd.C_drew ?_))); (case side2 => exact HC0.out); rintro e w31 ⟨rfl, hb⟩; refine ⟨_, rfl, ?_⟩; have n0_ := Aside0.mk (below_step (by repeat (first | (with_reducible first | exact HB.out | apply below_alloc | apply pw_below_drewN | apply below_drew1) | exact HB.out)) hb); clear HB; have HB := n0_; clear n0_; (try clear hb); (try clear hb2); (try clear hk); (try clear hi)))
    go_ret2
    exact ⟨_, by first | rfl | (simp [errW_none, errW_some] <;> rfl) | (simp [*, errW_none, errW_some] <;> rfl), by first | exact Kd.R_nil _ _ _ _ _ | exact Kd.N_nil _ _ _ _ _ | exact Kd.V_nil _ _ _ _ _ | exact Kd.Q_nil _ _ _ _ _ | exact Kd.S_nil _ _ _ _ _, by repeat (first | (with_reducible first | exact HB.out | apply below_alloc | apply pw_below_drewN | apply below_drew1) | exact HB.out)⟩

end
end Go.Proofs.Ythibohakolgfbaa.P
