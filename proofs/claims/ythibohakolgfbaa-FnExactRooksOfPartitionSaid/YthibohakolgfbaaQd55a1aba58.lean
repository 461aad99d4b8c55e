-- printed functions (wip/slim.py)
import Derived.Test.YthibohakolgfbaaPx0
import Derived.Test.YthibohakolgfbaaQ39d991b42c
import Derived.Test.YthibohakolgfbaaQ42a57f82b3
import Derived.Test.YthibohakolgfbaaQ1b352b54ab
import Derived.Test.YthibohakolgfbaaPx45
namespace Go.Proofs.Ythibohakolgfbaa.P
noncomputable section
open Go.RowKit Go.Proofs.YthibohakolgfbaaW.PrintWords Go.Proofs.YthibohakolgfbaaW.PrintLast Go.Proofs.YthibohakolgfbaaW.PrintMore
attribute [local go_sem] max2_int min2_int max_two min_two max_three min_three max_four min_four   -- for this text's walks alone
set_option linter.unusedVariables false
set_option linter.unusedSimpArgs false

/-! ### impl_RooksOfPartition: function 47 -/
mutual
def impl_RooksOfPartition.l0 : Nat → List Int → List (List Int) → Int → Int → Option (List Int × Bool)
  | 0, _, _, _, _ => none
  | k + 1, x4, x15, x16, x17 => if x17 < x16 then (if 0 ≤ x17 then (if x17 < (x15.length : Int) then (impl_RooksOfPartition.l1 k x4 (rd_L1 x15 x17) 1 x15 x16 x17) else (none)) else (none)) else (some (x4, true))
def impl_RooksOfPartition.l1 : Nat → List Int → List Int → Int → List (List Int) → Int → Int → Option (List Int × Bool)
  | 0, _, _, _, _, _, _ => none
  | k + 1, x4, x6, x7, x15, x16, x17 => if x7 < (x6.length : Int) then (if 0 ≤ (wrap64 (x7 - 1)) then (if (wrap64 (x7 - 1)) < (x6.length : Int) then (if 0 ≤ x7 then (if 0 ≤ (rd x6 (wrap64 (x7 - 1))) then (if (rd x6 (wrap64 (x7 - 1))) < (x4.length : Int) then (impl_RooksOfPartition.l1 k (x4.set ((rd x6 (wrap64 (x7 - 1))) : Int).toNat (rd x6 x7)) x6 (wrap64 (x7 + 1)) x15 x16 x17) else (none)) else (none)) else (none)) else (none)) else (none)) else (impl_RooksOfPartition.l0 k x4 x15 x16 (wrap64 (x17 + 1)))
end
def impl_RooksOfPartition.f (k : Nat) (l0 : List (List Int)) : Option (List Int × Bool) := (impl_areBlocks.f k l0 true).bind fun t787 => (if t787 = true then ((impl_size.f k l0).bind fun t791 => ((slices_Repeat_int_int.f (([(-1)] : List Int)) t791).bind fun t792 => (impl_RooksOfPartition.l0 k t792 l0 (l0.length : Int) 0))) else (some (([] : List Int), false)))
theorem impl_RooksOfPartition.mono_l : ∀ k, (∀ y0 y1 y2 y3, LeO (impl_RooksOfPartition.l0 k y0 y1 y2 y3) (impl_RooksOfPartition.l0 (k + 1) y0 y1 y2 y3)) ∧ (∀ y0 y1 y2 y3 y4 y5, LeO (impl_RooksOfPartition.l1 k y0 y1 y2 y3 y4 y5) (impl_RooksOfPartition.l1 (k + 1) y0 y1 y2 y3 y4 y5))
  | 0 => ⟨fun _ _ _ _ r h => by simp [impl_RooksOfPartition.l0] at h, fun _ _ _ _ _ _ r h => by simp [impl_RooksOfPartition.l1] at h⟩
  | k + 1 => by
    obtain ⟨ih0, ih1⟩ := impl_RooksOfPartition.mono_l k
    refine ⟨?_, ?_⟩
    · intro y0 y1 y2 y3
      unfold impl_RooksOfPartition.l0
      repeat' first
      | (with_reducible exact ih0 _ _ _ _)
      | (with_reducible exact ih1 _ _ _ _ _ _)
      | (with_reducible exact impl_areBlocks.mono _ _ _)
      | (with_reducible exact impl_size.mono _ _)
      | (with_reducible exact LeO.refl _)
      | (with_reducible exact LeO.none _)
      | (with_reducible refine LeO.ite ?_ ?_)
      | (with_reducible refine LeO.bind ?_ (fun _ => ?_))
      | exact ih0 _ _ _ _
      | exact ih1 _ _ _ _ _ _
      | exact impl_areBlocks.mono _ _ _
      | exact impl_size.mono _ _
      | exact LeO.none _
      | refine LeO.ite ?_ ?_
      | refine LeO.bind ?_ (fun _ => ?_)
    · intro y0 y1 y2 y3 y4 y5
      unfold impl_RooksOfPartition.l1
      repeat' first
      | (with_reducible exact ih0 _ _ _ _)
      | (with_reducible exact ih1 _ _ _ _ _ _)
      | (with_reducible exact impl_areBlocks.mono _ _ _)
      | (with_reducible exact impl_size.mono _ _)
      | (with_reducible exact LeO.refl _)
      | (with_reducible exact LeO.none _)
      | (with_reducible refine LeO.ite ?_ ?_)
      | (with_reducible refine LeO.bind ?_ (fun _ => ?_))
      | exact ih0 _ _ _ _
      | exact ih1 _ _ _ _ _ _
      | exact impl_areBlocks.mono _ _ _
      | exact impl_size.mono _ _
      | exact LeO.none _
      | refine LeO.ite ?_ ?_
      | refine LeO.bind ?_ (fun _ => ?_)
theorem impl_RooksOfPartition.mono : ∀ a0 k, LeO (impl_RooksOfPartition.f k a0) (impl_RooksOfPartition.f (k + 1) a0) := by
  intro a0 k
  obtain ⟨ih0, ih1⟩ := impl_RooksOfPartition.mono_l k
  unfold impl_RooksOfPartition.f
  repeat' first
      | (with_reducible exact ih0 _ _ _ _)
      | (with_reducible exact ih1 _ _ _ _ _ _)
      | (with_reducible exact impl_areBlocks.mono _ _ _)
      | (with_reducible exact impl_size.mono _ _)
      | (with_reducible exact LeO.refl _)
      | (with_reducible exact LeO.none _)
      | (with_reducible refine LeO.ite ?_ ?_)
      | (with_reducible refine LeO.bind ?_ (fun _ => ?_))
      | exact ih0 _ _ _ _
      | exact ih1 _ _ _ _ _ _
      | exact impl_areBlocks.mono _ _ _
      | exact impl_size.mono _ _
      | exact LeO.none _
      | refine LeO.ite ?_ ?_
      | refine LeO.bind ?_ (fun _ => ?_)
def impl_RooksOfPartition.T10 : Bool × List (List Nat × List Nat) := (true, [([], []), ([], []), ([], []), ([2], [2]), ([1, 3], [1, 3]), ([4], [4]), ([], []), ([], []), ([6, 7], [6, 7]), ([8], [8]), ([0, 5, 0, 1, 2, 3, 4, 5, 6, 7, 8, 9], [0, 5]), ([10, 9, 0, 1, 2, 3, 4, 5, 6, 7, 8, 9], [9, 10])])
def impl_RooksOfPartition.B10 : List Nat := [0, 0, 0, 4, 14, 30, 0, 0, 192, 448, 1023, 2047]
theorem impl_RooksOfPartition.tab10 : rtab .any (opsOf Try.f47 10) = impl_RooksOfPartition.T10 := by kernel_rfl
theorem impl_RooksOfPartition.bits10 : waitsOk impl_RooksOfPartition.T10.2 impl_RooksOfPartition.B10 = true := by kernel_rfl
set_option maxHeartbeats 8000000 in
set_option maxRecDepth 100000 in
theorem impl_RooksOfPartition.calls (k : Nat) (A0 : Option Addr) (c0 : Nat) (l0 : List (List Int)) (r1 : List Int) (r2 : Bool) (w : World) (hr0 : Kd.C (Kd.slice 3 (Kd.int .i64)) w A0 l0.length l0) (hc0 : l0.length ≤ c0) (h : impl_RooksOfPartition.f k l0 = some (r1, r2)) :
    Calls Try.prog 47 #[.slice A0 l0.length c0] w fun e w' => ∃ v0_ : Value, e = .returned (.tuple #[v0_, .bool r2]) ∧ Kd.R (Kd.int .i64) 3 w' w.heap.size (fun _ => True) v0_ r1 ∧ Below w.heap.size w w' := by
  have HR0 := Aside0.mk hr0
  have HC0 := Aside0.mk hc0
  clear hr0 hc0
  have HB := Aside0.mk (Below.refl w.heap.size w)
  have H : ((impl_areBlocks.f k l0 true).bind fun t787 => (if t787 = true then ((impl_size.f k l0).bind fun t791 => ((slices_Repeat_int_int.f (([(-1)] : List Int)) t791).bind fun t792 => (impl_RooksOfPartition.l0 k t792 l0 (l0.length : Int) 0))) else (some (([] : List Int), false)))) = some (r1, r2) := h
  clear h
  replace H := Option.bind_eq_some_iff.mp H
  obtain ⟨t787, A20, H⟩ := H
  replace H : (if t787 = true then ((impl_size.f k l0).bind fun t791 => ((slices_Repeat_int_int.f (([(-1)] : List Int)) t791).bind fun t792 => (impl_RooksOfPartition.l0 k t792 l0 (l0.length : Int) 0))) else (some (([] : List Int), false))) = some (r1, r2) := H
  have A2 := Aside0.mk A20
  clear A20
  by_cases c3 : t787 = true
  · subst c3
    have H1 : ((impl_size.f k l0).bind fun t791 => ((slices_Repeat_int_int.f (([(-1)] : List Int)) t791).bind fun t792 => (impl_RooksOfPartition.l0 k t792 l0 (l0.length : Int) 0))) = some (r1, r2) := by rw [if_pos rfl] at H; exact H
    clear H
    have H := H1
    clear H1
    obtain ⟨y788, hy788⟩ : ∃ y_ : List Int, y_ = (([(-1)] : List Int)) := ⟨_, rfl⟩
    replace H : ((impl_size.f k l0).bind fun t791 => ((slices_Repeat_int_int.f y788 t791).bind fun t792 => (impl_RooksOfPartition.l0 k t792 l0 (l0.length : Int) 0))) = some (r1, r2) := by first | (rw [hy788]; with_reducible exact H) | (have H2_ := (Option.bind_some _ _).symm.trans H; rw [hy788]; with_reducible exact H2_) | (have H2_ := (Option.bind_some _ _).symm.trans H; with_reducible exact H2_) | with_reducible exact H | (rw [hy788]; exact H) | exact H
    have Ny788 := Aside0.mk hy788
    clear hy788
    replace H := Option.bind_eq_some_iff.mp H
    obtain ⟨t791, A40, H⟩ := H
    replace H : ((slices_Repeat_int_int.f y788 t791).bind fun t792 => (impl_RooksOfPartition.l0 k t792 l0 (l0.length : Int) 0)) = some (r1, r2) := H
    have A4 := Aside0.mk A40
    clear A40
    replace H := Option.bind_eq_some_iff.mp H
    obtain ⟨t792, A50, H⟩ := H
    replace H : (impl_RooksOfPartition.l0 k t792 l0 (l0.length : Int) 0) = some (r1, r2) := H
    have A5 := Aside0.mk A50
    clear A50
    have H' := Aside0.mk H
    clear H
    go_enter Try.func47, Try.ntmps47
    go_wp2_with (first | ((with_reducible refine gate_callee (f := 89) rfl ?_); refine goesL_ (some 9) rfl rfl Try.func89 (by kernel_rfl) rfl #[.slice A0 l0.length c0, .bool true] rfl (by (try simp only [List.map_toArray, List.map_cons, List.map_nil]); first | done | rfl | (simp only [List.length_drop, List.length_take]; rfl)) ?_; (with_reducible refine (impl_areBlocks.calls k _ _ l0 true true _ ?side1 ?side2 A2.out).mono ?_); (case side1 => repeat (first | exact HR0.out | (with_reducible refine Kd.C_alloc ?_ _) | (with_reducible refine Kd.C_drewN ?_ _) | (with_reducible refine Kd.C_drew ?_))); (case side2 => exact HC0.out); rintro e w6 ⟨rfl, hb⟩; refine ⟨_, rfl, ?_⟩; have n0_ := Aside0.mk (below_step (by repeat (first | (with_reducible first | exact HB.out | apply below_alloc | apply pw_below_drewN | apply below_drew1) | exact HB.out)) hb); clear HB; have HB := n0_; clear n0_; (try clear hb); (try clear hb2); (try clear hk); (try clear hi)) | ((with_reducible refine gate_dst (N := 11) rfl ?_); refine Kd.R_lit (Kd.int .i64) _ 3 ?hg (N := 11) ?hd (xs := ([(-1)] : List Int)) (inner := [.int .i64 (-1)]) (ok := fun _ => True) (okp := fun _ => True) ?hr ?hp (fun _ hk => hk) trivial (Below.refl _ _) (Nat.le_refl _) (by simp) ?_; (case hd => rfl); (case hg => rfl); (case hr => first | (go_simp; done) | (go_simp; rfl)); (case hp => exact (Reps.one (show Kd.M (Kd.int .i64) _ _ _ (-1) [.int .i64 (-1)] from rfl) (Reps.none _ _))); intro v789 w7 ho8 hb hg_ hnew_; clear hg_ hnew_; (first | rw [← Ny788.out] at ho8 | (simp only [Int.reduceToNat] at ho8; rw [← Ny788.out] at ho8)); have n0_ := Aside0.mk (Kd.R_lower ho8 (below_size (by repeat (first | (with_reducible first | exact HB.out | apply below_alloc | apply pw_below_drewN | apply below_drew1) | exact HB.out)))); have n1_ := Aside0.mk (below_step (by repeat (first | (with_reducible first | exact HB.out | apply below_alloc | apply pw_below_drewN | apply below_drew1) | exact HB.out)) hb); clear HB; have HO790 := n0_; have HB := n1_; clear n0_ n1_; clear hb ho8) | ((with_reducible refine gate_callee (f := 91) rfl ?_); refine goesL_ (some 13) rfl rfl Try.func91 (by kernel_rfl) rfl #[.slice A0 l0.length c0] rfl (by (try simp only [List.map_toArray, List.map_cons, List.map_nil]); first | done | rfl | (simp only [List.length_drop, List.length_take]; rfl)) ?_; (with_reducible refine (impl_size.calls k _ _ l0 t791 _ ?side1 ?side2 A4.out).mono ?_); (case side1 => repeat (first | exact (Kd.C_below HR0.out HB.out) | exact HR0.out | (with_reducible refine Kd.C_alloc ?_ _) | (with_reducible refine Kd.C_drewN ?_ _) | (with_reducible refine Kd.C_drew ?_))); (case side2 => exact HC0.out); rintro e w' ⟨rfl, ⟨nd, rfl⟩⟩; refine ⟨_, rfl, ?_⟩; obtain ⟨Ao9, co9, eo9⟩ := Kd.R_slice HO790.out; subst eo9) | ((with_reducible refine gate_callee (f := 90) rfl ?_); refine goesL_ (some 14) rfl rfl Try.func90 (by kernel_rfl) rfl #[.slice Ao9 y788.length co9, .int .i64 t791] rfl (by (try simp only [List.map_toArray, List.map_cons, List.map_nil]); first | done | rfl | (simp only [List.length_drop, List.length_take]; rfl)) ?_; (with_reducible refine (slices_Repeat_int_int.calls _ _ y788 t791 t792 _ ?side1 ?side2 A5.out).mono ?_); (case side1 => repeat (first | exact (Kd.R_reads' HO790.out).2.2 | (with_reducible refine Kd.C_alloc ?_ _) | (with_reducible refine Kd.C_drewN ?_ _) | (with_reducible refine Kd.C_drew ?_))); (case side2 => exact (Kd.R_reads' HO790.out).2.1); rintro e w10 ⟨v793, rfl, ho0, hb⟩; refine ⟨_, rfl, ?_⟩; have n0_ := Aside0.mk (Kd.R_elder' (by (with_reducible repeat (first | apply Kd.R_alloc | apply Kd.R_drewN | apply Kd.R_drew)); exact HO790.out) (Kd.R_base ho0) hb); have n1_ := Aside0.mk (Kd.R_lower (Kd.R_new' ho0 (Kd.R_lt (by (with_reducible repeat (first | apply Kd.R_alloc | apply Kd.R_drewN | apply Kd.R_drew)); exact HO790.out))) (below_size (by repeat (first | (with_reducible first | exact HB.out | apply below_alloc | apply pw_below_drewN | apply below_drew1) | exact HB.out)))); have n2_ := Aside0.mk (below_step (by repeat (first | (with_reducible first | exact HB.out | apply below_alloc | apply pw_below_drewN | apply below_drew1) | exact HB.out)) hb); clear HO790; clear HB; have HO790 := n0_; have HO794 := n1_; have HB := n2_; clear n0_ n1_ n2_; (try clear hb); (try clear hb2); (try clear hk); (try clear hi); (try clear ho0)))
    go_loopg [17] k (fun kq v17 w' => ∃ (x4_1 : List Int) (x17_1 : Int), v17 = .int .i64 x17_1 ∧ Aside0 (impl_RooksOfPartition.l0 kq x4_1 l0 (l0.length : Int) x17_1 = some (r1, r2)) ∧ Aside0 (kq ≤ k) ∧ Aside0 (Kd.R (Kd.int .i64) 3 w' w.heap.size (fun _ => True) v793 x4_1) ∧ Aside0 (Below w.heap.size w w'))
    case atStart => exact ⟨(t792), (0), (by first | rfl | (simp; done) | (simp [*]; done)), H', ⟨Nat.le_refl _⟩, ⟨by (with_reducible repeat (first | apply Kd.R_alloc | apply Kd.R_drewN | apply Kd.R_drew)); exact Kd.R_mono HO794.out (fun _ hk => trivial)⟩, ⟨by repeat (first | (with_reducible first | exact HB.out | apply below_alloc | apply pw_below_drewN | apply below_drew1) | exact HB.out)⟩⟩
    case round =>
      clear H'
      try clear p2
      try clear c3
      try clear c4
      try clear c8
      try clear c9
      obtain ⟨x4_1, x17_1, rfl, HA, HK1, HO_4, HB⟩ := hrel
      cases gk with
      | zero => exact absurd HA.out (by simp [impl_RooksOfPartition.l0])
      | succ k1 =>
        have H := HA.out
        clear HA
        simp only [impl_RooksOfPartition.l0] at H
        by_cases c11 : x17_1 < (l0.length : Int)
        · rw [if_pos c11] at H
          have c11b0 : decide (x17_1 < (l0.length : Int)) = true := decide_eq_true c11
          clear c11
          by_cases c12 : 0 ≤ x17_1
          · rw [if_pos c12] at H
            have c12b0 : decide (0 ≤ x17_1) = true := decide_eq_true c12
            clear c12
            by_cases c13 : x17_1 < (l0.length : Int)
            · rw [if_pos c13] at H
              have c13b0 : decide (x17_1 < (l0.length : Int)) = true := decide_eq_true c13
              clear c13
              have H' := Aside0.mk H
              clear H
              have p795 : 0 ≤ (x17_1 : Int) := of_decide_eq_true (by first | (with_reducible assumption) | assumption)
              have q795 : x17_1 < (l0.length : Int) := of_decide_eq_true (by first | (with_reducible assumption) | assumption)
              obtain ⟨ad795, A795_0, c795_0, e795, hx795_0, hl795_0, hi795_0⟩ := at_L1 HR0.out x17_1 p795 q795
              cases e795
              (try replace hx795_0 := (HB.out.cell (World.block_lt_of_cell? w _ hx795_0)).trans hx795_0)
              have HR795_0 := Aside0.mk hi795_0
              have HC795_0 := Aside0.mk hl795_0
              clear hi795_0 hl795_0
              replace p795 := eq_true p795
              replace q795 := eq_true q795
              go_wp2
              go_loopg [7] k1 (fun kq v7 w' => ∃ (x4_2 : List Int) (x7_2 : Int), v7 = .int .i64 x7_2 ∧ Aside0 (impl_RooksOfPartition.l1 kq x4_2 (rd_L1 l0 x17_1) x7_2 l0 (l0.length : Int) x17_1 = some (r1, r2)) ∧ Aside0 (kq ≤ k1) ∧ Aside0 (Kd.R (Kd.int .i64) 3 w' w.heap.size (fun _ => True) v793 x4_2) ∧ Aside0 (Below w.heap.size w w'))
              case atStart => exact ⟨(x4_1), (1), (by first | rfl | (simp; done) | (simp [*]; done)), H', ⟨Nat.le_refl _⟩, ⟨by (with_reducible repeat (first | apply Kd.R_alloc | apply Kd.R_drewN | apply Kd.R_drew)); exact HO_4.out⟩, ⟨by repeat (first | (with_reducible first | exact HB.out | apply below_alloc | apply pw_below_drewN | apply below_drew1) | exact HB.out)⟩⟩
              case round =>
                clear H'
                try clear c1
                try clear p2
                try clear c3
                try clear c4
                try clear c7
                try clear p7
                try clear q7
                try clear hx7
                try clear c8
                try clear c9
                try clear c11
                try clear c11b0
                try clear c12
                try clear c12b0
                try clear c13
                try clear c13b0
                try clear hx795_0
                try clear p2
                try clear p795
                try clear q795
                obtain ⟨x4_2, x7_2, rfl, HA, HK2, HO_4, HB⟩ := hrel
                cases gk with
                | zero => exact absurd HA.out (by simp [impl_RooksOfPartition.l1])
                | succ k2 =>
                  have H := HA.out
                  clear HA
                  simp only [impl_RooksOfPartition.l1] at H
                  by_cases c14 : x7_2 < ((rd_L1 l0 x17_1).length : Int)
                  · rw [if_pos c14] at H
                    have c14b0 : decide (x7_2 < ((rd_L1 l0 x17_1).length : Int)) = true := decide_eq_true c14
                    clear c14
                    obtain ⟨ji15, hji15⟩ : ∃ j_ : Int, (wrap64 (x7_2 - 1)) = j_ := ⟨_, rfl⟩
                    replace H : (if 0 ≤ (ji15) then (if (ji15) < ((rd_L1 l0 x17_1).length : Int) then (if 0 ≤ x7_2 then (if 0 ≤ (rd (rd_L1 l0 x17_1) (ji15)) then (if (rd (rd_L1 l0 x17_1) (ji15)) < (x4_2.length : Int) then (impl_RooksOfPartition.l1 k2 (x4_2.set ((rd (rd_L1 l0 x17_1) (ji15)) : Int).toNat (rd (rd_L1 l0 x17_1) x7_2)) (rd_L1 l0 x17_1) (wrap64 (x7_2 + 1)) l0 (l0.length : Int) x17_1) else (none)) else (none)) else (none)) else (none)) else (none)) = some (r1, r2) := by first | (rw [hji15] at H; exact H) | (simp only [hji15] at H ⊢; exact H)
                    have hji15w : (IntKind.i64.wrap (x7_2 - 1)) = ji15 := (i64_w _).trans hji15
                    by_cases c16 : 0 ≤ (ji15)
                    · rw [if_pos c16] at H
                      have c16b0 : decide (0 ≤ (ji15)) = true := decide_eq_true c16
                      clear c16
                      by_cases c17 : (ji15) < ((rd_L1 l0 x17_1).length : Int)
                      · rw [if_pos c17] at H
                        have c17b0 : decide ((ji15) < ((rd_L1 l0 x17_1).length : Int)) = true := decide_eq_true c17
                        clear c17
                        by_cases c18 : 0 ≤ x7_2
                        · rw [if_pos c18] at H
                          have c18b0 : decide (0 ≤ x7_2) = true := decide_eq_true c18
                          clear c18
                          by_cases c19 : 0 ≤ (rd (rd_L1 l0 x17_1) (ji15))
                          · rw [if_pos c19] at H
                            have c19b0 : decide (0 ≤ (rd (rd_L1 l0 x17_1) (ji15))) = true := decide_eq_true c19
                            clear c19
                            by_cases c20 : (rd (rd_L1 l0 x17_1) (ji15)) < (x4_2.length : Int)
                            · rw [if_pos c20] at H
                              have c20b0 : decide ((rd (rd_L1 l0 x17_1) (ji15)) < (x4_2.length : Int)) = true := decide_eq_true c20
                              clear c20
                              obtain ⟨y798, hy798⟩ : ∃ y_ : List Int, y_ = (x4_2.set ((rd (rd_L1 l0 x17_1) (ji15)) : Int).toNat (rd (rd_L1 l0 x17_1) x7_2)) := ⟨_, rfl⟩
                              replace H : (impl_RooksOfPartition.l1 k2 y798 (rd_L1 l0 x17_1) (wrap64 (x7_2 + 1)) l0 (l0.length : Int) x17_1) = some (r1, r2) := by first | (rw [hy798]; with_reducible exact H) | (have H2_ := (Option.bind_some _ _).symm.trans H; rw [hy798]; with_reducible exact H2_) | (have H2_ := (Option.bind_some _ _).symm.trans H; with_reducible exact H2_) | with_reducible exact H | (rw [hy798]; exact H) | exact H
                              have Ny798 := Aside0.mk hy798
                              clear hy798
                              have H' := Aside0.mk H
                              clear H
                              try go_wp2
                              have n0_ := Aside0.mk (Kd.R_drew HO_4.out)
                              have n1_ := Aside0.mk (below_drew1 HB.out)
                              clear HO_4
                              clear HB
                              have HO_4 := n0_
                              have HB := n1_
                              clear n0_ n1_
                              have p796 : 0 ≤ ((ji15) : Int) := of_decide_eq_true (by first | (with_reducible assumption) | assumption)
                              have q796 : (ji15) < ((rd_L1 l0 x17_1).length : Int) := of_decide_eq_true (by first | (with_reducible assumption) | assumption)
                              obtain ⟨ad796, e796, hx796_0⟩ := Kd.at_int HR795_0.out (ji15) p796 q796
                              have hw796_0 := hx796_0
                              cases e796
                              (try replace hx796_0 := (HB.out.cell (World.block_lt_of_cell? w _ hx796_0)).trans hx796_0)
                              replace p796 := eq_true p796
                              replace q796 := eq_true q796
                              have p797 : 0 ≤ (x7_2 : Int) := of_decide_eq_true (by first | (with_reducible assumption) | assumption)
                              have q797 : x7_2 < ((rd_L1 l0 x17_1).length : Int) := of_decide_eq_true (by first | (with_reducible assumption) | assumption)
                              obtain ⟨ad797, e797, hx797_0⟩ := Kd.at_int HR795_0.out x7_2 p797 q797
                              have hw797_0 := hx797_0
                              obtain rfl : ad796 = ad797 := (by injection e797)
                              (try replace hx797_0 := (HB.out.cell (World.block_lt_of_cell? w _ hx797_0)).trans hx797_0)
                              replace p797 := eq_true p797
                              replace q797 := eq_true q797
                              have p21 : 0 ≤ ((rd (rd_L1 l0 x17_1) (ji15)) : Int) := of_decide_eq_true (by first | (with_reducible assumption) | assumption)
                              have q21 : ((rd (rd_L1 l0 x17_1) (ji15)) : Int) < ((x4_2.length : Int) : Int) := of_decide_eq_true (by first | (with_reducible assumption) | assumption)
                              obtain ⟨go21, co21, eo21, gb21, gl21, cl21, HG21⟩ := Kd.R_form HO_4.out (by omega)
                              (first | cases eo21 | (injection eo21 with ea_ en_ ec_; (first | subst ea_ | (injection ea_ with ea_; subst ea_)); subst ec_; clear en_))
                              have GB21 := Aside0.mk gb21
                              have GG21 := Aside0.mk HG21
                              clear gb21 gl21 HG21
                              obtain ⟨hx21_0, hf21_0⟩ := Kd.R_celln 0 HO_4.out ((rd (rd_L1 l0 x17_1) (ji15)) : Int) p21 q21
                              replace p21 := eq_true p21
                              replace q21 := eq_true q21
                              have HP23 := Kd.R_putn HO_4.out ((rd (rd_L1 l0 x17_1) (ji15)) : Int) (rd (rd_L1 l0 x17_1) x7_2)
                              rw [← Ny798.out] at HP23
                              have HQ23 := Aside0.mk HP23
                              clear HP23
                              refine start_ (n := 12) (S := fun w' => w'.cell? (ad796.add ((ji15)).toNat) = some (.int .i64 (rd (rd_L1 l0 x17_1) (ji15))) ∧ w'.cell? (ad796.add (x7_2).toNat) = some (.int .i64 (rd (rd_L1 l0 x17_1) x7_2))) (ds := [11]) #[false, false, false, false, false, false, false, false, false, false, false, false] (by kernel_rfl) rfl rfl ⟨((HB.out.cell (World.block_lt_of_cell? w _ hw796_0)).trans hw796_0), ((HB.out.cell (World.block_lt_of_cell? w _ hw797_0)).trans hw797_0)⟩ (fun hHeld => ?_); refine with_tabW impl_RooksOfPartition.tab10 impl_RooksOfPartition.bits10 (fun HT_ HW_ => ?_)
                              generalize wr.drew = w22 at HO_4 HB GG21 HQ23 hf21_0 hx21_0 hx796_0 hx797_0 hHeld ⊢
                              refine pure_ (i := 0) (N := some 27) (v := ?_) (a' := ?_) #[true, false, false, false, false, false, false, false, false, false, false, false] rfl rfl (any_of HT_.out (by kernel_rfl)) (fun _ _ _ h => h) (Or.inl ⟨by rfl, ?_⟩) ?_ ?_
                              rotate_left
                              · intro w'
                                go_simp
                                with_reducible rfl
                              rotate_left
                              · simp only [Act.put, List.setIfInBounds_toArray, List.set_cons_zero, List.set_cons_succ, i64_w, i32_w]
                                rfl
                              refine pure_ (i := 1) (N := some 28) (v := ?_) (a' := ?_) #[true, true, false, false, false, false, false, false, false, false, false, false] rfl rfl (any_of HT_.out (by kernel_rfl)) (fun _ _ _ h => h) (Or.inl ⟨by rfl, ?_⟩) ?_ ?_
                              rotate_left
                              · intro w'
                                go_simp
                                with_reducible rfl
                              rotate_left
                              · simp only [Act.put, List.setIfInBounds_toArray, List.set_cons_zero, List.set_cons_succ, i64_w, i32_w]
                                rfl
                              refine pure_ (i := 2) (N := some 29) (v := ?_) (a' := ?_) #[true, true, true, false, false, false, false, false, false, false, false, false] rfl rfl (any_of HT_.out (by kernel_rfl)) (fun _ _ _ h => h) (Or.inl ⟨by rfl, ?_⟩) ?_ ?_
                              rotate_left
                              · intro w'
                                go_simp
                                with_reducible rfl
                              rotate_left
                              · simp only [Act.put, List.setIfInBounds_toArray, List.set_cons_zero, List.set_cons_succ, i64_w, i32_w]
                                rfl
                              refine pure_ (i := 3) (N := some 30) (v := ?_) (a' := ?_) #[true, true, true, true, false, false, false, false, false, false, false, false] rfl rfl (any_of HT_.out (by kernel_rfl)) (fun _ _ _ h => h) (Or.inl ⟨by rfl, ?_⟩) ?_ ?_
                              rotate_left
                              · intro w'
                                go_simp
                                with_reducible rfl
                              rotate_left
                              · simp only [Act.put, List.setIfInBounds_toArray, List.set_cons_zero, List.set_cons_succ, i64_w, i32_w]
                                rfl
                              refine pure_ (i := 4) (N := some 31) (v := ?_) (a' := ?_) #[true, true, true, true, true, false, false, false, false, false, false, false] rfl rfl (any_of HT_.out (by kernel_rfl)) (fun _ _ _ h => h) (Or.inl ⟨by rfl, ?_⟩) ?_ ?_
                              rotate_left
                              · intro w'
                                go_simp
                                with_reducible rfl
                              rotate_left
                              · simp only [Act.put, List.setIfInBounds_toArray, List.set_cons_zero, List.set_cons_succ, i64_w, i32_w]
                                rfl
                              refine pure_ (i := 6) (N := some 33) (v := ?_) (a' := ?_) #[true, true, true, true, true, false, true, false, false, false, false, false] rfl rfl (any_of HT_.out (by kernel_rfl)) (fun _ _ _ h => h) (Or.inl ⟨by rfl, ?_⟩) ?_ ?_
                              rotate_left
                              · intro w'
                                go_simp
                                with_reducible rfl
                              rotate_left
                              · simp only [Act.put, List.setIfInBounds_toArray, List.set_cons_zero, List.set_cons_succ, i64_w, i32_w]
                                rfl
                              refine pure_ (i := 7) (N := some 34) (v := ?_) (a' := ?_) #[true, true, true, true, true, false, true, true, false, false, false, false] rfl rfl (any_of HT_.out (by kernel_rfl)) (fun _ _ _ h => h) (Or.inl ⟨by rfl, ?_⟩) ?_ ?_
                              rotate_left
                              · intro w'
                                go_simp
                                with_reducible rfl
                              rotate_left
                              · simp only [Act.put, List.setIfInBounds_toArray, List.set_cons_zero, List.set_cons_succ, i64_w, i32_w]
                                rfl
                              refine pure_ (i := 8) (N := some 35) (v := ?_) (a' := ?_) #[true, true, true, true, true, false, true, true, true, false, false, false] rfl rfl (any_of HT_.out (by kernel_rfl)) (fun _ _ _ h => h) (Or.inl ⟨by rfl, ?_⟩) ?_ ?_
                              rotate_left
                              · intro w'
                                go_simp
                                with_reducible rfl
                              rotate_left
                              · simp only [Act.put, List.setIfInBounds_toArray, List.set_cons_zero, List.set_cons_succ, i64_w, i32_w]
                                rfl
                              refine take_ (i := 5) (N := some 32) (v := ?_) (a' := ?_) #[true, true, true, true, true, true, true, true, true, false, false, false] rfl rfl (take_ofW HT_.out HW_.out (by kernel_rfl)) (fun _ _ _ h => h) (Or.inl ⟨by rfl, ?_⟩) hHeld ?_ ?_
                              rotate_left
                              · rintro w' ⟨s0, s1⟩
                                go_simp
                                with_reducible rfl
                              rotate_left
                              · simp only [Act.put, List.setIfInBounds_toArray, List.set_cons_zero, List.set_cons_succ, i64_w, i32_w]
                                rfl
                              refine take_ (i := 9) (N := some 36) (v := ?_) (a' := ?_) #[true, true, true, true, true, true, true, true, true, true, false, false] rfl rfl (take_ofW HT_.out HW_.out (by kernel_rfl)) (fun _ _ _ h => h) (Or.inl ⟨by rfl, ?_⟩) hHeld ?_ ?_
                              rotate_left
                              · rintro w' ⟨s0, s1⟩
                                go_simp
                                with_reducible rfl
                              rotate_left
                              · simp only [Act.put, List.setIfInBounds_toArray, List.set_cons_zero, List.set_cons_succ, i64_w, i32_w]
                                rfl
                              refine pure_ (i := 10) (N := some 37) (v := ?_) (a' := ?_) #[true, true, true, true, true, true, true, true, true, true, true, false] rfl rfl (any_of HT_.out (by kernel_rfl)) (fun _ _ _ h => h) (Or.inl ⟨by rfl, ?_⟩) ?_ ?_
                              rotate_left
                              · intro w'
                                go_simp
                                with_reducible rfl
                              rotate_left
                              · simp only [Act.put, List.setIfInBounds_toArray, List.set_cons_zero, List.set_cons_succ, i64_w, i32_w]
                                rfl
                              refine last_ (i := 11) (N := none) #[true, true, true, true, true, true, true, true, true, true, true, true] rfl rfl (one_of HT_.out (by kernel_rfl)) (by decide) (fun K hK => ?_)
                              refine skip_ (w1 := ?_) (by rfl) rfl ?_ ?_
                              rotate_left
                              · go_simp
                                rfl
                              refine hK.out _ _ ?_
                              clear hK K
                              refine done_ (done_of HT_.out (by kernel_rfl)) ?_
                              try go_wp2
                              go_roundg k2
                              case measure => have := HK1.out; have := HK2.out; omega
                              case rel => exact ⟨(y798), (wrap64 (x7_2 + 1)), (by first | rfl | (simp; done) | (simp [*]; done)), H', ⟨by have := HK1.out; have := HK2.out; omega⟩, ⟨by (with_reducible repeat (first | apply Kd.R_alloc | apply Kd.R_drewN | apply Kd.R_drew)); exact HQ23.out⟩, ⟨by repeat (first | (with_reducible first | exact HB.out | apply below_alloc | apply pw_below_drewN | apply below_drew1 | refine below_set ?_ GB21.out) | exact HB.out)⟩⟩
                            · rw [if_neg c20] at H
                              exact absurd H (by simp)
                          · rw [if_neg c19] at H
                            exact absurd H (by simp)
                        · rw [if_neg c18] at H
                          exact absurd H (by simp)
                      · rw [if_neg c17] at H
                        exact absurd H (by simp)
                    · rw [if_neg c16] at H
                      exact absurd H (by simp)
                  · rw [if_neg c14] at H
                    have c14b0 : decide (x7_2 < ((rd_L1 l0 x17_1).length : Int)) = false := decide_eq_false c14
                    clear c14
                    have H' := Aside0.mk H
                    clear H
                    go_wp2
                    go_roundg k2
                    case measure => have := HK1.out; have := HK2.out; omega
                    case rel => exact ⟨(x4_2), (wrap64 (x17_1 + 1)), (by first | rfl | (simp; done) | (simp [*]; done)), H', ⟨by have := HK1.out; have := HK2.out; omega⟩, ⟨by (with_reducible repeat (first | apply Kd.R_alloc | apply Kd.R_drewN | apply Kd.R_drew)); exact HO_4.out⟩, ⟨by repeat (first | (with_reducible first | exact HB.out | apply below_alloc | apply pw_below_drewN | apply below_drew1) | exact HB.out)⟩⟩
            · rw [if_neg c13] at H
              exact absurd H (by simp)
          · rw [if_neg c12] at H
            exact absurd H (by simp)
        · rw [if_neg c11] at H
          have c11b0 : decide (x17_1 < (l0.length : Int)) = false := decide_eq_false c11
          clear c11
          simp only [Option.some.injEq, Prod.mk.injEq] at H
          obtain ⟨rfl, rfl⟩ := H
          go_wp2
          go_ret2
          exact ⟨_, by first | rfl | (simp [errW_none, errW_some] <;> rfl) | (simp [*, errW_none, errW_some] <;> rfl), by (with_reducible repeat (first | apply Kd.R_alloc | apply Kd.R_drewN | apply Kd.R_drew)); exact HO_4.out, by repeat (first | (with_reducible first | exact HB.out | apply below_alloc | apply pw_below_drewN | apply below_drew1) | exact HB.out)⟩
  · replace c3 := Bool.eq_false_iff.mpr c3
    subst c3
    have H1 : (some (([] : List Int), false)) = some (r1, r2) := by rw [if_neg (show ¬ (false = true) by decide)] at H; exact H
    clear H
    have H := H1
    clear H1
    simp only [Option.some.injEq, Prod.mk.injEq] at H
    obtain ⟨rfl, rfl⟩ := H
    go_enter Try.func47, Try.ntmps47
    go_wp2_with (first | ((with_reducible refine gate_callee (f := 89) rfl ?_); refine goesL_ (some 9) rfl rfl Try.func89 (by kernel_rfl) rfl #[.slice A0 l0.length c0, .bool true] rfl (by (try simp only [List.map_toArray, List.map_cons, List.map_nil]); first | done | rfl | (simp only [List.length_drop, List.length_take]; rfl)) ?_; (with_reducible refine (impl_areBlocks.calls k _ _ l0 true false _ ?side1 ?side2 A2.out).mono ?_); (case side1 => repeat (first | exact HR0.out | (with_reducible refine Kd.C_alloc ?_ _) | (with_reducible refine Kd.C_drewN ?_ _) | (with_reducible refine Kd.C_drew ?_))); (case side2 => exact HC0.out); rintro e w24 ⟨rfl, hb⟩; refine ⟨_, rfl, ?_⟩; have n0_ := Aside0.mk (below_step (by repeat (first | (with_reducible first | exact HB.out | apply below_alloc | apply pw_below_drewN | apply below_drew1) | exact HB.out)) hb); clear HB; have HB := n0_; clear n0_; (try clear hb); (try clear hb2); (try clear hk); (try clear hi)))
    go_ret2
    exact ⟨_, by first | rfl | (simp [errW_none, errW_some] <;> rfl) | (simp [*, errW_none, errW_some] <;> rfl), by first | exact Kd.R_nil _ _ _ _ _ | exact Kd.N_nil _ _ _ _ _ | exact Kd.V_nil _ _ _ _ _ | exact Kd.Q_nil _ _ _ _ _ | exact Kd.S_nil _ _ _ _ _, by repeat (first | (with_reducible first | exact HB.out | apply below_alloc | apply pw_below_drewN | apply below_drew1) | exact HB.out)⟩

/-! ### laws_markIntSS: function 48 -/
def laws_markIntSS.l0 : Nat → List (List Int) → Int → Int → Option (Int × List (List Int))
  | 0, _, _, _ => none
  | k + 1, x0, x1, x5 => if x5 < (x0.length : Int) then (if 0 ≤ x5 then ((laws_markIntS.f k (rd_L1 x0 x5) x1).bind fun t => laws_markIntSS.l0 k (x0.set (x5 : Int).toNat t.2) t.1 (wrap64 (x5 + 1))) else none) else some (x1, x0)
def laws_markIntSS.f (k : Nat) (l0 : List (List Int)) (a1 : Int) : Option (Int × List (List Int)) := laws_markIntSS.l0 k l0 a1 0
theorem laws_markIntSS.mono_l : ∀ k, (∀ y0 y1 y2, LeO (laws_markIntSS.l0 k y0 y1 y2) (laws_markIntSS.l0 (k + 1) y0 y1 y2))
  | 0 => fun _ _ _ r h => by simp [laws_markIntSS.l0] at h
  | k + 1 => by
    have ih0 := laws_markIntSS.mono_l k
    · intro y0 y1 y2
      unfold laws_markIntSS.l0
      repeat' first
      | (with_reducible exact ih0 _ _ _)
      | (with_reducible exact LeO.refl _)
      | (with_reducible exact LeO.none _)
      | (with_reducible exact laws_markIntS.mono _ _ _)
      | (with_reducible refine LeO.ite ?_ ?_)
      | (with_reducible refine LeO.bind ?_ (fun _ => ?_))
      | exact ih0 _ _ _
      | exact LeO.none _
      | exact laws_markIntS.mono _ _ _
      | refine LeO.ite ?_ ?_
      | refine LeO.bind ?_ (fun _ => ?_)
theorem laws_markIntSS.mono : ∀ a0 a1 k, LeO (laws_markIntSS.f k a0 a1) (laws_markIntSS.f (k + 1) a0 a1) := fun a0 a1 k => laws_markIntSS.mono_l k _ _ _
set_option maxHeartbeats 8000000 in
set_option maxRecDepth 100000 in
theorem laws_markIntSS.calls (k : Nat) (P0_ : Nat → Prop) (u9000_ : Value) (l0 : List (List Int)) (a1 : Int) (r1 : Int) (r2 : List (List Int)) (w0 w : World) (hB : Below w0.heap.size w0 w) (ho0 : Kd.S (Kd.slice 3 (Kd.int .i64)) 22 w w0.heap.size P0_ u9000_ l0) (h : laws_markIntSS.f k l0 a1 = some (r1, r2)) :
    Calls Try.prog 48 #[u9000_, .int .i64 a1] w fun e w' => e = .returned (.int .i64 r1) ∧ Kd.S (Kd.slice 3 (Kd.int .i64)) 22 w' w0.heap.size (fun k_ => (P0_ k_ ∨ w.heap.size ≤ k_)) u9000_ r2 ∧ Below w0.heap.size w0 w' ∧ Kept w w' (fun k_ => P0_ k_) := by
  have HO0 := Aside0.mk (show Kd.S (Kd.slice 3 (Kd.int .i64)) 22 w w0.heap.size (fun k_ => (P0_ k_ ∨ w.heap.size ≤ k_)) u9000_ l0 from Kd.S_mono ho0 (fun k_ hk => (.inl hk)))
  have HK := Aside0.mk (Kept.refl w (fun k_ => P0_ k_))
  have HB := Aside0.mk hB
  clear hB
  have H' := Aside0.mk (show laws_markIntSS.l0 k l0 a1 0 = some (r1, r2) from h)
  clear h
  go_enter Try.func48, Try.ntmps48
  go_wp2
  go_loopg [1, 5] k (fun kq v1 v5 w' => ∃ (x0_1 : List (List Int)) (x1_1 : Int) (x5_1 : Int), v1 = .int .i64 x1_1 ∧ v5 = .int .i64 x5_1 ∧ Aside0 (laws_markIntSS.l0 kq x0_1 x1_1 x5_1 = some (r1, r2)) ∧ Aside0 (kq ≤ k) ∧ Aside0 (Kd.S (Kd.slice 3 (Kd.int .i64)) 22 w' w0.heap.size (fun k_ => (P0_ k_ ∨ w.heap.size ≤ k_)) u9000_ x0_1) ∧ Aside0 (Kept w w' (fun k_ => P0_ k_)) ∧ Aside0 (Below w0.heap.size w0 w'))
  case atStart => exact ⟨l0, a1, 0, rfl, rfl, H', ⟨Nat.le_refl _⟩, ⟨by (with_reducible repeat (first | apply Kd.S_alloc | apply Kd.S_drewN | apply Kd.S_drew)); exact HO0.out⟩, ⟨by repeat (first | (with_reducible first | exact HK.out | apply Kept.alloc | apply Kept.drewN | apply Kept.drew) | exact HK.out)⟩, ⟨by repeat (first | (with_reducible first | exact HB.out | apply below_alloc | apply pw_below_drewN | apply below_drew1) | exact HB.out)⟩⟩
  case round =>
    clear H'
    obtain ⟨x0_1, x1_1, x5_1, rfl, rfl, HA, HK1, HO_0, HK, HB⟩ := hrel
    cases gk with
    | zero => exact absurd HA.out (by simp [laws_markIntSS.l0])
    | succ k1 =>
      have H := HA.out
      clear HA
      simp only [laws_markIntSS.l0] at H
      by_cases c3 : x5_1 < (x0_1.length : Int)
      · rw [if_pos c3] at H
        by_cases c4 : 0 ≤ x5_1
        · rw [if_pos c4] at H
          obtain ⟨⟨t1, t2⟩, A1, H⟩ := Option.bind_eq_some_iff.mp H
          have H' := Aside0.mk H
          have A1' := Aside0.mk A1
          clear H A1
          obtain ⟨go5, co5, eo5, gb5, gl5, cl5, HG5⟩ := Kd.S_form HO_0.out (by omega)
          subst eo5
          obtain ⟨oki, ci, hcl, hM, hcc, hoki, hH⟩ := Kd.S_lend HO_0.out [] x5_1 c4 c3
          obtain ⟨ve, rfl, hR⟩ := hM
          have hx := hcc 0 _ rfl
          simp only [show (Kd.slice 3 (Kd.int .i64)).sz = 1 from rfl, Nat.mul_one, Nat.add_zero] at hx
          have HR := Aside0.mk hR
          have HH := Aside0.mk hH
          have HI := Aside0.mk hoki
          have c3b := decide_eq_true c3
          have c4b := decide_eq_true c4
          have c3' := Aside0.mk c3
          have c4' := Aside0.mk c4
          clear hR hH hoki hcl hcc gb5 gl5 HG5 c3 c4
          have p5 : (0 ≤ x5_1) = True := eq_true c4'.out
          have q5 : (x5_1 < (x0_1.length : Int)) = True := eq_true c3'.out
          go_wp2_with (first | (go_at_call 42; (with_reducible refine (laws_markIntS.calls k1 oki ve (rd_L1 x0_1 x5_1) x1_1 t1 t2 w0 _ ?sB ?sR A1'.out).mono ?_); (case sB => repeat (first | (with_reducible first | exact HB.out | apply below_alloc | apply pw_below_drewN | apply below_drew1) | exact HB.out)); (case sR => (with_reducible repeat (first | apply Kd.R_alloc | apply Kd.R_drewN | apply Kd.R_drew)); exact HR.out); rintro e w8 ⟨rfl, hy, hb, hkp⟩; have HY := Aside0.mk hy; have HB2 := Aside0.mk hb; have HKP := Aside0.mk hkp; clear hy hb hkp))
          go_roundg k1
          case measure => have := HK1.out; omega
          case rel =>
            refine ⟨x0_1.set x5_1.toNat t2, t1, wrap64 (x5_1 + 1), rfl, by first | rfl | (simp; done), H', ⟨by have := HK1.out; omega⟩, ?_, ?_, ?_⟩
            · refine ⟨?_⟩
              (with_reducible repeat (first | apply Kd.S_alloc | apply Kd.S_drewN | apply Kd.S_drew))
              have hle := HKP.out.1
              have hle2 := HK.out.1
              have hsz := HB.out.size
              exact Kd.H_back (Kd.H_step (Kd.H_widen HH.out) (fun k_ hk hn hlt => HKP.out.2 k_ hlt (fun h2 => hn (.inl h2)))) (Kd.M_row HY.out) (fun k_ hk => hk.elim .inl (fun h2 => .inr ⟨.inr (Nat.le_trans hle2 h2), h2⟩))
            · refine ⟨?_⟩
              repeat (first | (with_reducible first | apply Kept.alloc | apply Kept.drewN | apply Kept.drew))
              exact Kept.then_ HK.out HKP.out (fun k_ hk => (HI.out k_ hk).1)
            · exact ⟨by repeat (first | (with_reducible first | exact HB2.out | apply below_alloc | apply pw_below_drewN | apply below_drew1) | exact HB2.out)⟩
        · rw [if_neg c4] at H
          exact absurd H (by simp)
      · rw [if_neg c3] at H
        have c3b0 : decide (x5_1 < (x0_1.length : Int)) = false := decide_eq_false c3
        clear c3
        simp only [Option.some.injEq, Prod.mk.injEq] at H
        obtain ⟨rfl, rfl⟩ := H
        obtain ⟨Ao9, co9, eo9⟩ := Kd.S_slice HO_0.out
        subst eo9
        go_wp2
        go_ret
        exact ⟨by first | rfl | (simp [errW_none, errW_some] <;> rfl) | (simp [*, errW_none, errW_some] <;> rfl), by (with_reducible repeat (first | apply Kd.S_alloc | apply Kd.S_drewN | apply Kd.S_drew)); exact HO_0.out, by repeat (first | (with_reducible first | exact HB.out | apply below_alloc | apply pw_below_drewN | apply below_drew1) | exact HB.out), by repeat (first | (with_reducible first | exact HK.out | apply Kept.alloc | apply Kept.drewN | apply Kept.drew) | exact HK.out)⟩

/-! ### laws_FnExactRooksOfPartition: function 12 -/
def laws_FnExactRooksOfPartition.Tests (k : Nat) (l0 : List (List Int)) : Prop := ∃ s0 : Int, ∃ g0_ : List Int, ∃ g1_ : Bool, ∃ m8 : Int, ∃ n8 : List (List Int), ∃ m10 : Int, ∃ n10 : List Int, 0 ≤ s0 ∧ laws_szIntSS.f k l0 1048576 = some s0 ∧ laws_toIntSS.f k l0 = some l0 ∧ spec_RooksOfPartition.f k l0 = some (g0_, g1_) ∧ impl_RooksOfPartition.f k l0 = some (g0_, g1_) ∧ laws_eqIntS.f k g0_ g0_ = some true ∧ laws_eqIntSS.f k l0 l0 = some true ∧ 0 ≤ m8 ∧ laws_markIntSS.f k l0 1 = some (m8, n8) ∧ 0 ≤ m10 ∧ laws_markIntS.f k g0_ 1 = some (m10, n10) ∧ laws_heldIntS.f k n10 1 = some m10
open Classical in
noncomputable def laws_FnExactRooksOfPartition.f (k : Nat) (l0 : List (List Int)) : Option Bool := if (∃ s0 : Int, laws_szIntSS.f k l0 1048576 = some s0 ∧ s0 < 0) then some true else if laws_FnExactRooksOfPartition.Tests k l0 then some true else none
set_option maxHeartbeats 8000000 in
set_option maxRecDepth 100000 in
theorem laws_FnExactRooksOfPartition.calls (k : Nat) (A0 : Option Addr) (c0 : Nat) (l0 : List (List Int)) (r : Bool) (w : World) (hr0 : Kd.C (Kd.slice 3 (Kd.int .i64)) w A0 l0.length l0) (hc0 : l0.length ≤ c0) (h : laws_FnExactRooksOfPartition.f k l0 = some r) :
    Calls Try.prog 12 #[.slice A0 l0.length c0] w fun e w' => e = .returned (.bool r) ∧ Below w.heap.size w w' := by
  have HB := Aside0.mk (Below.refl w.heap.size w)
  have HT := Aside0.mk (Nat.le_refl w.heap.size)
  unfold laws_FnExactRooksOfPartition.f at h
  by_cases cgz : (∃ s0 : Int, laws_szIntSS.f k l0 1048576 = some s0 ∧ s0 < 0)
  · rw [if_pos cgz] at h
    obtain rfl := Option.some.inj h
    obtain ⟨s0, hs0, hs1⟩ := cgz
    have T1 := Aside0.mk hs0
    have cgb_ := decide_eq_true hs1
    clear h hs0 hs1
    have HR0 := Aside0.mk hr0
    have HC0 := Aside0.mk hc0
    clear hr0 hc0
    go_enter Try.func12, Try.ntmps12
    go_wp2_with (first | ((with_reducible refine gate_callee (f := 30) rfl ?_); refine goesL_ (some 16) rfl rfl Try.func30 (by kernel_rfl) rfl #[.slice A0 l0.length c0, .int .i64 1048576] rfl (by (try simp only [List.map_toArray, List.map_cons, List.map_nil]); first | done | rfl) ?_; (with_reducible refine (laws_szIntSS.calls k A0 c0 l0 1048576 s0 _ ?s0 ?s1 T1.out).mono ?_); (case s0 => exact Kd.C_below HR0.out (by repeat (first | (with_reducible first | exact HB.out | apply below_alloc | apply pw_below_drewN | apply below_drew1) | exact HB.out))); (case s1 => exact HC0.out); rintro e w' ⟨rfl, ⟨nd_0, rfl⟩⟩; refine ⟨_, rfl, ?_⟩))
    go_ret
    exact ⟨rfl, (by repeat (first | (with_reducible first | exact HB.out | apply below_alloc | apply pw_below_drewN | apply below_drew1) | exact HB.out))⟩
  · rw [if_neg cgz] at h
    clear cgz
    have hT : laws_FnExactRooksOfPartition.Tests k l0 := by
      refine Classical.byContradiction (fun hT => ?_)
      rw [if_neg hT] at h; cases h
    rw [if_pos hT] at h
    obtain rfl := Option.some.inj h
    clear h
    obtain ⟨s0, g0_, g1_, m8, n8, m10, n10, T0, T1, T2, T3, T4, T5, T6, T7, T8, T9, T10, T11⟩ := hT
    have T0b := decide_eq_false (Int.not_lt.mpr T0)
    replace T0 := Aside0.mk T0
    replace T1 := Aside0.mk T1
    replace T2 := Aside0.mk T2
    replace T3 := Aside0.mk T3
    replace T4 := Aside0.mk T4
    replace T5 := Aside0.mk T5
    replace T6 := Aside0.mk T6
    have T7b := decide_eq_false (Int.not_lt.mpr T7)
    replace T7 := Aside0.mk T7
    replace T8 := Aside0.mk T8
    have T9b := decide_eq_false (Int.not_lt.mpr T9)
    replace T9 := Aside0.mk T9
    replace T10 := Aside0.mk T10
    replace T11 := Aside0.mk T11
    have HR0 := Aside0.mk hr0
    have HC0 := Aside0.mk hc0
    clear hr0 hc0
    go_enter Try.func12, Try.ntmps12
    go_wp2_with (first | ((with_reducible refine gate_callee (f := 30) rfl ?_); refine goesL_ (some 16) rfl rfl Try.func30 (by kernel_rfl) rfl #[.slice A0 l0.length c0, .int .i64 1048576] rfl (by (try simp only [List.map_toArray, List.map_cons, List.map_nil]); first | done | rfl) ?_; (with_reducible refine (laws_szIntSS.calls k A0 c0 l0 1048576 s0 _ ?s0 ?s1 T1.out).mono ?_); (case s0 => exact Kd.C_below HR0.out (by repeat (first | (with_reducible first | exact HB.out | apply below_alloc | apply pw_below_drewN | apply below_drew1) | exact HB.out))); (case s1 => exact HC0.out); rintro e w' ⟨rfl, ⟨nd_0, rfl⟩⟩; refine ⟨_, rfl, ?_⟩) | ((with_reducible refine gate_callee (f := 32) rfl ?_); refine goesL_ (some 21) rfl rfl Try.func32 (by kernel_rfl) rfl #[.slice A0 l0.length c0] rfl (by (try simp only [List.map_toArray, List.map_cons, List.map_nil]); first | done | rfl) ?_; (with_reducible refine (laws_toIntSS.calls k A0 c0 l0 l0 _ ?s0 ?s1 T2.out).mono ?_); (case s0 => exact Kd.C_below HR0.out (by repeat (first | (with_reducible first | exact HB.out | apply below_alloc | apply pw_below_drewN | apply below_drew1) | exact HB.out))); (case s1 => exact HC0.out); rintro e w_1 ⟨v1_0, rfl, ho0, hb⟩; refine ⟨_, rfl, ?_⟩; obtain ⟨p_1, q_1, hn_, hp_, hq_⟩   := Fn.law_span hb HT.out; have HN_1 := Aside0.mk hn_; obtain ⟨A_10, c_10, e_⟩ := Kd.S_slice ho0; subst e_; have HO_10 := Aside0.mk (Kd.S_lower (Kd.S_mono (Kd.S_bound ho0) (fun k_ hk_ => (⟨by have := hk_.2.1; omega, by have := hk_.2.2.1; omega⟩ : p_1 ≤ k_ ∧ k_ < q_1))) (below_size (by repeat (first | (with_reducible first | exact HB.out | apply below_alloc | apply pw_below_drewN | apply below_drew1) | exact HB.out)))); clear ho0; clear hn_ hp_ HT; have HT := Aside0.mk (Nat.le_of_eq hq_); clear hq_; have z_ := Aside0.mk (below_step (by repeat (first | (with_reducible first | exact HB.out | apply below_alloc | apply pw_below_drewN | apply below_drew1) | exact HB.out)) hb); clear HB; have HB := z_; clear z_ hb) | ((with_reducible refine gate_callee (f := 46) rfl ?_); refine goesL_ (some 22) rfl rfl Try.func46 (by kernel_rfl) rfl #[.slice A_10 l0.length c_10] rfl (by (try simp only [List.map_toArray, List.map_cons, List.map_nil]); first | done | rfl) ?_; (with_reducible refine (spec_RooksOfPartition.calls k A_10 c_10 l0 g0_ g1_ _ ?s0 ?s1 T3.out).mono ?_); (case s0 => exact (Kd.S_reads' (by (with_reducible repeat (first | apply Kd.R_alloc | apply Kd.R_drewN | apply Kd.R_drew | apply Kd.S_alloc | apply Kd.S_drewN | apply Kd.S_drew | apply Kd.F_alloc | apply Kd.F_drewN | apply Kd.F_drew)); exact HO_10.out)).2.2); (case s1 => (have h1_ := Kd.S_reads' HO_10.out; have h2_ := h1_.1; have h3_ := h1_.2.1; omega)); rintro e w_2 ⟨v2_0, rfl, ho0, hb⟩; refine ⟨_, rfl, ?_⟩; have z_ := Aside0.mk (Kd.S_below (by (with_reducible repeat (first | apply Kd.R_alloc | apply Kd.R_drewN | apply Kd.R_drew | apply Kd.S_alloc | apply Kd.S_drewN | apply Kd.S_drew | apply Kd.F_alloc | apply Kd.F_drewN | apply Kd.F_drew)); exact HO_10.out) hb); clear HO_10; have HO_10 := z_; clear z_; obtain ⟨p_2, q_2, hn_, hp_, hq_⟩   := Fn.law_span hb HT.out; have HN_2 := Aside0.mk hn_; obtain ⟨A_20, c_20, e_⟩ := Kd.R_slice ho0; subst e_; have HO_20 := Aside0.mk (Kd.R_lower (Kd.R_mono (Kd.R_bound ho0) (fun k_ hk_ => (⟨by have := hk_.2.1; omega, by have := hk_.2.2.1; omega⟩ : p_2 ≤ k_ ∧ k_ < q_2))) (below_size (by repeat (first | (with_reducible first | exact HB.out | apply below_alloc | apply pw_below_drewN | apply below_drew1) | exact HB.out)))); clear ho0; clear hn_ hp_ HT; have HT := Aside0.mk (Nat.le_of_eq hq_); clear hq_; have z_ := Aside0.mk (below_step (by repeat (first | (with_reducible first | exact HB.out | apply below_alloc | apply pw_below_drewN | apply below_drew1) | exact HB.out)) hb); clear HB; have HB := z_; clear z_ hb) | ((with_reducible refine gate_callee (f := 32) rfl ?_); refine goesL_ (some 26) rfl rfl Try.func32 (by kernel_rfl) rfl #[.slice A0 l0.length c0] rfl (by (try simp only [List.map_toArray, List.map_cons, List.map_nil]); first | done | rfl) ?_; (with_reducible refine (laws_toIntSS.calls k A0 c0 l0 l0 _ ?s0 ?s1 T2.out).mono ?_); (case s0 => exact Kd.C_below HR0.out (by repeat (first | (with_reducible first | exact HB.out | apply below_alloc | apply pw_below_drewN | apply below_drew1) | exact HB.out))); (case s1 => exact HC0.out); rintro e w_3 ⟨v3_0, rfl, ho0, hb⟩; refine ⟨_, rfl, ?_⟩; have z_ := Aside0.mk (Kd.S_below (by (with_reducible repeat (first | apply Kd.R_alloc | apply Kd.R_drewN | apply Kd.R_drew | apply Kd.S_alloc | apply Kd.S_drewN | apply Kd.S_drew | apply Kd.F_alloc | apply Kd.F_drewN | apply Kd.F_drew)); exact HO_10.out) hb); clear HO_10; have HO_10 := z_; clear z_; have z_ := Aside0.mk (Kd.R_below (by (with_reducible repeat (first | apply Kd.R_alloc | apply Kd.R_drewN | apply Kd.R_drew | apply Kd.S_alloc | apply Kd.S_drewN | apply Kd.S_drew | apply Kd.F_alloc | apply Kd.F_drewN | apply Kd.F_drew)); exact HO_20.out) hb); clear HO_20; have HO_20 := z_; clear z_; obtain ⟨p_3, q_3, hn_, hp_, hq_⟩   := Fn.law_span hb HT.out; have HN_3 := Aside0.mk hn_; obtain ⟨A_30, c_30, e_⟩ := Kd.S_slice ho0; subst e_; have HO_30 := Aside0.mk (Kd.S_lower (Kd.S_mono (Kd.S_bound ho0) (fun k_ hk_ => (⟨by have := hk_.2.1; omega, by have := hk_.2.2.1; omega⟩ : p_3 ≤ k_ ∧ k_ < q_3))) (below_size (by repeat (first | (with_reducible first | exact HB.out | apply below_alloc | apply pw_below_drewN | apply below_drew1) | exact HB.out)))); clear ho0; clear hn_ hp_ HT; have HT := Aside0.mk (Nat.le_of_eq hq_); clear hq_; have z_ := Aside0.mk (below_step (by repeat (first | (with_reducible first | exact HB.out | apply below_alloc | apply pw_below_drewN | apply below_drew1) | exact HB.out)) hb); clear HB; have HB := z_; clear z_ hb) | ((with_reducible refine gate_callee (f := 47) rfl ?_); refine goesL_ (some 29) rfl rfl Try.func47 (by kernel_rfl) rfl #[.slice A_30 l0.length c_30] rfl (by (try simp only [List.map_toArray, List.map_cons, List.map_nil]); first | done | rfl) ?_; (with_reducible refine (impl_RooksOfPartition.calls k A_30 c_30 l0 g0_ g1_ _ ?s0 ?s1 T4.out).mono ?_); (case s0 => exact (Kd.S_reads' (by (with_reducible repeat (first | apply Kd.R_alloc | apply Kd.R_drewN | apply Kd.R_drew | apply Kd.S_alloc | apply Kd.S_drewN | apply Kd.S_drew | apply Kd.F_alloc | apply Kd.F_drewN | apply Kd.F_drew)); exact HO_30.out)).2.2); (case s1 => (have h1_ := Kd.S_reads' HO_30.out; have h2_ := h1_.1; have h3_ := h1_.2.1; omega)); rintro e w_4 ⟨v4_0, rfl, ho0, hb⟩; refine ⟨_, rfl, ?_⟩; have z_ := Aside0.mk (Kd.S_below (by (with_reducible repeat (first | apply Kd.R_alloc | apply Kd.R_drewN | apply Kd.R_drew | apply Kd.S_alloc | apply Kd.S_drewN | apply Kd.S_drew | apply Kd.F_alloc | apply Kd.F_drewN | apply Kd.F_drew)); exact HO_10.out) hb); clear HO_10; have HO_10 := z_; clear z_; have z_ := Aside0.mk (Kd.R_below (by (with_reducible repeat (first | apply Kd.R_alloc | apply Kd.R_drewN | apply Kd.R_drew | apply Kd.S_alloc | apply Kd.S_drewN | apply Kd.S_drew | apply Kd.F_alloc | apply Kd.F_drewN | apply Kd.F_drew)); exact HO_20.out) hb); clear HO_20; have HO_20 := z_; clear z_; have z_ := Aside0.mk (Kd.S_below (by (with_reducible repeat (first | apply Kd.R_alloc | apply Kd.R_drewN | apply Kd.R_drew | apply Kd.S_alloc | apply Kd.S_drewN | apply Kd.S_drew | apply Kd.F_alloc | apply Kd.F_drewN | apply Kd.F_drew)); exact HO_30.out) hb); clear HO_30; have HO_30 := z_; clear z_; obtain ⟨p_4, q_4, hn_, hp_, hq_⟩   := Fn.law_span hb HT.out; have HN_4 := Aside0.mk hn_; obtain ⟨A_40, c_40, e_⟩ := Kd.R_slice ho0; subst e_; have HO_40 := Aside0.mk (Kd.R_lower (Kd.R_mono (Kd.R_bound ho0) (fun k_ hk_ => (⟨by have := hk_.2.1; omega, by have := hk_.2.2.1; omega⟩ : p_4 ≤ k_ ∧ k_ < q_4))) (below_size (by repeat (first | (with_reducible first | exact HB.out | apply below_alloc | apply pw_below_drewN | apply below_drew1) | exact HB.out)))); clear ho0; clear hn_ hp_ HT; have HT := Aside0.mk (Nat.le_of_eq hq_); clear hq_; have z_ := Aside0.mk (below_step (by repeat (first | (with_reducible first | exact HB.out | apply below_alloc | apply pw_below_drewN | apply below_drew1) | exact HB.out)) hb); clear HB; have HB := z_; clear z_ hb) | ((with_reducible refine gate_callee (f := 41) rfl ?_); refine goesL_ (some 34) rfl rfl Try.func41 (by kernel_rfl) rfl #[.slice A_40 g0_.length c_40, .slice A_20 g0_.length c_20] rfl (by (try simp only [List.map_toArray, List.map_cons, List.map_nil]); first | done | rfl) ?_; (with_reducible refine (laws_eqIntS.calls k A_40 c_40 g0_ A_20 c_20 g0_ true _ ?s0 ?s1 ?s2 ?s3 T5.out).mono ?_); (case s0 => exact (Kd.R_reads' (by (with_reducible repeat (first | apply Kd.R_alloc | apply Kd.R_drewN | apply Kd.R_drew | apply Kd.S_alloc | apply Kd.S_drewN | apply Kd.S_drew | apply Kd.F_alloc | apply Kd.F_drewN | apply Kd.F_drew)); exact HO_40.out)).2.2); (case s1 => (have h1_ := Kd.R_reads' HO_40.out; have h2_ := h1_.1; have h3_ := h1_.2.1; omega)); (case s2 => exact (Kd.R_reads' (by (with_reducible repeat (first | apply Kd.R_alloc | apply Kd.R_drewN | apply Kd.R_drew | apply Kd.S_alloc | apply Kd.S_drewN | apply Kd.S_drew | apply Kd.F_alloc | apply Kd.F_drewN | apply Kd.F_drew)); exact HO_20.out)).2.2); (case s3 => (have h1_ := Kd.R_reads' HO_20.out; have h2_ := h1_.1; have h3_ := h1_.2.1; omega)); rintro e w' ⟨rfl, ⟨nd_5, rfl⟩⟩; refine ⟨_, rfl, ?_⟩) | ((with_reducible refine gate_callee (f := 32) rfl ?_); refine goesL_ (some 43) rfl rfl Try.func32 (by kernel_rfl) rfl #[.slice A0 l0.length c0] rfl (by (try simp only [List.map_toArray, List.map_cons, List.map_nil]); first | done | rfl) ?_; (with_reducible refine (laws_toIntSS.calls k A0 c0 l0 l0 _ ?s0 ?s1 T2.out).mono ?_); (case s0 => exact Kd.C_below HR0.out (by repeat (first | (with_reducible first | exact HB.out | apply below_alloc | apply pw_below_drewN | apply below_drew1) | exact HB.out))); (case s1 => exact HC0.out); rintro e w_6 ⟨v6_0, rfl, ho0, hb⟩; refine ⟨_, rfl, ?_⟩; have z_ := Aside0.mk (Kd.S_below (by (with_reducible repeat (first | apply Kd.R_alloc | apply Kd.R_drewN | apply Kd.R_drew | apply Kd.S_alloc | apply Kd.S_drewN | apply Kd.S_drew | apply Kd.F_alloc | apply Kd.F_drewN | apply Kd.F_drew)); exact HO_10.out) hb); clear HO_10; have HO_10 := z_; clear z_; have z_ := Aside0.mk (Kd.R_below (by (with_reducible repeat (first | apply Kd.R_alloc | apply Kd.R_drewN | apply Kd.R_drew | apply Kd.S_alloc | apply Kd.S_drewN | apply Kd.S_drew | apply Kd.F_alloc | apply Kd.F_drewN | apply Kd.F_drew)); exact HO_20.out) hb); clear HO_20; have HO_20 := z_; clear z_; have z_ := Aside0.mk (Kd.S_below (by (with_reducible repeat (first | apply Kd.R_alloc | apply Kd.R_drewN | apply Kd.R_drew | apply Kd.S_alloc | apply Kd.S_drewN | apply Kd.S_drew | apply Kd.F_alloc | apply Kd.F_drewN | apply Kd.F_drew)); exact HO_30.out) hb); clear HO_30; have HO_30 := z_; clear z_; have z_ := Aside0.mk (Kd.R_below (by (with_reducible repeat (first | apply Kd.R_alloc | apply Kd.R_drewN | apply Kd.R_drew | apply Kd.S_alloc | apply Kd.S_drewN | apply Kd.S_drew | apply Kd.F_alloc | apply Kd.F_drewN | apply Kd.F_drew)); exact HO_40.out) hb); clear HO_40; have HO_40 := z_; clear z_; obtain ⟨p_6, q_6, hn_, hp_, hq_⟩   := Fn.law_span hb HT.out; have HN_6 := Aside0.mk hn_; obtain ⟨A_60, c_60, e_⟩ := Kd.S_slice ho0; subst e_; have HO_60 := Aside0.mk (Kd.S_lower (Kd.S_mono (Kd.S_bound ho0) (fun k_ hk_ => (⟨by have := hk_.2.1; omega, by have := hk_.2.2.1; omega⟩ : p_6 ≤ k_ ∧ k_ < q_6))) (below_size (by repeat (first | (with_reducible first | exact HB.out | apply below_alloc | apply pw_below_drewN | apply below_drew1) | exact HB.out)))); clear ho0; clear hn_ hp_ HT; have HT := Aside0.mk (Nat.le_of_eq hq_); clear hq_; have z_ := Aside0.mk (below_step (by repeat (first | (with_reducible first | exact HB.out | apply below_alloc | apply pw_below_drewN | apply below_drew1) | exact HB.out)) hb); clear HB; have HB := z_; clear z_ hb) | ((with_reducible refine gate_callee (f := 34) rfl ?_); refine goesL_ (some 44) rfl rfl Try.func34 (by kernel_rfl) rfl #[.slice A_30 l0.length c_30, .slice A_60 l0.length c_60] rfl (by (try simp only [List.map_toArray, List.map_cons, List.map_nil]); first | done | rfl) ?_; (with_reducible refine (laws_eqIntSS.calls k A_30 c_30 l0 A_60 c_60 l0 true _ ?s0 ?s1 ?s2 ?s3 T6.out).mono ?_); (case s0 => exact (Kd.S_reads' (by (with_reducible repeat (first | apply Kd.R_alloc | apply Kd.R_drewN | apply Kd.R_drew | apply Kd.S_alloc | apply Kd.S_drewN | apply Kd.S_drew | apply Kd.F_alloc | apply Kd.F_drewN | apply Kd.F_drew)); exact HO_30.out)).2.2); (case s1 => (have h1_ := Kd.S_reads' HO_30.out; have h2_ := h1_.1; have h3_ := h1_.2.1; omega)); (case s2 => exact (Kd.S_reads' (by (with_reducible repeat (first | apply Kd.R_alloc | apply Kd.R_drewN | apply Kd.R_drew | apply Kd.S_alloc | apply Kd.S_drewN | apply Kd.S_drew | apply Kd.F_alloc | apply Kd.F_drewN | apply Kd.F_drew)); exact HO_60.out)).2.2); (case s3 => (have h1_ := Kd.S_reads' HO_60.out; have h2_ := h1_.1; have h3_ := h1_.2.1; omega)); rintro e w' ⟨rfl, ⟨nd_7, rfl⟩⟩; refine ⟨_, rfl, ?_⟩) | ((with_reducible refine gate_callee (f := 48) rfl ?_); refine goesL_ (some 48) rfl rfl Try.func48 (by kernel_rfl) rfl #[.slice A_30 l0.length c_30, .int .i64 1] rfl (by (try simp only [List.map_toArray, List.map_cons, List.map_nil]); first | done | rfl) ?_; (with_reducible refine (laws_markIntSS.calls k (fun k_ => p_3 ≤ k_ ∧ k_ < q_3) (.slice A_30 l0.length c_30) l0 1 m8 n8 w _ ?s0 ?s1 T8.out).mono ?_); (case s0 => exact (by repeat (first | (with_reducible first | exact HB.out | apply below_alloc | apply pw_below_drewN | apply below_drew1) | exact HB.out))); (case s1 => exact (by (with_reducible repeat (first | apply Kd.R_alloc | apply Kd.R_drewN | apply Kd.R_drew | apply Kd.S_alloc | apply Kd.S_drewN | apply Kd.S_drew | apply Kd.F_alloc | apply Kd.F_drewN | apply Kd.F_drew)); exact HO_30.out)); rintro e w_8 ⟨rfl, ho0, hb, hkp⟩; refine ⟨_, rfl, ?_⟩; have z_ := Aside0.mk (Kd.R_step (by (with_reducible repeat (first | apply Kd.R_alloc | apply Kd.R_drewN | apply Kd.R_drew | apply Kd.S_alloc | apply Kd.S_drewN | apply Kd.S_drew | apply Kd.F_alloc | apply Kd.F_drewN | apply Kd.F_drew)); exact HO_20.out) (fun k_ hk_ hlt_ => hkp.2 k_ hlt_ (fun h_ => by have := HN_1.out; have := HN_2.out; have := HN_3.out; have := HN_4.out; have := HN_6.out; obtain ⟨_, _⟩ := hk_; obtain ⟨_, _⟩ := h_; omega))); clear HO_20; have HO_20 := z_; clear z_; have z_ := Aside0.mk (Kd.R_step (by (with_reducible repeat (first | apply Kd.R_alloc | apply Kd.R_drewN | apply Kd.R_drew | apply Kd.S_alloc | apply Kd.S_drewN | apply Kd.S_drew | apply Kd.F_alloc | apply Kd.F_drewN | apply Kd.F_drew)); exact HO_40.out) (fun k_ hk_ hlt_ => hkp.2 k_ hlt_ (fun h_ => by have := HN_1.out; have := HN_2.out; have := HN_3.out; have := HN_4.out; have := HN_6.out; obtain ⟨_, _⟩ := hk_; obtain ⟨_, _⟩ := h_; omega))); clear HO_40; have HO_40 := z_; clear z_; clear ho0; have z_ := Aside0.mk (Nat.le_trans HT.out hkp.1); clear HT; have HT := z_; clear z_; clear HB; have HB := Aside0.mk hb; clear hb hkp) | (go_at_call 41; (with_reducible refine (laws_eqIntS.calls k A_40 c_40 g0_ A_20 c_20 g0_ true _ ?s0 ?s1 ?s2 ?s3 T5.out).mono ?_); (case s0 => exact (Kd.R_reads' (by (with_reducible repeat (first | apply Kd.R_alloc | apply Kd.R_drewN | apply Kd.R_drew | apply Kd.S_alloc | apply Kd.S_drewN | apply Kd.S_drew | apply Kd.F_alloc | apply Kd.F_drewN | apply Kd.F_drew)); exact HO_40.out)).2.2); (case s1 => (have h1_ := Kd.R_reads' HO_40.out; have h2_ := h1_.1; have h3_ := h1_.2.1; omega)); (case s2 => exact (Kd.R_reads' (by (with_reducible repeat (first | apply Kd.R_alloc | apply Kd.R_drewN | apply Kd.R_drew | apply Kd.S_alloc | apply Kd.S_drewN | apply Kd.S_drew | apply Kd.F_alloc | apply Kd.F_drewN | apply Kd.F_drew)); exact HO_20.out)).2.2); (case s3 => (have h1_ := Kd.R_reads' HO_20.out; have h2_ := h1_.1; have h3_ := h1_.2.1; omega)); rintro e w' ⟨rfl, ⟨nd_9, rfl⟩⟩) | ((with_reducible refine gate_callee (f := 42) rfl ?_); refine goesL_ (some 64) rfl rfl Try.func42 (by kernel_rfl) rfl #[.slice A_40 g0_.length c_40, .int .i64 1] rfl (by (try simp only [List.map_toArray, List.map_cons, List.map_nil]); first | done | rfl) ?_; (with_reducible refine (laws_markIntS.calls k (fun k_ => p_4 ≤ k_ ∧ k_ < q_4) (.slice A_40 g0_.length c_40) g0_ 1 m10 n10 w _ ?s0 ?s1 T10.out).mono ?_); (case s0 => exact (by repeat (first | (with_reducible first | exact HB.out | apply below_alloc | apply pw_below_drewN | apply below_drew1) | exact HB.out))); (case s1 => exact (by (with_reducible repeat (first | apply Kd.R_alloc | apply Kd.R_drewN | apply Kd.R_drew | apply Kd.S_alloc | apply Kd.S_drewN | apply Kd.S_drew | apply Kd.F_alloc | apply Kd.F_drewN | apply Kd.F_drew)); exact HO_40.out)); rintro e w_10 ⟨rfl, ho0, hb, hkp⟩; refine ⟨_, rfl, ?_⟩; have z_ := Aside0.mk (Kd.R_step (by (with_reducible repeat (first | apply Kd.R_alloc | apply Kd.R_drewN | apply Kd.R_drew | apply Kd.S_alloc | apply Kd.S_drewN | apply Kd.S_drew | apply Kd.F_alloc | apply Kd.F_drewN | apply Kd.F_drew)); exact HO_20.out) (fun k_ hk_ hlt_ => hkp.2 k_ hlt_ (fun h_ => by have := HN_1.out; have := HN_2.out; have := HN_3.out; have := HN_4.out; have := HN_6.out; obtain ⟨_, _⟩ := hk_; obtain ⟨_, _⟩ := h_; omega))); clear HO_20; have HO_20 := z_; clear z_; clear HO_40; have HO_40 := Aside0.mk ho0; clear ho0; have e_ := (Kd.R_reads' HO_40.out).1; have HO_40E := Aside0.mk e_; clear e_; have z_ := Aside0.mk (Nat.le_trans HT.out hkp.1); clear HT; have HT := z_; clear z_; clear HB; have HB := Aside0.mk hb; clear hb hkp) | ((with_reducible refine gate_callee (f := 43) rfl ?_); refine goesL_ (some 67) rfl rfl Try.func43 (by kernel_rfl) rfl #[.slice A_40 n10.length c_40, .int .i64 1] rfl (by (try simp only [List.map_toArray, List.map_cons, List.map_nil]); first | done | (rw [← HO_40E.out] <;> rfl) | rfl) ?_; (with_reducible refine (laws_heldIntS.calls k A_40 c_40 n10 1 m10 _ ?s0 ?s1 T11.out).mono ?_); (case s0 => exact (Kd.R_reads' (by (with_reducible repeat (first | apply Kd.R_alloc | apply Kd.R_drewN | apply Kd.R_drew | apply Kd.S_alloc | apply Kd.S_drewN | apply Kd.S_drew | apply Kd.F_alloc | apply Kd.F_drewN | apply Kd.F_drew)); exact HO_40.out)).2.2); (case s1 => (have h1_ := Kd.R_reads' HO_40.out; have h2_ := h1_.1; have h3_ := h1_.2.1; omega)); rintro e w' ⟨rfl, ⟨nd_11, rfl⟩⟩; refine ⟨_, rfl, ?_⟩) | ((with_reducible refine gate_callee (f := 32) rfl ?_); refine goesL_ (some 75) rfl rfl Try.func32 (by kernel_rfl) rfl #[.slice A0 l0.length c0] rfl (by (try simp only [List.map_toArray, List.map_cons, List.map_nil]); first | done | (rw [← HO_40E.out] <;> rfl) | rfl) ?_; (with_reducible refine (laws_toIntSS.calls k A0 c0 l0 l0 _ ?s0 ?s1 T2.out).mono ?_); (case s0 => exact Kd.C_below HR0.out (by repeat (first | (with_reducible first | exact HB.out | apply below_alloc | apply pw_below_drewN | apply below_drew1) | exact HB.out))); (case s1 => exact HC0.out); rintro e w_12 ⟨v12_0, rfl, ho0, hb⟩; refine ⟨_, rfl, ?_⟩; have z_ := Aside0.mk (Kd.R_below (by (with_reducible repeat (first | apply Kd.R_alloc | apply Kd.R_drewN | apply Kd.R_drew | apply Kd.S_alloc | apply Kd.S_drewN | apply Kd.S_drew | apply Kd.F_alloc | apply Kd.F_drewN | apply Kd.F_drew)); exact HO_20.out) hb); clear HO_20; have HO_20 := z_; clear z_; have z_ := Aside0.mk (Kd.R_below (by (with_reducible repeat (first | apply Kd.R_alloc | apply Kd.R_drewN | apply Kd.R_drew | apply Kd.S_alloc | apply Kd.S_drewN | apply Kd.S_drew | apply Kd.F_alloc | apply Kd.F_drewN | apply Kd.F_drew)); exact HO_40.out) hb); clear HO_40; have HO_40 := z_; clear z_; obtain ⟨p_12, q_12, hn_, hp_, hq_⟩   := Fn.law_span hb HT.out; have HN_12 := Aside0.mk hn_; obtain ⟨A_120, c_120, e_⟩ := Kd.S_slice ho0; subst e_; have HO_120 := Aside0.mk (Kd.S_lower (Kd.S_mono (Kd.S_bound ho0) (fun k_ hk_ => (⟨by have := hk_.2.1; omega, by have := hk_.2.2.1; omega⟩ : p_12 ≤ k_ ∧ k_ < q_12))) (below_size (by repeat (first | (with_reducible first | exact HB.out | apply below_alloc | apply pw_below_drewN | apply below_drew1) | exact HB.out)))); clear ho0; clear hn_ hp_ HT; have HT := Aside0.mk (Nat.le_of_eq hq_); clear hq_; have z_ := Aside0.mk (below_step (by repeat (first | (with_reducible first | exact HB.out | apply below_alloc | apply pw_below_drewN | apply below_drew1) | exact HB.out)) hb); clear HB; have HB := z_; clear z_ hb) | ((with_reducible refine gate_callee (f := 47) rfl ?_); refine goesL_ (some 76) rfl rfl Try.func47 (by kernel_rfl) rfl #[.slice A_120 l0.length c_120] rfl (by (try simp only [List.map_toArray, List.map_cons, List.map_nil]); first | done | (rw [← HO_40E.out] <;> rfl) | rfl) ?_; (with_reducible refine (impl_RooksOfPartition.calls k A_120 c_120 l0 g0_ g1_ _ ?s0 ?s1 T4.out).mono ?_); (case s0 => exact (Kd.S_reads' (by (with_reducible repeat (first | apply Kd.R_alloc | apply Kd.R_drewN | apply Kd.R_drew | apply Kd.S_alloc | apply Kd.S_drewN | apply Kd.S_drew | apply Kd.F_alloc | apply Kd.F_drewN | apply Kd.F_drew)); exact HO_120.out)).2.2); (case s1 => (have h1_ := Kd.S_reads' HO_120.out; have h2_ := h1_.1; have h3_ := h1_.2.1; omega)); rintro e w_13 ⟨v13_0, rfl, ho0, hb⟩; refine ⟨_, rfl, ?_⟩; have z_ := Aside0.mk (Kd.R_below (by (with_reducible repeat (first | apply Kd.R_alloc | apply Kd.R_drewN | apply Kd.R_drew | apply Kd.S_alloc | apply Kd.S_drewN | apply Kd.S_drew | apply Kd.F_alloc | apply Kd.F_drewN | apply Kd.F_drew)); exact HO_20.out) hb); clear HO_20; have HO_20 := z_; clear z_; have z_ := Aside0.mk (Kd.R_below (by (with_reducible repeat (first | apply Kd.R_alloc | apply Kd.R_drewN | apply Kd.R_drew | apply Kd.S_alloc | apply Kd.S_drewN | apply Kd.S_drew | apply Kd.F_alloc | apply Kd.F_drewN | apply Kd.F_drew)); exact HO_40.out) hb); clear HO_40; have HO_40 := z_; clear z_; have z_ := Aside0.mk (Kd.S_below (by (with_reducible repeat (first | apply Kd.R_alloc | apply Kd.R_drewN | apply Kd.R_drew | apply Kd.S_alloc | apply Kd.S_drewN | apply Kd.S_drew | apply Kd.F_alloc | apply Kd.F_drewN | apply Kd.F_drew)); exact HO_120.out) hb); clear HO_120; have HO_120 := z_; clear z_; obtain ⟨p_13, q_13, hn_, hp_, hq_⟩   := Fn.law_span hb HT.out; have HN_13 := Aside0.mk hn_; obtain ⟨A_130, c_130, e_⟩ := Kd.R_slice ho0; subst e_; have HO_130 := Aside0.mk (Kd.R_lower (Kd.R_mono (Kd.R_bound ho0) (fun k_ hk_ => (⟨by have := hk_.2.1; omega, by have := hk_.2.2.1; omega⟩ : p_13 ≤ k_ ∧ k_ < q_13))) (below_size (by repeat (first | (with_reducible first | exact HB.out | apply below_alloc | apply pw_below_drewN | apply below_drew1) | exact HB.out)))); clear ho0; clear hn_ hp_ HT; have HT := Aside0.mk (Nat.le_of_eq hq_); clear hq_; have z_ := Aside0.mk (below_step (by repeat (first | (with_reducible first | exact HB.out | apply below_alloc | apply pw_below_drewN | apply below_drew1) | exact HB.out)) hb); clear HB; have HB := z_; clear z_ hb) | ((with_reducible refine gate_callee (f := 41) rfl ?_); refine goesL_ (some 81) rfl rfl Try.func41 (by kernel_rfl) rfl #[.slice A_130 g0_.length c_130, .slice A_20 g0_.length c_20] rfl (by (try simp only [List.map_toArray, List.map_cons, List.map_nil]); first | done | (rw [← HO_40E.out] <;> rfl) | rfl) ?_; (with_reducible refine (laws_eqIntS.calls k A_130 c_130 g0_ A_20 c_20 g0_ true _ ?s0 ?s1 ?s2 ?s3 T5.out).mono ?_); (case s0 => exact (Kd.R_reads' (by (with_reducible repeat (first | apply Kd.R_alloc | apply Kd.R_drewN | apply Kd.R_drew | apply Kd.S_alloc | apply Kd.S_drewN | apply Kd.S_drew | apply Kd.F_alloc | apply Kd.F_drewN | apply Kd.F_drew)); exact HO_130.out)).2.2); (case s1 => (have h1_ := Kd.R_reads' HO_130.out; have h2_ := h1_.1; have h3_ := h1_.2.1; omega)); (case s2 => exact (Kd.R_reads' (by (with_reducible repeat (first | apply Kd.R_alloc | apply Kd.R_drewN | apply Kd.R_drew | apply Kd.S_alloc | apply Kd.S_drewN | apply Kd.S_drew | apply Kd.F_alloc | apply Kd.F_drewN | apply Kd.F_drew)); exact HO_20.out)).2.2); (case s3 => (have h1_ := Kd.R_reads' HO_20.out; have h2_ := h1_.1; have h3_ := h1_.2.1; omega)); rintro e w' ⟨rfl, ⟨nd_14, rfl⟩⟩; refine ⟨_, rfl, ?_⟩) | ((with_reducible refine gate_callee (f := 43) rfl ?_); refine goesL_ (some 90) rfl rfl Try.func43 (by kernel_rfl) rfl #[.slice A_40 n10.length c_40, .int .i64 1] rfl (by (try simp only [List.map_toArray, List.map_cons, List.map_nil]); first | done | (rw [← HO_40E.out] <;> rfl) | rfl) ?_; (with_reducible refine (laws_heldIntS.calls k A_40 c_40 n10 1 m10 _ ?s0 ?s1 T11.out).mono ?_); (case s0 => exact (Kd.R_reads' (by (with_reducible repeat (first | apply Kd.R_alloc | apply Kd.R_drewN | apply Kd.R_drew | apply Kd.S_alloc | apply Kd.S_drewN | apply Kd.S_drew | apply Kd.F_alloc | apply Kd.F_drewN | apply Kd.F_drew)); exact HO_40.out)).2.2); (case s1 => (have h1_ := Kd.R_reads' HO_40.out; have h2_ := h1_.1; have h3_ := h1_.2.1; omega)); rintro e w' ⟨rfl, ⟨nd_15, rfl⟩⟩; refine ⟨_, rfl, ?_⟩))
    go_ret
    exact ⟨by first | rfl | (simp <;> rfl), (by repeat (first | (with_reducible first | exact HB.out | apply below_alloc | apply pw_below_drewN | apply below_drew1) | exact HB.out))⟩

def laws_FnExactRooksOfPartition.Pure : Prop := ∀ (l0 : List (List Int)), (Fn.okL (Fn.okL Fn.okI)) l0 → ∃ k, laws_FnExactRooksOfPartition.f k l0 = some true

end
end Go.Proofs.Ythibohakolgfbaa.P
