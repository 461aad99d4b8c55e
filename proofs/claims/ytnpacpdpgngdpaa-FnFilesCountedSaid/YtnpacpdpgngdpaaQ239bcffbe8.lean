-- printed functions (wip/slim.py)
import Derived.Test.YtnpacpdpgngdpaaPx0
import Derived.Test.YtnpacpdpgngdpaaQbaabd2c2bc
import Derived.Test.YtnpacpdpgngdpaaQ5e49eec671
import Derived.Test.YtnpacpdpgngdpaaQd1950a5485
import Derived.Test.YtnpacpdpgngdpaaQ34a903f869
import Derived.Test.YtnpacpdpgngdpaaQb6d77b62a6
import Derived.Test.YtnpacpdpgngdpaaQc8e7b46c3d
namespace Go.Proofs.Ytnpacpdpgngdpaa.P
noncomputable section
set_option maxHeartbeats 8000000
set_option maxRecDepth 100000
open Go.RowKit Go.Proofs.YtnpacpdpgngdpaaW.PrintWords Go.Proofs.YtnpacpdpgngdpaaW.PrintLast Go.Proofs.YtnpacpdpgngdpaaW.PrintMore
attribute [local go_sem] max2_int min2_int max_two min_two max_three min_three max_four min_four   -- for this text's walks alone
set_option linter.unusedVariables false
set_option linter.unusedSimpArgs false

/-! ### spec_FileNumbers: function 107 -/
mutual
def spec_FileNumbers.l0 : Nat → List Int → List Int → Int → Int → Option (List Int × Bool)
 | 0, _, _, _, _ => none
 | k + 1, x4, x15, x16, x17 => if x17 < x16 then (if 0 ≤ x17 then (if x17 < (x15.length : Int) then (if 0 ≤ (wrap64 ((x4.length : Int) + 1)) then (if (wrap64 ((x4.length : Int) + 1) : Int).toNat ≤ 35184372088832 then (spec_FileNumbers.l1 k (rd x15 x17) (List.replicate (wrap64 ((x4.length : Int) + 1) : Int).toNat 0) x15 x16 x17 x4 (x4.length : Int) 0) else (none)) else (none)) else (none)) else (none)) else (some (x4, true))
def spec_FileNumbers.l1 : Nat → Int → List Int → List Int → Int → Int → List Int → Int → Int → Option (List Int × Bool)
 | 0, _, _, _, _, _, _, _, _ => none
 | k + 1, x6, x7, x15, x16, x17, x25, x26, x27 => if x27 < x26 then (if 0 ≤ x27 then (if x27 < (x25.length : Int) then (if x27 < (x7.length : Int) then ((some (x7.set (x27 : Int).toNat (wrap64 ((rd x7 x27) + (rd x25 x27))) : List Int)).bind fun y1823 => (if 0 ≤ (wrap64 (x27 + 1)) then (if (wrap64 (x27 + 1)) < (x7.length : Int) then (spec_FileNumbers.l1 k x6 (y1823.set ((wrap64 (x27 + 1)) : Int).toNat (wrap64 ((rd y1823 (wrap64 (x27 + 1))) + (wrap64 (x6 * (rd x25 x27)))))) x15 x16 x17 x25 x26 (wrap64 (x27 + 1))) else (none)) else (none))) else (none)) else (none)) else (none)) else (spec_FileNumbers.l0 k x7 x15 x16 (wrap64 (x17 + 1)))
end
def spec_FileNumbers.f (k : Nat) (a0_0 : Int) (a0_1 : Int) (l0_2 : List Int) : Option (List Int × Bool) := (spec_boGood.f k a0_0 a0_1 l0_2).bind fun t1810 => (if t1810 = true then ((spec_fiHeights.f k a0_0 a0_1 l0_2).bind fun t1814 => (spec_FileNumbers.l0 k (([1] : List Int)) t1814 (t1814.length : Int) 0)) else (some (([] : List Int), false)))
theorem spec_FileNumbers.mono_l : ∀ k, (∀ y0 y1 y2 y3, LeO (spec_FileNumbers.l0 k y0 y1 y2 y3) (spec_FileNumbers.l0 (k + 1) y0 y1 y2 y3)) ∧ (∀ y0 y1 y2 y3 y4 y5 y6 y7, LeO (spec_FileNumbers.l1 k y0 y1 y2 y3 y4 y5 y6 y7) (spec_FileNumbers.l1 (k + 1) y0 y1 y2 y3 y4 y5 y6 y7))
 | 0 => ⟨fun _ _ _ _ r h => by simp [spec_FileNumbers.l0] at h, fun _ _ _ _ _ _ _ _ r h => by simp [spec_FileNumbers.l1] at h⟩
 | k + 1 => by
  obtain ⟨ih0, ih1⟩ := spec_FileNumbers.mono_l k
  refine ⟨?_, ?_⟩
  ·
   intro y0 y1 y2 y3
   unfold spec_FileNumbers.l0
   repeat' first | (with_reducible first | exact ih0 _ _ _ _ | exact ih1 _ _ _ _ _ _ _ _ | exact spec_boGood.mono _ _ _ _ | exact spec_fiHeights.mono _ _ _ _ | exact LeO.refl _ | exact LeO.none _ | refine LeO.ite ?_ ?_ | refine LeO.bind ?_ (fun _ => ?_)) | exact ih0 _ _ _ _ | exact ih1 _ _ _ _ _ _ _ _ | exact spec_boGood.mono _ _ _ _ | exact spec_fiHeights.mono _ _ _ _ | exact LeO.none _ | refine LeO.ite ?_ ?_ | refine LeO.bind ?_ (fun _ => ?_)
  ·
   intro y0 y1 y2 y3 y4 y5 y6 y7
   unfold spec_FileNumbers.l1
   repeat' first | (with_reducible first | exact ih0 _ _ _ _ | exact ih1 _ _ _ _ _ _ _ _ | exact spec_boGood.mono _ _ _ _ | exact spec_fiHeights.mono _ _ _ _ | exact LeO.refl _ | exact LeO.none _ | refine LeO.ite ?_ ?_ | refine LeO.bind ?_ (fun _ => ?_)) | exact ih0 _ _ _ _ | exact ih1 _ _ _ _ _ _ _ _ | exact spec_boGood.mono _ _ _ _ | exact spec_fiHeights.mono _ _ _ _ | exact LeO.none _ | refine LeO.ite ?_ ?_ | refine LeO.bind ?_ (fun _ => ?_)
theorem spec_FileNumbers.mono : ∀ a0 a1 a2 k, LeO (spec_FileNumbers.f k a0 a1 a2) (spec_FileNumbers.f (k + 1) a0 a1 a2) := by
 intro a0 a1 a2 k
 obtain ⟨ih0, ih1⟩ := spec_FileNumbers.mono_l k
 unfold spec_FileNumbers.f
 repeat' first | (with_reducible first | exact ih0 _ _ _ _ | exact ih1 _ _ _ _ _ _ _ _ | exact spec_boGood.mono _ _ _ _ | exact spec_fiHeights.mono _ _ _ _ | exact LeO.refl _ | exact LeO.none _ | refine LeO.ite ?_ ?_ | refine LeO.bind ?_ (fun _ => ?_)) | exact ih0 _ _ _ _ | exact ih1 _ _ _ _ _ _ _ _ | exact spec_boGood.mono _ _ _ _ | exact spec_fiHeights.mono _ _ _ _ | exact LeO.none _ | refine LeO.ite ?_ ?_ | refine LeO.bind ?_ (fun _ => ?_)
theorem spec_FileNumbers.calls (k : Nat) (a0_0 : Int) (a0_1 : Int) (A0_2 : Option Addr) (c0_2 : Nat) (l0_2 : List Int) (r1 : List Int) (r2 : Bool) (w : World) (hr0_2 : Kd.C (Kd.int .i64) w A0_2 l0_2.length l0_2) (hc0_2 : l0_2.length ≤ c0_2) (h : spec_FileNumbers.f k a0_0 a0_1 l0_2 = some (r1, r2)) :
  Calls Try.prog 107 #[.agg #[.int .i64 a0_0, .int .i64 a0_1, .slice A0_2 l0_2.length c0_2]] w fun e w' => ∃ v0_ : Value, e = .returned (.tuple #[v0_, .bool r2]) ∧ Kd.R (Kd.int .i64) 3 w' w.heap.size (fun _ => True) v0_ r1 ∧ Below w.heap.size w w' := by
 have hu28 := Try.underlying28
 have HR0_2 := A_ hr0_2
 have HC0_2 := A_ hc0_2
 clear hr0_2 hc0_2
 have HB := A_ (Below.refl w.heap.size w)
 have H : ((spec_boGood.f k a0_0 a0_1 l0_2).bind fun t1810 => (if t1810 = true then ((spec_fiHeights.f k a0_0 a0_1 l0_2).bind fun t1814 => (spec_FileNumbers.l0 k (([1] : List Int)) t1814 (t1814.length : Int) 0)) else (some (([] : List Int), false)))) = some (r1, r2) := h
 clear h
 replace H := Option.bind_eq_some_iff.mp H
 obtain ⟨t1810, A20, H⟩ := H
 replace H : (if t1810 = true then ((spec_fiHeights.f k a0_0 a0_1 l0_2).bind fun t1814 => (spec_FileNumbers.l0 k (([1] : List Int)) t1814 (t1814.length : Int) 0)) else (some (([] : List Int), false))) = some (r1, r2) := H
 have A2 := A_ A20
 clear A20
 by_cases c3 : t1810 = true
 ·
  subst c3
  have H1 : ((spec_fiHeights.f k a0_0 a0_1 l0_2).bind fun t1814 => (spec_FileNumbers.l0 k (([1] : List Int)) t1814 (t1814.length : Int) 0)) = some (r1, r2) := by rw [if_pos rfl] at H; exact H
  clear H
  have H := H1
  clear H1
  obtain ⟨y1811, hy1811⟩ : ∃ y_ : List Int, y_ = (([1] : List Int)) := ⟨_, rfl⟩
  replace H : ((spec_fiHeights.f k a0_0 a0_1 l0_2).bind fun t1814 => (spec_FileNumbers.l0 k y1811 t1814 (t1814.length : Int) 0)) = some (r1, r2) := ty_ hy1811 H
  have Ny1811 := A_ hy1811
  clear hy1811
  replace H := Option.bind_eq_some_iff.mp H
  obtain ⟨t1814, A40, H⟩ := H
  replace H : (spec_FileNumbers.l0 k y1811 t1814 (t1814.length : Int) 0) = some (r1, r2) := H
  have A4 := A_ A40
  clear A40
  have H' := A_ H
  clear H
  go_enter Try.func107, Try.ntmps107
  go_wp2_with (first | (refine gd_ 1 ?_; refine bx_ 1 #[.int .i64 a0_0, .int .i64 a0_1, .slice A0_2 l0_2.length c0_2] 28 ?_; intro gb1809 hg w5 hbox hb; have BK1809 := A_ (hbox); have GW1809 := A_ ((ts_ hg : w.heap.size ≤ gb1809)); have GE1809 := A_ ((ts_ hg : w.heap.size ≤ gb1809)); replace HB := A_ (below_step tb_ hb); clear hb hbox hg; obtain ⟨hcz6_0, hcz6_1, hcz6_2, hfz6_0, hfz6_1, hfz6_2⟩ := cf3_ BK1809.out) | (refine gc_ 144 ?_; refine goesT_ (some 11) Try.func144 #[.agg #[.int .i64 a0_0, .int .i64 a0_1, .slice A0_2 l0_2.length c0_2]] ?_; (with_reducible refine (spec_boGood.calls k a0_0 a0_1 _ _ l0_2 true _ ?side1 ?side2 A2.out).mono ?_); (case side1 => exact tc_ HR0_2.out); (case side2 => exact HC0_2.out); rintro e w7 ⟨rfl, hb⟩; refine ⟨_, rfl, ?_⟩; replace BK1809 := A_ (blk_below (g := gb1809) (o := .cells #[.int .i64 a0_0, .int .i64 a0_1, .slice A0_2 l0_2.length c0_2] 28 (0, 0)) (tk_ BK1809) hb); replace HB := A_ (below_step tb_ hb); (try clear hb)) | (refine gd_ 13 ?_; refine Kd.R_lit (Kd.int .i64) _ 3 ?hg (N := 13) ?hd (xs := ([1] : List Int)) (inner := [.int .i64 1]) (ok := fun _ => True) (okp := fun _ => True) ?hr ?hp (fun _ hk => hk) trivial (Below.refl _ _) (Nat.le_refl _) (by simp) ?_; (case hd => rfl); (case hg => rfl); (case hr => first | (go_simp; done) | (go_simp; rfl)); (case hp => exact (Reps.one (show Kd.M (Kd.int .i64) _ _ _ 1 [.int .i64 1] from rfl) (Reps.none _ _))); intro v1812 w8 ho9 hb hg_ hnew_; clear hg_ hnew_; (first | rw [← Ny1811.out] at ho9 | (simp only [Int.reduceToNat] at ho9; rw [← Ny1811.out] at ho9)); have HO1813 := A_ (Kd.R_lower ho9 (below_size tb_)); replace BK1809 := A_ (blk_below (g := gb1809) (o := .cells #[.int .i64 a0_0, .int .i64 a0_1, .slice A0_2 l0_2.length c0_2] 28 (0, 0)) (tk_ BK1809) hb); replace HB := A_ (below_step tb_ hb); clear hb ho9; obtain ⟨hcz10_0, hcz10_1, hcz10_2, hfz10_0, hfz10_1, hfz10_2⟩ := cf3_ BK1809.out) | (refine gc_ 212 ?_; refine goesT_ (some 15) Try.func212 #[.agg #[.int .i64 a0_0, .int .i64 a0_1, .slice A0_2 l0_2.length c0_2]] ?_; (with_reducible refine (spec_fiHeights.calls k a0_0 a0_1 _ _ l0_2 t1814 _ ?side1 ?side2 A4.out).mono ?_); (case side1 => exact tc_ HR0_2.out); (case side2 => exact HC0_2.out); rintro e w11 ⟨v1815, rfl, ho0, hb⟩; refine ⟨_, rfl, ?_⟩; have HO1816 := A_ (Kd.R_lower (Kd.R_new' ho0 (Kd.R_lt (tr_x HO1813.out))) (below_size tb_)); replace HO1813 := A_ (Kd.R_elder' (tr_x HO1813.out) (Kd.R_base ho0) hb); replace BK1809 := A_ (blk_below (g := gb1809) (o := .cells #[.int .i64 a0_0, .int .i64 a0_1, .slice A0_2 l0_2.length c0_2] 28 (0, 0)) (tk_ BK1809) hb); replace HB := A_ (below_step tb_ hb); (try clear hb); (try clear ho0); obtain ⟨Ao12, co12, eo12⟩ := Kd.R_slice HO1816.out; subst eo12))
  go_loopg [4, 17] k (fun kq v4 v17 w' => ∃ (x4_1 : List Int) (x15_1 : List Int) (x17_1 : Int), v17 = .int .i64 x17_1 ∧ Aside0 (spec_FileNumbers.l0 kq x4_1 x15_1 (t1814.length : Int) x17_1 = some (r1, r2)) ∧ Aside0 (kq ≤ k) ∧ Aside0 (Kd.R (Kd.int .i64) 3 w' w.heap.size (fun k_ => some k_ ≠ ((.slice Ao12 t1814.length co12) : Value).ownBlock) v4 x4_1) ∧ Aside0 (Kd.R (Kd.int .i64) 3 w' w.heap.size (fun k_ => some k_ ≠ (v4 : Value).ownBlock) (.slice Ao12 t1814.length co12) x15_1) ∧ Aside0 (w'.heap[gb1809]? = some (.cells #[.int .i64 a0_0, .int .i64 a0_1, (.slice A0_2 l0_2.length c0_2)] 28 (0, 0))) ∧ Aside0 (Below w.heap.size w w'))
  case atStart => exact ⟨(y1811), (t1814), (0), tf_, H', ⟨Nat.le_refl _⟩, ⟨by (with_reducible repeat (first | apply Kd.R_alloc | apply Kd.R_drewN | apply Kd.R_drew)); exact Kd.R_mono HO1813.out (fun _ hk => hk.2)⟩, ⟨by (with_reducible repeat (first | apply Kd.R_alloc | apply Kd.R_drewN | apply Kd.R_drew)); exact Kd.R_mono HO1816.out (fun _ hk => hk.2)⟩, ⟨tk_ BK1809⟩, ⟨tb_⟩⟩
  case round =>
   clear H'
   try clear c1
   try clear c2
   try clear p2
   try clear c3
   try clear c10
   try clear hcz10_0
   try clear hcz10_1
   try clear hcz10_2
   try clear hcz6_0
   try clear hcz6_1
   try clear hcz6_2
   try clear hfz10_0
   try clear hfz10_1
   try clear hfz10_2
   try clear hfz6_0
   try clear hfz6_1
   try clear hfz6_2
   obtain ⟨x4_1, x15_1, x17_1, rfl, HA, HK1, HO_4, HO_15, BK1809, HB⟩ := hrel
   have hl15_1 := (Kd.R_reads' HO_15.out).1
   rw [hl15_1] at HO_15
   (try simp only [hl15_1])
   (try simp only [hl15_1] at BK1809)
   (try simp only [hl15_1] at HO_4)
   cases gk with
   | zero => exact absurd HA.out (by simp [spec_FileNumbers.l0])
   | succ k1 =>
    have H := HA.out
    clear HA
    simp only [spec_FileNumbers.l0] at H
    by_cases c13 : x17_1 < (t1814.length : Int)
    ·
     rw [if_pos c13] at H
     have c13b0 := decide_eq_true c13
     (try (have c13b7 := c13b0; rw [hl15_1] at c13b7))
     clear c13
     by_cases c14 : 0 ≤ x17_1
     ·
      rw [if_pos c14] at H
      have c14b0 := decide_eq_true c14
      clear c14
      by_cases c15 : x17_1 < (x15_1.length : Int)
      ·
       rw [if_pos c15] at H
       have c15b0 := decide_eq_true c15
       (try (have c15b7 := c15b0; rw [hl15_1] at c15b7))
       clear c15
       obtain ⟨ji16, hji16⟩ : ∃ j_ : Int, (wrap64 ((x4_1.length : Int) + 1)) = j_ := ⟨_, rfl⟩
       replace H : (if 0 ≤ (ji16) then (if (ji16 : Int).toNat ≤ 35184372088832 then (spec_FileNumbers.l1 k1 (rd x15_1 x17_1) (List.replicate (ji16 : Int).toNat 0) x15_1 (t1814.length : Int) x17_1 x4_1 (x4_1.length : Int) 0) else (none)) else (none)) = some (r1, r2) := by first | (rw [hji16] at H; exact H) | (simp only [hji16] at H ⊢; exact H)
       have hji16w : (IntKind.i64.wrap ((x4_1.length : Int) + 1)) = ji16 := (i64_w _).trans hji16
       by_cases c17 : 0 ≤ (ji16)
       ·
        rw [if_pos c17] at H
        have c17b0 := eq_true c17
        have c17b1 := decide_eq_true c17
        clear c17
        by_cases c18 : (ji16 : Int).toNat ≤ 35184372088832
        ·
         rw [if_pos c18] at H
         have c18b0 := eq_true c18
         have c18b1 := decide_eq_true c18
         clear c18
         obtain ⟨y1818, hy1818⟩ : ∃ y_ : List Int, y_ = (List.replicate (ji16 : Int).toNat 0) := ⟨_, rfl⟩
         replace H : (spec_FileNumbers.l1 k1 (rd x15_1 x17_1) y1818 x15_1 (t1814.length : Int) x17_1 x4_1 (x4_1.length : Int) 0) = some (r1, r2) := ty_ hy1818 H
         have Ny1818 := A_ hy1818
         clear hy1818
         have H' := A_ H
         clear H
         have p1817 : 0 ≤ (x17_1 : Int) := od_
         have q1817 : x17_1 < (x15_1.length : Int) := od_
         obtain ⟨ad1817, e1817, hx1817_0⟩ := Kd.at_int (Kd.R_reads' HO_15.out).2.2 x17_1 p1817 q1817
         cases e1817
         replace p1817 := eq_true p1817
         replace q1817 := eq_true q1817
         obtain ⟨Ao19, co19, eo19⟩ := Kd.R_slice HO_4.out
         subst eo19
         go_wp2_with (first | (refine gd_ 24 ?_; refine Kd.R_make (Kd.int .i64) _ 3 rfl (N := 24) rfl 22 _ _ rfl ji16 rfl rfl Try.underlying22 (.int .i64 0) 8 info3 rfl (by decide) (by omega) 0 (ok := fun _ => True) (okp := fun _ => True) rfl (fun _ hk => hk) trivial (od_) (Nat.le_trans (Nat.mul_le_mul_right _ (od_ : ji16.toNat ≤ 35184372088832)) (by omega)) (Below.refl _ _) (Nat.le_refl _) ?_; intro v1819 w20 ho21 hb hg_ hnew_; clear hg_ hnew_; (first | rw [← Ny1818.out] at ho21 | (simp only [Int.reduceToNat] at ho21; rw [← Ny1818.out] at ho21)); have HO1820 := A_ (Kd.R_lower (Kd.R_new' (Kd.R_new' ho21 (Kd.R_lt (tr_x HO_4.out))) (Kd.R_lt (tr_x HO_15.out))) (below_size tb_)); replace HO_4 := A_ (Kd.R_elder' (tr_x HO_4.out) (Kd.R_base ho21) hb); replace HO_15 := A_ (Kd.R_elder' (tr_x HO_15.out) (Kd.R_base ho21) hb); replace BK1809 := A_ (blk_below (g := gb1809) (o := .cells #[.int .i64 a0_0, .int .i64 a0_1, .slice A0_2 l0_2.length c0_2] 28 (0, 0)) (tk_ BK1809) hb); replace HB := A_ (below_step tb_ hb); clear hb ho21))
         go_loopg [27] k1 (fun kq v27 w' => ∃ (x7_2 : List Int) (x27_2 : Int), v27 = .int .i64 x27_2 ∧ Aside0 (spec_FileNumbers.l1 kq (rd x15_1 x17_1) x7_2 x15_1 (t1814.length : Int) x17_1 x4_1 (x4_1.length : Int) x27_2 = some (r1, r2)) ∧ Aside0 (kq ≤ k1) ∧ Aside0 (Kd.R (Kd.int .i64) 3 w' w.heap.size (fun k_ => some k_ ≠ ((.slice (some ad1817) x15_1.length co12) : Value).ownBlock ∧ some k_ ≠ ((.slice Ao19 x4_1.length co19) : Value).ownBlock) v1819 x7_2) ∧ Aside0 (Kd.R (Kd.int .i64) 3 w' w.heap.size (fun k_ => some k_ ≠ (v1819 : Value).ownBlock ∧ some k_ ≠ ((.slice Ao19 x4_1.length co19) : Value).ownBlock) (.slice (some ad1817) x15_1.length co12) x15_1) ∧ Aside0 (Kd.R (Kd.int .i64) 3 w' w.heap.size (fun k_ => some k_ ≠ (v1819 : Value).ownBlock ∧ some k_ ≠ ((.slice (some ad1817) x15_1.length co12) : Value).ownBlock) (.slice Ao19 x4_1.length co19) x4_1) ∧ Aside0 (w'.heap[gb1809]? = some (.cells #[.int .i64 a0_0, .int .i64 a0_1, (.slice A0_2 l0_2.length c0_2)] 28 (0, 0))) ∧ Aside0 (Below w.heap.size w w'))
         case atStart => exact ⟨(y1818), (0), tf_, H', ⟨Nat.le_refl _⟩, ⟨by (try simp only [hl15_1]); (with_reducible repeat (first | apply Kd.R_alloc | apply Kd.R_drewN | apply Kd.R_drew)); exact Kd.R_mono HO1820.out om_⟩, ⟨by (try simp only [hl15_1]); (with_reducible repeat (first | apply Kd.R_alloc | apply Kd.R_drewN | apply Kd.R_drew)); exact Kd.R_mono HO_15.out om_⟩, ⟨by (try simp only [hl15_1]); (with_reducible repeat (first | apply Kd.R_alloc | apply Kd.R_drewN | apply Kd.R_drew)); exact Kd.R_mono HO_4.out om_⟩, ⟨by (try simp only [hl15_1]); (with_reducible repeat (first | refine blk_drewN ?_ _ | refine blk_drew ?_ | refine blk_alloc ?_ _)); exact BK1809.out⟩, ⟨tb_⟩⟩
         case round =>
          clear H'
          try clear c1
          try clear p1
          try clear q1
          try clear hx1
          try clear c2
          try clear p2
          try clear c3
          try clear p6
          try clear c10
          try clear c13
          try clear c13b0
          try clear c14
          try clear c14b0
          try clear c15
          try clear c15b0
          try clear c17
          try clear c17b0
          try clear c17b1
          try clear c18
          try clear c18b0
          try clear c18b1
          try clear p18
          try clear q18
          try clear hx18
          try clear c21
          try clear hcz10_0
          try clear hcz10_1
          try clear hcz10_2
          try clear hcz6_0
          try clear hcz6_1
          try clear hcz6_2
          try clear hfz10_0
          try clear hfz10_1
          try clear hfz10_2
          try clear hfz6_0
          try clear hfz6_1
          try clear hfz6_2
          try clear hx1817_0
          try clear p1817
          try clear p2
          try clear q1817
          obtain ⟨x7_2, x27_2, rfl, HA, HK2, HO_7, HO_15, HO_25, BK1809, HB⟩ := hrel
          cases gk with
          | zero => exact absurd HA.out (by simp [spec_FileNumbers.l1])
          | succ k2 =>
           have H := HA.out
           clear HA
           simp only [spec_FileNumbers.l1] at H
           by_cases c22 : x27_2 < (x4_1.length : Int)
           ·
            rw [if_pos c22] at H
            have c22b0 := decide_eq_true c22
            (try (have c22b7 := c22b0; rw [hl15_1] at c22b7))
            clear c22
            by_cases c23 : 0 ≤ x27_2
            ·
             rw [if_pos c23] at H
             have c23b0 := decide_eq_true c23
             clear c23
             by_cases c24 : x27_2 < (x4_1.length : Int)
             ·
              rw [if_pos c24] at H
              have c24b0 := decide_eq_true c24
              (try (have c24b7 := c24b0; rw [hl15_1] at c24b7))
              clear c24
              by_cases c25 : x27_2 < (x7_2.length : Int)
              ·
               rw [if_pos c25] at H
               have c25b0 := decide_eq_true c25
               (try (have c25b7 := c25b0; rw [hl15_1] at c25b7))
               clear c25
               obtain ⟨y1823, hy1823⟩ : ∃ y_ : List Int, y_ = (x7_2.set (x27_2 : Int).toNat (wrap64 ((rd x7_2 x27_2) + (rd x4_1 x27_2)))) := ⟨_, rfl⟩
               replace H : (if 0 ≤ (wrap64 (x27_2 + 1)) then (if (wrap64 (x27_2 + 1)) < (x7_2.length : Int) then (spec_FileNumbers.l1 k2 (rd x15_1 x17_1) (y1823.set ((wrap64 (x27_2 + 1)) : Int).toNat (wrap64 ((rd y1823 (wrap64 (x27_2 + 1))) + (wrap64 ((rd x15_1 x17_1) * (rd x4_1 x27_2)))))) x15_1 (t1814.length : Int) x17_1 x4_1 (x4_1.length : Int) (wrap64 (x27_2 + 1))) else (none)) else (none)) = some (r1, r2) := ty_ hy1823 H
               have Ny1823 := A_ hy1823
               clear hy1823
               obtain ⟨ji27, hji27⟩ : ∃ j_ : Int, (wrap64 (x27_2 + 1)) = j_ := ⟨_, rfl⟩
               replace H : (if 0 ≤ (ji27) then (if (ji27) < (x7_2.length : Int) then (spec_FileNumbers.l1 k2 (rd x15_1 x17_1) (y1823.set ((ji27) : Int).toNat (wrap64 ((rd y1823 (ji27)) + (wrap64 ((rd x15_1 x17_1) * (rd x4_1 x27_2)))))) x15_1 (t1814.length : Int) x17_1 x4_1 (x4_1.length : Int) ji27) else (none)) else (none)) = some (r1, r2) := by first | (rw [hji27] at H; exact H) | (simp only [hji27] at H ⊢; exact H)
               have hji27w : (IntKind.i64.wrap (x27_2 + 1)) = ji27 := (i64_w _).trans hji27
               by_cases c28 : 0 ≤ (ji27)
               ·
                rw [if_pos c28] at H
                have c28b0 := decide_eq_true c28
                clear c28
                by_cases c29 : (ji27) < (x7_2.length : Int)
                ·
                 rw [if_pos c29] at H
                 have c29b0 := decide_eq_true c29
                 (try (have c29b7 := c29b0; rw [hl15_1] at c29b7))
                 clear c29
                 obtain ⟨y1825, hy1825⟩ : ∃ y_ : List Int, y_ = (y1823.set ((ji27) : Int).toNat (wrap64 ((rd y1823 (ji27)) + (wrap64 ((rd x15_1 x17_1) * (rd x4_1 x27_2)))))) := ⟨_, rfl⟩
                 replace H : (spec_FileNumbers.l1 k2 (rd x15_1 x17_1) y1825 x15_1 (t1814.length : Int) x17_1 x4_1 (x4_1.length : Int) ji27) = some (r1, r2) := ty_ hy1825 H
                 have Ny1825 := A_ hy1825
                 clear hy1825
                 have H' := A_ H
                 clear H
                 have p1821 : 0 ≤ (x27_2 : Int) := od_
                 have q1821 : x27_2 < (x4_1.length : Int) := od_
                 obtain ⟨ad1821, e1821, hx1821_0⟩ := Kd.at_int (Kd.R_reads' HO_25.out).2.2 x27_2 p1821 q1821
                 cases e1821
                 replace p1821 := eq_true p1821
                 replace q1821 := eq_true q1821
                 obtain ⟨Ao31, co31, eo31⟩ := Kd.R_slice HO_7.out
                 subst eo31
                 have p1822 : 0 ≤ (x27_2 : Int) := od_
                 have q1822 : x27_2 < (x7_2.length : Int) := od_
                 obtain ⟨ad1822, e1822, hx1822_0⟩ := Kd.at_int (Kd.R_reads' HO_7.out).2.2 x27_2 p1822 q1822
                 cases e1822
                 replace p1822 := eq_true p1822
                 replace q1822 := eq_true q1822
                 have p26 : 0 ≤ (x27_2 : Int) := od_
                 have q26 : (x27_2 : Int) < ((x7_2.length : Int) : Int) := od_
                 obtain ⟨go26, co26, eo26, gb26, gl26, cl26, HG26⟩ := Kd.R_form HO_7.out (by omega)
                 (first | cases eo26 | (injection eo26 with ea_ en_ ec_; (first | subst ea_ | (injection ea_ with ea_; subst ea_)); subst ec_; clear en_))
                 have GB26 := A_ gb26
                 have GG26 := A_ HG26
                 clear gb26 gl26 HG26
                 (first | simp only [add_plain] at hx1822_0 | skip)
                 obtain ⟨hx26_0, hf26_0⟩ := Kd.R_celln 0 HO_7.out (x27_2 : Int) p26 q26
                 replace p26 := eq_true p26
                 replace q26 := eq_true q26
                 have HP32 := Kd.R_putg HO_7.out (x27_2 : Int) (wrap64 ((rd x7_2 x27_2) + (rd x4_1 x27_2)))
                 go_wp2_with (first | ((with_reducible refine gate_store (t := 3) (p := 38) rfl ?_); refine store_event (t := 3) (p := 38) (v := ?vo_w33) (w1 := (wr.setCell ⟨go26, (x27_2 : Int).toNat, none⟩ (.int .i64 (wrap64 ((rd x7_2 x27_2) + (rd x4_1 x27_2)))))) ?hg ?ho ?hn ?hr ?_; (case ho => rfl); (case hg => rfl); (case hn => rfl); (case hr => first | (go_simp; done) | (go_simp; rfl)); intro w33 hw; have hg : wr.grownBy w33 (some go26) := (by rw [hw]; exact HP32.2); have hp_ : Kd.R (Kd.int .i64) 3 w33 w.heap.size (fun k_ => some k_ ≠ (.slice (some ad1817) x15_1.length co12 : Value).ownBlock ∧ some k_ ≠ (.slice (some ad1821) x4_1.length co19 : Value).ownBlock) (.slice (some ⟨go26, 0, none⟩) x7_2.length co31) y1823 := (by rw [hw, Ny1823.out]; exact HP32.1); clear HP32; replace HO_15 := A_ (Kd.R_after (v := (.slice (some ⟨go26, 0, none⟩) x7_2.length co31)) (v1 := (.slice (some ⟨go26, 0, none⟩) x7_2.length co31)) (ok := (fun k_ => some k_ ≠ (.slice (some ad1821) x4_1.length co19 : Value).ownBlock)) (tr_ (h := by exact Kd.R_mono HO_15.out om_)) hg (.inl rfl)); replace HO_25 := A_ (Kd.R_after (v := (.slice (some ⟨go26, 0, none⟩) x7_2.length co31)) (v1 := (.slice (some ⟨go26, 0, none⟩) x7_2.length co31)) (ok := (fun k_ => some k_ ≠ (.slice (some ad1817) x15_1.length co12 : Value).ownBlock)) (tr_ (h := by exact Kd.R_mono HO_25.out om_)) hg (.inl rfl)); replace BK1809 := A_ (blk_grown (g := gb1809) (o := .cells #[.int .i64 a0_0, .int .i64 a0_1, .slice A0_2 l0_2.length c0_2] 28 (0, 0)) (tk_ BK1809) hg (Kd.R_ne HO_7.out BK1809.out (by decide))); replace HO_7 := A_ (hp_); replace HB := A_ ((by rw [hw]; exact below_set (HB.out) GB26.out : Below w.heap.size w w33)); clear hg hw hp_; have p1824 : 0 ≤ ((ji27) : Int) := od_; have q1824 : (ji27) < (y1823.length : Int) := (by have h_ : ((ji27) : Int) < ((x7_2.length : Int) : Int) := od_; first | (have e_ := (Kd.R_reads' HO_7.out).1; omega) | simpa only [Ny1823.out, List.length_set] using h_); have ql1824 : (((ji27) : Int) < ((x7_2.length : Int) : Int)) = True := eq_true (od_); obtain ⟨ad1824, e1824, hx1824_0⟩ := Kd.at_int (Kd.R_reads' HO_7.out).2.2 (ji27) p1824 q1824; obtain rfl : (⟨go26, 0, none⟩ : Addr) = ad1824 := (by injection e1824); (first | simp only [add_plain] at hx1824_0 | simp only [add_at] at hx1824_0 | simp only [Addr.add, Nat.zero_add] at hx1824_0 | skip); replace p1824 := eq_true p1824; replace q1824 := eq_true q1824; have p30 : 0 ≤ ((ji27) : Int) := od_; have q30 : ((ji27) : Int) < ((x7_2.length : Int) : Int) := od_; obtain ⟨hx30_0, hf30_0⟩ := Kd.R_celln 0 HO_7.out ((ji27) : Int) p30 q30; replace p30 := eq_true p30; replace q30 := eq_true q30; obtain ⟨hy34_, hz34_⟩ := Kd.R_celln 0 HO_7.out ((ji27) : Int) (od_) (od_); have HP34 := Kd.R_putg HO_7.out ((ji27) : Int) (wrap64 ((rd y1823 (ji27)) + (wrap64 ((rd x15_1 x17_1) * (rd x4_1 x27_2)))))) | ((with_reducible refine gate_store (t := 3) (p := 48) rfl ?_); refine store_event (t := 3) (p := 48) (v := ?vo_w35) (w1 := (w33.setCell ⟨go26, ((ji27) : Int).toNat, none⟩ (.int .i64 (wrap64 ((rd y1823 (ji27)) + (wrap64 ((rd x15_1 x17_1) * (rd x4_1 x27_2)))))))) ?hg ?ho ?hn ?hr ?_; (case ho => rfl); (case hg => rfl); (case hn => rfl); (case hr => first | (go_simp; done) | (go_simp; rfl)); intro w35 hw; have hg : w33.grownBy w35 (some go26) := (by rw [hw]; exact HP34.2); have hp_ : Kd.R (Kd.int .i64) 3 w35 w.heap.size (fun k_ => some k_ ≠ (.slice (some ad1817) x15_1.length co12 : Value).ownBlock ∧ some k_ ≠ (.slice (some ad1821) x4_1.length co19 : Value).ownBlock) (.slice (some ⟨go26, 0, none⟩) x7_2.length co31) y1825 := (by rw [hw, Ny1825.out]; exact HP34.1); clear HP34; replace HO_15 := A_ (Kd.R_after (v := (.slice (some ⟨go26, 0, none⟩) x7_2.length co31)) (v1 := (.slice (some ⟨go26, 0, none⟩) x7_2.length co31)) (ok := (fun k_ => some k_ ≠ (.slice (some ad1821) x4_1.length co19 : Value).ownBlock)) (tr_x HO_15.out) hg (.inl rfl)); replace HO_25 := A_ (Kd.R_after (v := (.slice (some ⟨go26, 0, none⟩) x7_2.length co31)) (v1 := (.slice (some ⟨go26, 0, none⟩) x7_2.length co31)) (ok := (fun k_ => some k_ ≠ (.slice (some ad1817) x15_1.length co12 : Value).ownBlock)) (tr_x HO_25.out) hg (.inl rfl)); replace BK1809 := A_ (blk_grown (g := gb1809) (o := .cells #[.int .i64 a0_0, .int .i64 a0_1, .slice A0_2 l0_2.length c0_2] 28 (0, 0)) (tk_ BK1809) hg (Kd.R_ne HO_7.out BK1809.out (by decide))); replace HO_7 := A_ (hp_); replace HB := A_ ((by rw [hw]; exact below_set (HB.out) GB26.out : Below w.heap.size w w35)); clear hg hw hp_))
                 go_roundg k2
                 case measure => have := HK1.out; have := HK2.out; omega
                 case rel => exact ⟨(y1825), (ji27), (by first | rfl | (simp; done) | (simp only [← hji27] <;> (first | rfl | simp)) | (simp [*]; done)), H', ⟨by have := HK1.out; have := HK2.out; omega⟩, ⟨by (try simp only [hl15_1]); (with_reducible repeat (first | apply Kd.R_alloc | apply Kd.R_drewN | apply Kd.R_drew)); exact HO_7.out⟩, ⟨by (try simp only [hl15_1]); (with_reducible repeat (first | apply Kd.R_alloc | apply Kd.R_drewN | apply Kd.R_drew)); exact Kd.R_mono HO_15.out om_⟩, ⟨by (try simp only [hl15_1]); (with_reducible repeat (first | apply Kd.R_alloc | apply Kd.R_drewN | apply Kd.R_drew)); exact Kd.R_mono HO_25.out om_⟩, ⟨by (try simp only [hl15_1]); (with_reducible repeat (first | refine blk_drewN ?_ _ | refine blk_drew ?_ | refine blk_alloc ?_ _)); exact BK1809.out⟩, ⟨tb_⟩⟩
                ·
                 rw [if_neg c29] at H
                 exact absurd H (by simp)
               ·
                rw [if_neg c28] at H
                exact absurd H (by simp)
              ·
               rw [if_neg c25] at H
               exact absurd H (by simp)
             ·
              rw [if_neg c24] at H
              exact absurd H (by simp)
            ·
             rw [if_neg c23] at H
             exact absurd H (by simp)
           ·
            rw [if_neg c22] at H
            have c22b0 := decide_eq_false c22
            (try (have c22b7 := c22b0; rw [hl15_1] at c22b7))
            clear c22
            have H' := A_ H
            clear H
            go_wp2
            (try simp only [← hl15_1])
            go_roundg k2
            case measure => have := HK1.out; have := HK2.out; omega
            case rel => exact ⟨(x7_2), (x15_1), (wrap64 (x17_1 + 1)), tf_, H', ⟨by have := HK1.out; have := HK2.out; omega⟩, ⟨by (try simp only [hl15_1]); (with_reducible repeat (first | apply Kd.R_alloc | apply Kd.R_drewN | apply Kd.R_drew)); exact Kd.R_mono HO_7.out (fun _ hk => hk.1)⟩, ⟨by (try simp only [hl15_1]); (with_reducible repeat (first | apply Kd.R_alloc | apply Kd.R_drewN | apply Kd.R_drew)); exact Kd.R_mono HO_15.out (fun _ hk => hk.1)⟩, ⟨by (try simp only [hl15_1]); (with_reducible repeat (first | refine blk_drewN ?_ _ | refine blk_drew ?_ | refine blk_alloc ?_ _)); exact BK1809.out⟩, ⟨tb_⟩⟩
        ·
         rw [if_neg c18] at H
         exact absurd H (by simp)
       ·
        rw [if_neg c17] at H
        exact absurd H (by simp)
      ·
       rw [if_neg c15] at H
       exact absurd H (by simp)
     ·
      rw [if_neg c14] at H
      exact absurd H (by simp)
    ·
     rw [if_neg c13] at H
     have c13b0 := decide_eq_false c13
     (try (have c13b7 := c13b0; rw [hl15_1] at c13b7))
     clear c13
     simp only [Option.some.injEq, Prod.mk.injEq] at H
     obtain ⟨rfl, rfl⟩ := H
     go_wp2
     go_ret2
     exact ⟨_, te_, by (with_reducible repeat (first | apply Kd.R_alloc | apply Kd.R_drewN | apply Kd.R_drew)); exact Kd.R_mono HO_4.out (fun _ hk => trivial), tb_⟩
 ·
  replace c3 := Bool.eq_false_iff.mpr c3
  subst c3
  have H1 : (some (([] : List Int), false)) = some (r1, r2) := by rw [if_neg (show ¬ (false = true) by decide)] at H; exact H
  clear H
  have H := H1
  clear H1
  simp only [Option.some.injEq, Prod.mk.injEq] at H
  obtain ⟨rfl, rfl⟩ := H
  go_enter Try.func107, Try.ntmps107
  go_wp2_with (first | (refine gd_ 1 ?_; refine bx_ 1 #[.int .i64 a0_0, .int .i64 a0_1, .slice A0_2 l0_2.length c0_2] 28 ?_; intro gb1809 hg w36 hbox hb; have BK1809 := A_ (hbox); have GW1809 := A_ ((ts_ hg : w.heap.size ≤ gb1809)); have GE1809 := A_ ((ts_ hg : w.heap.size ≤ gb1809)); replace HB := A_ (below_step tb_ hb); clear hb hbox hg; obtain ⟨hcz37_0, hcz37_1, hcz37_2, hfz37_0, hfz37_1, hfz37_2⟩ := cf3_ BK1809.out) | (refine gc_ 144 ?_; refine goesT_ (some 11) Try.func144 #[.agg #[.int .i64 a0_0, .int .i64 a0_1, .slice A0_2 l0_2.length c0_2]] ?_; (with_reducible refine (spec_boGood.calls k a0_0 a0_1 _ _ l0_2 false _ ?side1 ?side2 A2.out).mono ?_); (case side1 => exact tc_ HR0_2.out); (case side2 => exact HC0_2.out); rintro e w38 ⟨rfl, hb⟩; refine ⟨_, rfl, ?_⟩; replace BK1809 := A_ (blk_below (g := gb1809) (o := .cells #[.int .i64 a0_0, .int .i64 a0_1, .slice A0_2 l0_2.length c0_2] 28 (0, 0)) (tk_ BK1809) hb); replace HB := A_ (below_step tb_ hb); (try clear hb)))
  go_ret2
  exact ⟨_, te_, by first | exact Kd.R_nil _ _ _ _ _ | exact Kd.N_nil _ _ _ _ _ | exact Kd.V_nil _ _ _ _ _ | exact Kd.Q_nil _ _ _ _ _ | exact Kd.S_nil _ _ _ _ _, tb_⟩

/-! ### spec_DrawFileValue: function 108 -/
def spec_DrawFileValue.f (k : Nat) (l0 : List Int) : Option (Int × Int × List Int × Int) := (spec_l1Cur_board.f k l0 0 0).bind fun bt1828 => ((spec_l1Cur_among.f l0 bt1828.2.2.2.1 bt1828.2.2.2.2 (([0, 1, (-1), (-3), 7, 100, (-100), 101, (-101)] : List Int))).bind fun bt1838 => (some (bt1828.1, bt1828.2.1, bt1828.2.2.1, bt1838.1)))
theorem spec_DrawFileValue.mono : ∀ a0 k, LeO (spec_DrawFileValue.f k a0) (spec_DrawFileValue.f (k + 1) a0) := by
 intro a0 k
 unfold spec_DrawFileValue.f
 repeat' first | (with_reducible first | exact spec_l1Cur_board.mono _ _ _ _ | exact LeO.refl _ | exact LeO.none _ | refine LeO.ite ?_ ?_ | refine LeO.bind ?_ (fun _ => ?_)) | exact spec_l1Cur_board.mono _ _ _ _ | exact LeO.none _ | refine LeO.ite ?_ ?_ | refine LeO.bind ?_ (fun _ => ?_)
theorem spec_DrawFileValue.calls (k : Nat) (A0 : Option Addr) (c0 : Nat) (l0 : List Int) (r1 : Int) (r2 : Int) (r3 : List Int) (r4 : Int) (w : World) (hr0 : Kd.C (Kd.int .u8) w A0 l0.length l0) (hc0 : l0.length ≤ c0) (h : spec_DrawFileValue.f k l0 = some (r1, r2, r3, r4)) :
  Calls Try.prog 108 #[.slice A0 l0.length c0] w fun e w' => ∃ v2_ : Value, e = .returned (.tuple #[.agg #[.int .i64 r1, .int .i64 r2, v2_], .int .i64 r4]) ∧ Kd.R (Kd.int .i64) 3 w' w.heap.size (fun _ => True) v2_ r3 ∧ Below w.heap.size w w' := by
 have hu28 := Try.underlying28
 have hu122 := Try.underlying122
 have HR0 := A_ hr0
 have HC0 := A_ hc0
 clear hr0 hc0
 have HB := A_ (Below.refl w.heap.size w)
 have H : ((spec_l1Cur_board.f k l0 0 0).bind fun bt1828 => ((spec_l1Cur_among.f l0 bt1828.2.2.2.1 bt1828.2.2.2.2 (([0, 1, (-1), (-3), 7, 100, (-100), 101, (-101)] : List Int))).bind fun bt1838 => (some (bt1828.1, bt1828.2.1, bt1828.2.2.1, bt1838.1)))) = some (r1, r2, r3, r4) := h
 clear h
 replace H := Option.bind_eq_some_iff.mp H
 obtain ⟨⟨t1828, t1829, t1830, t1833, t1834⟩, A20, H⟩ := H
 replace H : ((spec_l1Cur_among.f l0 t1833 t1834 (([0, 1, (-1), (-3), 7, 100, (-100), 101, (-101)] : List Int))).bind fun bt1838 => (some (t1828, t1829, t1830, bt1838.1))) = some (r1, r2, r3, r4) := H
 have A2 := A_ A20
 clear A20
 obtain ⟨y1835, hy1835⟩ : ∃ y_ : List Int, y_ = (([0, 1, (-1), (-3), 7, 100, (-100), 101, (-101)] : List Int)) := ⟨_, rfl⟩
 replace H : ((spec_l1Cur_among.f l0 t1833 t1834 y1835).bind fun bt1838 => (some (t1828, t1829, t1830, bt1838.1))) = some (r1, r2, r3, r4) := ty_ hy1835 H
 have Ny1835 := A_ hy1835
 clear hy1835
 replace H := Option.bind_eq_some_iff.mp H
 obtain ⟨⟨t1838, t1839, t1840⟩, A30, H⟩ := H
 replace H : (some (t1828, t1829, t1830, t1838)) = some (r1, r2, r3, r4) := H
 have A3 := A_ A30
 clear A30
 simp only [Option.some.injEq, Prod.mk.injEq] at H
 obtain ⟨rfl, rfl, rfl, rfl⟩ := H
 go_enter Try.func108, Try.ntmps108
 go_wp2_with (first | (refine gd_ 2 ?_; refine bx_ 2 #[.int .i64 0, .int .i64 0, .slice none 0 0] 28 ?_; intro gb1826 hg w4 hbox hb; have BK1826 := A_ (hbox); have GW1826 := A_ ((ts_ hg : w.heap.size ≤ gb1826)); have GE1826 := A_ ((ts_ hg : w.heap.size ≤ gb1826)); replace HB := A_ (below_step tb_ hb); clear hb hbox hg) | (refine gd_ 7 ?_; refine bx_ 7 #[.slice A0 l0.length c0, .int .i64 0, .int .u64 0] 122 ?_; intro gb1827 hg w5 hbox hb; have NB1826_1827 := A_ ((by rw [hg]; exact Nat.ne_of_lt (blk_lt (g := gb1826) (o := .cells #[.int .i64 0, .int .i64 0, .slice none 0 0] 28 (0, 0)) (tk_ BK1826)) : gb1826 ≠ gb1827)); have NB1827_1826 := A_ ((by rw [hg]; exact Nat.ne_of_gt (blk_lt (g := gb1826) (o := .cells #[.int .i64 0, .int .i64 0, .slice none 0 0] 28 (0, 0)) (tk_ BK1826)) : gb1827 ≠ gb1826)); replace BK1826 := A_ (blk_below (g := gb1826) (o := .cells #[.int .i64 0, .int .i64 0, .slice none 0 0] 28 (0, 0)) (tk_ BK1826) hb); have HI1827 := A_ ((⟨_, _, hbox, (by rw [hg]; exact (below_size tb_)), HR0.out⟩ : IsS122 w w5 gb1827 l0 0 0)); replace HB := A_ (below_step tb_ hb); clear hb hbox hg) | (refine gc_ 209 ?_; refine goesT_ (some 9) Try.func209 #[.pointer (some ⟨gb1827, 0, none⟩)] ?_; (with_reducible refine (spec_l1Cur_board.calls k gb1827 l0 0 0 t1828 t1829 t1830 t1833 t1834 w _ ?side1 ?side2 A2.out).mono ?_); (case side1 => repeat (first | (with_reducible first | exact HI1827.out | apply IsS122.alloc | apply IsS122.drewN | apply IsS122.drew | apply IsS122.set_1 | apply IsS122.set_2 | refine IsS122.far ?_ NB1827_1826.out _) | exact HI1827.out)); (case side2 => repeat (first | (with_reducible first | exact HB.out | apply below_alloc | apply pw_below_drewN | apply below_drew1 | refine below_set ?_ (IsS122.ge HI1827.out) | refine below_set ?_ GE1826.out) | exact HB.out)); rintro e w6 ⟨v1831, rfl, ho0, hi, hb, hk⟩; refine ⟨_, rfl, ?_⟩; replace BK1826 := A_ (KeepBut.blk hk (g' := gb1826) (o := .cells #[.int .i64 0, .int .i64 0, .slice none 0 0] 28 (0, 0)) (tk_ BK1826) NB1826_1827.out (by simp)); have HO1832 := A_ (Kd.R_lower ho0 (below_size (by repeat (first | (with_reducible first | exact HB.out | apply below_alloc | apply pw_below_drewN | apply below_drew1 | refine below_set ?_ (IsS122.ge HI1827.out) | refine below_set ?_ GE1826.out) | exact HB.out)))); replace HB := A_ (hb); replace HI1827 := A_ (hi); (try clear hb); (try clear hb2); (try clear hk); (try clear hi); (try clear ho0)) | (refine gd_ 11 ?_; refine Kd.R_lit (Kd.int .i64) _ 3 ?hg (N := 11) ?hd (xs := ([0, 1, (-1), (-3), 7, 100, (-100), 101, (-101)] : List Int)) (inner := [.int .i64 0, .int .i64 1, .int .i64 (-1), .int .i64 (-3), .int .i64 7, .int .i64 100, .int .i64 (-100), .int .i64 101, .int .i64 (-101)]) (ok := fun _ => True) (okp := fun _ => True) ?hr ?hp (fun _ hk => hk) trivial (Below.refl _ _) (Nat.le_refl _) (by simp) ?_; (case hd => rfl); (case hg => rfl); (case hr => first | (go_simp; done) | (go_simp; rfl)); (case hp => exact (Reps.one (show Kd.M (Kd.int .i64) _ _ _ 0 [.int .i64 0] from rfl) (Reps.one (show Kd.M (Kd.int .i64) _ _ _ 1 [.int .i64 1] from rfl) (Reps.one (show Kd.M (Kd.int .i64) _ _ _ (-1) [.int .i64 (-1)] from rfl) (Reps.one (show Kd.M (Kd.int .i64) _ _ _ (-3) [.int .i64 (-3)] from rfl) (Reps.one (show Kd.M (Kd.int .i64) _ _ _ 7 [.int .i64 7] from rfl) (Reps.one (show Kd.M (Kd.int .i64) _ _ _ 100 [.int .i64 100] from rfl) (Reps.one (show Kd.M (Kd.int .i64) _ _ _ (-100) [.int .i64 (-100)] from rfl) (Reps.one (show Kd.M (Kd.int .i64) _ _ _ 101 [.int .i64 101] from rfl) (Reps.one (show Kd.M (Kd.int .i64) _ _ _ (-101) [.int .i64 (-101)] from rfl) (Reps.none _ _))))))))))); intro v1836 w7 ho8 hb hg_ hnew_; clear hg_ hnew_; (first | rw [← Ny1835.out] at ho8 | (simp only [Int.reduceToNat] at ho8; rw [← Ny1835.out] at ho8)); have HO1837 := A_ (Kd.R_lower (Kd.R_new' ho8 (Kd.R_lt (tr_x HO1832.out))) (below_size (by repeat (first | (with_reducible first | exact HB.out | apply below_alloc | apply pw_below_drewN | apply below_drew1 | refine below_set ?_ (IsS122.ge HI1827.out) | refine below_set ?_ GE1826.out) | exact HB.out)))); replace HO1832 := A_ (Kd.R_elder' (tr_x HO1832.out) (Kd.R_base ho8) hb); replace BK1826 := A_ (blk_below (g := gb1826) (o := .cells #[.int .i64 0, .int .i64 0, .slice none 0 0] 28 (0, 0)) (tk_ BK1826) hb); replace HB := A_ (below_step (by repeat (first | (with_reducible first | exact HB.out | apply below_alloc | apply pw_below_drewN | apply below_drew1 | refine below_set ?_ (IsS122.ge HI1827.out) | refine below_set ?_ GE1826.out) | exact HB.out)) hb); replace HI1827 := A_ (IsS122.below (by repeat (first | (with_reducible first | exact HI1827.out | apply IsS122.alloc | apply IsS122.drewN | apply IsS122.drew | apply IsS122.set_1 | apply IsS122.set_2 | refine IsS122.far ?_ NB1827_1826.out _) | exact HI1827.out)) hb); clear hb ho8; obtain ⟨Ao9, co9, eo9⟩ := Kd.R_slice HO1837.out; subst eo9) | (refine gc_ 160 ?_; refine goesT_ (some 12) Try.func160 #[.pointer (some ⟨gb1827, 0, none⟩), .slice Ao9 y1835.length co9] ?_; (with_reducible refine (spec_l1Cur_among.calls gb1827 l0 t1833 t1834 _ _ y1835 t1838 t1839 t1840 w _ ?side1 ?side2 ?side3 ?side4 ?side5 A3.out).mono ?_); (case side1 => repeat (first | (with_reducible first | exact HI1827.out | apply IsS122.alloc | apply IsS122.drewN | apply IsS122.drew | apply IsS122.set_1 | apply IsS122.set_2 | refine IsS122.far ?_ NB1827_1826.out _) | exact HI1827.out)); (case side2 => repeat (first | (with_reducible first | exact HB.out | apply below_alloc | apply pw_below_drewN | apply below_drew1 | refine below_set ?_ (IsS122.ge HI1827.out) | refine below_set ?_ GE1826.out) | exact HB.out)); (case side3 => exact tc0_ (Kd.R_reads' HO1837.out).2.2); (case side4 => exact (Kd.R_reads' HO1837.out).2.1); (case side5 => exact far_slice (IsS122.own_ne HI1827.out HO1837.out (by decide))); rintro e w10 ⟨rfl, hi, hb, hk⟩; refine ⟨_, rfl, ?_⟩; replace BK1826 := A_ (KeepBut.blk hk (g' := gb1826) (o := .cells #[.int .i64 0, .int .i64 0, .slice none 0 0] 28 (0, 0)) (tk_ BK1826) NB1826_1827.out (by simp)); replace HO1832 := A_ (Kd.R_mono (Kd.R_keep (IsS122.apart (show IsS122 w _ gb1827 l0 t1833 t1834 from by repeat (first | (with_reducible first | exact HI1827.out | apply IsS122.alloc | apply IsS122.drewN | apply IsS122.drew | apply IsS122.set_1 | apply IsS122.set_2 | refine IsS122.far ?_ NB1827_1826.out _) | exact HI1827.out)) (tr_x HO1832.out) (by decide)) hk (fun _ h => h.2)) (fun _ h => h.1)); replace HO1837 := A_ (Kd.R_mono (Kd.R_keep (IsS122.apart (show IsS122 w _ gb1827 l0 t1833 t1834 from by repeat (first | (with_reducible first | exact HI1827.out | apply IsS122.alloc | apply IsS122.drewN | apply IsS122.drew | apply IsS122.set_1 | apply IsS122.set_2 | refine IsS122.far ?_ NB1827_1826.out _) | exact HI1827.out)) (tr_x HO1837.out) (by decide)) hk (fun _ h => h.2)) (fun _ h => h.1)); replace HB := A_ (hb); replace HI1827 := A_ (hi); (try clear hb); (try clear hb2); (try clear hk); (try clear hi); have hnb11 := NB1826_1827.out; have hnc11 := NB1827_1826.out; obtain ⟨hcz12_0, hcz12_1, hcz12_2, hfz12_0, hfz12_1, hfz12_2⟩ := cf3_ BK1826.out; obtain ⟨Ao13, co13, eo13⟩ := Kd.R_slice HO1832.out; subst eo13))
 refine bodyPost_ret (results_ct rfl _ _ gb1826 28 #[.int .i64 t1828, .int .i64 t1829, .slice Ao13 t1830.length co13] (0, 0) _ rfl (by (with_reducible repeat (first | refine blk_drewN ?_ _ | refine blk_drew ?_ | refine blk_alloc ?_ _)); refine blk_put (cs := #[.int .i64 t1828, .int .i64 t1829, .slice none 0 0]) ?_ 2 _ rfl; (with_reducible repeat (first | refine blk_drewN ?_ _ | refine blk_drew ?_ | refine blk_alloc ?_ _)); refine blk_put (cs := #[.int .i64 t1828, .int .i64 0, .slice none 0 0]) ?_ 1 _ rfl; (with_reducible repeat (first | refine blk_drewN ?_ _ | refine blk_drew ?_ | refine blk_alloc ?_ _)); refine blk_put (cs := #[.int .i64 0, .int .i64 0, .slice none 0 0]) ?_ 0 _ rfl; (with_reducible repeat (first | refine blk_drewN ?_ _ | refine blk_drew ?_ | refine blk_alloc ?_ _)); exact BK1826.out) Try.underlying28 rfl (by kernel_rfl)) rfl ?_
 exact ⟨_, te_, by (with_reducible repeat (first | apply Kd.R_alloc | apply Kd.R_drewN | apply Kd.R_drew)); exact Kd.R_mono (Kd.R_far (p := ⟨gb1826, 2, none⟩) (Kd.R_far (p := ⟨gb1826, 1, none⟩) (Kd.R_far (p := ⟨gb1826, 0, none⟩) (Kd.R_types HO1832.out BK1826.out (by decide)) (fun _ hk => hk.2) (.int .i64 t1828)) (fun _ hk => hk.2) (.int .i64 t1829)) (fun _ hk => hk.2) (.slice Ao13 t1830.length co13)) (fun _ hk => trivial), by repeat (first | (with_reducible first | exact HB.out | apply below_alloc | apply pw_below_drewN | apply below_drew1 | refine below_set ?_ (IsS122.ge HI1827.out) | refine below_set ?_ GE1826.out) | exact HB.out)⟩

/-! ### impl_FileValue: function 109 -/
mutual
def impl_FileValue.j0 : Nat → Int → Bool → Int → Int → List Int → Option (Int × Bool)
 | 0, _, _, _, _, _ => none
 | k + 1, x1, x16, x1842000, x1842001, x1842002 => if x16 = true then (some (0, false)) else ((impl_Board_heights.f k x1842000 x1842001 x1842002).bind fun t1844 => (impl_FileValue.l0 k x1 1 t1844 (t1844.length : Int) 0))
def impl_FileValue.l0 : Nat → Int → Int → List Int → Int → Int → Option (Int × Bool)
 | 0, _, _, _, _, _ => none
 | k + 1, x1, x6, x18, x19, x20 => if x20 < x19 then (if 0 ≤ x20 then (if x20 < (x18.length : Int) then (impl_FileValue.l0 k x1 (wrap64 (x6 * (wrap64 (x1 + (rd x18 x20))))) x18 x19 (wrap64 (x20 + 1))) else (none)) else (none)) else (some (x6, true))
end
def impl_FileValue.f (k : Nat) (a0_0 : Int) (a0_1 : Int) (l0_2 : List Int) (a1 : Int) : Option (Int × Bool) := (impl_IsBoard.f a0_0 a0_1 l0_2).bind fun t1842 => (if t1842 = true then ((impl_within.f a1 (-100) 100).bind fun t1843 => (impl_FileValue.j0 k a1 (!t1843) a0_0 a0_1 l0_2)) else (impl_FileValue.j0 k a1 true a0_0 a0_1 l0_2))
theorem impl_FileValue.mono_l : ∀ k, (∀ y0 y1 y2 y3 y4, LeO (impl_FileValue.j0 k y0 y1 y2 y3 y4) (impl_FileValue.j0 (k + 1) y0 y1 y2 y3 y4)) ∧ (∀ y0 y1 y2 y3 y4, LeO (impl_FileValue.l0 k y0 y1 y2 y3 y4) (impl_FileValue.l0 (k + 1) y0 y1 y2 y3 y4))
 | 0 => ⟨fun _ _ _ _ _ r h => by simp [impl_FileValue.j0] at h, fun _ _ _ _ _ r h => by simp [impl_FileValue.l0] at h⟩
 | k + 1 => by
  obtain ⟨ih0, ih1⟩ := impl_FileValue.mono_l k
  refine ⟨?_, ?_⟩
  ·
   intro y0 y1 y2 y3 y4
   unfold impl_FileValue.j0
   repeat' first | (with_reducible first | exact ih0 _ _ _ _ _ | exact ih1 _ _ _ _ _ | exact impl_Board_heights.mono _ _ _ _ | exact LeO.refl _ | exact LeO.none _ | refine LeO.ite ?_ ?_ | refine LeO.bind ?_ (fun _ => ?_)) | exact ih0 _ _ _ _ _ | exact ih1 _ _ _ _ _ | exact impl_Board_heights.mono _ _ _ _ | exact LeO.none _ | refine LeO.ite ?_ ?_ | refine LeO.bind ?_ (fun _ => ?_)
  ·
   intro y0 y1 y2 y3 y4
   unfold impl_FileValue.l0
   repeat' first | (with_reducible first | exact ih0 _ _ _ _ _ | exact ih1 _ _ _ _ _ | exact impl_Board_heights.mono _ _ _ _ | exact LeO.refl _ | exact LeO.none _ | refine LeO.ite ?_ ?_ | refine LeO.bind ?_ (fun _ => ?_)) | exact ih0 _ _ _ _ _ | exact ih1 _ _ _ _ _ | exact impl_Board_heights.mono _ _ _ _ | exact LeO.none _ | refine LeO.ite ?_ ?_ | refine LeO.bind ?_ (fun _ => ?_)
theorem impl_FileValue.mono : ∀ a0 a1 a2 a3 k, LeO (impl_FileValue.f k a0 a1 a2 a3) (impl_FileValue.f (k + 1) a0 a1 a2 a3) := by
 intro a0 a1 a2 a3 k
 obtain ⟨ih0, ih1⟩ := impl_FileValue.mono_l k
 unfold impl_FileValue.f
 repeat' first | (with_reducible first | exact ih0 _ _ _ _ _ | exact ih1 _ _ _ _ _ | exact impl_Board_heights.mono _ _ _ _ | exact LeO.refl _ | exact LeO.none _ | refine LeO.ite ?_ ?_ | refine LeO.bind ?_ (fun _ => ?_)) | exact ih0 _ _ _ _ _ | exact ih1 _ _ _ _ _ | exact impl_Board_heights.mono _ _ _ _ | exact LeO.none _ | refine LeO.ite ?_ ?_ | refine LeO.bind ?_ (fun _ => ?_)
theorem impl_FileValue.calls (k : Nat) (a0_0 : Int) (a0_1 : Int) (A0_2 : Option Addr) (c0_2 : Nat) (l0_2 : List Int) (a1 : Int) (r1 : Int) (r2 : Bool) (w : World) (hr0_2 : Kd.C (Kd.int .i64) w A0_2 l0_2.length l0_2) (hc0_2 : l0_2.length ≤ c0_2) (h : impl_FileValue.f k a0_0 a0_1 l0_2 a1 = some (r1, r2)) :
  Calls Try.prog 109 #[.agg #[.int .i64 a0_0, .int .i64 a0_1, .slice A0_2 l0_2.length c0_2], .int .i64 a1] w fun e w' => e = .returned (.tuple #[.int .i64 r1, .bool r2]) ∧ Below w.heap.size w w' := by
 have hu28 := Try.underlying28
 have HR0_2 := A_ hr0_2
 have HC0_2 := A_ hc0_2
 clear hr0_2 hc0_2
 have HB := A_ (Below.refl w.heap.size w)
 have H : ((impl_IsBoard.f a0_0 a0_1 l0_2).bind fun t1842 => (if t1842 = true then ((impl_within.f a1 (-100) 100).bind fun t1843 => (impl_FileValue.j0 k a1 (!t1843) a0_0 a0_1 l0_2)) else (impl_FileValue.j0 k a1 true a0_0 a0_1 l0_2))) = some (r1, r2) := h
 clear h
 have HC3 := A_ H
 clear H
 go_enter Try.func109, Try.ntmps109
 go_upto_region 1 with (first | (refine gd_ 2 ?_; refine bx_ 2 #[.int .i64 a0_0, .int .i64 a0_1, .slice A0_2 l0_2.length c0_2] 28 ?_; intro gb1841 hg w4 hbox hb; have BK1841 := A_ (hbox); have GW1841 := A_ ((ts_ hg : w.heap.size ≤ gb1841)); have GE1841 := A_ ((ts_ hg : w.heap.size ≤ gb1841)); replace HB := A_ (below_step tb_ hb); clear hb hbox hg))
 (try simp only [Act.put, List.setIfInBounds_toArray, List.set_cons_zero, List.set_cons_succ])
 go_cut [16] (fun v16 wc => ∃ (kq : Nat) (x16_2 : Bool), v16 = .bool x16_2 ∧ Aside0 (impl_FileValue.j0 kq a1 x16_2 a0_0 a0_1 l0_2 = some (r1, r2)) ∧ Aside0 (kq ≤ k) ∧ Aside0 (wc.heap[gb1841]? = some (.cells #[.int .i64 a0_0, .int .i64 a0_1, (.slice A0_2 l0_2.length c0_2)] 28 (0, 0))) ∧ Aside0 (Below w.heap.size w wc))
 case first =>
  have H := HC3.out
  clear HC3
  replace H := Option.bind_eq_some_iff.mp H
  obtain ⟨t1842, A50, H⟩ := H
  replace H : (if t1842 = true then ((impl_within.f a1 (-100) 100).bind fun t1843 => (impl_FileValue.j0 k a1 (!t1843) a0_0 a0_1 l0_2)) else (impl_FileValue.j0 k a1 true a0_0 a0_1 l0_2)) = some (r1, r2) := H
  have A5 := A_ A50
  clear A50
  by_cases c6 : t1842 = true
  ·
   subst c6
   have H1 : ((impl_within.f a1 (-100) 100).bind fun t1843 => (impl_FileValue.j0 k a1 (!t1843) a0_0 a0_1 l0_2)) = some (r1, r2) := by rw [if_pos rfl] at H; exact H
   clear H
   have H := H1
   clear H1
   replace H := Option.bind_eq_some_iff.mp H
   obtain ⟨t1843, A70, H⟩ := H
   replace H : (impl_FileValue.j0 k a1 (!t1843) a0_0 a0_1 l0_2) = some (r1, r2) := H
   have A7 := A_ A70
   clear A70
   have H' := A_ H
   clear H
   obtain ⟨hcz8_0, hcz8_1, hcz8_2, hfz8_0, hfz8_1, hfz8_2⟩ := cf3_ BK1841.out
   go_wp2_with (first | (refine gc_ 125 ?_; refine goesT_ (some 10) Try.func125 #[.agg #[.int .i64 a0_0, .int .i64 a0_1, .slice A0_2 l0_2.length c0_2]] ?_; (with_reducible refine (impl_IsBoard.calls a0_0 a0_1 _ _ l0_2 true _ ?side1 ?side2 A5.out).mono ?_); (case side1 => exact tc_ HR0_2.out); (case side2 => exact HC0_2.out); rintro e w9 ⟨rfl, hb⟩; refine ⟨_, rfl, ?_⟩; replace BK1841 := A_ (blk_below (g := gb1841) (o := .cells #[.int .i64 a0_0, .int .i64 a0_1, .slice A0_2 l0_2.length c0_2] 28 (0, 0)) (tk_ BK1841) hb); replace HB := A_ (below_step tb_ hb); (try clear hb)) | (go_at_call 139; (with_reducible refine (impl_within.calls a1 (-100) 100 t1843 _ A7.out).mono ?_); rintro e w' ⟨rfl, ⟨nd, rfl⟩⟩))
   go_meet
   case rel => exact ⟨_, (!t1843), tf_, H', ⟨by first | omega | exact Nat.le_refl _⟩, ⟨tk_ BK1841⟩, ⟨tb_⟩⟩
  ·
   replace c6 := Bool.eq_false_iff.mpr c6
   subst c6
   have H1 : (impl_FileValue.j0 k a1 true a0_0 a0_1 l0_2) = some (r1, r2) := by rw [if_neg (show ¬ (false = true) by decide)] at H; exact H
   clear H
   have H := H1
   clear H1
   have H' := A_ H
   clear H
   obtain ⟨hcz10_0, hcz10_1, hcz10_2, hfz10_0, hfz10_1, hfz10_2⟩ := cf3_ BK1841.out
   go_wp2_with (first | (refine gc_ 125 ?_; refine goesT_ (some 10) Try.func125 #[.agg #[.int .i64 a0_0, .int .i64 a0_1, .slice A0_2 l0_2.length c0_2]] ?_; (with_reducible refine (impl_IsBoard.calls a0_0 a0_1 _ _ l0_2 false _ ?side1 ?side2 A5.out).mono ?_); (case side1 => exact tc_ HR0_2.out); (case side2 => exact HC0_2.out); rintro e w11 ⟨rfl, hb⟩; refine ⟨_, rfl, ?_⟩; replace BK1841 := A_ (blk_below (g := gb1841) (o := .cells #[.int .i64 a0_0, .int .i64 a0_1, .slice A0_2 l0_2.length c0_2] 28 (0, 0)) (tk_ BK1841) hb); replace HB := A_ (below_step tb_ hb); (try clear hb)))
   go_meet
   case rel => exact ⟨_, (true), tf_, H', ⟨by first | omega | exact Nat.le_refl _⟩, ⟨tk_ BK1841⟩, ⟨tb_⟩⟩
 case rest =>
  clear HC3
  try clear c1
  try clear p2
  try clear c6
  try clear c10
  try clear hcz10_0
  try clear hcz10_1
  try clear hcz10_2
  try clear hcz8_0
  try clear hcz8_1
  try clear hcz8_2
  try clear hfz10_0
  try clear hfz10_1
  try clear hfz10_2
  try clear hfz8_0
  try clear hfz8_1
  try clear hfz8_2
  obtain ⟨kq, x16_2, rfl, HA, HJ2, BK1841, HB⟩ := hcut
  cases kq with
  | zero => exact absurd HA.out (by simp [impl_FileValue.j0])
  | succ kj2 =>
   have H := HA.out
   clear HA
   simp only [impl_FileValue.j0] at H
   by_cases c12 : x16_2 = true
   ·
    subst c12
    have H1 : (some (0, false)) = some (r1, r2) := by rw [if_pos rfl] at H; exact H
    clear H
    have H := H1
    clear H1
    simp only [Option.some.injEq, Prod.mk.injEq] at H
    obtain ⟨rfl, rfl⟩ := H
    go_wp2
    go_ret2
    exact ⟨te_, tb_⟩
   ·
    replace c12 := Bool.eq_false_iff.mpr c12
    subst c12
    have H1 : ((impl_Board_heights.f kj2 a0_0 a0_1 l0_2).bind fun t1844 => (impl_FileValue.l0 kj2 a1 1 t1844 (t1844.length : Int) 0)) = some (r1, r2) := by rw [if_neg (show ¬ (false = true) by decide)] at H; exact H
    clear H
    have H := H1
    clear H1
    replace H := Option.bind_eq_some_iff.mp H
    obtain ⟨t1844, A130, H⟩ := H
    replace H : (impl_FileValue.l0 kj2 a1 1 t1844 (t1844.length : Int) 0) = some (r1, r2) := H
    have A13 := A_ A130
    clear A130
    have H' := A_ H
    clear H
    obtain ⟨hcz14_0, hcz14_1, hcz14_2, hfz14_0, hfz14_1, hfz14_2⟩ := cf3_ BK1841.out
    go_wp2_with (first | (refine gc_ 210 ?_; refine goesT_ (some 18) Try.func210 #[.agg #[.int .i64 a0_0, .int .i64 a0_1, .slice A0_2 l0_2.length c0_2]] ?_; (with_reducible refine (impl_Board_heights.calls kj2 a0_0 a0_1 _ _ l0_2 t1844 _ ?side1 ?side2 A13.out).mono ?_); (case side1 => exact tc_ HR0_2.out); (case side2 => exact HC0_2.out); rintro e w15 ⟨v1845, rfl, ho0, hb⟩; refine ⟨_, rfl, ?_⟩; have HO1846 := A_ (Kd.R_lower ho0 (below_size tb_)); replace BK1841 := A_ (blk_below (g := gb1841) (o := .cells #[.int .i64 a0_0, .int .i64 a0_1, .slice A0_2 l0_2.length c0_2] 28 (0, 0)) (tk_ BK1841) hb); replace HB := A_ (below_step tb_ hb); (try clear hb); (try clear ho0); obtain ⟨Ao16, co16, eo16⟩ := Kd.R_slice HO1846.out; subst eo16))
    go_loopg [6, 20] kj2 (fun kq v6 v20 w' => ∃ (x6_2 : Int) (x20_2 : Int), v6 = .int .i64 x6_2 ∧ v20 = .int .i64 x20_2 ∧ Aside0 (impl_FileValue.l0 kq a1 x6_2 t1844 (t1844.length : Int) x20_2 = some (r1, r2)) ∧ Aside0 (kq ≤ kj2) ∧ Aside0 (Kd.R (Kd.int .i64) 3 w' w.heap.size (fun _ => True) (.slice Ao16 t1844.length co16) t1844) ∧ Aside0 (w'.heap[gb1841]? = some (.cells #[.int .i64 a0_0, .int .i64 a0_1, (.slice A0_2 l0_2.length c0_2)] 28 (0, 0))) ∧ Aside0 (Below w.heap.size w w'))
    case atStart => exact ⟨(1), (0), tf_, tf_, H', ⟨Nat.le_refl _⟩, ⟨tr_x HO1846.out⟩, ⟨tk_ BK1841⟩, ⟨tb_⟩⟩
    case round =>
     clear H'
     try clear c1
     try clear c2
     try clear p2
     try clear c6
     try clear c10
     try clear c12
     try clear hcz10_0
     try clear hcz10_1
     try clear hcz10_2
     try clear hcz14_0
     try clear hcz14_1
     try clear hcz14_2
     try clear hcz8_0
     try clear hcz8_1
     try clear hcz8_2
     try clear hfz10_0
     try clear hfz10_1
     try clear hfz10_2
     try clear hfz14_0
     try clear hfz14_1
     try clear hfz14_2
     try clear hfz8_0
     try clear hfz8_1
     try clear hfz8_2
     try clear p2
     obtain ⟨x6_2, x20_2, rfl, rfl, HA, HK2, HO_18, BK1841, HB⟩ := hrel
     cases gk with
     | zero => exact absurd HA.out (by simp [impl_FileValue.l0])
     | succ k2 =>
      have H := HA.out
      clear HA
      simp only [impl_FileValue.l0] at H
      by_cases c17 : x20_2 < (t1844.length : Int)
      ·
       rw [if_pos c17] at H
       have c17b0 := decide_eq_true c17
       clear c17
       by_cases c18 : 0 ≤ x20_2
       ·
        rw [if_pos c18] at H
        have c18b0 := decide_eq_true c18
        clear c18
        by_cases c19 : x20_2 < (t1844.length : Int)
        ·
         rw [if_pos c19] at H
         have c19b0 := decide_eq_true c19
         clear c19
         have H' := A_ H
         clear H
         have p1847 : 0 ≤ (x20_2 : Int) := od_
         have q1847 : x20_2 < (t1844.length : Int) := od_
         obtain ⟨ad1847, e1847, hx1847_0⟩ := Kd.at_int (Kd.R_reads' HO_18.out).2.2 x20_2 p1847 q1847
         cases e1847
         replace p1847 := eq_true p1847
         replace q1847 := eq_true q1847
         go_wp2
         go_roundg k2
         case measure => have := HJ2.out; have := HK2.out; omega
         case rel => exact ⟨(wrap64 (x6_2 * (wrap64 (a1 + (rd t1844 x20_2))))), (wrap64 (x20_2 + 1)), tf_, tf_, H', ⟨by have := HJ2.out; have := HK2.out; omega⟩, ⟨tr_x HO_18.out⟩, ⟨tk_ BK1841⟩, ⟨tb_⟩⟩
        ·
         rw [if_neg c19] at H
         exact absurd H (by simp)
       ·
        rw [if_neg c18] at H
        exact absurd H (by simp)
      ·
       rw [if_neg c17] at H
       have c17b0 := decide_eq_false c17
       clear c17
       simp only [Option.some.injEq, Prod.mk.injEq] at H
       obtain ⟨rfl, rfl⟩ := H
       go_wp2
       go_ret2
       exact ⟨te_, tb_⟩

/-! ### spec_FileValue: function 110 -/
mutual
def spec_FileValue.j0 : Nat → Int → Bool → Int → Int → List Int → Option (Int × Bool)
 | 0, _, _, _, _, _ => none
 | k + 1, x1, x16, x1849000, x1849001, x1849002 => if x16 = true then (some (0, false)) else ((spec_fiHeights.f k x1849000 x1849001 x1849002).bind fun t1851 => (spec_FileValue.l0 k x1 1 t1851 (t1851.length : Int) 0))
def spec_FileValue.l0 : Nat → Int → Int → List Int → Int → Int → Option (Int × Bool)
 | 0, _, _, _, _, _ => none
 | k + 1, x1, x6, x18, x19, x20 => if x20 < x19 then (if 0 ≤ x20 then (if x20 < (x18.length : Int) then (spec_FileValue.l0 k x1 (wrap64 (x6 * (wrap64 (x1 + (rd x18 x20))))) x18 x19 (wrap64 (x20 + 1))) else (none)) else (none)) else (some (x6, true))
end
def spec_FileValue.f (k : Nat) (a0_0 : Int) (a0_1 : Int) (l0_2 : List Int) (a1 : Int) : Option (Int × Bool) := (spec_boGood.f k a0_0 a0_1 l0_2).bind fun t1849 => (if t1849 = true then ((spec_l1In.f a1 (-100) 100).bind fun t1850 => (spec_FileValue.j0 k a1 (!t1850) a0_0 a0_1 l0_2)) else (spec_FileValue.j0 k a1 true a0_0 a0_1 l0_2))
theorem spec_FileValue.mono_l : ∀ k, (∀ y0 y1 y2 y3 y4, LeO (spec_FileValue.j0 k y0 y1 y2 y3 y4) (spec_FileValue.j0 (k + 1) y0 y1 y2 y3 y4)) ∧ (∀ y0 y1 y2 y3 y4, LeO (spec_FileValue.l0 k y0 y1 y2 y3 y4) (spec_FileValue.l0 (k + 1) y0 y1 y2 y3 y4))
 | 0 => ⟨fun _ _ _ _ _ r h => by simp [spec_FileValue.j0] at h, fun _ _ _ _ _ r h => by simp [spec_FileValue.l0] at h⟩
 | k + 1 => by
  obtain ⟨ih0, ih1⟩ := spec_FileValue.mono_l k
  refine ⟨?_, ?_⟩
  ·
   intro y0 y1 y2 y3 y4
   unfold spec_FileValue.j0
   repeat' first | (with_reducible first | exact ih0 _ _ _ _ _ | exact ih1 _ _ _ _ _ | exact spec_boGood.mono _ _ _ _ | exact spec_fiHeights.mono _ _ _ _ | exact LeO.refl _ | exact LeO.none _ | refine LeO.ite ?_ ?_ | refine LeO.bind ?_ (fun _ => ?_)) | exact ih0 _ _ _ _ _ | exact ih1 _ _ _ _ _ | exact spec_boGood.mono _ _ _ _ | exact spec_fiHeights.mono _ _ _ _ | exact LeO.none _ | refine LeO.ite ?_ ?_ | refine LeO.bind ?_ (fun _ => ?_)
  ·
   intro y0 y1 y2 y3 y4
   unfold spec_FileValue.l0
   repeat' first | (with_reducible first | exact ih0 _ _ _ _ _ | exact ih1 _ _ _ _ _ | exact spec_boGood.mono _ _ _ _ | exact spec_fiHeights.mono _ _ _ _ | exact LeO.refl _ | exact LeO.none _ | refine LeO.ite ?_ ?_ | refine LeO.bind ?_ (fun _ => ?_)) | exact ih0 _ _ _ _ _ | exact ih1 _ _ _ _ _ | exact spec_boGood.mono _ _ _ _ | exact spec_fiHeights.mono _ _ _ _ | exact LeO.none _ | refine LeO.ite ?_ ?_ | refine LeO.bind ?_ (fun _ => ?_)
theorem spec_FileValue.mono : ∀ a0 a1 a2 a3 k, LeO (spec_FileValue.f k a0 a1 a2 a3) (spec_FileValue.f (k + 1) a0 a1 a2 a3) := by
 intro a0 a1 a2 a3 k
 obtain ⟨ih0, ih1⟩ := spec_FileValue.mono_l k
 unfold spec_FileValue.f
 repeat' first | (with_reducible first | exact ih0 _ _ _ _ _ | exact ih1 _ _ _ _ _ | exact spec_boGood.mono _ _ _ _ | exact spec_fiHeights.mono _ _ _ _ | exact LeO.refl _ | exact LeO.none _ | refine LeO.ite ?_ ?_ | refine LeO.bind ?_ (fun _ => ?_)) | exact ih0 _ _ _ _ _ | exact ih1 _ _ _ _ _ | exact spec_boGood.mono _ _ _ _ | exact spec_fiHeights.mono _ _ _ _ | exact LeO.none _ | refine LeO.ite ?_ ?_ | refine LeO.bind ?_ (fun _ => ?_)
theorem spec_FileValue.calls (k : Nat) (a0_0 : Int) (a0_1 : Int) (A0_2 : Option Addr) (c0_2 : Nat) (l0_2 : List Int) (a1 : Int) (r1 : Int) (r2 : Bool) (w : World) (hr0_2 : Kd.C (Kd.int .i64) w A0_2 l0_2.length l0_2) (hc0_2 : l0_2.length ≤ c0_2) (h : spec_FileValue.f k a0_0 a0_1 l0_2 a1 = some (r1, r2)) :
  Calls Try.prog 110 #[.agg #[.int .i64 a0_0, .int .i64 a0_1, .slice A0_2 l0_2.length c0_2], .int .i64 a1] w fun e w' => e = .returned (.tuple #[.int .i64 r1, .bool r2]) ∧ Below w.heap.size w w' := by
 have hu28 := Try.underlying28
 have HR0_2 := A_ hr0_2
 have HC0_2 := A_ hc0_2
 clear hr0_2 hc0_2
 have HB := A_ (Below.refl w.heap.size w)
 have H : ((spec_boGood.f k a0_0 a0_1 l0_2).bind fun t1849 => (if t1849 = true then ((spec_l1In.f a1 (-100) 100).bind fun t1850 => (spec_FileValue.j0 k a1 (!t1850) a0_0 a0_1 l0_2)) else (spec_FileValue.j0 k a1 true a0_0 a0_1 l0_2))) = some (r1, r2) := h
 clear h
 have HC3 := A_ H
 clear H
 go_enter Try.func110, Try.ntmps110
 go_upto_region 1 with (first | (refine gd_ 2 ?_; refine bx_ 2 #[.int .i64 a0_0, .int .i64 a0_1, .slice A0_2 l0_2.length c0_2] 28 ?_; intro gb1848 hg w4 hbox hb; have BK1848 := A_ (hbox); have GW1848 := A_ ((ts_ hg : w.heap.size ≤ gb1848)); have GE1848 := A_ ((ts_ hg : w.heap.size ≤ gb1848)); replace HB := A_ (below_step tb_ hb); clear hb hbox hg))
 (try simp only [Act.put, List.setIfInBounds_toArray, List.set_cons_zero, List.set_cons_succ])
 go_cut [16] (fun v16 wc => ∃ (kq : Nat) (x16_2 : Bool), v16 = .bool x16_2 ∧ Aside0 (spec_FileValue.j0 kq a1 x16_2 a0_0 a0_1 l0_2 = some (r1, r2)) ∧ Aside0 (kq ≤ k) ∧ Aside0 (wc.heap[gb1848]? = some (.cells #[.int .i64 a0_0, .int .i64 a0_1, (.slice A0_2 l0_2.length c0_2)] 28 (0, 0))) ∧ Aside0 (Below w.heap.size w wc))
 case first =>
  have H := HC3.out
  clear HC3
  replace H := Option.bind_eq_some_iff.mp H
  obtain ⟨t1849, A50, H⟩ := H
  replace H : (if t1849 = true then ((spec_l1In.f a1 (-100) 100).bind fun t1850 => (spec_FileValue.j0 k a1 (!t1850) a0_0 a0_1 l0_2)) else (spec_FileValue.j0 k a1 true a0_0 a0_1 l0_2)) = some (r1, r2) := H
  have A5 := A_ A50
  clear A50
  by_cases c6 : t1849 = true
  ·
   subst c6
   have H1 : ((spec_l1In.f a1 (-100) 100).bind fun t1850 => (spec_FileValue.j0 k a1 (!t1850) a0_0 a0_1 l0_2)) = some (r1, r2) := by rw [if_pos rfl] at H; exact H
   clear H
   have H := H1
   clear H1
   replace H := Option.bind_eq_some_iff.mp H
   obtain ⟨t1850, A70, H⟩ := H
   replace H : (spec_FileValue.j0 k a1 (!t1850) a0_0 a0_1 l0_2) = some (r1, r2) := H
   have A7 := A_ A70
   clear A70
   have H' := A_ H
   clear H
   obtain ⟨hcz8_0, hcz8_1, hcz8_2, hfz8_0, hfz8_1, hfz8_2⟩ := cf3_ BK1848.out
   go_wp2_with (first | (refine gc_ 144 ?_; refine goesT_ (some 10) Try.func144 #[.agg #[.int .i64 a0_0, .int .i64 a0_1, .slice A0_2 l0_2.length c0_2]] ?_; (with_reducible refine (spec_boGood.calls k a0_0 a0_1 _ _ l0_2 true _ ?side1 ?side2 A5.out).mono ?_); (case side1 => exact tc_ HR0_2.out); (case side2 => exact HC0_2.out); rintro e w9 ⟨rfl, hb⟩; refine ⟨_, rfl, ?_⟩; replace BK1848 := A_ (blk_below (g := gb1848) (o := .cells #[.int .i64 a0_0, .int .i64 a0_1, .slice A0_2 l0_2.length c0_2] 28 (0, 0)) (tk_ BK1848) hb); replace HB := A_ (below_step tb_ hb); (try clear hb)) | (go_at_call 137; (with_reducible refine (spec_l1In.calls a1 (-100) 100 t1850 _ A7.out).mono ?_); rintro e w' ⟨rfl, ⟨nd, rfl⟩⟩))
   go_meet
   case rel => exact ⟨_, (!t1850), tf_, H', ⟨by first | omega | exact Nat.le_refl _⟩, ⟨tk_ BK1848⟩, ⟨tb_⟩⟩
  ·
   replace c6 := Bool.eq_false_iff.mpr c6
   subst c6
   have H1 : (spec_FileValue.j0 k a1 true a0_0 a0_1 l0_2) = some (r1, r2) := by rw [if_neg (show ¬ (false = true) by decide)] at H; exact H
   clear H
   have H := H1
   clear H1
   have H' := A_ H
   clear H
   obtain ⟨hcz10_0, hcz10_1, hcz10_2, hfz10_0, hfz10_1, hfz10_2⟩ := cf3_ BK1848.out
   go_wp2_with (first | (refine gc_ 144 ?_; refine goesT_ (some 10) Try.func144 #[.agg #[.int .i64 a0_0, .int .i64 a0_1, .slice A0_2 l0_2.length c0_2]] ?_; (with_reducible refine (spec_boGood.calls k a0_0 a0_1 _ _ l0_2 false _ ?side1 ?side2 A5.out).mono ?_); (case side1 => exact tc_ HR0_2.out); (case side2 => exact HC0_2.out); rintro e w11 ⟨rfl, hb⟩; refine ⟨_, rfl, ?_⟩; replace BK1848 := A_ (blk_below (g := gb1848) (o := .cells #[.int .i64 a0_0, .int .i64 a0_1, .slice A0_2 l0_2.length c0_2] 28 (0, 0)) (tk_ BK1848) hb); replace HB := A_ (below_step tb_ hb); (try clear hb)))
   go_meet
   case rel => exact ⟨_, (true), tf_, H', ⟨by first | omega | exact Nat.le_refl _⟩, ⟨tk_ BK1848⟩, ⟨tb_⟩⟩
 case rest =>
  clear HC3
  try clear c1
  try clear p2
  try clear c6
  try clear c11
  try clear hcz10_0
  try clear hcz10_1
  try clear hcz10_2
  try clear hcz8_0
  try clear hcz8_1
  try clear hcz8_2
  try clear hfz10_0
  try clear hfz10_1
  try clear hfz10_2
  try clear hfz8_0
  try clear hfz8_1
  try clear hfz8_2
  obtain ⟨kq, x16_2, rfl, HA, HJ2, BK1848, HB⟩ := hcut
  cases kq with
  | zero => exact absurd HA.out (by simp [spec_FileValue.j0])
  | succ kj2 =>
   have H := HA.out
   clear HA
   simp only [spec_FileValue.j0] at H
   by_cases c12 : x16_2 = true
   ·
    subst c12
    have H1 : (some (0, false)) = some (r1, r2) := by rw [if_pos rfl] at H; exact H
    clear H
    have H := H1
    clear H1
    simp only [Option.some.injEq, Prod.mk.injEq] at H
    obtain ⟨rfl, rfl⟩ := H
    go_wp2
    go_ret2
    exact ⟨te_, tb_⟩
   ·
    replace c12 := Bool.eq_false_iff.mpr c12
    subst c12
    have H1 : ((spec_fiHeights.f kj2 a0_0 a0_1 l0_2).bind fun t1851 => (spec_FileValue.l0 kj2 a1 1 t1851 (t1851.length : Int) 0)) = some (r1, r2) := by rw [if_neg (show ¬ (false = true) by decide)] at H; exact H
    clear H
    have H := H1
    clear H1
    replace H := Option.bind_eq_some_iff.mp H
    obtain ⟨t1851, A130, H⟩ := H
    replace H : (spec_FileValue.l0 kj2 a1 1 t1851 (t1851.length : Int) 0) = some (r1, r2) := H
    have A13 := A_ A130
    clear A130
    have H' := A_ H
    clear H
    obtain ⟨hcz14_0, hcz14_1, hcz14_2, hfz14_0, hfz14_1, hfz14_2⟩ := cf3_ BK1848.out
    go_wp2_with (first | (refine gc_ 212 ?_; refine goesT_ (some 18) Try.func212 #[.agg #[.int .i64 a0_0, .int .i64 a0_1, .slice A0_2 l0_2.length c0_2]] ?_; (with_reducible refine (spec_fiHeights.calls kj2 a0_0 a0_1 _ _ l0_2 t1851 _ ?side1 ?side2 A13.out).mono ?_); (case side1 => exact tc_ HR0_2.out); (case side2 => exact HC0_2.out); rintro e w15 ⟨v1852, rfl, ho0, hb⟩; refine ⟨_, rfl, ?_⟩; have HO1853 := A_ (Kd.R_lower ho0 (below_size tb_)); replace BK1848 := A_ (blk_below (g := gb1848) (o := .cells #[.int .i64 a0_0, .int .i64 a0_1, .slice A0_2 l0_2.length c0_2] 28 (0, 0)) (tk_ BK1848) hb); replace HB := A_ (below_step tb_ hb); (try clear hb); (try clear ho0); obtain ⟨Ao16, co16, eo16⟩ := Kd.R_slice HO1853.out; subst eo16))
    go_loopg [6, 20] kj2 (fun kq v6 v20 w' => ∃ (x6_2 : Int) (x20_2 : Int), v6 = .int .i64 x6_2 ∧ v20 = .int .i64 x20_2 ∧ Aside0 (spec_FileValue.l0 kq a1 x6_2 t1851 (t1851.length : Int) x20_2 = some (r1, r2)) ∧ Aside0 (kq ≤ kj2) ∧ Aside0 (Kd.R (Kd.int .i64) 3 w' w.heap.size (fun _ => True) (.slice Ao16 t1851.length co16) t1851) ∧ Aside0 (w'.heap[gb1848]? = some (.cells #[.int .i64 a0_0, .int .i64 a0_1, (.slice A0_2 l0_2.length c0_2)] 28 (0, 0))) ∧ Aside0 (Below w.heap.size w w'))
    case atStart => exact ⟨(1), (0), tf_, tf_, H', ⟨Nat.le_refl _⟩, ⟨tr_x HO1853.out⟩, ⟨tk_ BK1848⟩, ⟨tb_⟩⟩
    case round =>
     clear H'
     try clear c1
     try clear c2
     try clear p2
     try clear c6
     try clear c11
     try clear c12
     try clear c14
     try clear hcz10_0
     try clear hcz10_1
     try clear hcz10_2
     try clear hcz14_0
     try clear hcz14_1
     try clear hcz14_2
     try clear hcz8_0
     try clear hcz8_1
     try clear hcz8_2
     try clear hfz10_0
     try clear hfz10_1
     try clear hfz10_2
     try clear hfz14_0
     try clear hfz14_1
     try clear hfz14_2
     try clear hfz8_0
     try clear hfz8_1
     try clear hfz8_2
     try clear p2
     obtain ⟨x6_2, x20_2, rfl, rfl, HA, HK2, HO_18, BK1848, HB⟩ := hrel
     cases gk with
     | zero => exact absurd HA.out (by simp [spec_FileValue.l0])
     | succ k2 =>
      have H := HA.out
      clear HA
      simp only [spec_FileValue.l0] at H
      by_cases c17 : x20_2 < (t1851.length : Int)
      ·
       rw [if_pos c17] at H
       have c17b0 := decide_eq_true c17
       clear c17
       by_cases c18 : 0 ≤ x20_2
       ·
        rw [if_pos c18] at H
        have c18b0 := decide_eq_true c18
        clear c18
        by_cases c19 : x20_2 < (t1851.length : Int)
        ·
         rw [if_pos c19] at H
         have c19b0 := decide_eq_true c19
         clear c19
         have H' := A_ H
         clear H
         have p1854 : 0 ≤ (x20_2 : Int) := od_
         have q1854 : x20_2 < (t1851.length : Int) := od_
         obtain ⟨ad1854, e1854, hx1854_0⟩ := Kd.at_int (Kd.R_reads' HO_18.out).2.2 x20_2 p1854 q1854
         cases e1854
         replace p1854 := eq_true p1854
         replace q1854 := eq_true q1854
         go_wp2
         go_roundg k2
         case measure => have := HJ2.out; have := HK2.out; omega
         case rel => exact ⟨(wrap64 (x6_2 * (wrap64 (a1 + (rd t1851 x20_2))))), (wrap64 (x20_2 + 1)), tf_, tf_, H', ⟨by have := HJ2.out; have := HK2.out; omega⟩, ⟨tr_x HO_18.out⟩, ⟨tk_ BK1848⟩, ⟨tb_⟩⟩
        ·
         rw [if_neg c19] at H
         exact absurd H (by simp)
       ·
        rw [if_neg c18] at H
        exact absurd H (by simp)
      ·
       rw [if_neg c17] at H
       have c17b0 := decide_eq_false c17
       clear c17
       simp only [Option.some.injEq, Prod.mk.injEq] at H
       obtain ⟨rfl, rfl⟩ := H
       go_wp2
       go_ret2
       exact ⟨te_, tb_⟩

/-! ### spec_DrawArrowBoard: function 111 -/
def spec_DrawArrowBoard.f (l0 : List Int) : Option (Int) := (spec_l1Cur_among.f l0 0 0 (([1, 2, 3, 4, 5, 6, 7, 0, (-1)] : List Int))).bind fun bt1859 => (some bt1859.1)
theorem spec_DrawArrowBoard.calls (A0 : Option Addr) (c0 : Nat) (l0 : List Int) (r : Int) (w : World) (hr0 : Kd.C (Kd.int .u8) w A0 l0.length l0) (hc0 : l0.length ≤ c0) (h : spec_DrawArrowBoard.f l0 = some r) :
  Calls Try.prog 111 #[.slice A0 l0.length c0] w fun e w' => e = .returned (.int .i64 r) ∧ Below w.heap.size w w' := by
 have hu122 := Try.underlying122
 have HR0 := A_ hr0
 have HC0 := A_ hc0
 clear hr0 hc0
 have HB := A_ (Below.refl w.heap.size w)
 have H : ((spec_l1Cur_among.f l0 0 0 (([1, 2, 3, 4, 5, 6, 7, 0, (-1)] : List Int))).bind fun bt1859 => (some bt1859.1)) = some r := h
 clear h
 obtain ⟨y1856, hy1856⟩ : ∃ y_ : List Int, y_ = (([1, 2, 3, 4, 5, 6, 7, 0, (-1)] : List Int)) := ⟨_, rfl⟩
 replace H : ((spec_l1Cur_among.f l0 0 0 y1856).bind fun bt1859 => (some bt1859.1)) = some r := ty_ hy1856 H
 have Ny1856 := A_ hy1856
 clear hy1856
 replace H := Option.bind_eq_some_iff.mp H
 obtain ⟨⟨t1859, t1860, t1861⟩, A20, H⟩ := H
 replace H : (some t1859) = some r := H
 have A2 := A_ A20
 clear A20
 obtain rfl := Option.some.inj H
 go_enter Try.func111, Try.ntmps111
 go_wp2_with (first | (refine gd_ 6 ?_; refine bx_ 6 #[.slice A0 l0.length c0, .int .i64 0, .int .u64 0] 122 ?_; intro gb1855 hg w3 hbox hb; have HI1855 := A_ ((⟨_, _, hbox, (by rw [hg]; exact (below_size tb_)), HR0.out⟩ : IsS122 w w3 gb1855 l0 0 0)); replace HB := A_ (below_step tb_ hb); clear hb hbox hg) | (refine gd_ 8 ?_; refine Kd.R_lit (Kd.int .i64) _ 3 ?hg (N := 8) ?hd (xs := ([1, 2, 3, 4, 5, 6, 7, 0, (-1)] : List Int)) (inner := [.int .i64 1, .int .i64 2, .int .i64 3, .int .i64 4, .int .i64 5, .int .i64 6, .int .i64 7, .int .i64 0, .int .i64 (-1)]) (ok := fun _ => True) (okp := fun _ => True) ?hr ?hp (fun _ hk => hk) trivial (Below.refl _ _) (Nat.le_refl _) (by simp) ?_; (case hd => rfl); (case hg => rfl); (case hr => first | (go_simp; done) | (go_simp; rfl)); (case hp => exact (Reps.one (show Kd.M (Kd.int .i64) _ _ _ 1 [.int .i64 1] from rfl) (Reps.one (show Kd.M (Kd.int .i64) _ _ _ 2 [.int .i64 2] from rfl) (Reps.one (show Kd.M (Kd.int .i64) _ _ _ 3 [.int .i64 3] from rfl) (Reps.one (show Kd.M (Kd.int .i64) _ _ _ 4 [.int .i64 4] from rfl) (Reps.one (show Kd.M (Kd.int .i64) _ _ _ 5 [.int .i64 5] from rfl) (Reps.one (show Kd.M (Kd.int .i64) _ _ _ 6 [.int .i64 6] from rfl) (Reps.one (show Kd.M (Kd.int .i64) _ _ _ 7 [.int .i64 7] from rfl) (Reps.one (show Kd.M (Kd.int .i64) _ _ _ 0 [.int .i64 0] from rfl) (Reps.one (show Kd.M (Kd.int .i64) _ _ _ (-1) [.int .i64 (-1)] from rfl) (Reps.none _ _))))))))))); intro v1857 w4 ho5 hb hg_ hnew_; clear hg_ hnew_; (first | rw [← Ny1856.out] at ho5 | (simp only [Int.reduceToNat] at ho5; rw [← Ny1856.out] at ho5)); have HO1858 := A_ (Kd.R_lower ho5 (below_size (by repeat (first | (with_reducible first | exact HB.out | apply below_alloc | apply pw_below_drewN | apply below_drew1 | refine below_set ?_ (IsS122.ge HI1855.out)) | exact HB.out)))); replace HB := A_ (below_step (by repeat (first | (with_reducible first | exact HB.out | apply below_alloc | apply pw_below_drewN | apply below_drew1 | refine below_set ?_ (IsS122.ge HI1855.out)) | exact HB.out)) hb); replace HI1855 := A_ (IsS122.below (by repeat (first | (with_reducible first | exact HI1855.out | apply IsS122.alloc | apply IsS122.drewN | apply IsS122.drew | apply IsS122.set_1 | apply IsS122.set_2) | exact HI1855.out)) hb); clear hb ho5; obtain ⟨Ao6, co6, eo6⟩ := Kd.R_slice HO1858.out; subst eo6) | (refine gc_ 160 ?_; refine goesT_ (some 9) Try.func160 #[.pointer (some ⟨gb1855, 0, none⟩), .slice Ao6 y1856.length co6] ?_; (with_reducible refine (spec_l1Cur_among.calls gb1855 l0 0 0 _ _ y1856 t1859 t1860 t1861 w _ ?side1 ?side2 ?side3 ?side4 ?side5 A2.out).mono ?_); (case side1 => repeat (first | (with_reducible first | exact HI1855.out | apply IsS122.alloc | apply IsS122.drewN | apply IsS122.drew | apply IsS122.set_1 | apply IsS122.set_2) | exact HI1855.out)); (case side2 => repeat (first | (with_reducible first | exact HB.out | apply below_alloc | apply pw_below_drewN | apply below_drew1 | refine below_set ?_ (IsS122.ge HI1855.out)) | exact HB.out)); (case side3 => exact tc0_ (Kd.R_reads' HO1858.out).2.2); (case side4 => exact (Kd.R_reads' HO1858.out).2.1); (case side5 => exact far_slice (IsS122.own_ne HI1855.out HO1858.out (by decide))); rintro e w7 ⟨rfl, hi, hb, hk⟩; refine ⟨_, rfl, ?_⟩; replace HO1858 := A_ (Kd.R_mono (Kd.R_keep (IsS122.apart (show IsS122 w _ gb1855 l0 0 0 from by repeat (first | (with_reducible first | exact HI1855.out | apply IsS122.alloc | apply IsS122.drewN | apply IsS122.drew | apply IsS122.set_1 | apply IsS122.set_2) | exact HI1855.out)) (tr_x HO1858.out) (by decide)) hk (fun _ h => h.2)) (fun _ h => h.1)); replace HB := A_ (hb); replace HI1855 := A_ (hi); (try clear hb); (try clear hb2); (try clear hk); (try clear hi)))
 go_ret
 exact ⟨te_, by repeat (first | (with_reducible first | exact HB.out | apply below_alloc | apply pw_below_drewN | apply below_drew1 | refine below_set ?_ (IsS122.ge HI1855.out)) | exact HB.out)⟩

/-! ### spec_ArrowBoard: function 113 -/
def spec_ArrowBoard.f (k : Nat) (a0 : Int) : Option (Int × Int × List Int × Bool) := (spec_fiThings.f a0).bind fun t1863 => (if t1863 = true then ((spec_fiArrow.f k a0).bind fun bt1864 => (some (bt1864.1, bt1864.2.1, bt1864.2.2, true))) else (some (0, 0, ([] : List Int), false)))
theorem spec_ArrowBoard.mono : ∀ a0 k, LeO (spec_ArrowBoard.f k a0) (spec_ArrowBoard.f (k + 1) a0) := by
 intro a0 k
 unfold spec_ArrowBoard.f
 repeat' first | (with_reducible first | exact spec_fiArrow.mono _ _ | exact LeO.refl _ | exact LeO.none _ | refine LeO.ite ?_ ?_ | refine LeO.bind ?_ (fun _ => ?_)) | exact spec_fiArrow.mono _ _ | exact LeO.none _ | refine LeO.ite ?_ ?_ | refine LeO.bind ?_ (fun _ => ?_)
theorem spec_ArrowBoard.calls (k : Nat) (a0 : Int) (r1 : Int) (r2 : Int) (r3 : List Int) (r4 : Bool) (w : World) (h : spec_ArrowBoard.f k a0 = some (r1, r2, r3, r4)) :
  Calls Try.prog 113 #[.int .i64 a0] w fun e w' => ∃ v2_ : Value, e = .returned (.tuple #[.agg #[.int .i64 r1, .int .i64 r2, v2_], .bool r4]) ∧ Kd.R (Kd.int .i64) 3 w' w.heap.size (fun _ => True) v2_ r3 ∧ Below w.heap.size w w' := by
 have hu28 := Try.underlying28
 have HB := A_ (Below.refl w.heap.size w)
 have H : ((spec_fiThings.f a0).bind fun t1863 => (if t1863 = true then ((spec_fiArrow.f k a0).bind fun bt1864 => (some (bt1864.1, bt1864.2.1, bt1864.2.2, true))) else (some (0, 0, ([] : List Int), false)))) = some (r1, r2, r3, r4) := h
 clear h
 replace H := Option.bind_eq_some_iff.mp H
 obtain ⟨t1863, A20, H⟩ := H
 replace H : (if t1863 = true then ((spec_fiArrow.f k a0).bind fun bt1864 => (some (bt1864.1, bt1864.2.1, bt1864.2.2, true))) else (some (0, 0, ([] : List Int), false))) = some (r1, r2, r3, r4) := H
 have A2 := A_ A20
 clear A20
 by_cases c3 : t1863 = true
 ·
  subst c3
  have H1 : ((spec_fiArrow.f k a0).bind fun bt1864 => (some (bt1864.1, bt1864.2.1, bt1864.2.2, true))) = some (r1, r2, r3, r4) := by rw [if_pos rfl] at H; exact H
  clear H
  have H := H1
  clear H1
  replace H := Option.bind_eq_some_iff.mp H
  obtain ⟨⟨t1864, t1865, t1866⟩, A40, H⟩ := H
  replace H : (some (t1864, t1865, t1866, true)) = some (r1, r2, r3, r4) := H
  have A4 := A_ A40
  clear A40
  simp only [Option.some.injEq, Prod.mk.injEq] at H
  obtain ⟨rfl, rfl, rfl, rfl⟩ := H
  go_enter Try.func113, Try.ntmps113
  go_wp2_with (first | (refine gd_ 2 ?_; refine bx_ 2 #[.int .i64 0, .int .i64 0, .slice none 0 0] 28 ?_; intro gb1862 hg w5 hbox hb; have BK1862 := A_ (hbox); have GW1862 := A_ ((ts_ hg : w.heap.size ≤ gb1862)); have GE1862 := A_ ((ts_ hg : w.heap.size ≤ gb1862)); replace HB := A_ (below_step tb_ hb); clear hb hbox hg) | (refine gc_ 147 ?_; refine goesT_ (some 5) Try.func147 #[.int .i64 a0] ?_; (with_reducible refine (spec_fiThings.calls a0 true _ A2.out).mono ?_); rintro e w' ⟨rfl, ⟨nd, rfl⟩⟩; refine ⟨_, rfl, ?_⟩; (try (rw [drewN_self w5]; generalize hq_ : World.drewN w5 _ = w5; have n0_ : Aside0 (w5.heap[gb1862]? = some (.cells #[.int .i64 0, .int .i64 0, .slice none 0 0] 28 (0, 0))) := ⟨by rw [← hq_]; exact (tk_ BK1862)⟩; have n1_ : Aside0 (Below w.heap.size w w5) := ⟨by rw [← hq_]; exact tb_⟩; clear BK1862 HB hq_; have BK1862 := n0_; have HB := n1_; clear n0_ n1_))) | (refine gc_ 149 ?_; refine goesT_ (some 9) Try.func149 #[.int .i64 a0] ?_; (with_reducible refine (spec_fiArrow.calls k a0 t1864 t1865 t1866 _ A4.out).mono ?_); rintro e w6 ⟨v1867, rfl, ho0, hb⟩; refine ⟨_, rfl, ?_⟩; have HO1868 := A_ (Kd.R_lower ho0 (below_size tb_)); replace BK1862 := A_ (blk_below (g := gb1862) (o := .cells #[.int .i64 0, .int .i64 0, .slice none 0 0] 28 (0, 0)) (tk_ BK1862) hb); replace HB := A_ (below_step tb_ hb); (try clear hb); (try clear ho0); obtain ⟨hcz7_0, hcz7_1, hcz7_2, hfz7_0, hfz7_1, hfz7_2⟩ := cf3_ BK1862.out; obtain ⟨Ao8, co8, eo8⟩ := Kd.R_slice HO1868.out; subst eo8))
  refine bodyPost_ret (results_ct rfl _ _ gb1862 28 #[.int .i64 t1864, .int .i64 t1865, .slice Ao8 t1866.length co8] (0, 0) _ rfl (by (with_reducible repeat (first | refine blk_drewN ?_ _ | refine blk_drew ?_ | refine blk_alloc ?_ _)); refine blk_put (cs := #[.int .i64 t1864, .int .i64 t1865, .slice none 0 0]) ?_ 2 _ rfl; (with_reducible repeat (first | refine blk_drewN ?_ _ | refine blk_drew ?_ | refine blk_alloc ?_ _)); refine blk_put (cs := #[.int .i64 t1864, .int .i64 0, .slice none 0 0]) ?_ 1 _ rfl; (with_reducible repeat (first | refine blk_drewN ?_ _ | refine blk_drew ?_ | refine blk_alloc ?_ _)); refine blk_put (cs := #[.int .i64 0, .int .i64 0, .slice none 0 0]) ?_ 0 _ rfl; (with_reducible repeat (first | refine blk_drewN ?_ _ | refine blk_drew ?_ | refine blk_alloc ?_ _)); exact BK1862.out) Try.underlying28 rfl (by kernel_rfl)) rfl ?_
  exact ⟨_, te_, by (with_reducible repeat (first | apply Kd.R_alloc | apply Kd.R_drewN | apply Kd.R_drew)); exact Kd.R_mono (Kd.R_far (p := ⟨gb1862, 2, none⟩) (Kd.R_far (p := ⟨gb1862, 1, none⟩) (Kd.R_far (p := ⟨gb1862, 0, none⟩) (Kd.R_types HO1868.out BK1862.out (by decide)) (fun _ hk => hk.2) (.int .i64 t1864)) (fun _ hk => hk.2) (.int .i64 t1865)) (fun _ hk => hk.2) (.slice Ao8 t1866.length co8)) (fun _ hk => trivial), tb_⟩
 ·
  replace c3 := Bool.eq_false_iff.mpr c3
  subst c3
  have H1 : (some (0, 0, ([] : List Int), false)) = some (r1, r2, r3, r4) := by rw [if_neg (show ¬ (false = true) by decide)] at H; exact H
  clear H
  have H := H1
  clear H1
  simp only [Option.some.injEq, Prod.mk.injEq] at H
  obtain ⟨rfl, rfl, rfl, rfl⟩ := H
  go_enter Try.func113, Try.ntmps113
  go_wp2_with (first | (refine gd_ 2 ?_; refine bx_ 2 #[.int .i64 0, .int .i64 0, .slice none 0 0] 28 ?_; intro gb1862 hg w9 hbox hb; have BK1862 := A_ (hbox); have GW1862 := A_ ((ts_ hg : w.heap.size ≤ gb1862)); have GE1862 := A_ ((ts_ hg : w.heap.size ≤ gb1862)); replace HB := A_ (below_step tb_ hb); clear hb hbox hg) | (refine gc_ 147 ?_; refine goesT_ (some 5) Try.func147 #[.int .i64 a0] ?_; (with_reducible refine (spec_fiThings.calls a0 false _ A2.out).mono ?_); rintro e w' ⟨rfl, ⟨nd, rfl⟩⟩; refine ⟨_, rfl, ?_⟩; (try (rw [drewN_self w9]; generalize hq_ : World.drewN w9 _ = w9; have n0_ : Aside0 (w9.heap[gb1862]? = some (.cells #[.int .i64 0, .int .i64 0, .slice none 0 0] 28 (0, 0))) := ⟨by rw [← hq_]; exact (tk_ BK1862)⟩; have n1_ : Aside0 (Below w.heap.size w w9) := ⟨by rw [← hq_]; exact tb_⟩; clear BK1862 HB hq_; have BK1862 := n0_; have HB := n1_; clear n0_ n1_)); obtain ⟨hcz10_0, hcz10_1, hcz10_2, hfz10_0, hfz10_1, hfz10_2⟩ := cf3_ BK1862.out))
  refine bodyPost_ret (results_ct rfl _ _ gb1862 28 #[.int .i64 0, .int .i64 0, .slice none 0 0] (0, 0) _ rfl (by (with_reducible repeat (first | refine blk_drewN ?_ _ | refine blk_drew ?_ | refine blk_alloc ?_ _)); refine blk_put (cs := #[.int .i64 0, .int .i64 0, .slice none 0 0]) ?_ 2 _ rfl; (with_reducible repeat (first | refine blk_drewN ?_ _ | refine blk_drew ?_ | refine blk_alloc ?_ _)); refine blk_put (cs := #[.int .i64 0, .int .i64 0, .slice none 0 0]) ?_ 1 _ rfl; (with_reducible repeat (first | refine blk_drewN ?_ _ | refine blk_drew ?_ | refine blk_alloc ?_ _)); refine blk_put (cs := #[.int .i64 0, .int .i64 0, .slice none 0 0]) ?_ 0 _ rfl; (with_reducible repeat (first | refine blk_drewN ?_ _ | refine blk_drew ?_ | refine blk_alloc ?_ _)); exact BK1862.out) Try.underlying28 rfl (by kernel_rfl)) rfl ?_
  exact ⟨_, te_, by first | exact Kd.R_nil _ _ _ _ _ | exact Kd.N_nil _ _ _ _ _ | exact Kd.V_nil _ _ _ _ _ | exact Kd.Q_nil _ _ _ _ _ | exact Kd.S_nil _ _ _ _ _, tb_⟩

/-! ### laws_kBoard: function 114 -/
def laws_kBoard.f (k : Nat) (a0_0 : Int) (a0_1 : Int) (l0_2 : List Int) (a1_0 : Int) (a1_1 : Int) (l1_2 : List Int) : Option (Bool) := if a0_0 = a1_0 then (if a0_1 = a1_1 then ((laws_kSame.f k l0_2 l1_2).bind fun t1871 => (some t1871)) else (some false)) else (some false)
theorem laws_kBoard.mono : ∀ a0 a1 a2 a3 a4 a5 k, LeO (laws_kBoard.f k a0 a1 a2 a3 a4 a5) (laws_kBoard.f (k + 1) a0 a1 a2 a3 a4 a5) := by
 intro a0 a1 a2 a3 a4 a5 k
 unfold laws_kBoard.f
 repeat' first | (with_reducible first | exact laws_kSame.mono _ _ _ | exact LeO.refl _ | exact LeO.none _ | refine LeO.ite ?_ ?_ | refine LeO.bind ?_ (fun _ => ?_)) | exact laws_kSame.mono _ _ _ | exact LeO.none _ | refine LeO.ite ?_ ?_ | refine LeO.bind ?_ (fun _ => ?_)
theorem laws_kBoard.calls (k : Nat) (a0_0 : Int) (a0_1 : Int) (A0_2 : Option Addr) (c0_2 : Nat) (l0_2 : List Int) (a1_0 : Int) (a1_1 : Int) (A1_2 : Option Addr) (c1_2 : Nat) (l1_2 : List Int) (r : Bool) (w : World) (hr0_2 : Kd.C (Kd.int .i64) w A0_2 l0_2.length l0_2) (hc0_2 : l0_2.length ≤ c0_2) (hr1_2 : Kd.C (Kd.int .i64) w A1_2 l1_2.length l1_2) (hc1_2 : l1_2.length ≤ c1_2) (h : laws_kBoard.f k a0_0 a0_1 l0_2 a1_0 a1_1 l1_2 = some r) :
  Calls Try.prog 114 #[.agg #[.int .i64 a0_0, .int .i64 a0_1, .slice A0_2 l0_2.length c0_2], .agg #[.int .i64 a1_0, .int .i64 a1_1, .slice A1_2 l1_2.length c1_2]] w fun e w' => e = .returned (.bool r) ∧ Below w.heap.size w w' := by
 have hu28 := Try.underlying28
 have HR0_2 := A_ hr0_2
 have HC0_2 := A_ hc0_2
 clear hr0_2 hc0_2
 have HR1_2 := A_ hr1_2
 have HC1_2 := A_ hc1_2
 clear hr1_2 hc1_2
 have HB := A_ (Below.refl w.heap.size w)
 have H : (if a0_0 = a1_0 then (if a0_1 = a1_1 then ((laws_kSame.f k l0_2 l1_2).bind fun t1871 => (some t1871)) else (some false)) else (some false)) = some r := h
 clear h
 by_cases c3 : a0_0 = a1_0
 ·
  rw [if_pos c3] at H
  have c3b0 : (a0_0 == a1_0) = true := beq_iff_eq.mpr c3
  have c3b1 : (a0_0 != a1_0) = false := bne_eq_false_iff_eq.mpr c3
  clear c3
  by_cases c4 : a0_1 = a1_1
  ·
   rw [if_pos c4] at H
   have c4b0 : (a0_1 == a1_1) = true := beq_iff_eq.mpr c4
   have c4b1 : (a0_1 != a1_1) = false := bne_eq_false_iff_eq.mpr c4
   clear c4
   replace H := Option.bind_eq_some_iff.mp H
   obtain ⟨t1871, A50, H⟩ := H
   replace H : (some t1871) = some r := H
   have A5 := A_ A50
   clear A50
   obtain rfl := Option.some.inj H
   go_enter Try.func114, Try.ntmps114
   go_wp2_with (first | (refine gd_ 2 ?_; refine bx_ 2 #[.int .i64 a0_0, .int .i64 a0_1, .slice A0_2 l0_2.length c0_2] 28 ?_; intro gb1869 hg w6 hbox hb; have BK1869 := A_ (hbox); have GW1869 := A_ ((ts_ hg : w.heap.size ≤ gb1869)); have GE1869 := A_ ((ts_ hg : w.heap.size ≤ gb1869)); replace HB := A_ (below_step tb_ hb); clear hb hbox hg) | (refine gd_ 3 ?_; refine bx_ 3 #[.int .i64 a1_0, .int .i64 a1_1, .slice A1_2 l1_2.length c1_2] 28 ?_; intro gb1870 hg w7 hbox hb; have BK1870 := A_ (hbox); have GW1870 := A_ ((ts_ hg : w.heap.size ≤ gb1870)); have GE1870 := A_ ((ts_ hg : w.heap.size ≤ gb1870)); replace HB := A_ (below_step tb_ hb); have NB1869_1870 := A_ ((by rw [hg]; exact Nat.ne_of_lt (blk_lt (g := gb1869) (o := .cells #[.int .i64 a0_0, .int .i64 a0_1, .slice A0_2 l0_2.length c0_2] 28 (0, 0)) (tk_ BK1869)) : gb1869 ≠ gb1870)); have NB1870_1869 := A_ ((by rw [hg]; exact Nat.ne_of_gt (blk_lt (g := gb1869) (o := .cells #[.int .i64 a0_0, .int .i64 a0_1, .slice A0_2 l0_2.length c0_2] 28 (0, 0)) (tk_ BK1869)) : gb1870 ≠ gb1869)); replace BK1869 := A_ (blk_below (g := gb1869) (o := .cells #[.int .i64 a0_0, .int .i64 a0_1, .slice A0_2 l0_2.length c0_2] 28 (0, 0)) (tk_ BK1869) hb); clear hb hbox hg; have hnb8 := NB1869_1870.out; have hnc8 := NB1870_1869.out; obtain ⟨hcz9_0, hcz9_1, hcz9_2, hfz9_0, hfz9_1, hfz9_2⟩ := cf3_ BK1869.out; obtain ⟨hcz10_0, hcz10_1, hcz10_2, hfz10_0, hfz10_1, hfz10_2⟩ := cf3_ BK1870.out) | (go_at_call 56; (with_reducible refine (laws_kSame.calls k _ _ l0_2 _ _ l1_2 t1871 _ ?side1 ?side2 ?side3 ?side4 A5.out).mono ?_); (case side1 => exact tc_ HR0_2.out); (case side2 => exact HC0_2.out); (case side3 => exact tc_ HR1_2.out); (case side4 => exact HC1_2.out); rintro e w' ⟨rfl, ⟨nd, rfl⟩⟩))
   go_ret
   exact ⟨te_, tb_⟩
  ·
   rw [if_neg c4] at H
   have c4b0 : (a0_1 == a1_1) = false := beq_eq_false_iff_ne.mpr c4
   have c4b1 : (a0_1 != a1_1) = true := bne_iff_ne.mpr c4
   obtain rfl := Option.some.inj H
   go_enter Try.func114, Try.ntmps114
   go_wp2_with (first | (refine gd_ 2 ?_; refine bx_ 2 #[.int .i64 a0_0, .int .i64 a0_1, .slice A0_2 l0_2.length c0_2] 28 ?_; intro gb1869 hg w11 hbox hb; have BK1869 := A_ (hbox); have GW1869 := A_ ((ts_ hg : w.heap.size ≤ gb1869)); have GE1869 := A_ ((ts_ hg : w.heap.size ≤ gb1869)); replace HB := A_ (below_step tb_ hb); clear hb hbox hg) | (refine gd_ 3 ?_; refine bx_ 3 #[.int .i64 a1_0, .int .i64 a1_1, .slice A1_2 l1_2.length c1_2] 28 ?_; intro gb1870 hg w12 hbox hb; have BK1870 := A_ (hbox); have GW1870 := A_ ((ts_ hg : w.heap.size ≤ gb1870)); have GE1870 := A_ ((ts_ hg : w.heap.size ≤ gb1870)); replace HB := A_ (below_step tb_ hb); have NB1869_1870 := A_ ((by rw [hg]; exact Nat.ne_of_lt (blk_lt (g := gb1869) (o := .cells #[.int .i64 a0_0, .int .i64 a0_1, .slice A0_2 l0_2.length c0_2] 28 (0, 0)) (tk_ BK1869)) : gb1869 ≠ gb1870)); have NB1870_1869 := A_ ((by rw [hg]; exact Nat.ne_of_gt (blk_lt (g := gb1869) (o := .cells #[.int .i64 a0_0, .int .i64 a0_1, .slice A0_2 l0_2.length c0_2] 28 (0, 0)) (tk_ BK1869)) : gb1870 ≠ gb1869)); replace BK1869 := A_ (blk_below (g := gb1869) (o := .cells #[.int .i64 a0_0, .int .i64 a0_1, .slice A0_2 l0_2.length c0_2] 28 (0, 0)) (tk_ BK1869) hb); clear hb hbox hg; have hnb13 := NB1869_1870.out; have hnc13 := NB1870_1869.out; obtain ⟨hcz14_0, hcz14_1, hcz14_2, hfz14_0, hfz14_1, hfz14_2⟩ := cf3_ BK1869.out; obtain ⟨hcz15_0, hcz15_1, hcz15_2, hfz15_0, hfz15_1, hfz15_2⟩ := cf3_ BK1870.out))
   go_ret
   exact ⟨te_, tb_⟩
 ·
  rw [if_neg c3] at H
  have c3b0 : (a0_0 == a1_0) = false := beq_eq_false_iff_ne.mpr c3
  have c3b1 : (a0_0 != a1_0) = true := bne_iff_ne.mpr c3
  obtain rfl := Option.some.inj H
  go_enter Try.func114, Try.ntmps114
  go_wp2_with (first | (refine gd_ 2 ?_; refine bx_ 2 #[.int .i64 a0_0, .int .i64 a0_1, .slice A0_2 l0_2.length c0_2] 28 ?_; intro gb1869 hg w16 hbox hb; have BK1869 := A_ (hbox); have GW1869 := A_ ((ts_ hg : w.heap.size ≤ gb1869)); have GE1869 := A_ ((ts_ hg : w.heap.size ≤ gb1869)); replace HB := A_ (below_step tb_ hb); clear hb hbox hg) | (refine gd_ 3 ?_; refine bx_ 3 #[.int .i64 a1_0, .int .i64 a1_1, .slice A1_2 l1_2.length c1_2] 28 ?_; intro gb1870 hg w17 hbox hb; have BK1870 := A_ (hbox); have GW1870 := A_ ((ts_ hg : w.heap.size ≤ gb1870)); have GE1870 := A_ ((ts_ hg : w.heap.size ≤ gb1870)); replace HB := A_ (below_step tb_ hb); have NB1869_1870 := A_ ((by rw [hg]; exact Nat.ne_of_lt (blk_lt (g := gb1869) (o := .cells #[.int .i64 a0_0, .int .i64 a0_1, .slice A0_2 l0_2.length c0_2] 28 (0, 0)) (tk_ BK1869)) : gb1869 ≠ gb1870)); have NB1870_1869 := A_ ((by rw [hg]; exact Nat.ne_of_gt (blk_lt (g := gb1869) (o := .cells #[.int .i64 a0_0, .int .i64 a0_1, .slice A0_2 l0_2.length c0_2] 28 (0, 0)) (tk_ BK1869)) : gb1870 ≠ gb1869)); replace BK1869 := A_ (blk_below (g := gb1869) (o := .cells #[.int .i64 a0_0, .int .i64 a0_1, .slice A0_2 l0_2.length c0_2] 28 (0, 0)) (tk_ BK1869) hb); clear hb hbox hg; have hnb18 := NB1869_1870.out; have hnc18 := NB1870_1869.out; obtain ⟨hcz19_0, hcz19_1, hcz19_2, hfz19_0, hfz19_1, hfz19_2⟩ := cf3_ BK1869.out; obtain ⟨hcz20_0, hcz20_1, hcz20_2, hfz20_0, hfz20_1, hfz20_2⟩ := cf3_ BK1870.out))
  go_ret
  exact ⟨te_, tb_⟩

/-! ### impl_RookNumbers: function 115 -/
def impl_RookNumbers.f (k : Nat) (a0_0 : Int) (a0_1 : Int) (l0_2 : List Int) : Option (List Int × Bool) := (impl_IsBoard.f a0_0 a0_1 l0_2).bind fun t1873 => (if t1873 = true then ((impl_Board_numbers.f k a0_0 a0_1 l0_2).bind fun t1874 => (some (t1874, true))) else (some (([] : List Int), false)))
theorem impl_RookNumbers.mono : ∀ a0 a1 a2 k, LeO (impl_RookNumbers.f k a0 a1 a2) (impl_RookNumbers.f (k + 1) a0 a1 a2) := by
 intro a0 a1 a2 k
 unfold impl_RookNumbers.f
 repeat' first | (with_reducible first | exact impl_Board_numbers.mono _ _ _ _ | exact LeO.refl _ | exact LeO.none _ | refine LeO.ite ?_ ?_ | refine LeO.bind ?_ (fun _ => ?_)) | exact impl_Board_numbers.mono _ _ _ _ | exact LeO.none _ | refine LeO.ite ?_ ?_ | refine LeO.bind ?_ (fun _ => ?_)
theorem impl_RookNumbers.calls (k : Nat) (a0_0 : Int) (a0_1 : Int) (A0_2 : Option Addr) (c0_2 : Nat) (l0_2 : List Int) (r1 : List Int) (r2 : Bool) (w : World) (hr0_2 : Kd.C (Kd.int .i64) w A0_2 l0_2.length l0_2) (hc0_2 : l0_2.length ≤ c0_2) (h : impl_RookNumbers.f k a0_0 a0_1 l0_2 = some (r1, r2)) :
  Calls Try.prog 115 #[.agg #[.int .i64 a0_0, .int .i64 a0_1, .slice A0_2 l0_2.length c0_2]] w fun e w' => ∃ v0_ : Value, e = .returned (.tuple #[v0_, .bool r2]) ∧ Kd.R (Kd.int .i64) 3 w' w.heap.size (fun _ => True) v0_ r1 ∧ Below w.heap.size w w' := by
 have hu28 := Try.underlying28
 have HR0_2 := A_ hr0_2
 have HC0_2 := A_ hc0_2
 clear hr0_2 hc0_2
 have HB := A_ (Below.refl w.heap.size w)
 have H : ((impl_IsBoard.f a0_0 a0_1 l0_2).bind fun t1873 => (if t1873 = true then ((impl_Board_numbers.f k a0_0 a0_1 l0_2).bind fun t1874 => (some (t1874, true))) else (some (([] : List Int), false)))) = some (r1, r2) := h
 clear h
 replace H := Option.bind_eq_some_iff.mp H
 obtain ⟨t1873, A20, H⟩ := H
 replace H : (if t1873 = true then ((impl_Board_numbers.f k a0_0 a0_1 l0_2).bind fun t1874 => (some (t1874, true))) else (some (([] : List Int), false))) = some (r1, r2) := H
 have A2 := A_ A20
 clear A20
 by_cases c3 : t1873 = true
 ·
  subst c3
  have H1 : ((impl_Board_numbers.f k a0_0 a0_1 l0_2).bind fun t1874 => (some (t1874, true))) = some (r1, r2) := by rw [if_pos rfl] at H; exact H
  clear H
  have H := H1
  clear H1
  replace H := Option.bind_eq_some_iff.mp H
  obtain ⟨t1874, A40, H⟩ := H
  replace H : (some (t1874, true)) = some (r1, r2) := H
  have A4 := A_ A40
  clear A40
  simp only [Option.some.injEq, Prod.mk.injEq] at H
  obtain ⟨rfl, rfl⟩ := H
  go_enter Try.func115, Try.ntmps115
  go_wp2_with (first | (refine gd_ 1 ?_; refine bx_ 1 #[.int .i64 a0_0, .int .i64 a0_1, .slice A0_2 l0_2.length c0_2] 28 ?_; intro gb1872 hg w5 hbox hb; have BK1872 := A_ (hbox); have GW1872 := A_ ((ts_ hg : w.heap.size ≤ gb1872)); have GE1872 := A_ ((ts_ hg : w.heap.size ≤ gb1872)); replace HB := A_ (below_step tb_ hb); clear hb hbox hg; obtain ⟨hcz6_0, hcz6_1, hcz6_2, hfz6_0, hfz6_1, hfz6_2⟩ := cf3_ BK1872.out) | (refine gc_ 125 ?_; refine goesT_ (some 5) Try.func125 #[.agg #[.int .i64 a0_0, .int .i64 a0_1, .slice A0_2 l0_2.length c0_2]] ?_; (with_reducible refine (impl_IsBoard.calls a0_0 a0_1 _ _ l0_2 true _ ?side1 ?side2 A2.out).mono ?_); (case side1 => exact tc_ HR0_2.out); (case side2 => exact HC0_2.out); rintro e w7 ⟨rfl, hb⟩; refine ⟨_, rfl, ?_⟩; replace BK1872 := A_ (blk_below (g := gb1872) (o := .cells #[.int .i64 a0_0, .int .i64 a0_1, .slice A0_2 l0_2.length c0_2] 28 (0, 0)) (tk_ BK1872) hb); replace HB := A_ (below_step tb_ hb); (try clear hb); obtain ⟨hcz8_0, hcz8_1, hcz8_2, hfz8_0, hfz8_1, hfz8_2⟩ := cf3_ BK1872.out) | (refine gc_ 130 ?_; refine goesT_ (some 8) Try.func130 #[.agg #[.int .i64 a0_0, .int .i64 a0_1, .slice A0_2 l0_2.length c0_2]] ?_; (with_reducible refine (impl_Board_numbers.calls k a0_0 a0_1 _ _ l0_2 t1874 _ ?side1 ?side2 A4.out).mono ?_); (case side1 => exact tc_ HR0_2.out); (case side2 => exact HC0_2.out); rintro e w9 ⟨v1875, rfl, ho0, hb⟩; refine ⟨_, rfl, ?_⟩; have HO1876 := A_ (Kd.R_lower ho0 (below_size tb_)); replace BK1872 := A_ (blk_below (g := gb1872) (o := .cells #[.int .i64 a0_0, .int .i64 a0_1, .slice A0_2 l0_2.length c0_2] 28 (0, 0)) (tk_ BK1872) hb); replace HB := A_ (below_step tb_ hb); (try clear hb); (try clear ho0)))
  go_ret2
  exact ⟨_, te_, tr_x HO1876.out, tb_⟩
 ·
  replace c3 := Bool.eq_false_iff.mpr c3
  subst c3
  have H1 : (some (([] : List Int), false)) = some (r1, r2) := by rw [if_neg (show ¬ (false = true) by decide)] at H; exact H
  clear H
  have H := H1
  clear H1
  simp only [Option.some.injEq, Prod.mk.injEq] at H
  obtain ⟨rfl, rfl⟩ := H
  go_enter Try.func115, Try.ntmps115
  go_wp2_with (first | (refine gd_ 1 ?_; refine bx_ 1 #[.int .i64 a0_0, .int .i64 a0_1, .slice A0_2 l0_2.length c0_2] 28 ?_; intro gb1872 hg w10 hbox hb; have BK1872 := A_ (hbox); have GW1872 := A_ ((ts_ hg : w.heap.size ≤ gb1872)); have GE1872 := A_ ((ts_ hg : w.heap.size ≤ gb1872)); replace HB := A_ (below_step tb_ hb); clear hb hbox hg; obtain ⟨hcz11_0, hcz11_1, hcz11_2, hfz11_0, hfz11_1, hfz11_2⟩ := cf3_ BK1872.out) | (refine gc_ 125 ?_; refine goesT_ (some 5) Try.func125 #[.agg #[.int .i64 a0_0, .int .i64 a0_1, .slice A0_2 l0_2.length c0_2]] ?_; (with_reducible refine (impl_IsBoard.calls a0_0 a0_1 _ _ l0_2 false _ ?side1 ?side2 A2.out).mono ?_); (case side1 => exact tc_ HR0_2.out); (case side2 => exact HC0_2.out); rintro e w12 ⟨rfl, hb⟩; refine ⟨_, rfl, ?_⟩; replace BK1872 := A_ (blk_below (g := gb1872) (o := .cells #[.int .i64 a0_0, .int .i64 a0_1, .slice A0_2 l0_2.length c0_2] 28 (0, 0)) (tk_ BK1872) hb); replace HB := A_ (below_step tb_ hb); (try clear hb)))
  go_ret2
  exact ⟨_, te_, by first | exact Kd.R_nil _ _ _ _ _ | exact Kd.N_nil _ _ _ _ _ | exact Kd.V_nil _ _ _ _ _ | exact Kd.Q_nil _ _ _ _ _ | exact Kd.S_nil _ _ _ _ _, tb_⟩

/-! ### impl_IsFilePlacement_1: function 216 -/
def impl_IsFilePlacement_1.f (a0 : Int) : Option (Bool) := (impl_within.f a0 (-1) 999).bind fun t1916 => (some (!t1916))
theorem impl_IsFilePlacement_1.calls (a0 : Int) (r : Bool) (w : World) (h : impl_IsFilePlacement_1.f a0 = some r) :
  Calls Try.prog 216 #[.int .i64 a0] w fun e w' => e = .returned (.bool r) ∧ Drawn0 w w' := by
 have H : ((impl_within.f a0 (-1) 999).bind fun t1916 => (some (!t1916))) = some r := h
 clear h
 replace H := Option.bind_eq_some_iff.mp H
 obtain ⟨t1916, A20, H⟩ := H
 replace H : (some (!t1916)) = some r := H
 have A2 := A_ A20
 clear A20
 obtain rfl := Option.some.inj H
 go_enter Try.func216, Try.ntmps216
 go_wp2_with (first | (refine gc_ 139 ?_; refine goesT_ (some 4) Try.func139 #[.int .i64 a0, .int .i64 (-1), .int .i64 999] ?_; (with_reducible refine (impl_within.calls a0 (-1) 999 t1916 _ A2.out).mono ?_); rintro e w' ⟨rfl, ⟨nd, rfl⟩⟩; refine ⟨_, rfl, ?_⟩))
 go_ret
 exact ⟨tf_, dr_⟩

def impl_IsFilePlacement_1.fn : FnT43 := fun a0 => impl_IsFilePlacement_1.f a0
theorem impl_IsFilePlacement_1.fnok (w : World) : FnOk43 w (.func (.func 216) #[] #[]) impl_IsFilePlacement_1.fn := fun a0 r W h _ => ⟨216, #[], _, rfl, Try.func216, by kernel_rfl, rfl, by simpa using (impl_IsFilePlacement_1.calls a0 r W h).mono fun e w' ⟨he, hd⟩ => ⟨he, hd.below⟩⟩

/-! ### impl_IsFilePlacement: function 117 -/
def impl_IsFilePlacement.f (k : Nat) (a0_0 : Int) (a0_1 : Int) (l0_2 : List Int) (l1 : List Int) : Option (Bool × Bool) := (impl_IsBoard.f a0_0 a0_1 l0_2).bind fun t1918 => (if t1918 = true then (if (l1.length : Int) = a0_1 then ((slices_ContainsFunc_int_int_215.f k l1 impl_IsFilePlacement_1.fn).bind fun t1919 => (if t1919 = true then (some (false, false)) else ((impl_Board_isFile.f k a0_0 a0_1 l0_2 l1).bind fun t1920 => (some (t1920, true))))) else (some (false, false))) else (some (false, false)))
theorem impl_IsFilePlacement.mono : ∀ a0 a1 a2 a3 k, LeO (impl_IsFilePlacement.f k a0 a1 a2 a3) (impl_IsFilePlacement.f (k + 1) a0 a1 a2 a3) := by
 intro a0 a1 a2 a3 k
 unfold impl_IsFilePlacement.f
 repeat' first | (with_reducible first | exact impl_Board_isFile.mono _ _ _ _ _ | exact slices_ContainsFunc_int_int_215.mono _ _ _ | exact LeO.refl _ | exact LeO.none _ | refine LeO.ite ?_ ?_ | refine LeO.bind ?_ (fun _ => ?_)) | exact impl_Board_isFile.mono _ _ _ _ _ | exact slices_ContainsFunc_int_int_215.mono _ _ _ | exact LeO.none _ | refine LeO.ite ?_ ?_ | refine LeO.bind ?_ (fun _ => ?_)
theorem impl_IsFilePlacement.calls (k : Nat) (a0_0 : Int) (a0_1 : Int) (A0_2 : Option Addr) (c0_2 : Nat) (l0_2 : List Int) (A1 : Option Addr) (c1 : Nat) (l1 : List Int) (r1 : Bool) (r2 : Bool) (w : World) (hr0_2 : Kd.C (Kd.int .i64) w A0_2 l0_2.length l0_2) (hc0_2 : l0_2.length ≤ c0_2) (hr1 : Kd.C (Kd.int .i64) w A1 l1.length l1) (hc1 : l1.length ≤ c1) (h : impl_IsFilePlacement.f k a0_0 a0_1 l0_2 l1 = some (r1, r2)) :
  Calls Try.prog 117 #[.agg #[.int .i64 a0_0, .int .i64 a0_1, .slice A0_2 l0_2.length c0_2], .slice A1 l1.length c1] w fun e w' => e = .returned (.tuple #[.bool r1, .bool r2]) ∧ Below w.heap.size w w' := by
 have hu28 := Try.underlying28
 have HR0_2 := A_ hr0_2
 have HC0_2 := A_ hc0_2
 clear hr0_2 hc0_2
 have HR1 := A_ hr1
 have HC1 := A_ hc1
 clear hr1 hc1
 have HB := A_ (Below.refl w.heap.size w)
 have H : ((impl_IsBoard.f a0_0 a0_1 l0_2).bind fun t1918 => (if t1918 = true then (if (l1.length : Int) = a0_1 then ((slices_ContainsFunc_int_int_215.f k l1 impl_IsFilePlacement_1.fn).bind fun t1919 => (if t1919 = true then (some (false, false)) else ((impl_Board_isFile.f k a0_0 a0_1 l0_2 l1).bind fun t1920 => (some (t1920, true))))) else (some (false, false))) else (some (false, false)))) = some (r1, r2) := h
 clear h
 replace H := Option.bind_eq_some_iff.mp H
 obtain ⟨t1918, A30, H⟩ := H
 replace H : (if t1918 = true then (if (l1.length : Int) = a0_1 then ((slices_ContainsFunc_int_int_215.f k l1 impl_IsFilePlacement_1.fn).bind fun t1919 => (if t1919 = true then (some (false, false)) else ((impl_Board_isFile.f k a0_0 a0_1 l0_2 l1).bind fun t1920 => (some (t1920, true))))) else (some (false, false))) else (some (false, false))) = some (r1, r2) := H
 have A3 := A_ A30
 clear A30
 by_cases c4 : t1918 = true
 ·
  subst c4
  have H1 : (if (l1.length : Int) = a0_1 then ((slices_ContainsFunc_int_int_215.f k l1 impl_IsFilePlacement_1.fn).bind fun t1919 => (if t1919 = true then (some (false, false)) else ((impl_Board_isFile.f k a0_0 a0_1 l0_2 l1).bind fun t1920 => (some (t1920, true))))) else (some (false, false))) = some (r1, r2) := by rw [if_pos rfl] at H; exact H
  clear H
  have H := H1
  clear H1
  by_cases c5 : (l1.length : Int) = a0_1
  ·
   rw [if_pos c5] at H
   have c5b0 : ((l1.length : Int) == a0_1) = true := beq_iff_eq.mpr c5
   have c5b1 : ((l1.length : Int) != a0_1) = false := bne_eq_false_iff_eq.mpr c5
   clear c5
   replace H := Option.bind_eq_some_iff.mp H
   obtain ⟨t1919, A60, H⟩ := H
   replace H : (if t1919 = true then (some (false, false)) else ((impl_Board_isFile.f k a0_0 a0_1 l0_2 l1).bind fun t1920 => (some (t1920, true)))) = some (r1, r2) := H
   have A6 := A_ A60
   clear A60
   by_cases c7 : t1919 = true
   ·
    subst c7
    have H1 : (some (false, false)) = some (r1, r2) := by rw [if_pos rfl] at H; exact H
    clear H
    have H := H1
    clear H1
    simp only [Option.some.injEq, Prod.mk.injEq] at H
    obtain ⟨rfl, rfl⟩ := H
    go_enter Try.func117, Try.ntmps117
    go_wp2_with (first | (refine gd_ 2 ?_; (try (refine gate_guard (by rfl) ?_; dsimp only)); refine bx_ 2 #[.int .i64 a0_0, .int .i64 a0_1, .slice A0_2 l0_2.length c0_2] 28 ?_; intro gb1917 hg w8 hbox hb; have BK1917 := A_ (hbox); have GW1917 := A_ ((ts_ hg : w.heap.size ≤ gb1917)); have GE1917 := A_ ((ts_ hg : w.heap.size ≤ gb1917)); replace HB := A_ (below_step tb_ hb); clear hb hbox hg; obtain ⟨hcz9_0, hcz9_1, hcz9_2, hfz9_0, hfz9_1, hfz9_2⟩ := cf3_ BK1917.out) | (refine gc_ 125 ?_; refine goesT_ (some 7) Try.func125 #[.agg #[.int .i64 a0_0, .int .i64 a0_1, .slice A0_2 l0_2.length c0_2]] ?_; (with_reducible refine (impl_IsBoard.calls a0_0 a0_1 _ _ l0_2 true _ ?side1 ?side2 A3.out).mono ?_); (case side1 => exact tc_ HR0_2.out); (case side2 => exact HC0_2.out); rintro e w10 ⟨rfl, hb⟩; refine ⟨_, rfl, ?_⟩; replace BK1917 := A_ (blk_below (g := gb1917) (o := .cells #[.int .i64 a0_0, .int .i64 a0_1, .slice A0_2 l0_2.length c0_2] 28 (0, 0)) (tk_ BK1917) hb); replace HB := A_ (below_step tb_ hb); (try clear hb); obtain ⟨hcz11_0, hcz11_1, hcz11_2, hfz11_0, hfz11_1, hfz11_2⟩ := cf3_ BK1917.out) | (go_at_call 215; (with_reducible refine (slices_ContainsFunc_int_int_215.calls k _ _ l1 (.func (.func 216) #[] #[]) impl_IsFilePlacement_1.fn true _ ?side1 ?side2 ?side3 A6.out).mono ?_); (case side1 => exact tc_ HR1.out); (case side2 => exact HC1.out); (case side3 => exact impl_IsFilePlacement_1.fnok _); rintro e w12 ⟨rfl, hb⟩; replace BK1917 := A_ (blk_below (g := gb1917) (o := .cells #[.int .i64 a0_0, .int .i64 a0_1, .slice A0_2 l0_2.length c0_2] 28 (0, 0)) (tk_ BK1917) hb); replace HB := A_ (below_step tb_ hb); (try clear hb)))
    go_ret2
    exact ⟨te_, tb_⟩
   ·
    replace c7 := Bool.eq_false_iff.mpr c7
    subst c7
    have H1 : ((impl_Board_isFile.f k a0_0 a0_1 l0_2 l1).bind fun t1920 => (some (t1920, true))) = some (r1, r2) := by rw [if_neg (show ¬ (false = true) by decide)] at H; exact H
    clear H
    have H := H1
    clear H1
    replace H := Option.bind_eq_some_iff.mp H
    obtain ⟨t1920, A130, H⟩ := H
    replace H : (some (t1920, true)) = some (r1, r2) := H
    have A13 := A_ A130
    clear A130
    simp only [Option.some.injEq, Prod.mk.injEq] at H
    obtain ⟨rfl, rfl⟩ := H
    go_enter Try.func117, Try.ntmps117
    go_wp2_with (first | (refine gd_ 2 ?_; (try (refine gate_guard (by rfl) ?_; dsimp only)); refine bx_ 2 #[.int .i64 a0_0, .int .i64 a0_1, .slice A0_2 l0_2.length c0_2] 28 ?_; intro gb1917 hg w14 hbox hb; have BK1917 := A_ (hbox); have GW1917 := A_ ((ts_ hg : w.heap.size ≤ gb1917)); have GE1917 := A_ ((ts_ hg : w.heap.size ≤ gb1917)); replace HB := A_ (below_step tb_ hb); clear hb hbox hg; obtain ⟨hcz15_0, hcz15_1, hcz15_2, hfz15_0, hfz15_1, hfz15_2⟩ := cf3_ BK1917.out) | (refine gc_ 125 ?_; refine goesT_ (some 7) Try.func125 #[.agg #[.int .i64 a0_0, .int .i64 a0_1, .slice A0_2 l0_2.length c0_2]] ?_; (with_reducible refine (impl_IsBoard.calls a0_0 a0_1 _ _ l0_2 true _ ?side1 ?side2 A3.out).mono ?_); (case side1 => exact tc_ HR0_2.out); (case side2 => exact HC0_2.out); rintro e w16 ⟨rfl, hb⟩; refine ⟨_, rfl, ?_⟩; replace BK1917 := A_ (blk_below (g := gb1917) (o := .cells #[.int .i64 a0_0, .int .i64 a0_1, .slice A0_2 l0_2.length c0_2] 28 (0, 0)) (tk_ BK1917) hb); replace HB := A_ (below_step tb_ hb); (try clear hb); obtain ⟨hcz17_0, hcz17_1, hcz17_2, hfz17_0, hfz17_1, hfz17_2⟩ := cf3_ BK1917.out) | (go_at_call 215; (with_reducible refine (slices_ContainsFunc_int_int_215.calls k _ _ l1 (.func (.func 216) #[] #[]) impl_IsFilePlacement_1.fn false _ ?side1 ?side2 ?side3 A6.out).mono ?_); (case side1 => exact tc_ HR1.out); (case side2 => exact HC1.out); (case side3 => exact impl_IsFilePlacement_1.fnok _); rintro e w18 ⟨rfl, hb⟩; replace BK1917 := A_ (blk_below (g := gb1917) (o := .cells #[.int .i64 a0_0, .int .i64 a0_1, .slice A0_2 l0_2.length c0_2] 28 (0, 0)) (tk_ BK1917) hb); replace HB := A_ (below_step tb_ hb); (try clear hb); obtain ⟨hcz19_0, hcz19_1, hcz19_2, hfz19_0, hfz19_1, hfz19_2⟩ := cf3_ BK1917.out) | (refine gc_ 151 ?_; refine goesT_ (some 22) Try.func151 #[.agg #[.int .i64 a0_0, .int .i64 a0_1, .slice A0_2 l0_2.length c0_2], .slice A1 l1.length c1] ?_; (with_reducible refine (impl_Board_isFile.calls k a0_0 a0_1 _ _ l0_2 _ _ l1 t1920 _ ?side1 ?side2 ?side3 ?side4 A13.out).mono ?_); (case side1 => exact tc_ HR0_2.out); (case side2 => exact HC0_2.out); (case side3 => exact tc_ HR1.out); (case side4 => exact HC1.out); rintro e w20 ⟨rfl, hb⟩; refine ⟨_, rfl, ?_⟩; replace BK1917 := A_ (blk_below (g := gb1917) (o := .cells #[.int .i64 a0_0, .int .i64 a0_1, .slice A0_2 l0_2.length c0_2] 28 (0, 0)) (tk_ BK1917) hb); replace HB := A_ (below_step tb_ hb); (try clear hb)))
    go_ret2
    exact ⟨te_, tb_⟩
  ·
   rw [if_neg c5] at H
   have c5b0 : ((l1.length : Int) == a0_1) = false := beq_eq_false_iff_ne.mpr c5
   have c5b1 : ((l1.length : Int) != a0_1) = true := bne_iff_ne.mpr c5
   simp only [Option.some.injEq, Prod.mk.injEq] at H
   obtain ⟨rfl, rfl⟩ := H
   go_enter Try.func117, Try.ntmps117
   go_wp2_with (first | (refine gd_ 2 ?_; (try (refine gate_guard (by rfl) ?_; dsimp only)); refine bx_ 2 #[.int .i64 a0_0, .int .i64 a0_1, .slice A0_2 l0_2.length c0_2] 28 ?_; intro gb1917 hg w21 hbox hb; have BK1917 := A_ (hbox); have GW1917 := A_ ((ts_ hg : w.heap.size ≤ gb1917)); have GE1917 := A_ ((ts_ hg : w.heap.size ≤ gb1917)); replace HB := A_ (below_step tb_ hb); clear hb hbox hg; obtain ⟨hcz22_0, hcz22_1, hcz22_2, hfz22_0, hfz22_1, hfz22_2⟩ := cf3_ BK1917.out) | (refine gc_ 125 ?_; refine goesT_ (some 7) Try.func125 #[.agg #[.int .i64 a0_0, .int .i64 a0_1, .slice A0_2 l0_2.length c0_2]] ?_; (with_reducible refine (impl_IsBoard.calls a0_0 a0_1 _ _ l0_2 true _ ?side1 ?side2 A3.out).mono ?_); (case side1 => exact tc_ HR0_2.out); (case side2 => exact HC0_2.out); rintro e w23 ⟨rfl, hb⟩; refine ⟨_, rfl, ?_⟩; replace BK1917 := A_ (blk_below (g := gb1917) (o := .cells #[.int .i64 a0_0, .int .i64 a0_1, .slice A0_2 l0_2.length c0_2] 28 (0, 0)) (tk_ BK1917) hb); replace HB := A_ (below_step tb_ hb); (try clear hb); obtain ⟨hcz24_0, hcz24_1, hcz24_2, hfz24_0, hfz24_1, hfz24_2⟩ := cf3_ BK1917.out))
   go_ret2
   exact ⟨te_, tb_⟩
 ·
  replace c4 := Bool.eq_false_iff.mpr c4
  subst c4
  have H1 : (some (false, false)) = some (r1, r2) := by rw [if_neg (show ¬ (false = true) by decide)] at H; exact H
  clear H
  have H := H1
  clear H1
  simp only [Option.some.injEq, Prod.mk.injEq] at H
  obtain ⟨rfl, rfl⟩ := H
  go_enter Try.func117, Try.ntmps117
  go_wp2_with (first | (refine gd_ 2 ?_; (try (refine gate_guard (by rfl) ?_; dsimp only)); refine bx_ 2 #[.int .i64 a0_0, .int .i64 a0_1, .slice A0_2 l0_2.length c0_2] 28 ?_; intro gb1917 hg w25 hbox hb; have BK1917 := A_ (hbox); have GW1917 := A_ ((ts_ hg : w.heap.size ≤ gb1917)); have GE1917 := A_ ((ts_ hg : w.heap.size ≤ gb1917)); replace HB := A_ (below_step tb_ hb); clear hb hbox hg; obtain ⟨hcz26_0, hcz26_1, hcz26_2, hfz26_0, hfz26_1, hfz26_2⟩ := cf3_ BK1917.out) | (refine gc_ 125 ?_; refine goesT_ (some 7) Try.func125 #[.agg #[.int .i64 a0_0, .int .i64 a0_1, .slice A0_2 l0_2.length c0_2]] ?_; (with_reducible refine (impl_IsBoard.calls a0_0 a0_1 _ _ l0_2 false _ ?side1 ?side2 A3.out).mono ?_); (case side1 => exact tc_ HR0_2.out); (case side2 => exact HC0_2.out); rintro e w27 ⟨rfl, hb⟩; refine ⟨_, rfl, ?_⟩; replace BK1917 := A_ (blk_below (g := gb1917) (o := .cells #[.int .i64 a0_0, .int .i64 a0_1, .slice A0_2 l0_2.length c0_2] 28 (0, 0)) (tk_ BK1917) hb); replace HB := A_ (below_step tb_ hb); (try clear hb)))
  go_ret2
  exact ⟨te_, tb_⟩

end
end Go.Proofs.Ytnpacpdpgngdpaa.P
