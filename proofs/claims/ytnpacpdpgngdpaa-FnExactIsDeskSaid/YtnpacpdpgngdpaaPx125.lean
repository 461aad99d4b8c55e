-- printed by wip/hprint.py of this session (the kit's print.py, patched in memory)
import Derived.Test.YtnpacpdpgngdpaaPx0
import Derived.Test.YtnpacpdpgngdpaaPx24
import Derived.Test.YtnpacpdpgngdpaaPx25
import Derived.Test.YtnpacpdpgngdpaaPx124
namespace Go.Proofs.Ytnpacpdpgngdpaa.P
noncomputable section
set_option maxHeartbeats 8000000
set_option maxRecDepth 100000
open Go.RowKit Go.Proofs.YtnpacpdpgngdpaaW.PrintWords Go.Proofs.YtnpacpdpgngdpaaW.PrintLast Go.Proofs.YtnpacpdpgngdpaaW.PrintMore
attribute [local go_sem] max2_int min2_int max_two min_two max_three min_three max_four min_four   -- for this text's walks alone
set_option linter.unusedVariables false
set_option linter.unusedSimpArgs false

/-! ### impl_Board_isPlacement: function 159 -/
def impl_Board_isPlacement.l0 : Nat → List Int → List Int → Int → Int → Int → Int → List Int → Option (Bool)
 | 0, _, _, _, _, _, _, _ => none
 | k + 1, x1, x12, x13, x14, x742000, x742001, x742002 => if x14 < x13 then (if 0 ≤ x14 then (if x14 < (x12.length : Int) then (if (rd x12 x14) = (-1) then (impl_Board_isPlacement.l0 k x1 x12 x13 (wrap64 (x14 + 1)) x742000 x742001 x742002) else ((impl_Board_place.f x742000 x742001 x742002 x14 (rd x12 x14)).bind fun t743 => (if t743 = true then ((impl_Board_has.f x742000 x742001 x742002 x14 (rd x12 x14)).bind fun t744 => (if t744 = true then (if x14 ≤ (x1.length : Int) then ((slices_Contains_int_int.f k (x1.take (x14 : Int).toNat) (rd x12 x14)).bind fun t749 => (if t749 = true then (some false) else (impl_Board_isPlacement.l0 k x1 x12 x13 (wrap64 (x14 + 1)) x742000 x742001 x742002))) else (none)) else (some false))) else (some false)))) else (none)) else (none)) else (some true)
def impl_Board_isPlacement.f (k : Nat) (a0_0 : Int) (a0_1 : Int) (l0_2 : List Int) (l1 : List Int) : Option (Bool) := if (l1.length : Int) = a0_0 then (impl_Board_isPlacement.l0 k l1 l1 (l1.length : Int) 0 a0_0 a0_1 l0_2) else (some false)
theorem impl_Board_isPlacement.mono_l : ∀ k, (∀ y0 y1 y2 y3 y4 y5 y6, LeO (impl_Board_isPlacement.l0 k y0 y1 y2 y3 y4 y5 y6) (impl_Board_isPlacement.l0 (k + 1) y0 y1 y2 y3 y4 y5 y6))
 | 0 => fun _ _ _ _ _ _ _ r h => by simp [impl_Board_isPlacement.l0] at h
 | k + 1 => by
  have ih0 := impl_Board_isPlacement.mono_l k
  ·
   intro y0 y1 y2 y3 y4 y5 y6
   unfold impl_Board_isPlacement.l0
   repeat' first | (with_reducible first | exact ih0 _ _ _ _ _ _ _ | exact slices_Contains_int_int.mono _ _ _ | exact LeO.refl _ | exact LeO.none _ | refine LeO.ite ?_ ?_ | refine LeO.bind ?_ (fun _ => ?_)) | exact ih0 _ _ _ _ _ _ _ | exact slices_Contains_int_int.mono _ _ _ | exact LeO.none _ | refine LeO.ite ?_ ?_ | refine LeO.bind ?_ (fun _ => ?_)
theorem impl_Board_isPlacement.mono : ∀ a0 a1 a2 a3 k, LeO (impl_Board_isPlacement.f k a0 a1 a2 a3) (impl_Board_isPlacement.f (k + 1) a0 a1 a2 a3) := by
 intro a0 a1 a2 a3 k
 have ih0 := impl_Board_isPlacement.mono_l k
 unfold impl_Board_isPlacement.f
 repeat' first | (with_reducible first | exact ih0 _ _ _ _ _ _ _ | exact slices_Contains_int_int.mono _ _ _ | exact LeO.refl _ | exact LeO.none _ | refine LeO.ite ?_ ?_ | refine LeO.bind ?_ (fun _ => ?_)) | exact ih0 _ _ _ _ _ _ _ | exact slices_Contains_int_int.mono _ _ _ | exact LeO.none _ | refine LeO.ite ?_ ?_ | refine LeO.bind ?_ (fun _ => ?_)
theorem impl_Board_isPlacement.calls (k : Nat) (a0_0 : Int) (a0_1 : Int) (A0_2 : Option Addr) (c0_2 : Nat) (l0_2 : List Int) (A1 : Option Addr) (c1 : Nat) (l1 : List Int) (r : Bool) (w : World) (hr0_2 : Kd.C (Kd.int .i64) w A0_2 l0_2.length l0_2) (hc0_2 : l0_2.length ≤ c0_2) (hr1 : Kd.C (Kd.int .i64) w A1 l1.length l1) (hc1 : l1.length ≤ c1) (h : impl_Board_isPlacement.f k a0_0 a0_1 l0_2 l1 = some r) :
  Calls Try.prog 159 #[.agg #[.int .i64 a0_0, .int .i64 a0_1, .slice A0_2 l0_2.length c0_2], .slice A1 l1.length c1] w fun e w' => e = .returned (.bool r) ∧ Below w.heap.size w w' := by
 have hu28 := Try.underlying28
 have HR0_2 := A_ hr0_2
 have HC0_2 := A_ hc0_2
 clear hr0_2 hc0_2
 have HR1 := A_ hr1
 have HC1 := A_ hc1
 clear hr1 hc1
 have HB := A_ (Below.refl w.heap.size w)
 have H : (if (l1.length : Int) = a0_0 then (impl_Board_isPlacement.l0 k l1 l1 (l1.length : Int) 0 a0_0 a0_1 l0_2) else (some false)) = some r := h
 clear h
 by_cases c3 : (l1.length : Int) = a0_0
 ·
  rw [if_pos c3] at H
  have c3b0 : ((l1.length : Int) == a0_0) = true := beq_iff_eq.mpr c3
  have c3b1 : ((l1.length : Int) != a0_0) = false := bne_eq_false_iff_eq.mpr c3
  clear c3
  have H' := A_ H
  clear H
  go_enter Try.func159, Try.ntmps159
  go_wp2_with (first | (refine gd_ 2 ?_; refine bx_ 2 #[.int .i64 a0_0, .int .i64 a0_1, .slice A0_2 l0_2.length c0_2] 28 ?_; intro gb741 hg w4 hbox hb; have BK741 := A_ (hbox); have GW741 := A_ ((ts_ hg : w.heap.size ≤ gb741)); have GE741 := A_ ((ts_ hg : w.heap.size ≤ gb741)); replace HB := A_ (below_step tb_ hb); clear hb hbox hg; obtain ⟨hcz5_0, hcz5_1, hcz5_2, hfz5_0, hfz5_1, hfz5_2⟩ := cf3_ BK741.out))
  go_loopg [14] k (fun kq v14 w' => ∃ (x14_1 : Int), v14 = .int .i64 x14_1 ∧ Aside0 (impl_Board_isPlacement.l0 kq l1 l1 (l1.length : Int) x14_1 a0_0 a0_1 l0_2 = some r) ∧ Aside0 (kq ≤ k) ∧ Aside0 (w'.heap[gb741]? = some (.cells #[.int .i64 a0_0, .int .i64 a0_1, (.slice A0_2 l0_2.length c0_2)] 28 (0, 0))) ∧ Aside0 (Below w.heap.size w w'))
  case atStart => exact ⟨(0), tf_, H', ⟨Nat.le_refl _⟩, ⟨tk_ BK741⟩, ⟨tb_⟩⟩
  case round =>
   clear H'
   try clear c1
   try clear p2
   try clear c3
   try clear c3b0
   try clear c3b1
   try clear hcz5_0
   try clear hcz5_1
   try clear hcz5_2
   try clear hfz5_0
   try clear hfz5_1
   try clear hfz5_2
   obtain ⟨x14_1, rfl, HA, HK1, BK741, HB⟩ := hrel
   cases gk with
   | zero => exact absurd HA.out (by simp [impl_Board_isPlacement.l0])
   | succ k1 =>
    have H := HA.out
    clear HA
    simp only [impl_Board_isPlacement.l0] at H
    by_cases c6 : x14_1 < (l1.length : Int)
    ·
     rw [if_pos c6] at H
     have c6b0 := decide_eq_true c6
     clear c6
     by_cases c7 : 0 ≤ x14_1
     ·
      rw [if_pos c7] at H
      have c7b0 := decide_eq_true c7
      clear c7
      by_cases c8 : x14_1 < (l1.length : Int)
      ·
       rw [if_pos c8] at H
       have c8b0 := decide_eq_true c8
       clear c8
       by_cases c9 : (rd l1 x14_1) = (-1)
       ·
        rw [if_pos c9] at H
        have c9b0 : ((rd l1 x14_1) == (-1)) = true := beq_iff_eq.mpr c9
        have c9b1 : ((rd l1 x14_1) != (-1)) = false := bne_eq_false_iff_eq.mpr c9
        clear c9
        have H' := A_ H
        clear H
        have p742 : 0 ≤ (x14_1 : Int) := od_
        have q742 : x14_1 < (l1.length : Int) := od_
        obtain ⟨ad742, e742, hx742_0⟩ := Kd.at_int HR1.out x14_1 p742 q742
        cases e742
        (try replace hx742_0 := (HB.out.cell (World.block_lt_of_cell? w _ hx742_0)).trans hx742_0)
        replace p742 := eq_true p742
        replace q742 := eq_true q742
        go_wp2
        go_roundg k1
        case measure => have := HK1.out; omega
        case rel => exact ⟨(wrap64 (x14_1 + 1)), tf_, H', ⟨by have := HK1.out; omega⟩, ⟨tk_ BK741⟩, ⟨tb_⟩⟩
       ·
        rw [if_neg c9] at H
        have c9b0 : ((rd l1 x14_1) == (-1)) = false := beq_eq_false_iff_ne.mpr c9
        have c9b1 : ((rd l1 x14_1) != (-1)) = true := bne_iff_ne.mpr c9
        replace H := Option.bind_eq_some_iff.mp H
        obtain ⟨t743, A100, H⟩ := H
        replace H : (if t743 = true then ((impl_Board_has.f a0_0 a0_1 l0_2 x14_1 (rd l1 x14_1)).bind fun t744 => (if t744 = true then (if x14_1 ≤ (l1.length : Int) then ((slices_Contains_int_int.f k1 (l1.take (x14_1 : Int).toNat) (rd l1 x14_1)).bind fun t749 => (if t749 = true then (some false) else (impl_Board_isPlacement.l0 k1 l1 l1 (l1.length : Int) (wrap64 (x14_1 + 1)) a0_0 a0_1 l0_2))) else (none)) else (some false))) else (some false)) = some r := H
        have A10 := A_ A100
        clear A100
        by_cases c11 : t743 = true
        ·
         subst c11
         have H1 : ((impl_Board_has.f a0_0 a0_1 l0_2 x14_1 (rd l1 x14_1)).bind fun t744 => (if t744 = true then (if x14_1 ≤ (l1.length : Int) then ((slices_Contains_int_int.f k1 (l1.take (x14_1 : Int).toNat) (rd l1 x14_1)).bind fun t749 => (if t749 = true then (some false) else (impl_Board_isPlacement.l0 k1 l1 l1 (l1.length : Int) (wrap64 (x14_1 + 1)) a0_0 a0_1 l0_2))) else (none)) else (some false))) = some r := by rw [if_pos rfl] at H; exact H
         clear H
         have H := H1
         clear H1
         replace H := Option.bind_eq_some_iff.mp H
         obtain ⟨t744, A120, H⟩ := H
         replace H : (if t744 = true then (if x14_1 ≤ (l1.length : Int) then ((slices_Contains_int_int.f k1 (l1.take (x14_1 : Int).toNat) (rd l1 x14_1)).bind fun t749 => (if t749 = true then (some false) else (impl_Board_isPlacement.l0 k1 l1 l1 (l1.length : Int) (wrap64 (x14_1 + 1)) a0_0 a0_1 l0_2))) else (none)) else (some false)) = some r := H
         have A12 := A_ A120
         clear A120
         by_cases c13 : t744 = true
         ·
          subst c13
          have H1 : (if x14_1 ≤ (l1.length : Int) then ((slices_Contains_int_int.f k1 (l1.take (x14_1 : Int).toNat) (rd l1 x14_1)).bind fun t749 => (if t749 = true then (some false) else (impl_Board_isPlacement.l0 k1 l1 l1 (l1.length : Int) (wrap64 (x14_1 + 1)) a0_0 a0_1 l0_2))) else (none)) = some r := by rw [if_pos rfl] at H; exact H
          clear H
          have H := H1
          clear H1
          have c14b0 := eq_true (od_ : 0 ≤ x14_1)
          by_cases c15 : x14_1 ≤ (l1.length : Int)
          ·
           rw [if_pos c15] at H
           have c15b0 := eq_true c15
           have c15b1 := decide_eq_true c15
           clear c15
           obtain ⟨y745, hy745⟩ : ∃ y_ : List Int, y_ = (l1.take (x14_1 : Int).toNat) := ⟨_, rfl⟩
           replace H : ((slices_Contains_int_int.f k1 y745 (rd l1 x14_1)).bind fun t749 => (if t749 = true then (some false) else (impl_Board_isPlacement.l0 k1 l1 l1 (l1.length : Int) (wrap64 (x14_1 + 1)) a0_0 a0_1 l0_2))) = some r := ty_ hy745 H
           have Ny745 := A_ hy745
           clear hy745
           replace H := Option.bind_eq_some_iff.mp H
           obtain ⟨t749, A160, H⟩ := H
           replace H : (if t749 = true then (some false) else (impl_Board_isPlacement.l0 k1 l1 l1 (l1.length : Int) (wrap64 (x14_1 + 1)) a0_0 a0_1 l0_2)) = some r := H
           have A16 := A_ A160
           clear A160
           by_cases c17 : t749 = true
           ·
            subst c17
            have H1 : (some false) = some r := by rw [if_pos rfl] at H; exact H
            clear H
            have H := H1
            clear H1
            obtain rfl := Option.some.inj H
            have p742 : 0 ≤ (x14_1 : Int) := od_
            have q742 : x14_1 < (l1.length : Int) := od_
            obtain ⟨ad742, e742, hx742_0⟩ := Kd.at_int HR1.out x14_1 p742 q742
            cases e742
            (try replace hx742_0 := (HB.out.cell (World.block_lt_of_cell? w _ hx742_0)).trans hx742_0)
            replace p742 := eq_true p742
            replace q742 := eq_true q742
            obtain ⟨hcz18_0, hcz18_1, hcz18_2, hfz18_0, hfz18_1, hfz18_2⟩ := cf3_ BK741.out
            go_wp2_with (first | (refine gc_ 126 ?_; refine goesT_ (some 24) Try.func126 #[.agg #[.int .i64 a0_0, .int .i64 a0_1, .slice A0_2 l0_2.length c0_2], .int .i64 x14_1, .int .i64 (rd l1 x14_1)] ?_; (with_reducible refine (impl_Board_place.calls a0_0 a0_1 _ _ l0_2 x14_1 (rd l1 x14_1) true _ ?side1 ?side2 A10.out).mono ?_); (case side1 => exact tc_ HR0_2.out); (case side2 => exact HC0_2.out); rintro e w19 ⟨rfl, hb⟩; refine ⟨_, rfl, ?_⟩; replace BK741 := A_ (blk_below (g := gb741) (o := .cells #[.int .i64 a0_0, .int .i64 a0_1, .slice A0_2 l0_2.length c0_2] 28 (0, 0)) (tk_ BK741) hb); replace HB := A_ (below_step tb_ hb); (try clear hb); obtain ⟨hcz20_0, hcz20_1, hcz20_2, hfz20_0, hfz20_1, hfz20_2⟩ := cf3_ BK741.out) | (go_at_call 127; (with_reducible refine (impl_Board_has.calls a0_0 a0_1 _ _ l0_2 x14_1 (rd l1 x14_1) true _ ?side1 ?side2 A12.out).mono ?_); (case side1 => exact tc_ HR0_2.out); (case side2 => exact HC0_2.out); rintro e w21 ⟨rfl, hb⟩; replace BK741 := A_ (blk_below (g := gb741) (o := .cells #[.int .i64 a0_0, .int .i64 a0_1, .slice A0_2 l0_2.length c0_2] 28 (0, 0)) (tk_ BK741) hb); replace HB := A_ (below_step tb_ hb); (try clear hb); have q22 : (x14_1 : Int) ≤ ((l1.length : Int) : Int) := od_; obtain ⟨i022, hi022, _, hsz22, _⟩ := info_parts info3; have hroom22 : l1.length ≤ c1 := HC1.out; have hC22 : Kd.C (Kd.int .i64) _ (some ad742) l1.length l1 := HR1.out; have hcut22 := cut_to (P := Try.prog) 22 3 .i64 Try.underlying22 hi022 (some ad742) l1.length c1 x14_1 (od_) q22 hroom22; have hr22 := Kd.C_take (m := (x14_1 : Int).toNat) hC22 (by omega); have hy22 : y745.length = (x14_1 : Int).toNat := (by rw [Ny745.out, List.length_take]; omega); rw [← Ny745.out] at hr22; rw [← hy22] at hcut22; have HR748 := A_ hr22; have HC748 := A_ (show y745.length ≤ c1 from by omega); clear hr22 hC22 hroom22 hi022 hsz22; have KY22 := A_ hy22; clear hy22; replace q22 := eq_true q22) | (go_at_call 182; (with_reducible refine (slices_Contains_int_int.calls k1 _ _ y745 (rd l1 x14_1) true _ ?side1 ?side2 A16.out).mono ?_); (case side1 => exact tc_ HR748.out); (case side2 => exact HC748.out); rintro e w' ⟨rfl, ⟨nd, rfl⟩⟩))
            go_ret
            exact ⟨te_, tb_⟩
           ·
            replace c17 := Bool.eq_false_iff.mpr c17
            subst c17
            have H1 : (impl_Board_isPlacement.l0 k1 l1 l1 (l1.length : Int) (wrap64 (x14_1 + 1)) a0_0 a0_1 l0_2) = some r := by rw [if_neg (show ¬ (false = true) by decide)] at H; exact H
            clear H
            have H := H1
            clear H1
            have H' := A_ H
            clear H
            have p742 : 0 ≤ (x14_1 : Int) := od_
            have q742 : x14_1 < (l1.length : Int) := od_
            obtain ⟨ad742, e742, hx742_0⟩ := Kd.at_int HR1.out x14_1 p742 q742
            cases e742
            (try replace hx742_0 := (HB.out.cell (World.block_lt_of_cell? w _ hx742_0)).trans hx742_0)
            replace p742 := eq_true p742
            replace q742 := eq_true q742
            obtain ⟨hcz23_0, hcz23_1, hcz23_2, hfz23_0, hfz23_1, hfz23_2⟩ := cf3_ BK741.out
            go_wp2_with (first | (refine gc_ 126 ?_; refine goesT_ (some 24) Try.func126 #[.agg #[.int .i64 a0_0, .int .i64 a0_1, .slice A0_2 l0_2.length c0_2], .int .i64 x14_1, .int .i64 (rd l1 x14_1)] ?_; (with_reducible refine (impl_Board_place.calls a0_0 a0_1 _ _ l0_2 x14_1 (rd l1 x14_1) true _ ?side1 ?side2 A10.out).mono ?_); (case side1 => exact tc_ HR0_2.out); (case side2 => exact HC0_2.out); rintro e w24 ⟨rfl, hb⟩; refine ⟨_, rfl, ?_⟩; replace BK741 := A_ (blk_below (g := gb741) (o := .cells #[.int .i64 a0_0, .int .i64 a0_1, .slice A0_2 l0_2.length c0_2] 28 (0, 0)) (tk_ BK741) hb); replace HB := A_ (below_step tb_ hb); (try clear hb); obtain ⟨hcz25_0, hcz25_1, hcz25_2, hfz25_0, hfz25_1, hfz25_2⟩ := cf3_ BK741.out) | (go_at_call 127; (with_reducible refine (impl_Board_has.calls a0_0 a0_1 _ _ l0_2 x14_1 (rd l1 x14_1) true _ ?side1 ?side2 A12.out).mono ?_); (case side1 => exact tc_ HR0_2.out); (case side2 => exact HC0_2.out); rintro e w26 ⟨rfl, hb⟩; replace BK741 := A_ (blk_below (g := gb741) (o := .cells #[.int .i64 a0_0, .int .i64 a0_1, .slice A0_2 l0_2.length c0_2] 28 (0, 0)) (tk_ BK741) hb); replace HB := A_ (below_step tb_ hb); (try clear hb); have q27 : (x14_1 : Int) ≤ ((l1.length : Int) : Int) := od_; obtain ⟨i027, hi027, _, hsz27, _⟩ := info_parts info3; have hroom27 : l1.length ≤ c1 := HC1.out; have hC27 : Kd.C (Kd.int .i64) _ (some ad742) l1.length l1 := HR1.out; have hcut27 := cut_to (P := Try.prog) 22 3 .i64 Try.underlying22 hi027 (some ad742) l1.length c1 x14_1 (od_) q27 hroom27; have hr27 := Kd.C_take (m := (x14_1 : Int).toNat) hC27 (by omega); have hy27 : y745.length = (x14_1 : Int).toNat := (by rw [Ny745.out, List.length_take]; omega); rw [← Ny745.out] at hr27; rw [← hy27] at hcut27; have HR748 := A_ hr27; have HC748 := A_ (show y745.length ≤ c1 from by omega); clear hr27 hC27 hroom27 hi027 hsz27; have KY27 := A_ hy27; clear hy27; replace q27 := eq_true q27) | (go_at_call 182; (with_reducible refine (slices_Contains_int_int.calls k1 _ _ y745 (rd l1 x14_1) false _ ?side1 ?side2 A16.out).mono ?_); (case side1 => exact tc_ HR748.out); (case side2 => exact HC748.out); rintro e w' ⟨rfl, ⟨nd, rfl⟩⟩))
            go_roundg k1
            case measure => have := HK1.out; omega
            case rel => exact ⟨(wrap64 (x14_1 + 1)), tf_, H', ⟨by have := HK1.out; omega⟩, ⟨tk_ BK741⟩, ⟨tb_⟩⟩
          ·
           rw [if_neg c15] at H
           exact absurd H (by simp)
         ·
          replace c13 := Bool.eq_false_iff.mpr c13
          subst c13
          have H1 : (some false) = some r := by rw [if_neg (show ¬ (false = true) by decide)] at H; exact H
          clear H
          have H := H1
          clear H1
          obtain rfl := Option.some.inj H
          have p742 : 0 ≤ (x14_1 : Int) := od_
          have q742 : x14_1 < (l1.length : Int) := od_
          obtain ⟨ad742, e742, hx742_0⟩ := Kd.at_int HR1.out x14_1 p742 q742
          cases e742
          (try replace hx742_0 := (HB.out.cell (World.block_lt_of_cell? w _ hx742_0)).trans hx742_0)
          replace p742 := eq_true p742
          replace q742 := eq_true q742
          obtain ⟨hcz28_0, hcz28_1, hcz28_2, hfz28_0, hfz28_1, hfz28_2⟩ := cf3_ BK741.out
          go_wp2_with (first | (refine gc_ 126 ?_; refine goesT_ (some 24) Try.func126 #[.agg #[.int .i64 a0_0, .int .i64 a0_1, .slice A0_2 l0_2.length c0_2], .int .i64 x14_1, .int .i64 (rd l1 x14_1)] ?_; (with_reducible refine (impl_Board_place.calls a0_0 a0_1 _ _ l0_2 x14_1 (rd l1 x14_1) true _ ?side1 ?side2 A10.out).mono ?_); (case side1 => exact tc_ HR0_2.out); (case side2 => exact HC0_2.out); rintro e w29 ⟨rfl, hb⟩; refine ⟨_, rfl, ?_⟩; replace BK741 := A_ (blk_below (g := gb741) (o := .cells #[.int .i64 a0_0, .int .i64 a0_1, .slice A0_2 l0_2.length c0_2] 28 (0, 0)) (tk_ BK741) hb); replace HB := A_ (below_step tb_ hb); (try clear hb); obtain ⟨hcz30_0, hcz30_1, hcz30_2, hfz30_0, hfz30_1, hfz30_2⟩ := cf3_ BK741.out) | (go_at_call 127; (with_reducible refine (impl_Board_has.calls a0_0 a0_1 _ _ l0_2 x14_1 (rd l1 x14_1) false _ ?side1 ?side2 A12.out).mono ?_); (case side1 => exact tc_ HR0_2.out); (case side2 => exact HC0_2.out); rintro e w31 ⟨rfl, hb⟩; replace BK741 := A_ (blk_below (g := gb741) (o := .cells #[.int .i64 a0_0, .int .i64 a0_1, .slice A0_2 l0_2.length c0_2] 28 (0, 0)) (tk_ BK741) hb); replace HB := A_ (below_step tb_ hb); (try clear hb)))
          go_ret
          exact ⟨te_, tb_⟩
        ·
         replace c11 := Bool.eq_false_iff.mpr c11
         subst c11
         have H1 : (some false) = some r := by rw [if_neg (show ¬ (false = true) by decide)] at H; exact H
         clear H
         have H := H1
         clear H1
         obtain rfl := Option.some.inj H
         have p742 : 0 ≤ (x14_1 : Int) := od_
         have q742 : x14_1 < (l1.length : Int) := od_
         obtain ⟨ad742, e742, hx742_0⟩ := Kd.at_int HR1.out x14_1 p742 q742
         cases e742
         (try replace hx742_0 := (HB.out.cell (World.block_lt_of_cell? w _ hx742_0)).trans hx742_0)
         replace p742 := eq_true p742
         replace q742 := eq_true q742
         obtain ⟨hcz32_0, hcz32_1, hcz32_2, hfz32_0, hfz32_1, hfz32_2⟩ := cf3_ BK741.out
         go_wp2_with (first | (refine gc_ 126 ?_; refine goesT_ (some 24) Try.func126 #[.agg #[.int .i64 a0_0, .int .i64 a0_1, .slice A0_2 l0_2.length c0_2], .int .i64 x14_1, .int .i64 (rd l1 x14_1)] ?_; (with_reducible refine (impl_Board_place.calls a0_0 a0_1 _ _ l0_2 x14_1 (rd l1 x14_1) false _ ?side1 ?side2 A10.out).mono ?_); (case side1 => exact tc_ HR0_2.out); (case side2 => exact HC0_2.out); rintro e w33 ⟨rfl, hb⟩; refine ⟨_, rfl, ?_⟩; replace BK741 := A_ (blk_below (g := gb741) (o := .cells #[.int .i64 a0_0, .int .i64 a0_1, .slice A0_2 l0_2.length c0_2] 28 (0, 0)) (tk_ BK741) hb); replace HB := A_ (below_step tb_ hb); (try clear hb)))
         go_ret
         exact ⟨te_, tb_⟩
      ·
       rw [if_neg c8] at H
       exact absurd H (by simp)
     ·
      rw [if_neg c7] at H
      exact absurd H (by simp)
    ·
     rw [if_neg c6] at H
     have c6b0 := decide_eq_false c6
     clear c6
     obtain rfl := Option.some.inj H
     go_wp2
     go_ret
     exact ⟨te_, tb_⟩
 ·
  rw [if_neg c3] at H
  have c3b0 : ((l1.length : Int) == a0_0) = false := beq_eq_false_iff_ne.mpr c3
  have c3b1 : ((l1.length : Int) != a0_0) = true := bne_iff_ne.mpr c3
  obtain rfl := Option.some.inj H
  go_enter Try.func159, Try.ntmps159
  go_wp2_with (first | (refine gd_ 2 ?_; refine bx_ 2 #[.int .i64 a0_0, .int .i64 a0_1, .slice A0_2 l0_2.length c0_2] 28 ?_; intro gb741 hg w34 hbox hb; have BK741 := A_ (hbox); have GW741 := A_ ((ts_ hg : w.heap.size ≤ gb741)); have GE741 := A_ ((ts_ hg : w.heap.size ≤ gb741)); replace HB := A_ (below_step tb_ hb); clear hb hbox hg; obtain ⟨hcz35_0, hcz35_1, hcz35_2, hfz35_0, hfz35_1, hfz35_2⟩ := cf3_ BK741.out))
  go_ret
  exact ⟨te_, tb_⟩

end
end Go.Proofs.Ytnpacpdpgngdpaa.P
