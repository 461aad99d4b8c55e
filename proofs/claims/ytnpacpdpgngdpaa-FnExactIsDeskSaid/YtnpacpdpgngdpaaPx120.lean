-- printed by wip/hprint.py of this session (the kit's print.py, patched in memory)
import Derived.Test.YtnpacpdpgngdpaaPx0
import Derived.Test.YtnpacpdpgngdpaaPx3
import Derived.Test.YtnpacpdpgngdpaaPx8
import Derived.Test.YtnpacpdpgngdpaaPx119
namespace Go.Proofs.Ytnpacpdpgngdpaa.P
noncomputable section
set_option maxHeartbeats 8000000
set_option maxRecDepth 100000
open Go.RowKit Go.Proofs.YtnpacpdpgngdpaaW.PrintWords Go.Proofs.YtnpacpdpgngdpaaW.PrintLast Go.Proofs.YtnpacpdpgngdpaaW.PrintMore
attribute [local go_sem] max2_int min2_int max_two min_two max_three min_three max_four min_four   -- for this text's walks alone
set_option linter.unusedVariables false
set_option linter.unusedSimpArgs false

/-! ### spec_roGood: function 239 -/
def spec_roGood.l0 : Nat → List Int → List Int → Int → Int → Int → Int → List Int → Option (Bool)
 | 0, _, _, _, _, _, _, _ => none
 | k + 1, x1, x12, x13, x14, x716000, x716001, x716002 => if x14 < x13 then (if 0 ≤ x14 then (if x14 < (x12.length : Int) then (if (rd x12 x14) = (-1) then (spec_roGood.l0 k x1 x12 x13 (wrap64 (x14 + 1)) x716000 x716001 x716002) else ((spec_l1In.f (rd x12 x14) 0 (wrap64 (x716001 - 1))).bind fun t717 => (if t717 = true then ((spec_boHas.f x716000 x716001 x716002 x14 (rd x12 x14)).bind fun t718 => (if t718 = true then (if x14 ≤ (x1.length : Int) then ((spec_l1Has.f k (x1.take (x14 : Int).toNat) (rd x12 x14)).bind fun t723 => (if t723 = true then (some false) else (spec_roGood.l0 k x1 x12 x13 (wrap64 (x14 + 1)) x716000 x716001 x716002))) else (none)) else (some false))) else (some false)))) else (none)) else (none)) else (some true)
def spec_roGood.f (k : Nat) (a0_0 : Int) (a0_1 : Int) (l0_2 : List Int) (l1 : List Int) : Option (Bool) := if (l1.length : Int) = a0_0 then (spec_roGood.l0 k l1 l1 (l1.length : Int) 0 a0_0 a0_1 l0_2) else (some false)
theorem spec_roGood.mono_l : ∀ k, (∀ y0 y1 y2 y3 y4 y5 y6, LeO (spec_roGood.l0 k y0 y1 y2 y3 y4 y5 y6) (spec_roGood.l0 (k + 1) y0 y1 y2 y3 y4 y5 y6))
 | 0 => fun _ _ _ _ _ _ _ r h => by simp [spec_roGood.l0] at h
 | k + 1 => by
  have ih0 := spec_roGood.mono_l k
  ·
   intro y0 y1 y2 y3 y4 y5 y6
   unfold spec_roGood.l0
   repeat' first | (with_reducible first | exact ih0 _ _ _ _ _ _ _ | exact spec_l1Has.mono _ _ _ | exact LeO.refl _ | exact LeO.none _ | refine LeO.ite ?_ ?_ | refine LeO.bind ?_ (fun _ => ?_)) | exact ih0 _ _ _ _ _ _ _ | exact spec_l1Has.mono _ _ _ | exact LeO.none _ | refine LeO.ite ?_ ?_ | refine LeO.bind ?_ (fun _ => ?_)
theorem spec_roGood.mono : ∀ a0 a1 a2 a3 k, LeO (spec_roGood.f k a0 a1 a2 a3) (spec_roGood.f (k + 1) a0 a1 a2 a3) := by
 intro a0 a1 a2 a3 k
 have ih0 := spec_roGood.mono_l k
 unfold spec_roGood.f
 repeat' first | (with_reducible first | exact ih0 _ _ _ _ _ _ _ | exact spec_l1Has.mono _ _ _ | exact LeO.refl _ | exact LeO.none _ | refine LeO.ite ?_ ?_ | refine LeO.bind ?_ (fun _ => ?_)) | exact ih0 _ _ _ _ _ _ _ | exact spec_l1Has.mono _ _ _ | exact LeO.none _ | refine LeO.ite ?_ ?_ | refine LeO.bind ?_ (fun _ => ?_)
theorem spec_roGood.calls (k : Nat) (a0_0 : Int) (a0_1 : Int) (A0_2 : Option Addr) (c0_2 : Nat) (l0_2 : List Int) (A1 : Option Addr) (c1 : Nat) (l1 : List Int) (r : Bool) (w : World) (hr0_2 : Kd.C (Kd.int .i64) w A0_2 l0_2.length l0_2) (hc0_2 : l0_2.length ≤ c0_2) (hr1 : Kd.C (Kd.int .i64) w A1 l1.length l1) (hc1 : l1.length ≤ c1) (h : spec_roGood.f k a0_0 a0_1 l0_2 l1 = some r) :
  Calls Try.prog 239 #[.agg #[.int .i64 a0_0, .int .i64 a0_1, .slice A0_2 l0_2.length c0_2], .slice A1 l1.length c1] w fun e w' => e = .returned (.bool r) ∧ Below w.heap.size w w' := by
 have hu28 := Try.underlying28
 have HR0_2 := A_ hr0_2
 have HC0_2 := A_ hc0_2
 clear hr0_2 hc0_2
 have HR1 := A_ hr1
 have HC1 := A_ hc1
 clear hr1 hc1
 have HB := A_ (Below.refl w.heap.size w)
 have H : (if (l1.length : Int) = a0_0 then (spec_roGood.l0 k l1 l1 (l1.length : Int) 0 a0_0 a0_1 l0_2) else (some false)) = some r := h
 clear h
 by_cases c3 : (l1.length : Int) = a0_0
 ·
  rw [if_pos c3] at H
  have c3b0 : ((l1.length : Int) == a0_0) = true := beq_iff_eq.mpr c3
  have c3b1 : ((l1.length : Int) != a0_0) = false := bne_eq_false_iff_eq.mpr c3
  clear c3
  have H' := A_ H
  clear H
  go_enter Try.func239, Try.ntmps239
  go_wp2_with (first | (refine gd_ 2 ?_; refine bx_ 2 #[.int .i64 a0_0, .int .i64 a0_1, .slice A0_2 l0_2.length c0_2] 28 ?_; intro gb715 hg w4 hbox hb; have BK715 := A_ (hbox); have GW715 := A_ ((ts_ hg : w.heap.size ≤ gb715)); have GE715 := A_ ((ts_ hg : w.heap.size ≤ gb715)); replace HB := A_ (below_step tb_ hb); clear hb hbox hg; obtain ⟨hcz5_0, hcz5_1, hcz5_2, hfz5_0, hfz5_1, hfz5_2⟩ := cf3_ BK715.out))
  go_loopg [14] k (fun kq v14 w' => ∃ (x14_1 : Int), v14 = .int .i64 x14_1 ∧ Aside0 (spec_roGood.l0 kq l1 l1 (l1.length : Int) x14_1 a0_0 a0_1 l0_2 = some r) ∧ Aside0 (kq ≤ k) ∧ Aside0 (w'.heap[gb715]? = some (.cells #[.int .i64 a0_0, .int .i64 a0_1, (.slice A0_2 l0_2.length c0_2)] 28 (0, 0))) ∧ Aside0 (Below w.heap.size w w'))
  case atStart => exact ⟨(0), tf_, H', ⟨Nat.le_refl _⟩, ⟨tk_ BK715⟩, ⟨tb_⟩⟩
  case round =>
   clear H'
   try clear c1
   try clear c2
   try clear p2
   try clear c3
   try clear c3b0
   try clear c3b1
   try clear hcz5_0
   try clear hcz5_1
   try clear hcz5_2
   try clear hfz5_0
   try clear hfz5_1
   try clear hfz5_2
   obtain ⟨x14_1, rfl, HA, HK1, BK715, HB⟩ := hrel
   cases gk with
   | zero => exact absurd HA.out (by simp [spec_roGood.l0])
   | succ k1 =>
    have H := HA.out
    clear HA
    simp only [spec_roGood.l0] at H
    by_cases c6 : x14_1 < (l1.length : Int)
    ·
     rw [if_pos c6] at H
     have c6b0 := decide_eq_true c6
     clear c6
     by_cases c7 : 0 ≤ x14_1
     ·
      rw [if_pos c7] at H
      have c7b0 := decide_eq_true c7
      clear c7
      by_cases c8 : x14_1 < (l1.length : Int)
      ·
       rw [if_pos c8] at H
       have c8b0 := decide_eq_true c8
       clear c8
       by_cases c9 : (rd l1 x14_1) = (-1)
       ·
        rw [if_pos c9] at H
        have c9b0 : ((rd l1 x14_1) == (-1)) = true := beq_iff_eq.mpr c9
        have c9b1 : ((rd l1 x14_1) != (-1)) = false := bne_eq_false_iff_eq.mpr c9
        clear c9
        have H' := A_ H
        clear H
        have p716 : 0 ≤ (x14_1 : Int) := od_
        have q716 : x14_1 < (l1.length : Int) := od_
        obtain ⟨ad716, e716, hx716_0⟩ := Kd.at_int HR1.out x14_1 p716 q716
        cases e716
        (try replace hx716_0 := (HB.out.cell (World.block_lt_of_cell? w _ hx716_0)).trans hx716_0)
        replace p716 := eq_true p716
        replace q716 := eq_true q716
        go_wp2
        go_roundg k1
        case measure => have := HK1.out; omega
        case rel => exact ⟨(wrap64 (x14_1 + 1)), tf_, H', ⟨by have := HK1.out; omega⟩, ⟨tk_ BK715⟩, ⟨tb_⟩⟩
       ·
        rw [if_neg c9] at H
        have c9b0 : ((rd l1 x14_1) == (-1)) = false := beq_eq_false_iff_ne.mpr c9
        have c9b1 : ((rd l1 x14_1) != (-1)) = true := bne_iff_ne.mpr c9
        replace H := Option.bind_eq_some_iff.mp H
        obtain ⟨t717, A100, H⟩ := H
        replace H : (if t717 = true then ((spec_boHas.f a0_0 a0_1 l0_2 x14_1 (rd l1 x14_1)).bind fun t718 => (if t718 = true then (if x14_1 ≤ (l1.length : Int) then ((spec_l1Has.f k1 (l1.take (x14_1 : Int).toNat) (rd l1 x14_1)).bind fun t723 => (if t723 = true then (some false) else (spec_roGood.l0 k1 l1 l1 (l1.length : Int) (wrap64 (x14_1 + 1)) a0_0 a0_1 l0_2))) else (none)) else (some false))) else (some false)) = some r := H
        have A10 := A_ A100
        clear A100
        by_cases c11 : t717 = true
        ·
         subst c11
         have H1 : ((spec_boHas.f a0_0 a0_1 l0_2 x14_1 (rd l1 x14_1)).bind fun t718 => (if t718 = true then (if x14_1 ≤ (l1.length : Int) then ((spec_l1Has.f k1 (l1.take (x14_1 : Int).toNat) (rd l1 x14_1)).bind fun t723 => (if t723 = true then (some false) else (spec_roGood.l0 k1 l1 l1 (l1.length : Int) (wrap64 (x14_1 + 1)) a0_0 a0_1 l0_2))) else (none)) else (some false))) = some r := by rw [if_pos rfl] at H; exact H
         clear H
         have H := H1
         clear H1
         replace H := Option.bind_eq_some_iff.mp H
         obtain ⟨t718, A120, H⟩ := H
         replace H : (if t718 = true then (if x14_1 ≤ (l1.length : Int) then ((spec_l1Has.f k1 (l1.take (x14_1 : Int).toNat) (rd l1 x14_1)).bind fun t723 => (if t723 = true then (some false) else (spec_roGood.l0 k1 l1 l1 (l1.length : Int) (wrap64 (x14_1 + 1)) a0_0 a0_1 l0_2))) else (none)) else (some false)) = some r := H
         have A12 := A_ A120
         clear A120
         by_cases c13 : t718 = true
         ·
          subst c13
          have H1 : (if x14_1 ≤ (l1.length : Int) then ((spec_l1Has.f k1 (l1.take (x14_1 : Int).toNat) (rd l1 x14_1)).bind fun t723 => (if t723 = true then (some false) else (spec_roGood.l0 k1 l1 l1 (l1.length : Int) (wrap64 (x14_1 + 1)) a0_0 a0_1 l0_2))) else (none)) = some r := by rw [if_pos rfl] at H; exact H
          clear H
          have H := H1
          clear H1
          have c14b0 := eq_true (od_ : 0 ≤ x14_1)
          by_cases c15 : x14_1 ≤ (l1.length : Int)
          ·
           rw [if_pos c15] at H
           have c15b0 := eq_true c15
           have c15b1 := decide_eq_true c15
           clear c15
           obtain ⟨y719, hy719⟩ : ∃ y_ : List Int, y_ = (l1.take (x14_1 : Int).toNat) := ⟨_, rfl⟩
           replace H : ((spec_l1Has.f k1 y719 (rd l1 x14_1)).bind fun t723 => (if t723 = true then (some false) else (spec_roGood.l0 k1 l1 l1 (l1.length : Int) (wrap64 (x14_1 + 1)) a0_0 a0_1 l0_2))) = some r := ty_ hy719 H
           have Ny719 := A_ hy719
           clear hy719
           replace H := Option.bind_eq_some_iff.mp H
           obtain ⟨t723, A160, H⟩ := H
           replace H : (if t723 = true then (some false) else (spec_roGood.l0 k1 l1 l1 (l1.length : Int) (wrap64 (x14_1 + 1)) a0_0 a0_1 l0_2)) = some r := H
           have A16 := A_ A160
           clear A160
           by_cases c17 : t723 = true
           ·
            subst c17
            have H1 : (some false) = some r := by rw [if_pos rfl] at H; exact H
            clear H
            have H := H1
            clear H1
            obtain rfl := Option.some.inj H
            have p716 : 0 ≤ (x14_1 : Int) := od_
            have q716 : x14_1 < (l1.length : Int) := od_
            obtain ⟨ad716, e716, hx716_0⟩ := Kd.at_int HR1.out x14_1 p716 q716
            cases e716
            (try replace hx716_0 := (HB.out.cell (World.block_lt_of_cell? w _ hx716_0)).trans hx716_0)
            replace p716 := eq_true p716
            replace q716 := eq_true q716
            obtain ⟨hcz18_0, hcz18_1, hcz18_2, hfz18_0, hfz18_1, hfz18_2⟩ := cf3_ BK715.out
            go_wp2_with (first | (refine gc_ 137 ?_; refine goesT_ (some 25) Try.func137 #[.int .i64 (rd l1 x14_1), .int .i64 0, .int .i64 (wrap64 (a0_1 - 1))] ?_; (with_reducible refine (spec_l1In.calls (rd l1 x14_1) 0 (wrap64 (a0_1 - 1)) true _ A10.out).mono ?_); rintro e w' ⟨rfl, ⟨nd, rfl⟩⟩; refine ⟨_, rfl, ?_⟩) | (go_at_call 121; (with_reducible refine (spec_boHas.calls a0_0 a0_1 _ _ l0_2 x14_1 (rd l1 x14_1) true _ ?side1 ?side2 A12.out).mono ?_); (case side1 => repeat (first | exact (Kd.C_below HR0_2.out tb_) | (with_reducible refine Kd.C_alloc ?_ _) | (with_reducible refine Kd.C_drewN ?_ _) | (with_reducible refine Kd.C_drew ?_))); (case side2 => exact HC0_2.out); rintro e w19 ⟨rfl, hb⟩; replace BK715 := A_ (blk_below (g := gb715) (o := .cells #[.int .i64 a0_0, .int .i64 a0_1, .slice A0_2 l0_2.length c0_2] 28 (0, 0)) (tk_ BK715) hb); replace HB := A_ (below_step tb_ hb); (try clear hb); have q20 : (x14_1 : Int) ≤ ((l1.length : Int) : Int) := od_; obtain ⟨i020, hi020, _, hsz20, _⟩ := info_parts info3; have hroom20 : l1.length ≤ c1 := HC1.out; have hC20 : Kd.C (Kd.int .i64) _ (some ad716) l1.length l1 := HR1.out; have hcut20 := cut_to (P := Try.prog) 22 3 .i64 Try.underlying22 hi020 (some ad716) l1.length c1 x14_1 (od_) q20 hroom20; have hr20 := Kd.C_take (m := (x14_1 : Int).toNat) hC20 (by omega); have hy20 : y719.length = (x14_1 : Int).toNat := (by rw [Ny719.out, List.length_take]; omega); rw [← Ny719.out] at hr20; rw [← hy20] at hcut20; have HR722 := A_ hr20; have HC722 := A_ (show y719.length ≤ c1 from by omega); clear hr20 hC20 hroom20 hi020 hsz20; have KY20 := A_ hy20; clear hy20; replace q20 := eq_true q20) | (go_at_call 184; (with_reducible refine (spec_l1Has.calls k1 _ _ y719 (rd l1 x14_1) true _ ?side1 ?side2 A16.out).mono ?_); (case side1 => exact tc_ HR722.out); (case side2 => exact HC722.out); rintro e w' ⟨rfl, ⟨nd, rfl⟩⟩))
            go_ret
            exact ⟨te_, tb_⟩
           ·
            replace c17 := Bool.eq_false_iff.mpr c17
            subst c17
            have H1 : (spec_roGood.l0 k1 l1 l1 (l1.length : Int) (wrap64 (x14_1 + 1)) a0_0 a0_1 l0_2) = some r := by rw [if_neg (show ¬ (false = true) by decide)] at H; exact H
            clear H
            have H := H1
            clear H1
            have H' := A_ H
            clear H
            have p716 : 0 ≤ (x14_1 : Int) := od_
            have q716 : x14_1 < (l1.length : Int) := od_
            obtain ⟨ad716, e716, hx716_0⟩ := Kd.at_int HR1.out x14_1 p716 q716
            cases e716
            (try replace hx716_0 := (HB.out.cell (World.block_lt_of_cell? w _ hx716_0)).trans hx716_0)
            replace p716 := eq_true p716
            replace q716 := eq_true q716
            obtain ⟨hcz21_0, hcz21_1, hcz21_2, hfz21_0, hfz21_1, hfz21_2⟩ := cf3_ BK715.out
            go_wp2_with (first | (refine gc_ 137 ?_; refine goesT_ (some 25) Try.func137 #[.int .i64 (rd l1 x14_1), .int .i64 0, .int .i64 (wrap64 (a0_1 - 1))] ?_; (with_reducible refine (spec_l1In.calls (rd l1 x14_1) 0 (wrap64 (a0_1 - 1)) true _ A10.out).mono ?_); rintro e w' ⟨rfl, ⟨nd, rfl⟩⟩; refine ⟨_, rfl, ?_⟩) | (go_at_call 121; (with_reducible refine (spec_boHas.calls a0_0 a0_1 _ _ l0_2 x14_1 (rd l1 x14_1) true _ ?side1 ?side2 A12.out).mono ?_); (case side1 => repeat (first | exact (Kd.C_below HR0_2.out tb_) | (with_reducible refine Kd.C_alloc ?_ _) | (with_reducible refine Kd.C_drewN ?_ _) | (with_reducible refine Kd.C_drew ?_))); (case side2 => exact HC0_2.out); rintro e w22 ⟨rfl, hb⟩; replace BK715 := A_ (blk_below (g := gb715) (o := .cells #[.int .i64 a0_0, .int .i64 a0_1, .slice A0_2 l0_2.length c0_2] 28 (0, 0)) (tk_ BK715) hb); replace HB := A_ (below_step tb_ hb); (try clear hb); have q23 : (x14_1 : Int) ≤ ((l1.length : Int) : Int) := od_; obtain ⟨i023, hi023, _, hsz23, _⟩ := info_parts info3; have hroom23 : l1.length ≤ c1 := HC1.out; have hC23 : Kd.C (Kd.int .i64) _ (some ad716) l1.length l1 := HR1.out; have hcut23 := cut_to (P := Try.prog) 22 3 .i64 Try.underlying22 hi023 (some ad716) l1.length c1 x14_1 (od_) q23 hroom23; have hr23 := Kd.C_take (m := (x14_1 : Int).toNat) hC23 (by omega); have hy23 : y719.length = (x14_1 : Int).toNat := (by rw [Ny719.out, List.length_take]; omega); rw [← Ny719.out] at hr23; rw [← hy23] at hcut23; have HR722 := A_ hr23; have HC722 := A_ (show y719.length ≤ c1 from by omega); clear hr23 hC23 hroom23 hi023 hsz23; have KY23 := A_ hy23; clear hy23; replace q23 := eq_true q23) | (go_at_call 184; (with_reducible refine (spec_l1Has.calls k1 _ _ y719 (rd l1 x14_1) false _ ?side1 ?side2 A16.out).mono ?_); (case side1 => exact tc_ HR722.out); (case side2 => exact HC722.out); rintro e w' ⟨rfl, ⟨nd, rfl⟩⟩))
            go_roundg k1
            case measure => have := HK1.out; omega
            case rel => exact ⟨(wrap64 (x14_1 + 1)), tf_, H', ⟨by have := HK1.out; omega⟩, ⟨tk_ BK715⟩, ⟨tb_⟩⟩
          ·
           rw [if_neg c15] at H
           exact absurd H (by simp)
         ·
          replace c13 := Bool.eq_false_iff.mpr c13
          subst c13
          have H1 : (some false) = some r := by rw [if_neg (show ¬ (false = true) by decide)] at H; exact H
          clear H
          have H := H1
          clear H1
          obtain rfl := Option.some.inj H
          have p716 : 0 ≤ (x14_1 : Int) := od_
          have q716 : x14_1 < (l1.length : Int) := od_
          obtain ⟨ad716, e716, hx716_0⟩ := Kd.at_int HR1.out x14_1 p716 q716
          cases e716
          (try replace hx716_0 := (HB.out.cell (World.block_lt_of_cell? w _ hx716_0)).trans hx716_0)
          replace p716 := eq_true p716
          replace q716 := eq_true q716
          obtain ⟨hcz24_0, hcz24_1, hcz24_2, hfz24_0, hfz24_1, hfz24_2⟩ := cf3_ BK715.out
          go_wp2_with (first | (refine gc_ 137 ?_; refine goesT_ (some 25) Try.func137 #[.int .i64 (rd l1 x14_1), .int .i64 0, .int .i64 (wrap64 (a0_1 - 1))] ?_; (with_reducible refine (spec_l1In.calls (rd l1 x14_1) 0 (wrap64 (a0_1 - 1)) true _ A10.out).mono ?_); rintro e w' ⟨rfl, ⟨nd, rfl⟩⟩; refine ⟨_, rfl, ?_⟩) | (go_at_call 121; (with_reducible refine (spec_boHas.calls a0_0 a0_1 _ _ l0_2 x14_1 (rd l1 x14_1) false _ ?side1 ?side2 A12.out).mono ?_); (case side1 => repeat (first | exact (Kd.C_below HR0_2.out tb_) | (with_reducible refine Kd.C_alloc ?_ _) | (with_reducible refine Kd.C_drewN ?_ _) | (with_reducible refine Kd.C_drew ?_))); (case side2 => exact HC0_2.out); rintro e w25 ⟨rfl, hb⟩; replace BK715 := A_ (blk_below (g := gb715) (o := .cells #[.int .i64 a0_0, .int .i64 a0_1, .slice A0_2 l0_2.length c0_2] 28 (0, 0)) (tk_ BK715) hb); replace HB := A_ (below_step tb_ hb); (try clear hb)))
          go_ret
          exact ⟨te_, tb_⟩
        ·
         replace c11 := Bool.eq_false_iff.mpr c11
         subst c11
         have H1 : (some false) = some r := by rw [if_neg (show ¬ (false = true) by decide)] at H; exact H
         clear H
         have H := H1
         clear H1
         obtain rfl := Option.some.inj H
         have p716 : 0 ≤ (x14_1 : Int) := od_
         have q716 : x14_1 < (l1.length : Int) := od_
         obtain ⟨ad716, e716, hx716_0⟩ := Kd.at_int HR1.out x14_1 p716 q716
         cases e716
         (try replace hx716_0 := (HB.out.cell (World.block_lt_of_cell? w _ hx716_0)).trans hx716_0)
         replace p716 := eq_true p716
         replace q716 := eq_true q716
         obtain ⟨hcz26_0, hcz26_1, hcz26_2, hfz26_0, hfz26_1, hfz26_2⟩ := cf3_ BK715.out
         go_wp2_with (first | (refine gc_ 137 ?_; refine goesT_ (some 25) Try.func137 #[.int .i64 (rd l1 x14_1), .int .i64 0, .int .i64 (wrap64 (a0_1 - 1))] ?_; (with_reducible refine (spec_l1In.calls (rd l1 x14_1) 0 (wrap64 (a0_1 - 1)) false _ A10.out).mono ?_); rintro e w' ⟨rfl, ⟨nd, rfl⟩⟩; refine ⟨_, rfl, ?_⟩))
         go_ret
         exact ⟨te_, tb_⟩
      ·
       rw [if_neg c8] at H
       exact absurd H (by simp)
     ·
      rw [if_neg c7] at H
      exact absurd H (by simp)
    ·
     rw [if_neg c6] at H
     have c6b0 := decide_eq_false c6
     clear c6
     obtain rfl := Option.some.inj H
     go_wp2
     go_ret
     exact ⟨te_, tb_⟩
 ·
  rw [if_neg c3] at H
  have c3b0 : ((l1.length : Int) == a0_0) = false := beq_eq_false_iff_ne.mpr c3
  have c3b1 : ((l1.length : Int) != a0_0) = true := bne_iff_ne.mpr c3
  obtain rfl := Option.some.inj H
  go_enter Try.func239, Try.ntmps239
  go_wp2_with (first | (refine gd_ 2 ?_; refine bx_ 2 #[.int .i64 a0_0, .int .i64 a0_1, .slice A0_2 l0_2.length c0_2] 28 ?_; intro gb715 hg w27 hbox hb; have BK715 := A_ (hbox); have GW715 := A_ ((ts_ hg : w.heap.size ≤ gb715)); have GE715 := A_ ((ts_ hg : w.heap.size ≤ gb715)); replace HB := A_ (below_step tb_ hb); clear hb hbox hg; obtain ⟨hcz28_0, hcz28_1, hcz28_2, hfz28_0, hfz28_1, hfz28_2⟩ := cf3_ BK715.out))
  go_ret
  exact ⟨te_, tb_⟩

end
end Go.Proofs.Ytnpacpdpgngdpaa.P
