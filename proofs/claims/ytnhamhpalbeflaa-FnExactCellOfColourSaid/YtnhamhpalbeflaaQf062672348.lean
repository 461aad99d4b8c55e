-- printed functions (wip/slim.py)
import Derived.Test.YtnhamhpalbeflaaPx0
import Derived.Test.YtnhamhpalbeflaaQ5c71cf2213
import Derived.Test.YtnhamhpalbeflaaQa6c99d4994
import Derived.Test.YtnhamhpalbeflaaQf6f8bf20c8
namespace Go.Proofs.Ytnhamhpalbeflaa.P
noncomputable section
set_option maxHeartbeats 8000000
set_option maxRecDepth 100000
open Go.RowKit Go.Proofs.YtnhamhpalbeflaaW.PrintWords Go.Proofs.YtnhamhpalbeflaaW.PrintLast Go.Proofs.YtnhamhpalbeflaaW.PrintMore
attribute [local go_sem] max2_int min2_int max_two min_two max_three min_three max_four min_four   -- for this text's walks alone
set_option linter.unusedVariables false
set_option linter.unusedSimpArgs false

/-! ### spec_biCell: function 112 -/
def spec_biCell.j0 : Nat → Int → Int → List Int → List Int → Bool → Int → Int → List Int → Option (Int × Int × Bool)
 | 0, _, _, _, _, _, _, _, _ => none
 | k + 1, x2, x3, x11, x12, x35, x649000, x649001, x649002 => if x35 = true then (some (0, 0, false)) else (if 0 ≤ x2 then (if x2 < (x11.length : Int) then (if 0 ≤ x3 then (if x3 < (x12.length : Int) then (if (wrap64 ((wrap64 ((wrap64 ((rd x11 x2) + (rd x12 x3))) - x649001)) + 1)) < 0 then (some (0, 0, false)) else (if (Int.tmod (wrap64 ((wrap64 ((wrap64 ((rd x11 x2) + (rd x12 x3))) - x649001)) + 1)) 2) = 1 then (some (0, 0, false)) else ((spec_l1In.f (wrap64 (Int.tdiv (wrap64 ((wrap64 ((wrap64 ((rd x11 x2) + (rd x12 x3))) - x649001)) + 1)) 2)) 0 (wrap64 (x649000 - 1))).bind fun t660 => (if t660 = true then ((spec_l1In.f (wrap64 ((rd x11 x2) - (wrap64 (Int.tdiv (wrap64 ((wrap64 ((wrap64 ((rd x11 x2) + (rd x12 x3))) - x649001)) + 1)) 2)))) 0 (wrap64 (x649001 - 1))).bind fun t661 => (if t661 = true then (some (wrap64 (Int.tdiv (wrap64 ((wrap64 ((wrap64 ((rd x11 x2) + (rd x12 x3))) - x649001)) + 1)) 2), wrap64 ((rd x11 x2) - (wrap64 (Int.tdiv (wrap64 ((wrap64 ((wrap64 ((rd x11 x2) + (rd x12 x3))) - x649001)) + 1)) 2))), true)) else (some (0, 0, false)))) else (some (0, 0, false)))))) else (none)) else (none)) else (none)) else (none))
def spec_biCell.f (k : Nat) (a0_0 : Int) (a0_1 : Int) (l0_2 : List Int) (a1 : Int) (a2 : Int) (a3 : Int) : Option (Int × Int × Bool) := (spec_biLines.f k a0_0 a0_1 l0_2 a1).bind fun bt649 => ((spec_l1In.f a2 0 (wrap64 ((bt649.1.length : Int) - 1))).bind fun t655 => (if t655 = true then ((spec_l1In.f a3 0 (wrap64 ((bt649.2.length : Int) - 1))).bind fun t656 => (spec_biCell.j0 k a2 a3 bt649.1 bt649.2 (!t656) a0_0 a0_1 l0_2)) else (spec_biCell.j0 k a2 a3 bt649.1 bt649.2 true a0_0 a0_1 l0_2)))
theorem spec_biCell.mono_l : ∀ k, (∀ y0 y1 y2 y3 y4 y5 y6 y7, LeO (spec_biCell.j0 k y0 y1 y2 y3 y4 y5 y6 y7) (spec_biCell.j0 (k + 1) y0 y1 y2 y3 y4 y5 y6 y7))
 | 0 => fun _ _ _ _ _ _ _ _ r h => by simp [spec_biCell.j0] at h
 | k + 1 => by
  have ih0 := spec_biCell.mono_l k
  ·
   intro y0 y1 y2 y3 y4 y5 y6 y7
   unfold spec_biCell.j0
   repeat' first | (with_reducible first | exact ih0 _ _ _ _ _ _ _ _ | exact spec_biLines.mono _ _ _ _ _ | exact LeO.refl _ | exact LeO.none _ | refine LeO.ite ?_ ?_ | refine LeO.bind ?_ (fun _ => ?_)) | exact ih0 _ _ _ _ _ _ _ _ | exact spec_biLines.mono _ _ _ _ _ | exact LeO.none _ | refine LeO.ite ?_ ?_ | refine LeO.bind ?_ (fun _ => ?_)
theorem spec_biCell.mono : ∀ a0 a1 a2 a3 a4 a5 k, LeO (spec_biCell.f k a0 a1 a2 a3 a4 a5) (spec_biCell.f (k + 1) a0 a1 a2 a3 a4 a5) := by
 intro a0 a1 a2 a3 a4 a5 k
 have ih0 := spec_biCell.mono_l k
 unfold spec_biCell.f
 repeat' first | (with_reducible first | exact ih0 _ _ _ _ _ _ _ _ | exact spec_biLines.mono _ _ _ _ _ | exact LeO.refl _ | exact LeO.none _ | refine LeO.ite ?_ ?_ | refine LeO.bind ?_ (fun _ => ?_)) | exact ih0 _ _ _ _ _ _ _ _ | exact spec_biLines.mono _ _ _ _ _ | exact LeO.none _ | refine LeO.ite ?_ ?_ | refine LeO.bind ?_ (fun _ => ?_)
theorem spec_biCell.calls (k : Nat) (a0_0 : Int) (a0_1 : Int) (A0_2 : Option Addr) (c0_2 : Nat) (l0_2 : List Int) (a1 : Int) (a2 : Int) (a3 : Int) (r1 : Int) (r2 : Int) (r3 : Bool) (w : World) (hr0_2 : Kd.C (Kd.int .i64) w A0_2 l0_2.length l0_2) (hc0_2 : l0_2.length ≤ c0_2) (h : spec_biCell.f k a0_0 a0_1 l0_2 a1 a2 a3 = some (r1, r2, r3)) :
  Calls Try.prog 112 #[.agg #[.int .i64 a0_0, .int .i64 a0_1, .slice A0_2 l0_2.length c0_2], .int .i64 a1, .int .i64 a2, .int .i64 a3] w fun e w' => e = .returned (.tuple #[.int .i64 r1, .int .i64 r2, .bool r3]) ∧ Below w.heap.size w w' := by
 have hu26 := Try.underlying26
 have HR0_2 := A_ hr0_2
 have HC0_2 := A_ hc0_2
 clear hr0_2 hc0_2
 have HB := A_ (Below.refl w.heap.size w)
 have H : ((spec_biLines.f k a0_0 a0_1 l0_2 a1).bind fun bt649 => ((spec_l1In.f a2 0 (wrap64 ((bt649.1.length : Int) - 1))).bind fun t655 => (if t655 = true then ((spec_l1In.f a3 0 (wrap64 ((bt649.2.length : Int) - 1))).bind fun t656 => (spec_biCell.j0 k a2 a3 bt649.1 bt649.2 (!t656) a0_0 a0_1 l0_2)) else (spec_biCell.j0 k a2 a3 bt649.1 bt649.2 true a0_0 a0_1 l0_2)))) = some (r1, r2, r3) := h
 clear h
 replace H := Option.bind_eq_some_iff.mp H
 obtain ⟨⟨t649, t652⟩, A50, H⟩ := H
 replace H : ((spec_l1In.f a2 0 (wrap64 ((t649.length : Int) - 1))).bind fun t655 => (if t655 = true then ((spec_l1In.f a3 0 (wrap64 ((t652.length : Int) - 1))).bind fun t656 => (spec_biCell.j0 k a2 a3 t649 t652 (!t656) a0_0 a0_1 l0_2)) else (spec_biCell.j0 k a2 a3 t649 t652 true a0_0 a0_1 l0_2))) = some (r1, r2, r3) := H
 have A5 := A_ A50
 clear A50
 have HC6 := A_ H
 clear H
 go_enter Try.func112, Try.ntmps112
 go_upto_region 2 with (first | (refine gd_ 4 ?_; (try (refine gate_guard (by rfl) ?_; dsimp only)); refine bx_ 4 #[.int .i64 a0_0, .int .i64 a0_1, .slice A0_2 l0_2.length c0_2] 26 ?_; intro gb648 hg w7 hbox hb; have BK648 := A_ (hbox); have GW648 := A_ ((ts_ hg : w.heap.size ≤ gb648)); have GE648 := A_ ((ts_ hg : w.heap.size ≤ gb648)); replace HB := A_ (below_step tb_ hb); clear hb hbox hg; obtain ⟨hcz8_0, hcz8_1, hcz8_2, hfz8_0, hfz8_1, hfz8_2⟩ := cf3_ BK648.out) | (go_at_call 176; (with_reducible refine (spec_biLines.calls k a0_0 a0_1 _ _ l0_2 a1 t649 t652 _ ?side1 ?side2 A5.out).mono ?_); (case side1 => exact tc_ HR0_2.out); (case side2 => exact HC0_2.out); rintro e w9 ⟨v650, v653, rfl, ho0, ho1, hb⟩; have HO651 := A_ (Kd.R_lower ho0 (below_size tb_)); have HO654 := A_ (Kd.R_lower ho1 (below_size tb_)); replace BK648 := A_ (blk_below (g := gb648) (o := .cells #[.int .i64 a0_0, .int .i64 a0_1, .slice A0_2 l0_2.length c0_2] 26 (0, 0)) (tk_ BK648) hb); replace HB := A_ (below_step tb_ hb); (try clear hb); (try clear ho0); (try clear ho1)))
 repeat (go_quiet (first | (refine gd_ 4 ?_; (try (refine gate_guard (by rfl) ?_; dsimp only)); refine bx_ 4 #[.int .i64 a0_0, .int .i64 a0_1, .slice A0_2 l0_2.length c0_2] 26 ?_; intro gb648 hg w7 hbox hb; have BK648 := A_ (hbox); have GW648 := A_ ((ts_ hg : w.heap.size ≤ gb648)); have GE648 := A_ ((ts_ hg : w.heap.size ≤ gb648)); replace HB := A_ (below_step tb_ hb); clear hb hbox hg; obtain ⟨hcz8_0, hcz8_1, hcz8_2, hfz8_0, hfz8_1, hfz8_2⟩ := cf3_ BK648.out) | (go_at_call 176; (with_reducible refine (spec_biLines.calls k a0_0 a0_1 _ _ l0_2 a1 t649 t652 _ ?side1 ?side2 A5.out).mono ?_); (case side1 => exact tc_ HR0_2.out); (case side2 => exact HC0_2.out); rintro e w9 ⟨v650, v653, rfl, ho0, ho1, hb⟩; have HO651 := A_ (Kd.R_lower ho0 (below_size tb_)); have HO654 := A_ (Kd.R_lower ho1 (below_size tb_)); replace BK648 := A_ (blk_below (g := gb648) (o := .cells #[.int .i64 a0_0, .int .i64 a0_1, .slice A0_2 l0_2.length c0_2] 26 (0, 0)) (tk_ BK648) hb); replace HB := A_ (below_step tb_ hb); (try clear hb); (try clear ho0); (try clear ho1))); go_upto_region 2 with (first | (refine gd_ 4 ?_; (try (refine gate_guard (by rfl) ?_; dsimp only)); refine bx_ 4 #[.int .i64 a0_0, .int .i64 a0_1, .slice A0_2 l0_2.length c0_2] 26 ?_; intro gb648 hg w7 hbox hb; have BK648 := A_ (hbox); have GW648 := A_ ((ts_ hg : w.heap.size ≤ gb648)); have GE648 := A_ ((ts_ hg : w.heap.size ≤ gb648)); replace HB := A_ (below_step tb_ hb); clear hb hbox hg; obtain ⟨hcz8_0, hcz8_1, hcz8_2, hfz8_0, hfz8_1, hfz8_2⟩ := cf3_ BK648.out) | (go_at_call 176; (with_reducible refine (spec_biLines.calls k a0_0 a0_1 _ _ l0_2 a1 t649 t652 _ ?side1 ?side2 A5.out).mono ?_); (case side1 => exact tc_ HR0_2.out); (case side2 => exact HC0_2.out); rintro e w9 ⟨v650, v653, rfl, ho0, ho1, hb⟩; have HO651 := A_ (Kd.R_lower ho0 (below_size tb_)); have HO654 := A_ (Kd.R_lower ho1 (below_size tb_)); replace BK648 := A_ (blk_below (g := gb648) (o := .cells #[.int .i64 a0_0, .int .i64 a0_1, .slice A0_2 l0_2.length c0_2] 26 (0, 0)) (tk_ BK648) hb); replace HB := A_ (below_step tb_ hb); (try clear hb); (try clear ho0); (try clear ho1))))
 (try simp only [Act.put, List.setIfInBounds_toArray, List.set_cons_zero, List.set_cons_succ])
 go_cut [35] (fun v35 wc => ∃ (kq : Nat) (x35_5 : Bool), v35 = .bool x35_5 ∧ Aside0 (spec_biCell.j0 kq a2 a3 t649 t652 x35_5 a0_0 a0_1 l0_2 = some (r1, r2, r3)) ∧ Aside0 (kq ≤ k) ∧ Aside0 (Kd.R (Kd.int .i64) 3 wc w.heap.size (fun k_ => some k_ ≠ (v653 : Value).ownBlock) v650 t649) ∧ Aside0 (Kd.R (Kd.int .i64) 3 wc w.heap.size (fun k_ => some k_ ≠ (v650 : Value).ownBlock) v653 t652) ∧ Aside0 (wc.heap[gb648]? = some (.cells #[.int .i64 a0_0, .int .i64 a0_1, (.slice A0_2 l0_2.length c0_2)] 26 (0, 0))) ∧ Aside0 (Below w.heap.size w wc))
 case first =>
  have H := HC6.out
  clear HC6
  replace H := Option.bind_eq_some_iff.mp H
  obtain ⟨t655, A100, H⟩ := H
  replace H : (if t655 = true then ((spec_l1In.f a3 0 (wrap64 ((t652.length : Int) - 1))).bind fun t656 => (spec_biCell.j0 k a2 a3 t649 t652 (!t656) a0_0 a0_1 l0_2)) else (spec_biCell.j0 k a2 a3 t649 t652 true a0_0 a0_1 l0_2)) = some (r1, r2, r3) := H
  have A10 := A_ A100
  clear A100
  by_cases c11 : t655 = true
  ·
   subst c11
   have H1 : ((spec_l1In.f a3 0 (wrap64 ((t652.length : Int) - 1))).bind fun t656 => (spec_biCell.j0 k a2 a3 t649 t652 (!t656) a0_0 a0_1 l0_2)) = some (r1, r2, r3) := by rw [if_pos rfl] at H; exact H
   clear H
   have H := H1
   clear H1
   replace H := Option.bind_eq_some_iff.mp H
   obtain ⟨t656, A120, H⟩ := H
   replace H : (spec_biCell.j0 k a2 a3 t649 t652 (!t656) a0_0 a0_1 l0_2) = some (r1, r2, r3) := H
   have A12 := A_ A120
   clear A120
   have H' := A_ H
   clear H
   obtain ⟨Ao13, co13, eo13⟩ := Kd.R_slice HO651.out
   subst eo13
   go_wp2_with (first | (go_at_call 105; (with_reducible refine (spec_l1In.calls a2 0 (wrap64 ((t649.length : Int) - 1)) true _ A10.out).mono ?_); rintro e w' ⟨rfl, ⟨nd, rfl⟩⟩; (try exact dn_); obtain ⟨Ao14, co14, eo14⟩ := Kd.R_slice HO654.out; subst eo14) | (go_at_call 105; (with_reducible refine (spec_l1In.calls a3 0 (wrap64 ((t652.length : Int) - 1)) t656 _ A12.out).mono ?_); rintro e w' ⟨rfl, ⟨nd, rfl⟩⟩; (try exact dn_)))
   repeat (go_quiet (first | (go_at_call 105; (with_reducible refine (spec_l1In.calls a2 0 (wrap64 ((t649.length : Int) - 1)) true _ A10.out).mono ?_); rintro e w' ⟨rfl, ⟨nd, rfl⟩⟩; (try exact dn_); obtain ⟨Ao14, co14, eo14⟩ := Kd.R_slice HO654.out; subst eo14) | (go_at_call 105; (with_reducible refine (spec_l1In.calls a3 0 (wrap64 ((t652.length : Int) - 1)) t656 _ A12.out).mono ?_); rintro e w' ⟨rfl, ⟨nd, rfl⟩⟩; (try exact dn_))); try go_wp2_with (first | (go_at_call 105; (with_reducible refine (spec_l1In.calls a2 0 (wrap64 ((t649.length : Int) - 1)) true _ A10.out).mono ?_); rintro e w' ⟨rfl, ⟨nd, rfl⟩⟩; (try exact dn_); obtain ⟨Ao14, co14, eo14⟩ := Kd.R_slice HO654.out; subst eo14) | (go_at_call 105; (with_reducible refine (spec_l1In.calls a3 0 (wrap64 ((t652.length : Int) - 1)) t656 _ A12.out).mono ?_); rintro e w' ⟨rfl, ⟨nd, rfl⟩⟩; (try exact dn_))))
   go_meet
   case rel => exact ⟨_, (!t656), tf_, H', ⟨by first | omega | exact Nat.le_refl _⟩, ⟨tr_x HO651.out⟩, ⟨tr_x HO654.out⟩, ⟨tk_ BK648⟩, ⟨tb_⟩⟩
  ·
   replace c11 := Bool.eq_false_iff.mpr c11
   subst c11
   have H1 : (spec_biCell.j0 k a2 a3 t649 t652 true a0_0 a0_1 l0_2) = some (r1, r2, r3) := by rw [if_neg (show ¬ (false = true) by decide)] at H; exact H
   clear H
   have H := H1
   clear H1
   have H' := A_ H
   clear H
   obtain ⟨Ao15, co15, eo15⟩ := Kd.R_slice HO651.out
   subst eo15
   go_wp2_with (first | (go_at_call 105; (with_reducible refine (spec_l1In.calls a2 0 (wrap64 ((t649.length : Int) - 1)) false _ A10.out).mono ?_); rintro e w' ⟨rfl, ⟨nd, rfl⟩⟩; (try exact dn_)))
   repeat (go_quiet (first | (go_at_call 105; (with_reducible refine (spec_l1In.calls a2 0 (wrap64 ((t649.length : Int) - 1)) false _ A10.out).mono ?_); rintro e w' ⟨rfl, ⟨nd, rfl⟩⟩; (try exact dn_))); try go_wp2_with (first | (go_at_call 105; (with_reducible refine (spec_l1In.calls a2 0 (wrap64 ((t649.length : Int) - 1)) false _ A10.out).mono ?_); rintro e w' ⟨rfl, ⟨nd, rfl⟩⟩; (try exact dn_))))
   go_meet
   case rel => exact ⟨_, (true), tf_, H', ⟨by first | omega | exact Nat.le_refl _⟩, ⟨tr_x HO651.out⟩, ⟨tr_x HO654.out⟩, ⟨tk_ BK648⟩, ⟨tb_⟩⟩
 case rest =>
  clear HC6
  try clear c1
  try clear p2
  try clear p6
  try clear c11
  try clear hcz8_0
  try clear hcz8_1
  try clear hcz8_2
  try clear hfz8_0
  try clear hfz8_1
  try clear hfz8_2
  obtain ⟨kq, x35_5, rfl, HA, HJ5, HO_11, HO_12, BK648, HB⟩ := hcut
  cases kq with
  | zero => exact absurd HA.out (by simp [spec_biCell.j0])
  | succ kj5 =>
   have H := HA.out
   clear HA
   simp only [spec_biCell.j0] at H
   by_cases c16 : x35_5 = true
   ·
    subst c16
    have H1 : (some (0, 0, false)) = some (r1, r2, r3) := by rw [if_pos rfl] at H; exact H
    clear H
    have H := H1
    clear H1
    simp only [Option.some.injEq, Prod.mk.injEq] at H
    obtain ⟨rfl, rfl, rfl⟩ := H
    go_wp2
    repeat (go_quiet (fail); try go_wp2)
    go_ret3
    exact ⟨te_, tb_⟩
   ·
    replace c16 := Bool.eq_false_iff.mpr c16
    subst c16
    have H1 : (if 0 ≤ a2 then (if a2 < (t649.length : Int) then (if 0 ≤ a3 then (if a3 < (t652.length : Int) then (if (wrap64 ((wrap64 ((wrap64 ((rd t649 a2) + (rd t652 a3))) - a0_1)) + 1)) < 0 then (some (0, 0, false)) else (if (Int.tmod (wrap64 ((wrap64 ((wrap64 ((rd t649 a2) + (rd t652 a3))) - a0_1)) + 1)) 2) = 1 then (some (0, 0, false)) else ((spec_l1In.f (wrap64 (Int.tdiv (wrap64 ((wrap64 ((wrap64 ((rd t649 a2) + (rd t652 a3))) - a0_1)) + 1)) 2)) 0 (wrap64 (a0_0 - 1))).bind fun t660 => (if t660 = true then ((spec_l1In.f (wrap64 ((rd t649 a2) - (wrap64 (Int.tdiv (wrap64 ((wrap64 ((wrap64 ((rd t649 a2) + (rd t652 a3))) - a0_1)) + 1)) 2)))) 0 (wrap64 (a0_1 - 1))).bind fun t661 => (if t661 = true then (some (wrap64 (Int.tdiv (wrap64 ((wrap64 ((wrap64 ((rd t649 a2) + (rd t652 a3))) - a0_1)) + 1)) 2), wrap64 ((rd t649 a2) - (wrap64 (Int.tdiv (wrap64 ((wrap64 ((wrap64 ((rd t649 a2) + (rd t652 a3))) - a0_1)) + 1)) 2))), true)) else (some (0, 0, false)))) else (some (0, 0, false)))))) else (none)) else (none)) else (none)) else (none)) = some (r1, r2, r3) := by rw [if_neg (show ¬ (false = true) by decide)] at H; exact H
    clear H
    have H := H1
    clear H1
    by_cases c17 : 0 ≤ a2
    ·
     rw [if_pos c17] at H
     have c17b0 := decide_eq_true c17
     clear c17
     by_cases c18 : a2 < (t649.length : Int)
     ·
      rw [if_pos c18] at H
      have c18b0 := decide_eq_true c18
      clear c18
      by_cases c19 : 0 ≤ a3
      ·
       rw [if_pos c19] at H
       have c19b0 := decide_eq_true c19
       clear c19
       by_cases c20 : a3 < (t652.length : Int)
       ·
        rw [if_pos c20] at H
        have c20b0 := decide_eq_true c20
        clear c20
        by_cases c21 : (wrap64 ((wrap64 ((wrap64 ((rd t649 a2) + (rd t652 a3))) - a0_1)) + 1)) < 0
        ·
         rw [if_pos c21] at H
         have c21b0 := decide_eq_true c21
         clear c21
         simp only [Option.some.injEq, Prod.mk.injEq] at H
         obtain ⟨rfl, rfl, rfl⟩ := H
         obtain ⟨Ao22, co22, eo22⟩ := Kd.R_slice HO_11.out
         subst eo22
         have p657 : 0 ≤ (a2 : Int) := od_
         have q657 : a2 < (t649.length : Int) := od_
         obtain ⟨ad657, e657, hx657_0⟩ := Kd.at_int (Kd.R_reads' HO_11.out).2.2 a2 p657 q657
         cases e657
         replace p657 := eq_true p657
         replace q657 := eq_true q657
         obtain ⟨Ao23, co23, eo23⟩ := Kd.R_slice HO_12.out
         subst eo23
         have p658 : 0 ≤ (a3 : Int) := od_
         have q658 : a3 < (t652.length : Int) := od_
         obtain ⟨ad658, e658, hx658_0⟩ := Kd.at_int (Kd.R_reads' HO_12.out).2.2 a3 p658 q658
         cases e658
         replace p658 := eq_true p658
         replace q658 := eq_true q658
         obtain ⟨hcz24_0, hcz24_1, hcz24_2, hfz24_0, hfz24_1, hfz24_2⟩ := cf3_ BK648.out
         have p659 : 0 ≤ (a2 : Int) := od_
         have q659 : a2 < (t649.length : Int) := od_
         obtain ⟨ad659, e659, hx659_0⟩ := Kd.at_int (Kd.R_reads' HO_11.out).2.2 a2 p659 q659
         obtain rfl : ad657 = ad659 := (by injection e659)
         replace p659 := eq_true p659
         replace q659 := eq_true q659
         go_wp2
         repeat (go_quiet (fail); try go_wp2)
         go_ret3
         exact ⟨te_, tb_⟩
        ·
         rw [if_neg c21] at H
         have c21b0 := decide_eq_false c21
         clear c21
         by_cases c25 : (Int.tmod (wrap64 ((wrap64 ((wrap64 ((rd t649 a2) + (rd t652 a3))) - a0_1)) + 1)) 2) = 1
         ·
          rw [if_pos c25] at H
          have c25b0 : ((Int.tmod (wrap64 ((wrap64 ((wrap64 ((rd t649 a2) + (rd t652 a3))) - a0_1)) + 1)) 2) == 1) = true := beq_iff_eq.mpr c25
          have c25b1 : ((Int.tmod (wrap64 ((wrap64 ((wrap64 ((rd t649 a2) + (rd t652 a3))) - a0_1)) + 1)) 2) != 1) = false := bne_eq_false_iff_eq.mpr c25
          clear c25
          simp only [Option.some.injEq, Prod.mk.injEq] at H
          obtain ⟨rfl, rfl, rfl⟩ := H
          obtain ⟨Ao26, co26, eo26⟩ := Kd.R_slice HO_11.out
          subst eo26
          have p657 : 0 ≤ (a2 : Int) := od_
          have q657 : a2 < (t649.length : Int) := od_
          obtain ⟨ad657, e657, hx657_0⟩ := Kd.at_int (Kd.R_reads' HO_11.out).2.2 a2 p657 q657
          cases e657
          replace p657 := eq_true p657
          replace q657 := eq_true q657
          obtain ⟨Ao27, co27, eo27⟩ := Kd.R_slice HO_12.out
          subst eo27
          have p658 : 0 ≤ (a3 : Int) := od_
          have q658 : a3 < (t652.length : Int) := od_
          obtain ⟨ad658, e658, hx658_0⟩ := Kd.at_int (Kd.R_reads' HO_12.out).2.2 a3 p658 q658
          cases e658
          replace p658 := eq_true p658
          replace q658 := eq_true q658
          obtain ⟨hcz28_0, hcz28_1, hcz28_2, hfz28_0, hfz28_1, hfz28_2⟩ := cf3_ BK648.out
          have p659 : 0 ≤ (a2 : Int) := od_
          have q659 : a2 < (t649.length : Int) := od_
          obtain ⟨ad659, e659, hx659_0⟩ := Kd.at_int (Kd.R_reads' HO_11.out).2.2 a2 p659 q659
          obtain rfl : ad657 = ad659 := (by injection e659)
          replace p659 := eq_true p659
          replace q659 := eq_true q659
          go_wp2
          repeat (go_quiet (fail); try go_wp2)
          go_ret3
          exact ⟨te_, tb_⟩
         ·
          rw [if_neg c25] at H
          have c25b0 : ((Int.tmod (wrap64 ((wrap64 ((wrap64 ((rd t649 a2) + (rd t652 a3))) - a0_1)) + 1)) 2) == 1) = false := beq_eq_false_iff_ne.mpr c25
          have c25b1 : ((Int.tmod (wrap64 ((wrap64 ((wrap64 ((rd t649 a2) + (rd t652 a3))) - a0_1)) + 1)) 2) != 1) = true := bne_iff_ne.mpr c25
          replace H := Option.bind_eq_some_iff.mp H
          obtain ⟨t660, A290, H⟩ := H
          replace H : (if t660 = true then ((spec_l1In.f (wrap64 ((rd t649 a2) - (wrap64 (Int.tdiv (wrap64 ((wrap64 ((wrap64 ((rd t649 a2) + (rd t652 a3))) - a0_1)) + 1)) 2)))) 0 (wrap64 (a0_1 - 1))).bind fun t661 => (if t661 = true then (some (wrap64 (Int.tdiv (wrap64 ((wrap64 ((wrap64 ((rd t649 a2) + (rd t652 a3))) - a0_1)) + 1)) 2), wrap64 ((rd t649 a2) - (wrap64 (Int.tdiv (wrap64 ((wrap64 ((wrap64 ((rd t649 a2) + (rd t652 a3))) - a0_1)) + 1)) 2))), true)) else (some (0, 0, false)))) else (some (0, 0, false))) = some (r1, r2, r3) := H
          have A29 := A_ A290
          clear A290
          by_cases c30 : t660 = true
          ·
           subst c30
           have H1 : ((spec_l1In.f (wrap64 ((rd t649 a2) - (wrap64 (Int.tdiv (wrap64 ((wrap64 ((wrap64 ((rd t649 a2) + (rd t652 a3))) - a0_1)) + 1)) 2)))) 0 (wrap64 (a0_1 - 1))).bind fun t661 => (if t661 = true then (some (wrap64 (Int.tdiv (wrap64 ((wrap64 ((wrap64 ((rd t649 a2) + (rd t652 a3))) - a0_1)) + 1)) 2), wrap64 ((rd t649 a2) - (wrap64 (Int.tdiv (wrap64 ((wrap64 ((wrap64 ((rd t649 a2) + (rd t652 a3))) - a0_1)) + 1)) 2))), true)) else (some (0, 0, false)))) = some (r1, r2, r3) := by rw [if_pos rfl] at H; exact H
           clear H
           have H := H1
           clear H1
           replace H := Option.bind_eq_some_iff.mp H
           obtain ⟨t661, A310, H⟩ := H
           replace H : (if t661 = true then (some (wrap64 (Int.tdiv (wrap64 ((wrap64 ((wrap64 ((rd t649 a2) + (rd t652 a3))) - a0_1)) + 1)) 2), wrap64 ((rd t649 a2) - (wrap64 (Int.tdiv (wrap64 ((wrap64 ((wrap64 ((rd t649 a2) + (rd t652 a3))) - a0_1)) + 1)) 2))), true)) else (some (0, 0, false))) = some (r1, r2, r3) := H
           have A31 := A_ A310
           clear A310
           by_cases c32 : t661 = true
           ·
            subst c32
            have H1 : (some (wrap64 (Int.tdiv (wrap64 ((wrap64 ((wrap64 ((rd t649 a2) + (rd t652 a3))) - a0_1)) + 1)) 2), wrap64 ((rd t649 a2) - (wrap64 (Int.tdiv (wrap64 ((wrap64 ((wrap64 ((rd t649 a2) + (rd t652 a3))) - a0_1)) + 1)) 2))), true)) = some (r1, r2, r3) := by rw [if_pos rfl] at H; exact H
            clear H
            have H := H1
            clear H1
            simp only [Option.some.injEq, Prod.mk.injEq] at H
            obtain ⟨rfl, rfl, rfl⟩ := H
            obtain ⟨Ao33, co33, eo33⟩ := Kd.R_slice HO_11.out
            subst eo33
            have p657 : 0 ≤ (a2 : Int) := od_
            have q657 : a2 < (t649.length : Int) := od_
            obtain ⟨ad657, e657, hx657_0⟩ := Kd.at_int (Kd.R_reads' HO_11.out).2.2 a2 p657 q657
            cases e657
            replace p657 := eq_true p657
            replace q657 := eq_true q657
            obtain ⟨Ao34, co34, eo34⟩ := Kd.R_slice HO_12.out
            subst eo34
            have p658 : 0 ≤ (a3 : Int) := od_
            have q658 : a3 < (t652.length : Int) := od_
            obtain ⟨ad658, e658, hx658_0⟩ := Kd.at_int (Kd.R_reads' HO_12.out).2.2 a3 p658 q658
            cases e658
            replace p658 := eq_true p658
            replace q658 := eq_true q658
            obtain ⟨hcz35_0, hcz35_1, hcz35_2, hfz35_0, hfz35_1, hfz35_2⟩ := cf3_ BK648.out
            have p659 : 0 ≤ (a2 : Int) := od_
            have q659 : a2 < (t649.length : Int) := od_
            obtain ⟨ad659, e659, hx659_0⟩ := Kd.at_int (Kd.R_reads' HO_11.out).2.2 a2 p659 q659
            obtain rfl : ad657 = ad659 := (by injection e659)
            replace p659 := eq_true p659
            replace q659 := eq_true q659
            go_wp2_with (first | (go_at_call 105; (with_reducible refine (spec_l1In.calls (wrap64 (Int.tdiv (wrap64 ((wrap64 ((wrap64 ((rd t649 a2) + (rd t652 a3))) - a0_1)) + 1)) 2)) 0 (wrap64 (a0_0 - 1)) true _ A29.out).mono ?_); rintro e w' ⟨rfl, ⟨nd, rfl⟩⟩; (try exact dn_)) | (go_at_call 105; (with_reducible refine (spec_l1In.calls (wrap64 ((rd t649 a2) - (wrap64 (Int.tdiv (wrap64 ((wrap64 ((wrap64 ((rd t649 a2) + (rd t652 a3))) - a0_1)) + 1)) 2)))) 0 (wrap64 (a0_1 - 1)) true _ A31.out).mono ?_); rintro e w' ⟨rfl, ⟨nd, rfl⟩⟩; (try exact dn_)))
            repeat (go_quiet (first | (go_at_call 105; (with_reducible refine (spec_l1In.calls (wrap64 (Int.tdiv (wrap64 ((wrap64 ((wrap64 ((rd t649 a2) + (rd t652 a3))) - a0_1)) + 1)) 2)) 0 (wrap64 (a0_0 - 1)) true _ A29.out).mono ?_); rintro e w' ⟨rfl, ⟨nd, rfl⟩⟩; (try exact dn_)) | (go_at_call 105; (with_reducible refine (spec_l1In.calls (wrap64 ((rd t649 a2) - (wrap64 (Int.tdiv (wrap64 ((wrap64 ((wrap64 ((rd t649 a2) + (rd t652 a3))) - a0_1)) + 1)) 2)))) 0 (wrap64 (a0_1 - 1)) true _ A31.out).mono ?_); rintro e w' ⟨rfl, ⟨nd, rfl⟩⟩; (try exact dn_))); try go_wp2_with (first | (go_at_call 105; (with_reducible refine (spec_l1In.calls (wrap64 (Int.tdiv (wrap64 ((wrap64 ((wrap64 ((rd t649 a2) + (rd t652 a3))) - a0_1)) + 1)) 2)) 0 (wrap64 (a0_0 - 1)) true _ A29.out).mono ?_); rintro e w' ⟨rfl, ⟨nd, rfl⟩⟩; (try exact dn_)) | (go_at_call 105; (with_reducible refine (spec_l1In.calls (wrap64 ((rd t649 a2) - (wrap64 (Int.tdiv (wrap64 ((wrap64 ((wrap64 ((rd t649 a2) + (rd t652 a3))) - a0_1)) + 1)) 2)))) 0 (wrap64 (a0_1 - 1)) true _ A31.out).mono ?_); rintro e w' ⟨rfl, ⟨nd, rfl⟩⟩; (try exact dn_))))
            go_ret3
            exact ⟨te_, tb_⟩
           ·
            replace c32 := Bool.eq_false_iff.mpr c32
            subst c32
            have H1 : (some (0, 0, false)) = some (r1, r2, r3) := by rw [if_neg (show ¬ (false = true) by decide)] at H; exact H
            clear H
            have H := H1
            clear H1
            simp only [Option.some.injEq, Prod.mk.injEq] at H
            obtain ⟨rfl, rfl, rfl⟩ := H
            obtain ⟨Ao36, co36, eo36⟩ := Kd.R_slice HO_11.out
            subst eo36
            have p657 : 0 ≤ (a2 : Int) := od_
            have q657 : a2 < (t649.length : Int) := od_
            obtain ⟨ad657, e657, hx657_0⟩ := Kd.at_int (Kd.R_reads' HO_11.out).2.2 a2 p657 q657
            cases e657
            replace p657 := eq_true p657
            replace q657 := eq_true q657
            obtain ⟨Ao37, co37, eo37⟩ := Kd.R_slice HO_12.out
            subst eo37
            have p658 : 0 ≤ (a3 : Int) := od_
            have q658 : a3 < (t652.length : Int) := od_
            obtain ⟨ad658, e658, hx658_0⟩ := Kd.at_int (Kd.R_reads' HO_12.out).2.2 a3 p658 q658
            cases e658
            replace p658 := eq_true p658
            replace q658 := eq_true q658
            obtain ⟨hcz38_0, hcz38_1, hcz38_2, hfz38_0, hfz38_1, hfz38_2⟩ := cf3_ BK648.out
            have p659 : 0 ≤ (a2 : Int) := od_
            have q659 : a2 < (t649.length : Int) := od_
            obtain ⟨ad659, e659, hx659_0⟩ := Kd.at_int (Kd.R_reads' HO_11.out).2.2 a2 p659 q659
            obtain rfl : ad657 = ad659 := (by injection e659)
            replace p659 := eq_true p659
            replace q659 := eq_true q659
            go_wp2_with (first | (go_at_call 105; (with_reducible refine (spec_l1In.calls (wrap64 (Int.tdiv (wrap64 ((wrap64 ((wrap64 ((rd t649 a2) + (rd t652 a3))) - a0_1)) + 1)) 2)) 0 (wrap64 (a0_0 - 1)) true _ A29.out).mono ?_); rintro e w' ⟨rfl, ⟨nd, rfl⟩⟩; (try exact dn_)) | (go_at_call 105; (with_reducible refine (spec_l1In.calls (wrap64 ((rd t649 a2) - (wrap64 (Int.tdiv (wrap64 ((wrap64 ((wrap64 ((rd t649 a2) + (rd t652 a3))) - a0_1)) + 1)) 2)))) 0 (wrap64 (a0_1 - 1)) false _ A31.out).mono ?_); rintro e w' ⟨rfl, ⟨nd, rfl⟩⟩; (try exact dn_)))
            repeat (go_quiet (first | (go_at_call 105; (with_reducible refine (spec_l1In.calls (wrap64 (Int.tdiv (wrap64 ((wrap64 ((wrap64 ((rd t649 a2) + (rd t652 a3))) - a0_1)) + 1)) 2)) 0 (wrap64 (a0_0 - 1)) true _ A29.out).mono ?_); rintro e w' ⟨rfl, ⟨nd, rfl⟩⟩; (try exact dn_)) | (go_at_call 105; (with_reducible refine (spec_l1In.calls (wrap64 ((rd t649 a2) - (wrap64 (Int.tdiv (wrap64 ((wrap64 ((wrap64 ((rd t649 a2) + (rd t652 a3))) - a0_1)) + 1)) 2)))) 0 (wrap64 (a0_1 - 1)) false _ A31.out).mono ?_); rintro e w' ⟨rfl, ⟨nd, rfl⟩⟩; (try exact dn_))); try go_wp2_with (first | (go_at_call 105; (with_reducible refine (spec_l1In.calls (wrap64 (Int.tdiv (wrap64 ((wrap64 ((wrap64 ((rd t649 a2) + (rd t652 a3))) - a0_1)) + 1)) 2)) 0 (wrap64 (a0_0 - 1)) true _ A29.out).mono ?_); rintro e w' ⟨rfl, ⟨nd, rfl⟩⟩; (try exact dn_)) | (go_at_call 105; (with_reducible refine (spec_l1In.calls (wrap64 ((rd t649 a2) - (wrap64 (Int.tdiv (wrap64 ((wrap64 ((wrap64 ((rd t649 a2) + (rd t652 a3))) - a0_1)) + 1)) 2)))) 0 (wrap64 (a0_1 - 1)) false _ A31.out).mono ?_); rintro e w' ⟨rfl, ⟨nd, rfl⟩⟩; (try exact dn_))))
            go_ret3
            exact ⟨te_, tb_⟩
          ·
           replace c30 := Bool.eq_false_iff.mpr c30
           subst c30
           have H1 : (some (0, 0, false)) = some (r1, r2, r3) := by rw [if_neg (show ¬ (false = true) by decide)] at H; exact H
           clear H
           have H := H1
           clear H1
           simp only [Option.some.injEq, Prod.mk.injEq] at H
           obtain ⟨rfl, rfl, rfl⟩ := H
           obtain ⟨Ao39, co39, eo39⟩ := Kd.R_slice HO_11.out
           subst eo39
           have p657 : 0 ≤ (a2 : Int) := od_
           have q657 : a2 < (t649.length : Int) := od_
           obtain ⟨ad657, e657, hx657_0⟩ := Kd.at_int (Kd.R_reads' HO_11.out).2.2 a2 p657 q657
           cases e657
           replace p657 := eq_true p657
           replace q657 := eq_true q657
           obtain ⟨Ao40, co40, eo40⟩ := Kd.R_slice HO_12.out
           subst eo40
           have p658 : 0 ≤ (a3 : Int) := od_
           have q658 : a3 < (t652.length : Int) := od_
           obtain ⟨ad658, e658, hx658_0⟩ := Kd.at_int (Kd.R_reads' HO_12.out).2.2 a3 p658 q658
           cases e658
           replace p658 := eq_true p658
           replace q658 := eq_true q658
           obtain ⟨hcz41_0, hcz41_1, hcz41_2, hfz41_0, hfz41_1, hfz41_2⟩ := cf3_ BK648.out
           have p659 : 0 ≤ (a2 : Int) := od_
           have q659 : a2 < (t649.length : Int) := od_
           obtain ⟨ad659, e659, hx659_0⟩ := Kd.at_int (Kd.R_reads' HO_11.out).2.2 a2 p659 q659
           obtain rfl : ad657 = ad659 := (by injection e659)
           replace p659 := eq_true p659
           replace q659 := eq_true q659
           go_wp2_with (first | (go_at_call 105; (with_reducible refine (spec_l1In.calls (wrap64 (Int.tdiv (wrap64 ((wrap64 ((wrap64 ((rd t649 a2) + (rd t652 a3))) - a0_1)) + 1)) 2)) 0 (wrap64 (a0_0 - 1)) false _ A29.out).mono ?_); rintro e w' ⟨rfl, ⟨nd, rfl⟩⟩; (try exact dn_)))
           repeat (go_quiet (first | (go_at_call 105; (with_reducible refine (spec_l1In.calls (wrap64 (Int.tdiv (wrap64 ((wrap64 ((wrap64 ((rd t649 a2) + (rd t652 a3))) - a0_1)) + 1)) 2)) 0 (wrap64 (a0_0 - 1)) false _ A29.out).mono ?_); rintro e w' ⟨rfl, ⟨nd, rfl⟩⟩; (try exact dn_))); try go_wp2_with (first | (go_at_call 105; (with_reducible refine (spec_l1In.calls (wrap64 (Int.tdiv (wrap64 ((wrap64 ((wrap64 ((rd t649 a2) + (rd t652 a3))) - a0_1)) + 1)) 2)) 0 (wrap64 (a0_0 - 1)) false _ A29.out).mono ?_); rintro e w' ⟨rfl, ⟨nd, rfl⟩⟩; (try exact dn_))))
           go_ret3
           exact ⟨te_, tb_⟩
       ·
        rw [if_neg c20] at H
        exact absurd H (by simp)
      ·
       rw [if_neg c19] at H
       exact absurd H (by simp)
     ·
      rw [if_neg c18] at H
      exact absurd H (by simp)
    ·
     rw [if_neg c17] at H
     exact absurd H (by simp)

/-! ### spec_CellOfColour: function 32 -/
def spec_CellOfColour.f (k : Nat) (a0_0 : Int) (a0_1 : Int) (l0_2 : List Int) (a1 : Int) (a2 : Int) (a3 : Int) : Option (Int × Int × Bool) := (spec_boGood.f k a0_0 a0_1 l0_2).bind fun t663 => (if t663 = true then ((spec_biColour.f a1).bind fun t664 => (if t664 = true then ((spec_biCell.f k a0_0 a0_1 l0_2 a1 a2 a3).bind fun bt665 => (some (bt665.1, bt665.2.1, bt665.2.2))) else (some (0, 0, false)))) else (some (0, 0, false)))
theorem spec_CellOfColour.mono : ∀ a0 a1 a2 a3 a4 a5 k, LeO (spec_CellOfColour.f k a0 a1 a2 a3 a4 a5) (spec_CellOfColour.f (k + 1) a0 a1 a2 a3 a4 a5) := by
 intro a0 a1 a2 a3 a4 a5 k
 unfold spec_CellOfColour.f
 repeat' first | (with_reducible first | exact spec_biCell.mono _ _ _ _ _ _ _ | exact spec_boGood.mono _ _ _ _ | exact LeO.refl _ | exact LeO.none _ | refine LeO.ite ?_ ?_ | refine LeO.bind ?_ (fun _ => ?_)) | exact spec_biCell.mono _ _ _ _ _ _ _ | exact spec_boGood.mono _ _ _ _ | exact LeO.none _ | refine LeO.ite ?_ ?_ | refine LeO.bind ?_ (fun _ => ?_)
theorem spec_CellOfColour.calls (k : Nat) (a0_0 : Int) (a0_1 : Int) (A0_2 : Option Addr) (c0_2 : Nat) (l0_2 : List Int) (a1 : Int) (a2 : Int) (a3 : Int) (r1 : Int) (r2 : Int) (r3 : Bool) (w : World) (hr0_2 : Kd.C (Kd.int .i64) w A0_2 l0_2.length l0_2) (hc0_2 : l0_2.length ≤ c0_2) (h : spec_CellOfColour.f k a0_0 a0_1 l0_2 a1 a2 a3 = some (r1, r2, r3)) :
  Calls Try.prog 32 #[.agg #[.int .i64 a0_0, .int .i64 a0_1, .slice A0_2 l0_2.length c0_2], .int .i64 a1, .int .i64 a2, .int .i64 a3] w fun e w' => e = .returned (.tuple #[.int .i64 r1, .int .i64 r2, .bool r3]) ∧ Below w.heap.size w w' := by
 have hu26 := Try.underlying26
 have HR0_2 := A_ hr0_2
 have HC0_2 := A_ hc0_2
 clear hr0_2 hc0_2
 have HB := A_ (Below.refl w.heap.size w)
 have H : ((spec_boGood.f k a0_0 a0_1 l0_2).bind fun t663 => (if t663 = true then ((spec_biColour.f a1).bind fun t664 => (if t664 = true then ((spec_biCell.f k a0_0 a0_1 l0_2 a1 a2 a3).bind fun bt665 => (some (bt665.1, bt665.2.1, bt665.2.2))) else (some (0, 0, false)))) else (some (0, 0, false)))) = some (r1, r2, r3) := h
 clear h
 replace H := Option.bind_eq_some_iff.mp H
 obtain ⟨t663, A50, H⟩ := H
 replace H : (if t663 = true then ((spec_biColour.f a1).bind fun t664 => (if t664 = true then ((spec_biCell.f k a0_0 a0_1 l0_2 a1 a2 a3).bind fun bt665 => (some (bt665.1, bt665.2.1, bt665.2.2))) else (some (0, 0, false)))) else (some (0, 0, false))) = some (r1, r2, r3) := H
 have A5 := A_ A50
 clear A50
 by_cases c6 : t663 = true
 ·
  subst c6
  have H1 : ((spec_biColour.f a1).bind fun t664 => (if t664 = true then ((spec_biCell.f k a0_0 a0_1 l0_2 a1 a2 a3).bind fun bt665 => (some (bt665.1, bt665.2.1, bt665.2.2))) else (some (0, 0, false)))) = some (r1, r2, r3) := by rw [if_pos rfl] at H; exact H
  clear H
  have H := H1
  clear H1
  replace H := Option.bind_eq_some_iff.mp H
  obtain ⟨t664, A70, H⟩ := H
  replace H : (if t664 = true then ((spec_biCell.f k a0_0 a0_1 l0_2 a1 a2 a3).bind fun bt665 => (some (bt665.1, bt665.2.1, bt665.2.2))) else (some (0, 0, false))) = some (r1, r2, r3) := H
  have A7 := A_ A70
  clear A70
  by_cases c8 : t664 = true
  ·
   subst c8
   have H1 : ((spec_biCell.f k a0_0 a0_1 l0_2 a1 a2 a3).bind fun bt665 => (some (bt665.1, bt665.2.1, bt665.2.2))) = some (r1, r2, r3) := by rw [if_pos rfl] at H; exact H
   clear H
   have H := H1
   clear H1
   replace H := Option.bind_eq_some_iff.mp H
   obtain ⟨⟨t665, t666, t667⟩, A90, H⟩ := H
   replace H : (some (t665, t666, t667)) = some (r1, r2, r3) := H
   have A9 := A_ A90
   clear A90
   simp only [Option.some.injEq, Prod.mk.injEq] at H
   obtain ⟨rfl, rfl, rfl⟩ := H
   go_enter Try.func32, Try.ntmps32
   go_wp2_with (first | (refine gd_ 4 ?_; refine bx_ 4 #[.int .i64 a0_0, .int .i64 a0_1, .slice A0_2 l0_2.length c0_2] 26 ?_; intro gb662 hg w10 hbox hb; have BK662 := A_ (hbox); have GW662 := A_ ((ts_ hg : w.heap.size ≤ gb662)); have GE662 := A_ ((ts_ hg : w.heap.size ≤ gb662)); replace HB := A_ (below_step tb_ hb); clear hb hbox hg; obtain ⟨hcz11_0, hcz11_1, hcz11_2, hfz11_0, hfz11_1, hfz11_2⟩ := cf3_ BK662.out) | (refine gc_ 86 ?_; refine goesT_ (some 12) Try.func86 #[.agg #[.int .i64 a0_0, .int .i64 a0_1, .slice A0_2 l0_2.length c0_2]] ?_; (with_reducible refine (spec_boGood.calls k a0_0 a0_1 _ _ l0_2 true _ ?side1 ?side2 A5.out).mono ?_); (case side1 => exact tc_ HR0_2.out); (case side2 => exact HC0_2.out); rintro e w12 ⟨rfl, hb⟩; refine ⟨_, rfl, ?_⟩; replace BK662 := A_ (blk_below (g := gb662) (o := .cells #[.int .i64 a0_0, .int .i64 a0_1, .slice A0_2 l0_2.length c0_2] 26 (0, 0)) (tk_ BK662) hb); replace HB := A_ (below_step tb_ hb); (try clear hb)) | (go_at_call 111; (with_reducible refine (spec_biColour.calls a1 true _ A7.out).mono ?_); rintro e w' ⟨rfl, ⟨nd, rfl⟩⟩; obtain ⟨hcz13_0, hcz13_1, hcz13_2, hfz13_0, hfz13_1, hfz13_2⟩ := cf3_ BK662.out) | (refine gc_ 112 ?_; refine goesT_ (some 23) Try.func112 #[.agg #[.int .i64 a0_0, .int .i64 a0_1, .slice A0_2 l0_2.length c0_2], .int .i64 a1, .int .i64 a2, .int .i64 a3] ?_; (with_reducible refine (spec_biCell.calls k a0_0 a0_1 _ _ l0_2 a1 a2 a3 t665 t666 t667 _ ?side1 ?side2 A9.out).mono ?_); (case side1 => repeat (first | exact (Kd.C_below HR0_2.out tb_) | (with_reducible refine Kd.C_alloc ?_ _) | (with_reducible refine Kd.C_drewN ?_ _) | (with_reducible refine Kd.C_drew ?_))); (case side2 => exact HC0_2.out); rintro e w14 ⟨rfl, hb⟩; refine ⟨_, rfl, ?_⟩; replace BK662 := A_ (blk_below (g := gb662) (o := .cells #[.int .i64 a0_0, .int .i64 a0_1, .slice A0_2 l0_2.length c0_2] 26 (0, 0)) (tk_ BK662) hb); replace HB := A_ (below_step tb_ hb); (try clear hb)))
   go_ret3
   exact ⟨te_, tb_⟩
  ·
   replace c8 := Bool.eq_false_iff.mpr c8
   subst c8
   have H1 : (some (0, 0, false)) = some (r1, r2, r3) := by rw [if_neg (show ¬ (false = true) by decide)] at H; exact H
   clear H
   have H := H1
   clear H1
   simp only [Option.some.injEq, Prod.mk.injEq] at H
   obtain ⟨rfl, rfl, rfl⟩ := H
   go_enter Try.func32, Try.ntmps32
   go_wp2_with (first | (refine gd_ 4 ?_; refine bx_ 4 #[.int .i64 a0_0, .int .i64 a0_1, .slice A0_2 l0_2.length c0_2] 26 ?_; intro gb662 hg w15 hbox hb; have BK662 := A_ (hbox); have GW662 := A_ ((ts_ hg : w.heap.size ≤ gb662)); have GE662 := A_ ((ts_ hg : w.heap.size ≤ gb662)); replace HB := A_ (below_step tb_ hb); clear hb hbox hg; obtain ⟨hcz16_0, hcz16_1, hcz16_2, hfz16_0, hfz16_1, hfz16_2⟩ := cf3_ BK662.out) | (refine gc_ 86 ?_; refine goesT_ (some 12) Try.func86 #[.agg #[.int .i64 a0_0, .int .i64 a0_1, .slice A0_2 l0_2.length c0_2]] ?_; (with_reducible refine (spec_boGood.calls k a0_0 a0_1 _ _ l0_2 true _ ?side1 ?side2 A5.out).mono ?_); (case side1 => exact tc_ HR0_2.out); (case side2 => exact HC0_2.out); rintro e w17 ⟨rfl, hb⟩; refine ⟨_, rfl, ?_⟩; replace BK662 := A_ (blk_below (g := gb662) (o := .cells #[.int .i64 a0_0, .int .i64 a0_1, .slice A0_2 l0_2.length c0_2] 26 (0, 0)) (tk_ BK662) hb); replace HB := A_ (below_step tb_ hb); (try clear hb)) | (go_at_call 111; (with_reducible refine (spec_biColour.calls a1 false _ A7.out).mono ?_); rintro e w' ⟨rfl, ⟨nd, rfl⟩⟩))
   go_ret3
   exact ⟨te_, tb_⟩
 ·
  replace c6 := Bool.eq_false_iff.mpr c6
  subst c6
  have H1 : (some (0, 0, false)) = some (r1, r2, r3) := by rw [if_neg (show ¬ (false = true) by decide)] at H; exact H
  clear H
  have H := H1
  clear H1
  simp only [Option.some.injEq, Prod.mk.injEq] at H
  obtain ⟨rfl, rfl, rfl⟩ := H
  go_enter Try.func32, Try.ntmps32
  go_wp2_with (first | (refine gd_ 4 ?_; refine bx_ 4 #[.int .i64 a0_0, .int .i64 a0_1, .slice A0_2 l0_2.length c0_2] 26 ?_; intro gb662 hg w18 hbox hb; have BK662 := A_ (hbox); have GW662 := A_ ((ts_ hg : w.heap.size ≤ gb662)); have GE662 := A_ ((ts_ hg : w.heap.size ≤ gb662)); replace HB := A_ (below_step tb_ hb); clear hb hbox hg; obtain ⟨hcz19_0, hcz19_1, hcz19_2, hfz19_0, hfz19_1, hfz19_2⟩ := cf3_ BK662.out) | (refine gc_ 86 ?_; refine goesT_ (some 12) Try.func86 #[.agg #[.int .i64 a0_0, .int .i64 a0_1, .slice A0_2 l0_2.length c0_2]] ?_; (with_reducible refine (spec_boGood.calls k a0_0 a0_1 _ _ l0_2 false _ ?side1 ?side2 A5.out).mono ?_); (case side1 => exact tc_ HR0_2.out); (case side2 => exact HC0_2.out); rintro e w20 ⟨rfl, hb⟩; refine ⟨_, rfl, ?_⟩; replace BK662 := A_ (blk_below (g := gb662) (o := .cells #[.int .i64 a0_0, .int .i64 a0_1, .slice A0_2 l0_2.length c0_2] 26 (0, 0)) (tk_ BK662) hb); replace HB := A_ (below_step tb_ hb); (try clear hb)))
  go_ret3
  exact ⟨te_, tb_⟩

/-! ### laws_toIntS: function 68 -/
def laws_toIntS.l0 : Nat → List Int → List Int → Int → Option (List Int)
 | 0, _, _, _ => none
 | k + 1, x0, x3, x4 => if x4 < (x0.length : Int) then (if 0 ≤ x4 then (if x4 < (x3.length : Int) then (laws_toIntS.l0 k x0 (x3.set (x4 : Int).toNat (rd x0 x4)) (wrap64 (x4 + 1))) else (none)) else (none)) else (some x3)
def laws_toIntS.f (k : Nat) (l0 : List Int) : Option (List Int) := if 0 ≤ (l0.length : Int) then (if ((l0.length : Int) : Int).toNat ≤ 35184372088832 then (laws_toIntS.l0 k l0 (List.replicate ((l0.length : Int) : Int).toNat 0) 0) else (none)) else (none)
theorem laws_toIntS.mono_l : ∀ k, (∀ y0 y1 y2, LeO (laws_toIntS.l0 k y0 y1 y2) (laws_toIntS.l0 (k + 1) y0 y1 y2))
 | 0 => fun _ _ _ r h => by simp [laws_toIntS.l0] at h
 | k + 1 => by
  have ih0 := laws_toIntS.mono_l k
  ·
   intro y0 y1 y2
   unfold laws_toIntS.l0
   repeat' first | (with_reducible first | exact ih0 _ _ _ | exact LeO.refl _ | exact LeO.none _ | refine LeO.ite ?_ ?_ | refine LeO.bind ?_ (fun _ => ?_)) | exact ih0 _ _ _ | exact LeO.none _ | refine LeO.ite ?_ ?_ | refine LeO.bind ?_ (fun _ => ?_)
theorem laws_toIntS.mono : ∀ a0 k, LeO (laws_toIntS.f k a0) (laws_toIntS.f (k + 1) a0) := by
 intro a0 k
 have ih0 := laws_toIntS.mono_l k
 unfold laws_toIntS.f
 repeat' first | (with_reducible first | exact ih0 _ _ _ | exact LeO.refl _ | exact LeO.none _ | refine LeO.ite ?_ ?_ | refine LeO.bind ?_ (fun _ => ?_)) | exact ih0 _ _ _ | exact LeO.none _ | refine LeO.ite ?_ ?_ | refine LeO.bind ?_ (fun _ => ?_)
theorem laws_toIntS.calls (k : Nat) (A0 : Option Addr) (c0 : Nat) (l0 : List Int) (r : List Int) (w : World) (hr0 : Kd.C (Kd.int .i64) w A0 l0.length l0) (hc0 : l0.length ≤ c0) (h : laws_toIntS.f k l0 = some r) :
  Calls Try.prog 68 #[.slice A0 l0.length c0] w fun e w' => ∃ v0_ : Value, e = .returned (v0_) ∧ Kd.R (Kd.int .i64) 3 w' w.heap.size (fun _ => True) v0_ r ∧ Below w.heap.size w w' := by
 have HR0 := A_ hr0
 have HC0 := A_ hc0
 clear hr0 hc0
 have HB := A_ (Below.refl w.heap.size w)
 have H : (if 0 ≤ (l0.length : Int) then (if ((l0.length : Int) : Int).toNat ≤ 35184372088832 then (laws_toIntS.l0 k l0 (List.replicate ((l0.length : Int) : Int).toNat 0) 0) else (none)) else (none)) = some r := h
 clear h
 by_cases c2 : 0 ≤ (l0.length : Int)
 ·
  rw [if_pos c2] at H
  have c2b0 := eq_true c2
  have c2b1 := decide_eq_true c2
  clear c2
  by_cases c3 : ((l0.length : Int) : Int).toNat ≤ 35184372088832
  ·
   rw [if_pos c3] at H
   have c3b0 := eq_true c3
   have c3b1 := decide_eq_true c3
   clear c3
   obtain ⟨y668, hy668⟩ : ∃ y_ : List Int, y_ = (List.replicate ((l0.length : Int) : Int).toNat 0) := ⟨_, rfl⟩
   replace H : (laws_toIntS.l0 k l0 y668 0) = some r := ty_ hy668 H
   have Ny668 := A_ hy668
   clear hy668
   have H' := A_ H
   clear H
   go_enter Try.func68, Try.ntmps68
   go_wp2_with (first | (refine gd_ 7 ?_; refine Kd.R_make (Kd.int .i64) _ 3 rfl (N := 7) rfl 24 _ _ rfl (l0.length : Int) rfl rfl Try.underlying24 (.int .i64 0) 8 info3 rfl (by decide) (by omega) 0 (ok := fun _ => True) (okp := fun _ => True) rfl (fun _ hk => hk) trivial (od_) (Nat.le_trans (Nat.mul_le_mul_right _ (od_ : (l0.length : Int).toNat ≤ 35184372088832)) (by omega)) (Below.refl _ _) (Nat.le_refl _) ?_; intro v669 w4 ho5 hb hg_ hnew_; clear hg_ hnew_; (first | rw [← Ny668.out] at ho5 | (simp only [Int.reduceToNat] at ho5; rw [← Ny668.out] at ho5)); have HO670 := A_ (Kd.R_lower ho5 (below_size tb_)); replace HB := A_ (below_step tb_ hb); clear hb ho5))
   go_loopg [4] k (fun kq v4 w' => ∃ (x3_1 : List Int) (x4_1 : Int), v4 = .int .i64 x4_1 ∧ Aside0 (laws_toIntS.l0 kq l0 x3_1 x4_1 = some r) ∧ Aside0 (kq ≤ k) ∧ Aside0 (Kd.R (Kd.int .i64) 3 w' w.heap.size (fun _ => True) v669 x3_1) ∧ Aside0 (Below w.heap.size w w'))
   case atStart => exact ⟨(y668), (0), tf_, H', ⟨Nat.le_refl _⟩, ⟨tr_x HO670.out⟩, ⟨tb_⟩⟩
   case round =>
    clear H'
    try clear c2
    try clear c2b0
    try clear c2b1
    try clear p2
    try clear c3
    try clear c3b0
    try clear c3b1
    obtain ⟨x3_1, x4_1, rfl, HA, HK1, HO_3, HB⟩ := hrel
    cases gk with
    | zero => exact absurd HA.out (by simp [laws_toIntS.l0])
    | succ k1 =>
     have H := HA.out
     clear HA
     simp only [laws_toIntS.l0] at H
     by_cases c6 : x4_1 < (l0.length : Int)
     ·
      rw [if_pos c6] at H
      have c6b0 := decide_eq_true c6
      clear c6
      by_cases c7 : 0 ≤ x4_1
      ·
       rw [if_pos c7] at H
       have c7b0 := decide_eq_true c7
       clear c7
       by_cases c8 : x4_1 < (x3_1.length : Int)
       ·
        rw [if_pos c8] at H
        have c8b0 := decide_eq_true c8
        clear c8
        obtain ⟨y672, hy672⟩ : ∃ y_ : List Int, y_ = (x3_1.set (x4_1 : Int).toNat (rd l0 x4_1)) := ⟨_, rfl⟩
        replace H : (laws_toIntS.l0 k1 l0 y672 (wrap64 (x4_1 + 1))) = some r := ty_ hy672 H
        have Ny672 := A_ hy672
        clear hy672
        have H' := A_ H
        clear H
        have p671 : 0 ≤ (x4_1 : Int) := od_
        have q671 : x4_1 < (l0.length : Int) := od_
        obtain ⟨ad671, e671, hx671_0⟩ := Kd.at_int HR0.out x4_1 p671 q671
        cases e671
        (try replace hx671_0 := (HB.out.cell (World.block_lt_of_cell? w _ hx671_0)).trans hx671_0)
        replace p671 := eq_true p671
        replace q671 := eq_true q671
        have p9 : 0 ≤ (x4_1 : Int) := od_
        have q9 : (x4_1 : Int) < ((x3_1.length : Int) : Int) := od_
        obtain ⟨go9, co9, eo9, gb9, gl9, cl9, HG9⟩ := Kd.R_form HO_3.out (by omega)
        (first | cases eo9 | (injection eo9 with ea_ en_ ec_; (first | subst ea_ | (injection ea_ with ea_; subst ea_)); subst ec_; clear en_))
        have GB9 := A_ gb9
        have GG9 := A_ HG9
        clear gb9 gl9 HG9
        obtain ⟨hx9_0, hf9_0⟩ := Kd.R_celln 0 HO_3.out (x4_1 : Int) p9 q9
        replace p9 := eq_true p9
        replace q9 := eq_true q9
        have HP10 := Kd.R_putg HO_3.out (x4_1 : Int) (rd l0 x4_1)
        go_wp2_with (first | ((with_reducible refine gate_store (t := 3) (p := 20) rfl ?_); refine store_event (t := 3) (p := 20) (v := ?vo_w11) (w1 := (wr.setCell ⟨go9, (x4_1 : Int).toNat, none⟩ (.int .i64 (rd l0 x4_1)))) ?hg ?ho ?hn ?hr ?_; (case ho => rfl); (case hg => rfl); (case hn => rfl); (case hr => first | (go_simp; done) | (go_simp; rfl)); intro w11 hw; have hg : wr.grownBy w11 (some go9) := (by rw [hw]; exact HP10.2); have hp_ : Kd.R (Kd.int .i64) 3 w11 w.heap.size (fun _ => True) (.slice (some ⟨go9, 0, none⟩) x3_1.length co9) y672 := (by rw [hw, Ny672.out]; exact HP10.1); clear HP10; replace HO_3 := A_ (hp_); replace HB := A_ ((by rw [hw]; exact below_set (HB.out) GB9.out : Below w.heap.size w w11)); clear hg hw hp_))
        go_roundg k1
        case measure => have := HK1.out; omega
        case rel => exact ⟨(y672), (wrap64 (x4_1 + 1)), tf_, H', ⟨by have := HK1.out; omega⟩, ⟨tr_x HO_3.out⟩, ⟨tb_⟩⟩
       ·
        rw [if_neg c8] at H
        exact absurd H (by simp)
      ·
       rw [if_neg c7] at H
       exact absurd H (by simp)
     ·
      rw [if_neg c6] at H
      have c6b0 := decide_eq_false c6
      clear c6
      obtain rfl := Option.some.inj H
      go_wp2
      go_ret
      exact ⟨_, te_, tr_x HO_3.out, tb_⟩
  ·
   rw [if_neg c3] at H
   exact absurd H (by simp)
 ·
  rw [if_neg c2] at H
  exact absurd H (by simp)

/-! ### laws_toBoard: function 33 -/
def laws_toBoard.f (k : Nat) (a0_0 : Int) (a0_1 : Int) (l0_2 : List Int) : Option (Int × Int × List Int) := (laws_toIntS.f k l0_2).bind fun t676 => (some (a0_0, a0_1, t676))
theorem laws_toBoard.mono : ∀ a0 a1 a2 k, LeO (laws_toBoard.f k a0 a1 a2) (laws_toBoard.f (k + 1) a0 a1 a2) := by
 intro a0 a1 a2 k
 unfold laws_toBoard.f
 repeat' first | (with_reducible first | exact laws_toIntS.mono _ _ | exact LeO.refl _ | exact LeO.none _ | refine LeO.ite ?_ ?_ | refine LeO.bind ?_ (fun _ => ?_)) | exact laws_toIntS.mono _ _ | exact LeO.none _ | refine LeO.ite ?_ ?_ | refine LeO.bind ?_ (fun _ => ?_)
theorem laws_toBoard.calls (k : Nat) (a0_0 : Int) (a0_1 : Int) (A0_2 : Option Addr) (c0_2 : Nat) (l0_2 : List Int) (r1 : Int) (r2 : Int) (r3 : List Int) (w : World) (hr0_2 : Kd.C (Kd.int .i64) w A0_2 l0_2.length l0_2) (hc0_2 : l0_2.length ≤ c0_2) (h : laws_toBoard.f k a0_0 a0_1 l0_2 = some (r1, r2, r3)) :
  Calls Try.prog 33 #[.agg #[.int .i64 a0_0, .int .i64 a0_1, .slice A0_2 l0_2.length c0_2]] w fun e w' => ∃ v2_ : Value, e = .returned (.agg #[.int .i64 r1, .int .i64 r2, v2_]) ∧ Kd.R (Kd.int .i64) 3 w' w.heap.size (fun _ => True) v2_ r3 ∧ Below w.heap.size w w' := by
 have hu44 := Try.underlying44
 have hu26 := Try.underlying26
 have HR0_2 := A_ hr0_2
 have HC0_2 := A_ hc0_2
 clear hr0_2 hc0_2
 have HB := A_ (Below.refl w.heap.size w)
 have H : ((laws_toIntS.f k l0_2).bind fun t676 => (some (a0_0, a0_1, t676))) = some (r1, r2, r3) := h
 clear h
 replace H := Option.bind_eq_some_iff.mp H
 obtain ⟨t676, A20, H⟩ := H
 replace H : (some (a0_0, a0_1, t676)) = some (r1, r2, r3) := H
 have A2 := A_ A20
 clear A20
 simp only [Option.some.injEq, Prod.mk.injEq] at H
 obtain ⟨rfl, rfl, rfl⟩ := H
 go_enter Try.func33, Try.ntmps33
 go_wp2_with (first | (refine gd_ 1 ?_; refine bx_ 1 #[.int .i64 a0_0, .int .i64 a0_1, .slice A0_2 l0_2.length c0_2] 44 ?_; intro gb673 hg w3 hbox hb; have BK673 := A_ (hbox); have GW673 := A_ ((ts_ hg : w.heap.size ≤ gb673)); have GE673 := A_ ((ts_ hg : w.heap.size ≤ gb673)); replace HB := A_ (below_step tb_ hb); clear hb hbox hg) | (refine gd_ 2 ?_; refine bx_ 2 #[.int .i64 0, .int .i64 0, .slice none 0 0] 26 ?_; intro gb674 hg w4 hbox hb; have BK674 := A_ (hbox); have GW674 := A_ ((ts_ hg : w.heap.size ≤ gb674)); have GE674 := A_ ((ts_ hg : w.heap.size ≤ gb674)); replace HB := A_ (below_step tb_ hb); have NB673_674 := A_ ((by rw [hg]; exact Nat.ne_of_lt (blk_lt (g := gb673) (o := .cells #[.int .i64 a0_0, .int .i64 a0_1, .slice A0_2 l0_2.length c0_2] 44 (0, 0)) (tk_ BK673)) : gb673 ≠ gb674)); have NB674_673 := A_ ((by rw [hg]; exact Nat.ne_of_gt (blk_lt (g := gb673) (o := .cells #[.int .i64 a0_0, .int .i64 a0_1, .slice A0_2 l0_2.length c0_2] 44 (0, 0)) (tk_ BK673)) : gb674 ≠ gb673)); replace BK673 := A_ (blk_below (g := gb673) (o := .cells #[.int .i64 a0_0, .int .i64 a0_1, .slice A0_2 l0_2.length c0_2] 44 (0, 0)) (tk_ BK673) hb); clear hb hbox hg) | (refine gd_ 3 ?_; refine bx_ 3 #[.int .i64 0, .int .i64 0, .slice none 0 0] 26 ?_; intro gb675 hg w5 hbox hb; have BK675 := A_ (hbox); have GW675 := A_ ((ts_ hg : w.heap.size ≤ gb675)); have GE675 := A_ ((ts_ hg : w.heap.size ≤ gb675)); replace HB := A_ (below_step tb_ hb); have NB673_675 := A_ ((by rw [hg]; exact Nat.ne_of_lt (blk_lt (g := gb673) (o := .cells #[.int .i64 a0_0, .int .i64 a0_1, .slice A0_2 l0_2.length c0_2] 44 (0, 0)) (tk_ BK673)) : gb673 ≠ gb675)); have NB675_673 := A_ ((by rw [hg]; exact Nat.ne_of_gt (blk_lt (g := gb673) (o := .cells #[.int .i64 a0_0, .int .i64 a0_1, .slice A0_2 l0_2.length c0_2] 44 (0, 0)) (tk_ BK673)) : gb675 ≠ gb673)); replace BK673 := A_ (blk_below (g := gb673) (o := .cells #[.int .i64 a0_0, .int .i64 a0_1, .slice A0_2 l0_2.length c0_2] 44 (0, 0)) (tk_ BK673) hb); have NB674_675 := A_ ((by rw [hg]; exact Nat.ne_of_lt (blk_lt (g := gb674) (o := .cells #[.int .i64 0, .int .i64 0, .slice none 0 0] 26 (0, 0)) (tk_ BK674)) : gb674 ≠ gb675)); have NB675_674 := A_ ((by rw [hg]; exact Nat.ne_of_gt (blk_lt (g := gb674) (o := .cells #[.int .i64 0, .int .i64 0, .slice none 0 0] 26 (0, 0)) (tk_ BK674)) : gb675 ≠ gb674)); replace BK674 := A_ (blk_below (g := gb674) (o := .cells #[.int .i64 0, .int .i64 0, .slice none 0 0] 26 (0, 0)) (tk_ BK674) hb); clear hb hbox hg; have hnb6 := NB673_674.out; have hnc6 := NB674_673.out; have hnb7 := NB673_675.out; have hnc7 := NB675_673.out; obtain ⟨hcz8_0, hcz8_1, hcz8_2, hfz8_0, hfz8_1, hfz8_2⟩ := cf3_ BK673.out; have hnb9 := NB675_674.out; have hnc9 := NB674_675.out; obtain ⟨hcz10_0, hcz10_1, hcz10_2, hfz10_0, hfz10_1, hfz10_2⟩ := cf3_ BK675.out) | (refine gc_ 68 ?_; refine goesT_ (some 12) Try.func68 #[.slice A0_2 l0_2.length c0_2] ?_; (with_reducible refine (laws_toIntS.calls k _ _ l0_2 t676 _ ?side1 ?side2 A2.out).mono ?_); (case side1 => exact Kd.C_below HR0_2.out tb_); (case side2 => exact HC0_2.out); rintro e w11 ⟨v677, rfl, ho0, hb⟩; refine ⟨_, rfl, ?_⟩; have HO678 := A_ (Kd.R_lower ho0 (below_size tb_)); replace BK673 := A_ (blk_below (g := gb673) (o := .cells #[.int .i64 a0_0, .int .i64 a0_1, .slice A0_2 l0_2.length c0_2] 44 (0, 0)) (tk_ BK673) hb); replace BK674 := A_ (blk_below (g := gb674) (o := .cells #[.int .i64 0, .int .i64 0, .slice none 0 0] 26 (0, 0)) (tk_ BK674) hb); replace BK675 := A_ (blk_below (g := gb675) (o := .cells #[.int .i64 a0_0, .int .i64 a0_1, .slice none 0 0] 26 (0, 0)) (by (with_reducible repeat (first | refine blk_drewN ?_ _ | refine blk_drew ?_ | refine blk_alloc ?_ _)); refine blk_put (cs := #[.int .i64 a0_0, .int .i64 0, .slice none 0 0]) ?_ 1 _ rfl; (with_reducible repeat (first | refine blk_drewN ?_ _ | refine blk_drew ?_ | refine blk_alloc ?_ _)); refine blk_put (cs := #[.int .i64 0, .int .i64 0, .slice none 0 0]) ?_ 0 _ rfl; (with_reducible repeat (first | refine blk_drewN ?_ _ | refine blk_drew ?_ | refine blk_alloc ?_ _)); exact BK675.out) hb); replace HB := A_ (below_step tb_ hb); (try clear hb); (try clear ho0); obtain ⟨Ao12, co12, eo12⟩ := Kd.R_slice HO678.out; subst eo12; obtain ⟨hcz13_0, hcz13_1, hcz13_2, hfz13_0, hfz13_1, hfz13_2⟩ := cf3_ BK675.out; obtain ⟨hcz14_0, hcz14_1, hcz14_2, hfz14_0, hfz14_1, hfz14_2⟩ := cf3_ BK674.out))
 refine bodyPost_ret (results_cell_row rfl _ _ gb674 26 #[.int .i64 a0_0, .int .i64 a0_1, .slice Ao12 t676.length co12] (0, 0) _ rfl (by (with_reducible repeat (first | refine blk_drewN ?_ _ | refine blk_drew ?_ | refine blk_alloc ?_ _)); refine blk_put (cs := #[.int .i64 a0_0, .int .i64 a0_1, .slice none 0 0]) ?_ 2 _ rfl; (with_reducible repeat (first | refine blk_drewN ?_ _ | refine blk_drew ?_ | refine blk_alloc ?_ _)); refine blk_put (cs := #[.int .i64 a0_0, .int .i64 0, .slice none 0 0]) ?_ 1 _ rfl; (with_reducible repeat (first | refine blk_drewN ?_ _ | refine blk_drew ?_ | refine blk_alloc ?_ _)); refine blk_put (cs := #[.int .i64 0, .int .i64 0, .slice none 0 0]) ?_ 0 _ rfl; (with_reducible repeat (first | refine blk_drewN ?_ _ | refine blk_drew ?_ | refine blk_alloc ?_ _)); refine blk_far ?_ NB674_675.out _; (with_reducible repeat (first | refine blk_drewN ?_ _ | refine blk_drew ?_ | refine blk_alloc ?_ _)); exact BK674.out) Try.underlying26 rfl (by kernel_rfl)) rfl ?_
 exact ⟨_, te_, by (with_reducible repeat (first | apply Kd.R_alloc | apply Kd.R_drewN | apply Kd.R_drew)); exact Kd.R_mono (Kd.R_far (p := ⟨gb674, 2, none⟩) (Kd.R_far (p := ⟨gb674, 1, none⟩) (Kd.R_far (p := ⟨gb674, 0, none⟩) (Kd.R_far (p := ⟨gb675, 2, none⟩) (Kd.R_types (Kd.R_types HO678.out BK675.out (by decide)) BK674.out (by decide)) (fun _ hk => hk.1.2) (.slice Ao12 t676.length co12)) (fun _ hk => hk.2) (.int .i64 a0_0)) (fun _ hk => hk.2) (.int .i64 a0_1)) (fun _ hk => hk.2) (.slice Ao12 t676.length co12)) (fun _ hk => trivial), tb_⟩

/-! ### impl_isColour: function 116 -/
def impl_isColour.f (a0 : Int) : Option (Bool) := (impl_within.f a0 0 1).bind fun t679 => (some t679)
theorem impl_isColour.calls (a0 : Int) (r : Bool) (w : World) (h : impl_isColour.f a0 = some r) :
  Calls Try.prog 116 #[.int .i64 a0] w fun e w' => e = .returned (.bool r) ∧ Drawn0 w w' := by
 have H : ((impl_within.f a0 0 1).bind fun t679 => (some t679)) = some r := h
 clear h
 replace H := Option.bind_eq_some_iff.mp H
 obtain ⟨t679, A20, H⟩ := H
 replace H : (some t679) = some r := H
 have A2 := A_ A20
 clear A20
 obtain rfl := Option.some.inj H
 go_enter Try.func116, Try.ntmps116
 go_wp2_with (first | (refine gc_ 102 ?_; refine goesT_ (some 4) Try.func102 #[.int .i64 a0, .int .i64 0, .int .i64 1] ?_; (with_reducible refine (impl_within.calls a0 0 1 t679 _ A2.out).mono ?_); rintro e w' ⟨rfl, ⟨nd, rfl⟩⟩; refine ⟨_, rfl, ?_⟩))
 go_ret
 exact ⟨tf_, dr_⟩

/-! ### impl_ColourBoard: function 37 -/
def impl_ColourBoard.f (k : Nat) (a0_0 : Int) (a0_1 : Int) (l0_2 : List Int) (a1 : Int) : Option (Int × Int × List Int × Bool) := (impl_IsBoard.f a0_0 a0_1 l0_2).bind fun t855 => (if t855 = true then ((impl_isColour.f a1).bind fun t856 => (if t856 = true then ((impl_Board_coloured.f k a0_0 a0_1 l0_2 a1).bind fun bt857 => (some (bt857.1, bt857.2.1, bt857.2.2.1, bt857.2.2.2))) else (some (0, 0, ([] : List Int), false)))) else (some (0, 0, ([] : List Int), false)))
theorem impl_ColourBoard.mono : ∀ a0 a1 a2 a3 k, LeO (impl_ColourBoard.f k a0 a1 a2 a3) (impl_ColourBoard.f (k + 1) a0 a1 a2 a3) := by
 intro a0 a1 a2 a3 k
 unfold impl_ColourBoard.f
 repeat' first | (with_reducible first | exact impl_Board_coloured.mono _ _ _ _ _ | exact LeO.refl _ | exact LeO.none _ | refine LeO.ite ?_ ?_ | refine LeO.bind ?_ (fun _ => ?_)) | exact impl_Board_coloured.mono _ _ _ _ _ | exact LeO.none _ | refine LeO.ite ?_ ?_ | refine LeO.bind ?_ (fun _ => ?_)
theorem impl_ColourBoard.calls (k : Nat) (a0_0 : Int) (a0_1 : Int) (A0_2 : Option Addr) (c0_2 : Nat) (l0_2 : List Int) (a1 : Int) (r1 : Int) (r2 : Int) (r3 : List Int) (r4 : Bool) (w : World) (hr0_2 : Kd.C (Kd.int .i64) w A0_2 l0_2.length l0_2) (hc0_2 : l0_2.length ≤ c0_2) (h : impl_ColourBoard.f k a0_0 a0_1 l0_2 a1 = some (r1, r2, r3, r4)) :
  Calls Try.prog 37 #[.agg #[.int .i64 a0_0, .int .i64 a0_1, .slice A0_2 l0_2.length c0_2], .int .i64 a1] w fun e w' => ∃ v2_ : Value, e = .returned (.tuple #[.agg #[.int .i64 r1, .int .i64 r2, v2_], .bool r4]) ∧ Kd.R (Kd.int .i64) 3 w' w.heap.size (fun _ => True) v2_ r3 ∧ Below w.heap.size w w' := by
 have hu26 := Try.underlying26
 have HR0_2 := A_ hr0_2
 have HC0_2 := A_ hc0_2
 clear hr0_2 hc0_2
 have HB := A_ (Below.refl w.heap.size w)
 have H : ((impl_IsBoard.f a0_0 a0_1 l0_2).bind fun t855 => (if t855 = true then ((impl_isColour.f a1).bind fun t856 => (if t856 = true then ((impl_Board_coloured.f k a0_0 a0_1 l0_2 a1).bind fun bt857 => (some (bt857.1, bt857.2.1, bt857.2.2.1, bt857.2.2.2))) else (some (0, 0, ([] : List Int), false)))) else (some (0, 0, ([] : List Int), false)))) = some (r1, r2, r3, r4) := h
 clear h
 replace H := Option.bind_eq_some_iff.mp H
 obtain ⟨t855, A30, H⟩ := H
 replace H : (if t855 = true then ((impl_isColour.f a1).bind fun t856 => (if t856 = true then ((impl_Board_coloured.f k a0_0 a0_1 l0_2 a1).bind fun bt857 => (some (bt857.1, bt857.2.1, bt857.2.2.1, bt857.2.2.2))) else (some (0, 0, ([] : List Int), false)))) else (some (0, 0, ([] : List Int), false))) = some (r1, r2, r3, r4) := H
 have A3 := A_ A30
 clear A30
 by_cases c4 : t855 = true
 ·
  subst c4
  have H1 : ((impl_isColour.f a1).bind fun t856 => (if t856 = true then ((impl_Board_coloured.f k a0_0 a0_1 l0_2 a1).bind fun bt857 => (some (bt857.1, bt857.2.1, bt857.2.2.1, bt857.2.2.2))) else (some (0, 0, ([] : List Int), false)))) = some (r1, r2, r3, r4) := by rw [if_pos rfl] at H; exact H
  clear H
  have H := H1
  clear H1
  replace H := Option.bind_eq_some_iff.mp H
  obtain ⟨t856, A50, H⟩ := H
  replace H : (if t856 = true then ((impl_Board_coloured.f k a0_0 a0_1 l0_2 a1).bind fun bt857 => (some (bt857.1, bt857.2.1, bt857.2.2.1, bt857.2.2.2))) else (some (0, 0, ([] : List Int), false))) = some (r1, r2, r3, r4) := H
  have A5 := A_ A50
  clear A50
  by_cases c6 : t856 = true
  ·
   subst c6
   have H1 : ((impl_Board_coloured.f k a0_0 a0_1 l0_2 a1).bind fun bt857 => (some (bt857.1, bt857.2.1, bt857.2.2.1, bt857.2.2.2))) = some (r1, r2, r3, r4) := by rw [if_pos rfl] at H; exact H
   clear H
   have H := H1
   clear H1
   replace H := Option.bind_eq_some_iff.mp H
   obtain ⟨⟨t857, t858, t859, t862⟩, A70, H⟩ := H
   replace H : (some (t857, t858, t859, t862)) = some (r1, r2, r3, r4) := H
   have A7 := A_ A70
   clear A70
   simp only [Option.some.injEq, Prod.mk.injEq] at H
   obtain ⟨rfl, rfl, rfl, rfl⟩ := H
   go_enter Try.func37, Try.ntmps37
   go_wp2_with (first | (refine gd_ 2 ?_; refine bx_ 2 #[.int .i64 a0_0, .int .i64 a0_1, .slice A0_2 l0_2.length c0_2] 26 ?_; intro gb853 hg w8 hbox hb; have BK853 := A_ (hbox); have GW853 := A_ ((ts_ hg : w.heap.size ≤ gb853)); have GE853 := A_ ((ts_ hg : w.heap.size ≤ gb853)); replace HB := A_ (below_step tb_ hb); clear hb hbox hg) | (refine gd_ 4 ?_; refine bx_ 4 #[.int .i64 0, .int .i64 0, .slice none 0 0] 26 ?_; intro gb854 hg w9 hbox hb; have BK854 := A_ (hbox); have GW854 := A_ ((ts_ hg : w.heap.size ≤ gb854)); have GE854 := A_ ((ts_ hg : w.heap.size ≤ gb854)); replace HB := A_ (below_step tb_ hb); have NB853_854 := A_ ((by rw [hg]; exact Nat.ne_of_lt (blk_lt (g := gb853) (o := .cells #[.int .i64 a0_0, .int .i64 a0_1, .slice A0_2 l0_2.length c0_2] 26 (0, 0)) (tk_ BK853)) : gb853 ≠ gb854)); have NB854_853 := A_ ((by rw [hg]; exact Nat.ne_of_gt (blk_lt (g := gb853) (o := .cells #[.int .i64 a0_0, .int .i64 a0_1, .slice A0_2 l0_2.length c0_2] 26 (0, 0)) (tk_ BK853)) : gb854 ≠ gb853)); replace BK853 := A_ (blk_below (g := gb853) (o := .cells #[.int .i64 a0_0, .int .i64 a0_1, .slice A0_2 l0_2.length c0_2] 26 (0, 0)) (tk_ BK853) hb); clear hb hbox hg; have hnb10 := NB853_854.out; have hnc10 := NB854_853.out; obtain ⟨hcz11_0, hcz11_1, hcz11_2, hfz11_0, hfz11_1, hfz11_2⟩ := cf3_ BK853.out) | (refine gc_ 84 ?_; refine goesT_ (some 7) Try.func84 #[.agg #[.int .i64 a0_0, .int .i64 a0_1, .slice A0_2 l0_2.length c0_2]] ?_; (with_reducible refine (impl_IsBoard.calls a0_0 a0_1 _ _ l0_2 true _ ?side1 ?side2 A3.out).mono ?_); (case side1 => exact tc_ HR0_2.out); (case side2 => exact HC0_2.out); rintro e w12 ⟨rfl, hb⟩; refine ⟨_, rfl, ?_⟩; replace BK853 := A_ (blk_below (g := gb853) (o := .cells #[.int .i64 a0_0, .int .i64 a0_1, .slice A0_2 l0_2.length c0_2] 26 (0, 0)) (tk_ BK853) hb); replace BK854 := A_ (blk_below (g := gb854) (o := .cells #[.int .i64 0, .int .i64 0, .slice none 0 0] 26 (0, 0)) (tk_ BK854) hb); replace HB := A_ (below_step tb_ hb); (try clear hb)) | (go_at_call 116; (with_reducible refine (impl_isColour.calls a1 true _ A5.out).mono ?_); rintro e w' ⟨rfl, ⟨nd, rfl⟩⟩; (try (rw [drewN_self w12]; generalize hq_ : World.drewN w12 _ = w12; have n0_ : Aside0 (w12.heap[gb853]? = some (.cells #[.int .i64 a0_0, .int .i64 a0_1, .slice A0_2 l0_2.length c0_2] 26 (0, 0))) := ⟨by rw [← hq_]; exact (tk_ BK853)⟩; have n1_ : Aside0 (w12.heap[gb854]? = some (.cells #[.int .i64 0, .int .i64 0, .slice none 0 0] 26 (0, 0))) := ⟨by rw [← hq_]; exact (tk_ BK854)⟩; have n2_ : Aside0 (Below w.heap.size w w12) := ⟨by rw [← hq_]; exact tb_⟩; clear BK853 BK854 HB hq_; have BK853 := n0_; have BK854 := n1_; have HB := n2_; clear n0_ n1_ n2_)); obtain ⟨hcz13_0, hcz13_1, hcz13_2, hfz13_0, hfz13_1, hfz13_2⟩ := cf3_ BK853.out) | (refine gc_ 117 ?_; refine goesT_ (some 17) Try.func117 #[.agg #[.int .i64 a0_0, .int .i64 a0_1, .slice A0_2 l0_2.length c0_2], .int .i64 a1] ?_; (with_reducible refine (impl_Board_coloured.calls k a0_0 a0_1 _ _ l0_2 a1 t857 t858 t859 t862 _ ?side1 ?side2 A7.out).mono ?_); (case side1 => exact tc_ HR0_2.out); (case side2 => exact HC0_2.out); rintro e w14 ⟨v860, rfl, ho0, hb⟩; refine ⟨_, rfl, ?_⟩; have HO861 := A_ (Kd.R_lower ho0 (below_size tb_)); replace BK853 := A_ (blk_below (g := gb853) (o := .cells #[.int .i64 a0_0, .int .i64 a0_1, .slice A0_2 l0_2.length c0_2] 26 (0, 0)) (tk_ BK853) hb); replace BK854 := A_ (blk_below (g := gb854) (o := .cells #[.int .i64 0, .int .i64 0, .slice none 0 0] 26 (0, 0)) (tk_ BK854) hb); replace HB := A_ (below_step tb_ hb); (try clear hb); (try clear ho0); obtain ⟨hcz15_0, hcz15_1, hcz15_2, hfz15_0, hfz15_1, hfz15_2⟩ := cf3_ BK854.out; obtain ⟨Ao16, co16, eo16⟩ := Kd.R_slice HO861.out; subst eo16))
   refine bodyPost_ret (results_ct rfl _ _ gb854 26 #[.int .i64 t857, .int .i64 t858, .slice Ao16 t859.length co16] (0, 0) _ rfl (by (with_reducible repeat (first | refine blk_drewN ?_ _ | refine blk_drew ?_ | refine blk_alloc ?_ _)); refine blk_put (cs := #[.int .i64 t857, .int .i64 t858, .slice none 0 0]) ?_ 2 _ rfl; (with_reducible repeat (first | refine blk_drewN ?_ _ | refine blk_drew ?_ | refine blk_alloc ?_ _)); refine blk_put (cs := #[.int .i64 t857, .int .i64 0, .slice none 0 0]) ?_ 1 _ rfl; (with_reducible repeat (first | refine blk_drewN ?_ _ | refine blk_drew ?_ | refine blk_alloc ?_ _)); refine blk_put (cs := #[.int .i64 0, .int .i64 0, .slice none 0 0]) ?_ 0 _ rfl; (with_reducible repeat (first | refine blk_drewN ?_ _ | refine blk_drew ?_ | refine blk_alloc ?_ _)); exact BK854.out) Try.underlying26 rfl (by kernel_rfl)) rfl ?_
   exact ⟨_, te_, by (with_reducible repeat (first | apply Kd.R_alloc | apply Kd.R_drewN | apply Kd.R_drew)); exact Kd.R_mono (Kd.R_far (p := ⟨gb854, 2, none⟩) (Kd.R_far (p := ⟨gb854, 1, none⟩) (Kd.R_far (p := ⟨gb854, 0, none⟩) (Kd.R_types HO861.out BK854.out (by decide)) (fun _ hk => hk.2) (.int .i64 t857)) (fun _ hk => hk.2) (.int .i64 t858)) (fun _ hk => hk.2) (.slice Ao16 t859.length co16)) (fun _ hk => trivial), tb_⟩
  ·
   replace c6 := Bool.eq_false_iff.mpr c6
   subst c6
   have H1 : (some (0, 0, ([] : List Int), false)) = some (r1, r2, r3, r4) := by rw [if_neg (show ¬ (false = true) by decide)] at H; exact H
   clear H
   have H := H1
   clear H1
   simp only [Option.some.injEq, Prod.mk.injEq] at H
   obtain ⟨rfl, rfl, rfl, rfl⟩ := H
   go_enter Try.func37, Try.ntmps37
   go_wp2_with (first | (refine gd_ 2 ?_; refine bx_ 2 #[.int .i64 a0_0, .int .i64 a0_1, .slice A0_2 l0_2.length c0_2] 26 ?_; intro gb853 hg w17 hbox hb; have BK853 := A_ (hbox); have GW853 := A_ ((ts_ hg : w.heap.size ≤ gb853)); have GE853 := A_ ((ts_ hg : w.heap.size ≤ gb853)); replace HB := A_ (below_step tb_ hb); clear hb hbox hg) | (refine gd_ 4 ?_; refine bx_ 4 #[.int .i64 0, .int .i64 0, .slice none 0 0] 26 ?_; intro gb854 hg w18 hbox hb; have BK854 := A_ (hbox); have GW854 := A_ ((ts_ hg : w.heap.size ≤ gb854)); have GE854 := A_ ((ts_ hg : w.heap.size ≤ gb854)); replace HB := A_ (below_step tb_ hb); have NB853_854 := A_ ((by rw [hg]; exact Nat.ne_of_lt (blk_lt (g := gb853) (o := .cells #[.int .i64 a0_0, .int .i64 a0_1, .slice A0_2 l0_2.length c0_2] 26 (0, 0)) (tk_ BK853)) : gb853 ≠ gb854)); have NB854_853 := A_ ((by rw [hg]; exact Nat.ne_of_gt (blk_lt (g := gb853) (o := .cells #[.int .i64 a0_0, .int .i64 a0_1, .slice A0_2 l0_2.length c0_2] 26 (0, 0)) (tk_ BK853)) : gb854 ≠ gb853)); replace BK853 := A_ (blk_below (g := gb853) (o := .cells #[.int .i64 a0_0, .int .i64 a0_1, .slice A0_2 l0_2.length c0_2] 26 (0, 0)) (tk_ BK853) hb); clear hb hbox hg; have hnb19 := NB853_854.out; have hnc19 := NB854_853.out; obtain ⟨hcz20_0, hcz20_1, hcz20_2, hfz20_0, hfz20_1, hfz20_2⟩ := cf3_ BK853.out) | (refine gc_ 84 ?_; refine goesT_ (some 7) Try.func84 #[.agg #[.int .i64 a0_0, .int .i64 a0_1, .slice A0_2 l0_2.length c0_2]] ?_; (with_reducible refine (impl_IsBoard.calls a0_0 a0_1 _ _ l0_2 true _ ?side1 ?side2 A3.out).mono ?_); (case side1 => exact tc_ HR0_2.out); (case side2 => exact HC0_2.out); rintro e w21 ⟨rfl, hb⟩; refine ⟨_, rfl, ?_⟩; replace BK853 := A_ (blk_below (g := gb853) (o := .cells #[.int .i64 a0_0, .int .i64 a0_1, .slice A0_2 l0_2.length c0_2] 26 (0, 0)) (tk_ BK853) hb); replace BK854 := A_ (blk_below (g := gb854) (o := .cells #[.int .i64 0, .int .i64 0, .slice none 0 0] 26 (0, 0)) (tk_ BK854) hb); replace HB := A_ (below_step tb_ hb); (try clear hb)) | (go_at_call 116; (with_reducible refine (impl_isColour.calls a1 false _ A5.out).mono ?_); rintro e w' ⟨rfl, ⟨nd, rfl⟩⟩; (try (rw [drewN_self w21]; generalize hq_ : World.drewN w21 _ = w21; have n0_ : Aside0 (w21.heap[gb853]? = some (.cells #[.int .i64 a0_0, .int .i64 a0_1, .slice A0_2 l0_2.length c0_2] 26 (0, 0))) := ⟨by rw [← hq_]; exact (tk_ BK853)⟩; have n1_ : Aside0 (w21.heap[gb854]? = some (.cells #[.int .i64 0, .int .i64 0, .slice none 0 0] 26 (0, 0))) := ⟨by rw [← hq_]; exact (tk_ BK854)⟩; have n2_ : Aside0 (Below w.heap.size w w21) := ⟨by rw [← hq_]; exact tb_⟩; clear BK853 BK854 HB hq_; have BK853 := n0_; have BK854 := n1_; have HB := n2_; clear n0_ n1_ n2_)); obtain ⟨hcz22_0, hcz22_1, hcz22_2, hfz22_0, hfz22_1, hfz22_2⟩ := cf3_ BK854.out))
   refine bodyPost_ret (results_ct rfl _ _ gb854 26 #[.int .i64 0, .int .i64 0, .slice none 0 0] (0, 0) _ rfl (by (with_reducible repeat (first | refine blk_drewN ?_ _ | refine blk_drew ?_ | refine blk_alloc ?_ _)); refine blk_put (cs := #[.int .i64 0, .int .i64 0, .slice none 0 0]) ?_ 2 _ rfl; (with_reducible repeat (first | refine blk_drewN ?_ _ | refine blk_drew ?_ | refine blk_alloc ?_ _)); refine blk_put (cs := #[.int .i64 0, .int .i64 0, .slice none 0 0]) ?_ 1 _ rfl; (with_reducible repeat (first | refine blk_drewN ?_ _ | refine blk_drew ?_ | refine blk_alloc ?_ _)); refine blk_put (cs := #[.int .i64 0, .int .i64 0, .slice none 0 0]) ?_ 0 _ rfl; (with_reducible repeat (first | refine blk_drewN ?_ _ | refine blk_drew ?_ | refine blk_alloc ?_ _)); exact BK854.out) Try.underlying26 rfl (by kernel_rfl)) rfl ?_
   exact ⟨_, te_, by first | exact Kd.R_nil _ _ _ _ _ | exact Kd.N_nil _ _ _ _ _ | exact Kd.V_nil _ _ _ _ _ | exact Kd.Q_nil _ _ _ _ _ | exact Kd.S_nil _ _ _ _ _, tb_⟩
 ·
  replace c4 := Bool.eq_false_iff.mpr c4
  subst c4
  have H1 : (some (0, 0, ([] : List Int), false)) = some (r1, r2, r3, r4) := by rw [if_neg (show ¬ (false = true) by decide)] at H; exact H
  clear H
  have H := H1
  clear H1
  simp only [Option.some.injEq, Prod.mk.injEq] at H
  obtain ⟨rfl, rfl, rfl, rfl⟩ := H
  go_enter Try.func37, Try.ntmps37
  go_wp2_with (first | (refine gd_ 2 ?_; refine bx_ 2 #[.int .i64 a0_0, .int .i64 a0_1, .slice A0_2 l0_2.length c0_2] 26 ?_; intro gb853 hg w23 hbox hb; have BK853 := A_ (hbox); have GW853 := A_ ((ts_ hg : w.heap.size ≤ gb853)); have GE853 := A_ ((ts_ hg : w.heap.size ≤ gb853)); replace HB := A_ (below_step tb_ hb); clear hb hbox hg) | (refine gd_ 4 ?_; refine bx_ 4 #[.int .i64 0, .int .i64 0, .slice none 0 0] 26 ?_; intro gb854 hg w24 hbox hb; have BK854 := A_ (hbox); have GW854 := A_ ((ts_ hg : w.heap.size ≤ gb854)); have GE854 := A_ ((ts_ hg : w.heap.size ≤ gb854)); replace HB := A_ (below_step tb_ hb); have NB853_854 := A_ ((by rw [hg]; exact Nat.ne_of_lt (blk_lt (g := gb853) (o := .cells #[.int .i64 a0_0, .int .i64 a0_1, .slice A0_2 l0_2.length c0_2] 26 (0, 0)) (tk_ BK853)) : gb853 ≠ gb854)); have NB854_853 := A_ ((by rw [hg]; exact Nat.ne_of_gt (blk_lt (g := gb853) (o := .cells #[.int .i64 a0_0, .int .i64 a0_1, .slice A0_2 l0_2.length c0_2] 26 (0, 0)) (tk_ BK853)) : gb854 ≠ gb853)); replace BK853 := A_ (blk_below (g := gb853) (o := .cells #[.int .i64 a0_0, .int .i64 a0_1, .slice A0_2 l0_2.length c0_2] 26 (0, 0)) (tk_ BK853) hb); clear hb hbox hg; have hnb25 := NB853_854.out; have hnc25 := NB854_853.out; obtain ⟨hcz26_0, hcz26_1, hcz26_2, hfz26_0, hfz26_1, hfz26_2⟩ := cf3_ BK853.out) | (refine gc_ 84 ?_; refine goesT_ (some 7) Try.func84 #[.agg #[.int .i64 a0_0, .int .i64 a0_1, .slice A0_2 l0_2.length c0_2]] ?_; (with_reducible refine (impl_IsBoard.calls a0_0 a0_1 _ _ l0_2 false _ ?side1 ?side2 A3.out).mono ?_); (case side1 => exact tc_ HR0_2.out); (case side2 => exact HC0_2.out); rintro e w27 ⟨rfl, hb⟩; refine ⟨_, rfl, ?_⟩; replace BK853 := A_ (blk_below (g := gb853) (o := .cells #[.int .i64 a0_0, .int .i64 a0_1, .slice A0_2 l0_2.length c0_2] 26 (0, 0)) (tk_ BK853) hb); replace BK854 := A_ (blk_below (g := gb854) (o := .cells #[.int .i64 0, .int .i64 0, .slice none 0 0] 26 (0, 0)) (tk_ BK854) hb); replace HB := A_ (below_step tb_ hb); (try clear hb); obtain ⟨hcz28_0, hcz28_1, hcz28_2, hfz28_0, hfz28_1, hfz28_2⟩ := cf3_ BK854.out))
  refine bodyPost_ret (results_ct rfl _ _ gb854 26 #[.int .i64 0, .int .i64 0, .slice none 0 0] (0, 0) _ rfl (by (with_reducible repeat (first | refine blk_drewN ?_ _ | refine blk_drew ?_ | refine blk_alloc ?_ _)); refine blk_put (cs := #[.int .i64 0, .int .i64 0, .slice none 0 0]) ?_ 2 _ rfl; (with_reducible repeat (first | refine blk_drewN ?_ _ | refine blk_drew ?_ | refine blk_alloc ?_ _)); refine blk_put (cs := #[.int .i64 0, .int .i64 0, .slice none 0 0]) ?_ 1 _ rfl; (with_reducible repeat (first | refine blk_drewN ?_ _ | refine blk_drew ?_ | refine blk_alloc ?_ _)); refine blk_put (cs := #[.int .i64 0, .int .i64 0, .slice none 0 0]) ?_ 0 _ rfl; (with_reducible repeat (first | refine blk_drewN ?_ _ | refine blk_drew ?_ | refine blk_alloc ?_ _)); exact BK854.out) Try.underlying26 rfl (by kernel_rfl)) rfl ?_
  exact ⟨_, te_, by first | exact Kd.R_nil _ _ _ _ _ | exact Kd.N_nil _ _ _ _ _ | exact Kd.V_nil _ _ _ _ _ | exact Kd.Q_nil _ _ _ _ _ | exact Kd.S_nil _ _ _ _ _, tb_⟩

/-! ### impl_CellOfColour: function 34 -/
def impl_CellOfColour.j0 : Nat → Int → Int → Int → Bool → Int → Int → List Int → Option (Int × Int × Bool)
 | 0, _, _, _, _, _, _, _ => none
 | k + 1, x1, x2, x3, x31, x864000, x864001, x864002 => if x31 = true then (some (0, 0, false)) else ((impl_Board_diagonals.f k x864000 x864001 x864002 x1).bind fun bt872 => (if 0 ≤ x2 then (if x2 < (bt872.1.length : Int) then (if 0 ≤ x3 then (if x3 < (bt872.2.length : Int) then ((impl_Board_crossing.f x864000 x864001 x864002 (rd bt872.1 x2) (rd bt872.2 x3)).bind fun bt880 => (if bt880.2.2 = true then (some (bt880.1, bt880.2.1, true)) else (some (0, 0, false)))) else (none)) else (none)) else (none)) else (none)))
def impl_CellOfColour.f (k : Nat) (a0_0 : Int) (a0_1 : Int) (l0_2 : List Int) (a1 : Int) (a2 : Int) (a3 : Int) : Option (Int × Int × Bool) := (impl_ColourBoard.f k a0_0 a0_1 l0_2 a1).bind fun bt864 => (if bt864.2.2.2 = true then ((impl_Board_place.f bt864.1 bt864.2.1 bt864.2.2.1 a2 a3).bind fun t871 => (impl_CellOfColour.j0 k a1 a2 a3 (!t871) a0_0 a0_1 l0_2)) else (impl_CellOfColour.j0 k a1 a2 a3 true a0_0 a0_1 l0_2))
theorem impl_CellOfColour.mono_l : ∀ k, (∀ y0 y1 y2 y3 y4 y5 y6, LeO (impl_CellOfColour.j0 k y0 y1 y2 y3 y4 y5 y6) (impl_CellOfColour.j0 (k + 1) y0 y1 y2 y3 y4 y5 y6))
 | 0 => fun _ _ _ _ _ _ _ r h => by simp [impl_CellOfColour.j0] at h
 | k + 1 => by
  have ih0 := impl_CellOfColour.mono_l k
  ·
   intro y0 y1 y2 y3 y4 y5 y6
   unfold impl_CellOfColour.j0
   repeat' first | (with_reducible first | exact ih0 _ _ _ _ _ _ _ | exact impl_Board_diagonals.mono _ _ _ _ _ | exact impl_ColourBoard.mono _ _ _ _ _ | exact LeO.refl _ | exact LeO.none _ | refine LeO.ite ?_ ?_ | refine LeO.bind ?_ (fun _ => ?_)) | exact ih0 _ _ _ _ _ _ _ | exact impl_Board_diagonals.mono _ _ _ _ _ | exact impl_ColourBoard.mono _ _ _ _ _ | exact LeO.none _ | refine LeO.ite ?_ ?_ | refine LeO.bind ?_ (fun _ => ?_)
theorem impl_CellOfColour.mono : ∀ a0 a1 a2 a3 a4 a5 k, LeO (impl_CellOfColour.f k a0 a1 a2 a3 a4 a5) (impl_CellOfColour.f (k + 1) a0 a1 a2 a3 a4 a5) := by
 intro a0 a1 a2 a3 a4 a5 k
 have ih0 := impl_CellOfColour.mono_l k
 unfold impl_CellOfColour.f
 repeat' first | (with_reducible first | exact ih0 _ _ _ _ _ _ _ | exact impl_Board_diagonals.mono _ _ _ _ _ | exact impl_ColourBoard.mono _ _ _ _ _ | exact LeO.refl _ | exact LeO.none _ | refine LeO.ite ?_ ?_ | refine LeO.bind ?_ (fun _ => ?_)) | exact ih0 _ _ _ _ _ _ _ | exact impl_Board_diagonals.mono _ _ _ _ _ | exact impl_ColourBoard.mono _ _ _ _ _ | exact LeO.none _ | refine LeO.ite ?_ ?_ | refine LeO.bind ?_ (fun _ => ?_)
def impl_CellOfColour.T5 : Bool × List (List Nat × List Nat) := (true, [([], []), ([], []), ([], []), ([1, 2], [1, 2]), ([3], [3]), ([], []), ([], []), ([5, 6], [5, 6]), ([7], [7]), ([0, 4, 8], [0, 4, 8]), ([9], [9]), ([10], [10]), ([10], [10]), ([10], [10]), ([11, 9, 0, 1, 2, 3, 4, 5, 6, 7, 8, 9, 10, 11], [11]), ([12, 14, 0, 1, 2, 3, 4, 5, 6, 7, 8, 9, 10, 11, 12, 14], [12]), ([13, 15, 0, 1, 2, 3, 4, 5, 6, 7, 8, 9, 10, 11, 12, 13, 14, 15], [13])])
def impl_CellOfColour.B5 : List Nat := [0, 0, 0, 6, 14, 0, 0, 96, 224, 511, 1023, 2047, 2047, 2047, 4095, 24575, 65535]
theorem impl_CellOfColour.tab5 : rtab .any (opsOf Try.f34 5) = impl_CellOfColour.T5 := by kernel_rfl
theorem impl_CellOfColour.bits5 : waitsOk impl_CellOfColour.T5.2 impl_CellOfColour.B5 = true := by kernel_rfl
theorem impl_CellOfColour.calls (k : Nat) (a0_0 : Int) (a0_1 : Int) (A0_2 : Option Addr) (c0_2 : Nat) (l0_2 : List Int) (a1 : Int) (a2 : Int) (a3 : Int) (r1 : Int) (r2 : Int) (r3 : Bool) (w : World) (hr0_2 : Kd.C (Kd.int .i64) w A0_2 l0_2.length l0_2) (hc0_2 : l0_2.length ≤ c0_2) (h : impl_CellOfColour.f k a0_0 a0_1 l0_2 a1 a2 a3 = some (r1, r2, r3)) :
  Calls Try.prog 34 #[.agg #[.int .i64 a0_0, .int .i64 a0_1, .slice A0_2 l0_2.length c0_2], .int .i64 a1, .int .i64 a2, .int .i64 a3] w fun e w' => e = .returned (.tuple #[.int .i64 r1, .int .i64 r2, .bool r3]) ∧ Below w.heap.size w w' := by
 have hu26 := Try.underlying26
 have HR0_2 := A_ hr0_2
 have HC0_2 := A_ hc0_2
 clear hr0_2 hc0_2
 have HB := A_ (Below.refl w.heap.size w)
 have H : ((impl_ColourBoard.f k a0_0 a0_1 l0_2 a1).bind fun bt864 => (if bt864.2.2.2 = true then ((impl_Board_place.f bt864.1 bt864.2.1 bt864.2.2.1 a2 a3).bind fun t871 => (impl_CellOfColour.j0 k a1 a2 a3 (!t871) a0_0 a0_1 l0_2)) else (impl_CellOfColour.j0 k a1 a2 a3 true a0_0 a0_1 l0_2))) = some (r1, r2, r3) := h
 clear h
 replace H := Option.bind_eq_some_iff.mp H
 obtain ⟨⟨t864, t865, t866, t869⟩, A50, H⟩ := H
 replace H : (if t869 = true then ((impl_Board_place.f t864 t865 t866 a2 a3).bind fun t871 => (impl_CellOfColour.j0 k a1 a2 a3 (!t871) a0_0 a0_1 l0_2)) else (impl_CellOfColour.j0 k a1 a2 a3 true a0_0 a0_1 l0_2)) = some (r1, r2, r3) := H
 have A5 := A_ A50
 clear A50
 have HC6 := A_ H
 clear H
 go_enter Try.func34, Try.ntmps34
 go_upto_region 2 with (first | (refine gd_ 4 ?_; refine bx_ 4 #[.int .i64 a0_0, .int .i64 a0_1, .slice A0_2 l0_2.length c0_2] 26 ?_; intro gb863 hg w7 hbox hb; have BK863 := A_ (hbox); have GW863 := A_ ((ts_ hg : w.heap.size ≤ gb863)); have GE863 := A_ ((ts_ hg : w.heap.size ≤ gb863)); replace HB := A_ (below_step tb_ hb); clear hb hbox hg; obtain ⟨hcz8_0, hcz8_1, hcz8_2, hfz8_0, hfz8_1, hfz8_2⟩ := cf3_ BK863.out) | (refine gc_ 37 ?_; refine goesT_ (some 20) Try.func37 #[.agg #[.int .i64 a0_0, .int .i64 a0_1, .slice A0_2 l0_2.length c0_2], .int .i64 a1] ?_; (with_reducible refine (impl_ColourBoard.calls k a0_0 a0_1 _ _ l0_2 a1 t864 t865 t866 t869 _ ?side1 ?side2 A5.out).mono ?_); (case side1 => exact tc_ HR0_2.out); (case side2 => exact HC0_2.out); rintro e w9 ⟨v867, rfl, ho0, hb⟩; refine ⟨_, rfl, ?_⟩; have HO868 := A_ (Kd.R_lower ho0 (below_size tb_)); replace BK863 := A_ (blk_below (g := gb863) (o := .cells #[.int .i64 a0_0, .int .i64 a0_1, .slice A0_2 l0_2.length c0_2] 26 (0, 0)) (tk_ BK863) hb); replace HB := A_ (below_step tb_ hb); (try clear hb); (try clear ho0)) | (refine gd_ 11 ?_; refine bx_ 11 #[.int .i64 0, .int .i64 0, .slice none 0 0] 26 ?_; intro gb870 hg w10 hbox hb; replace HO868 := A_ (Kd.R_below (tr_x HO868.out) hb); have BK870 := A_ (hbox); have GW870 := A_ ((ts_ hg : w.heap.size ≤ gb870)); have GE870 := A_ ((ts_ hg : w.heap.size ≤ gb870)); replace HB := A_ (below_step tb_ hb); have NB863_870 := A_ ((by rw [hg]; exact Nat.ne_of_lt (blk_lt (g := gb863) (o := .cells #[.int .i64 a0_0, .int .i64 a0_1, .slice A0_2 l0_2.length c0_2] 26 (0, 0)) (tk_ BK863)) : gb863 ≠ gb870)); have NB870_863 := A_ ((by rw [hg]; exact Nat.ne_of_gt (blk_lt (g := gb863) (o := .cells #[.int .i64 a0_0, .int .i64 a0_1, .slice A0_2 l0_2.length c0_2] 26 (0, 0)) (tk_ BK863)) : gb870 ≠ gb863)); replace BK863 := A_ (blk_below (g := gb863) (o := .cells #[.int .i64 a0_0, .int .i64 a0_1, .slice A0_2 l0_2.length c0_2] 26 (0, 0)) (tk_ BK863) hb); clear hb hbox hg; have hnb11 := NB870_863.out; have hnc11 := NB863_870.out; obtain ⟨hcz12_0, hcz12_1, hcz12_2, hfz12_0, hfz12_1, hfz12_2⟩ := cf3_ BK870.out; obtain ⟨Ao13, co13, eo13⟩ := Kd.R_slice HO868.out; subst eo13))
 (try simp only [Act.put, List.setIfInBounds_toArray, List.set_cons_zero, List.set_cons_succ])
 go_cut [31] (fun v31 wc => ∃ (kq : Nat) (x31_5 : Bool), v31 = .bool x31_5 ∧ Aside0 (impl_CellOfColour.j0 kq a1 a2 a3 x31_5 a0_0 a0_1 l0_2 = some (r1, r2, r3)) ∧ Aside0 (kq ≤ k) ∧ Aside0 (Kd.R (Kd.int .i64) 3 wc w.heap.size (fun _ => True) (.slice Ao13 t866.length co13) t866) ∧ Aside0 (wc.heap[gb863]? = some (.cells #[.int .i64 a0_0, .int .i64 a0_1, (.slice A0_2 l0_2.length c0_2)] 26 (0, 0))) ∧ Aside0 (wc.heap[gb870]? = some (.cells #[.int .i64 t864, .int .i64 t865, (.slice Ao13 t866.length co13)] 26 (0, 0))) ∧ Aside0 (Below w.heap.size w wc))
 case first =>
  have H := HC6.out
  clear HC6
  by_cases c14 : t869 = true
  ·
   subst c14
   have H1 : ((impl_Board_place.f t864 t865 t866 a2 a3).bind fun t871 => (impl_CellOfColour.j0 k a1 a2 a3 (!t871) a0_0 a0_1 l0_2)) = some (r1, r2, r3) := by rw [if_pos rfl] at H; exact H
   clear H
   have H := H1
   clear H1
   replace H := Option.bind_eq_some_iff.mp H
   obtain ⟨t871, A150, H⟩ := H
   replace H : (impl_CellOfColour.j0 k a1 a2 a3 (!t871) a0_0 a0_1 l0_2) = some (r1, r2, r3) := H
   have A15 := A_ A150
   clear A150
   have H' := A_ H
   clear H
   have hnb16 := NB870_863.out
   have hnc16 := NB863_870.out
   obtain ⟨hcz17_0, hcz17_1, hcz17_2, hfz17_0, hfz17_1, hfz17_2⟩ := cf3_ BK870.out
   go_wp2_with (first | (go_at_call 94; (with_reducible refine (impl_Board_place.calls t864 t865 _ _ t866 a2 a3 t871 _ ?side1 ?side2 A15.out).mono ?_); (case side1 => refine (Kd.R_reads' (e := 3) (base := w.heap.size) (ok := fun k_ => True) (n := t866.length) (c := co13) ?_).2.2; exact (tr_ (h := by exact (Kd.R_mono (Kd.R_far (p := ⟨gb870, 2, none⟩) (Kd.R_far (p := ⟨gb870, 1, none⟩) (Kd.R_far (p := ⟨gb870, 0, none⟩) (Kd.R_types HO868.out BK870.out (by decide)) (fun _ hk => hk.2) (.int .i64 t864)) (fun _ hk => hk.2) (.int .i64 t865)) (fun _ hk => hk.2) (.slice Ao13 t866.length co13)) (fun _ h_ => h_.1))))); (case side2 => exact (Kd.R_reads' HO868.out).2.1); rintro e w18 ⟨rfl, hb⟩; replace HO868 := A_ (Kd.R_below (tr_ (h := by exact (Kd.R_mono (Kd.R_far (p := ⟨gb870, 2, none⟩) (Kd.R_far (p := ⟨gb870, 1, none⟩) (Kd.R_far (p := ⟨gb870, 0, none⟩) (Kd.R_types HO868.out BK870.out (by decide)) (fun _ hk => hk.2) (.int .i64 t864)) (fun _ hk => hk.2) (.int .i64 t865)) (fun _ hk => hk.2) (.slice Ao13 t866.length co13)) (fun _ h_ => h_.1)))) hb); replace BK863 := A_ (blk_below (g := gb863) (o := .cells #[.int .i64 a0_0, .int .i64 a0_1, .slice A0_2 l0_2.length c0_2] 26 (0, 0)) (tk_ BK863) hb); replace BK870 := A_ (blk_below (g := gb870) (o := .cells #[.int .i64 t864, .int .i64 t865, .slice Ao13 t866.length co13] 26 (0, 0)) (by (with_reducible repeat (first | refine blk_drewN ?_ _ | refine blk_drew ?_ | refine blk_alloc ?_ _)); refine blk_put (cs := #[.int .i64 t864, .int .i64 t865, .slice none 0 0]) ?_ 2 _ rfl; (with_reducible repeat (first | refine blk_drewN ?_ _ | refine blk_drew ?_ | refine blk_alloc ?_ _)); refine blk_put (cs := #[.int .i64 t864, .int .i64 0, .slice none 0 0]) ?_ 1 _ rfl; (with_reducible repeat (first | refine blk_drewN ?_ _ | refine blk_drew ?_ | refine blk_alloc ?_ _)); refine blk_put (cs := #[.int .i64 0, .int .i64 0, .slice none 0 0]) ?_ 0 _ rfl; (with_reducible repeat (first | refine blk_drewN ?_ _ | refine blk_drew ?_ | refine blk_alloc ?_ _)); exact BK870.out) hb); replace HB := A_ (below_step tb_ hb); (try clear hb)))
   go_meet
   case rel => exact ⟨_, (!t871), tf_, H', ⟨by first | omega | exact Nat.le_refl _⟩, ⟨tr_x HO868.out⟩, ⟨tk_ BK863⟩, ⟨tk_ BK870⟩, ⟨tb_⟩⟩
  ·
   replace c14 := Bool.eq_false_iff.mpr c14
   subst c14
   have H1 : (impl_CellOfColour.j0 k a1 a2 a3 true a0_0 a0_1 l0_2) = some (r1, r2, r3) := by rw [if_neg (show ¬ (false = true) by decide)] at H; exact H
   clear H
   have H := H1
   clear H1
   have H' := A_ H
   clear H
   go_wp2
   go_meet
   case rel => exact ⟨_, (true), tf_, H', ⟨by first | omega | exact Nat.le_refl _⟩, ⟨by (with_reducible repeat (first | apply Kd.R_alloc | apply Kd.R_drewN | apply Kd.R_drew)); exact Kd.R_mono (Kd.R_far (p := ⟨gb870, 2, none⟩) (Kd.R_far (p := ⟨gb870, 1, none⟩) (Kd.R_far (p := ⟨gb870, 0, none⟩) (Kd.R_types HO868.out BK870.out (by decide)) (fun _ hk => hk.2) (.int .i64 t864)) (fun _ hk => hk.2) (.int .i64 t865)) (fun _ hk => hk.2) (.slice Ao13 t866.length co13)) (fun _ hk => trivial)⟩, ⟨tk_ BK863⟩, ⟨by (with_reducible repeat (first | refine blk_drewN ?_ _ | refine blk_drew ?_ | refine blk_alloc ?_ _)); refine blk_put (cs := #[.int .i64 t864, .int .i64 t865, .slice none 0 0]) ?_ 2 _ rfl; (with_reducible repeat (first | refine blk_drewN ?_ _ | refine blk_drew ?_ | refine blk_alloc ?_ _)); refine blk_put (cs := #[.int .i64 t864, .int .i64 0, .slice none 0 0]) ?_ 1 _ rfl; (with_reducible repeat (first | refine blk_drewN ?_ _ | refine blk_drew ?_ | refine blk_alloc ?_ _)); refine blk_put (cs := #[.int .i64 0, .int .i64 0, .slice none 0 0]) ?_ 0 _ rfl; (with_reducible repeat (first | refine blk_drewN ?_ _ | refine blk_drew ?_ | refine blk_alloc ?_ _)); exact BK870.out⟩, ⟨tb_⟩⟩
 case rest =>
  clear HC6
  try clear c1
  try clear p2
  try clear c3
  try clear c11
  try clear c14
  try clear c16
  try clear hcz12_0
  try clear hcz12_1
  try clear hcz12_2
  try clear hcz17_0
  try clear hcz17_1
  try clear hcz17_2
  try clear hcz8_0
  try clear hcz8_1
  try clear hcz8_2
  try clear hfz12_0
  try clear hfz12_1
  try clear hfz12_2
  try clear hfz17_0
  try clear hfz17_1
  try clear hfz17_2
  try clear hfz8_0
  try clear hfz8_1
  try clear hfz8_2
  obtain ⟨kq, x31_5, rfl, HA, HJ5, HO_871002, BK863, BK870, HB⟩ := hcut
  cases kq with
  | zero => exact absurd HA.out (by simp [impl_CellOfColour.j0])
  | succ kj5 =>
   have H := HA.out
   clear HA
   simp only [impl_CellOfColour.j0] at H
   by_cases c19 : x31_5 = true
   ·
    subst c19
    have H1 : (some (0, 0, false)) = some (r1, r2, r3) := by rw [if_pos rfl] at H; exact H
    clear H
    have H := H1
    clear H1
    simp only [Option.some.injEq, Prod.mk.injEq] at H
    obtain ⟨rfl, rfl, rfl⟩ := H
    go_wp2
    go_ret3
    exact ⟨te_, tb_⟩
   ·
    replace c19 := Bool.eq_false_iff.mpr c19
    subst c19
    have H1 : ((impl_Board_diagonals.f kj5 a0_0 a0_1 l0_2 a1).bind fun bt872 => (if 0 ≤ a2 then (if a2 < (bt872.1.length : Int) then (if 0 ≤ a3 then (if a3 < (bt872.2.length : Int) then ((impl_Board_crossing.f a0_0 a0_1 l0_2 (rd bt872.1 a2) (rd bt872.2 a3)).bind fun bt880 => (if bt880.2.2 = true then (some (bt880.1, bt880.2.1, true)) else (some (0, 0, false)))) else (none)) else (none)) else (none)) else (none))) = some (r1, r2, r3) := by rw [if_neg (show ¬ (false = true) by decide)] at H; exact H
    clear H
    have H := H1
    clear H1
    replace H := Option.bind_eq_some_iff.mp H
    obtain ⟨⟨t872, t875⟩, A200, H⟩ := H
    replace H : (if 0 ≤ a2 then (if a2 < (t872.length : Int) then (if 0 ≤ a3 then (if a3 < (t875.length : Int) then ((impl_Board_crossing.f a0_0 a0_1 l0_2 (rd t872 a2) (rd t875 a3)).bind fun bt880 => (if bt880.2.2 = true then (some (bt880.1, bt880.2.1, true)) else (some (0, 0, false)))) else (none)) else (none)) else (none)) else (none)) = some (r1, r2, r3) := H
    have A20 := A_ A200
    clear A200
    by_cases c21 : 0 ≤ a2
    ·
     rw [if_pos c21] at H
     have c21b0 := decide_eq_true c21
     clear c21
     by_cases c22 : a2 < (t872.length : Int)
     ·
      rw [if_pos c22] at H
      have c22b0 := decide_eq_true c22
      clear c22
      by_cases c23 : 0 ≤ a3
      ·
       rw [if_pos c23] at H
       have c23b0 := decide_eq_true c23
       clear c23
       by_cases c24 : a3 < (t875.length : Int)
       ·
        rw [if_pos c24] at H
        have c24b0 := decide_eq_true c24
        clear c24
        replace H := Option.bind_eq_some_iff.mp H
        obtain ⟨⟨t880, t881, t882⟩, A250, H⟩ := H
        replace H : (if t882 = true then (some (t880, t881, true)) else (some (0, 0, false))) = some (r1, r2, r3) := H
        have A25 := A_ A250
        clear A250
        by_cases c26 : t882 = true
        ·
         subst c26
         have H1 : (some (t880, t881, true)) = some (r1, r2, r3) := by rw [if_pos rfl] at H; exact H
         clear H
         have H := H1
         clear H1
         simp only [Option.some.injEq, Prod.mk.injEq] at H
         obtain ⟨rfl, rfl, rfl⟩ := H
         have hnb27 := NB863_870.out
         have hnc27 := NB870_863.out
         obtain ⟨hcz28_0, hcz28_1, hcz28_2, hfz28_0, hfz28_1, hfz28_2⟩ := cf3_ BK863.out
         try go_wp2_with (first | (refine gc_ 113 ?_; refine goesT_ (some 35) Try.func113 #[.agg #[.int .i64 a0_0, .int .i64 a0_1, .slice A0_2 l0_2.length c0_2], .int .i64 a1] ?_; (with_reducible refine (impl_Board_diagonals.calls kj5 a0_0 a0_1 _ _ l0_2 a1 t872 t875 _ ?side1 ?side2 A20.out).mono ?_); (case side1 => exact tc_ HR0_2.out); (case side2 => exact HC0_2.out); rintro e w29 ⟨v873, v876, rfl, ho0, ho1, hb⟩; refine ⟨_, rfl, ?_⟩; have HO874 := A_ (Kd.R_lower (Kd.R_new' ho0 (Kd.R_lt (tr_x HO_871002.out))) (below_size tb_)); have HO877 := A_ (Kd.R_lower (Kd.R_new' ho1 (Kd.R_lt (tr_x HO_871002.out))) (below_size tb_)); replace HO_871002 := A_ (Kd.R_mono (Kd.R_told (Kd.R_told (Kd.R_old (tr_x HO_871002.out) hb) (Kd.R_base ho0)) (Kd.R_base ho1)) (fun _ h_ => h_.1)); replace BK863 := A_ (blk_below (g := gb863) (o := .cells #[.int .i64 a0_0, .int .i64 a0_1, .slice A0_2 l0_2.length c0_2] 26 (0, 0)) (tk_ BK863) hb); replace BK870 := A_ (blk_below (g := gb870) (o := .cells #[.int .i64 t864, .int .i64 t865, .slice Ao13 t866.length co13] 26 (0, 0)) (tk_ BK870) hb); replace HB := A_ (below_step tb_ hb); (try clear hb); (try clear ho0); (try clear ho1)))
         have n0_ := A_ (Kd.R_drew HO_871002.out)
         have n1_ := A_ (Kd.R_drew HO874.out)
         have n2_ := A_ (Kd.R_drew HO877.out)
         have n3_ := A_ (blk_drew BK863.out)
         have n4_ := A_ (blk_drew BK870.out)
         have n5_ := A_ (below_drew1 HB.out)
         clear HO_871002
         clear HO874
         clear HO877
         clear BK863
         clear BK870
         clear HB
         have HO_871002 := n0_
         have HO874 := n1_
         have HO877 := n2_
         have BK863 := n3_
         have BK870 := n4_
         have HB := n5_
         clear n0_ n1_ n2_ n3_ n4_ n5_
         obtain ⟨Ao31, co31, eo31⟩ := Kd.R_slice HO874.out
         (first | subst eo31 | (injection eo31 with f1_ f2_ f3_; have f4_ := f1_.symm; have f5_ := f3_.symm; clear f1_ f2_ f3_; subst f4_; subst f5_))
         have p878 : 0 ≤ (a2 : Int) := od_
         have q878 : a2 < (t872.length : Int) := od_
         obtain ⟨ad878, e878, hx878_0⟩ := Kd.at_int (Kd.R_reads' HO874.out).2.2 a2 p878 q878
         cases e878
         replace p878 := eq_true p878
         replace q878 := eq_true q878
         obtain ⟨Ao32, co32, eo32⟩ := Kd.R_slice HO877.out
         (first | subst eo32 | (injection eo32 with f1_ f2_ f3_; have f4_ := f1_.symm; have f5_ := f3_.symm; clear f1_ f2_ f3_; subst f4_; subst f5_))
         have p879 : 0 ≤ (a3 : Int) := od_
         have q879 : a3 < (t875.length : Int) := od_
         obtain ⟨ad879, e879, hx879_0⟩ := Kd.at_int (Kd.R_reads' HO877.out).2.2 a3 p879 q879
         cases e879
         replace p879 := eq_true p879
         replace q879 := eq_true q879
         refine start_ (n := 17) (S := fun w' => w'.cell? ⟨gb863, 0, none⟩ = some (.int .i64 a0_0) ∧ w'.cell? ⟨gb863, 1, none⟩ = some (.int .i64 a0_1) ∧ w'.cell? ⟨gb863, 2, none⟩ = some (.slice A0_2 l0_2.length c0_2) ∧ w'.cell? (ad878.add (a2).toNat) = some (.int .i64 (rd t872 a2)) ∧ w'.cell? (ad879.add (a3).toNat) = some (.int .i64 (rd t875 a3))) (ds := []) (Fn.bl 17 0) (by kernel_rfl) rfl rfl ⟨(blk_cell BK863.out 0).trans rfl, (blk_cell BK863.out 1).trans rfl, (blk_cell BK863.out 2).trans rfl, hx878_0, hx879_0⟩ (fun hHeld => ?_); refine with_tabW impl_CellOfColour.tab5 impl_CellOfColour.bits5 (fun HT_ HW_ => ?_)
         generalize w29.drew = w30 at HO_871002 HO874 HO877 BK863 BK870 HB hx878_0 hx879_0 hHeld ⊢
         refine pq_ 1 (some 40) (Fn.bl 17 2) HT_.out ?_
         refine pq_ 2 (some 41) (Fn.bl 17 6) HT_.out ?_
         refine pq_ 3 (some 42) (Fn.bl 17 14) HT_.out ?_
         refine pq_ 5 (some 44) (Fn.bl 17 46) HT_.out ?_
         refine pq_ 6 (some 45) (Fn.bl 17 110) HT_.out ?_
         refine pq_ 7 (some 46) (Fn.bl 17 238) HT_.out ?_
         refine tq_ 0 (some 39) (Fn.bl 17 239) HT_.out HW_.out hHeld ?_ (hy0 := by rintro w' ⟨s0, s1, s2, s3, s4⟩; go_simp; with_reducible rfl)
         refine tq_ 4 (some 43) (Fn.bl 17 255) HT_.out HW_.out hHeld ?_ (hy0 := by rintro w' ⟨s0, s1, s2, s3, s4⟩; go_simp; with_reducible rfl)
         refine tq_ 8 (some 47) (Fn.bl 17 511) HT_.out HW_.out hHeld ?_ (hy0 := by rintro w' ⟨s0, s1, s2, s3, s4⟩; go_simp; with_reducible rfl)
         refine one_ (i := 9) (N := some 48) (Fn.bl 17 1023) rfl rfl (one_of HT_.out (by kernel_rfl)) (by decide) (fun K hK => ?_)
         refine goes_ Try.func114 (by kernel_rfl) rfl #[.agg #[.int .i64 a0_0, .int .i64 a0_1, .slice A0_2 l0_2.length c0_2], .int .i64 (rd t872 a2), .int .i64 (rd t875 a3)] (by rfl) rfl rfl ta_ ?_
         with_reducible refine (impl_Board_crossing.calls a0_0 a0_1 _ _ l0_2 (rd t872 a2) (rd t875 a3) t880 t881 true _ ?side1 ?side2 A25.out).mono ?_
         (case side1 => exact tc_ HR0_2.out)
         (case side2 => exact HC0_2.out)
         rintro e w33 ⟨rfl, hb⟩
         have HS3_ := (hb.cell (World.block_lt_of_cell? _ _ (hHeld.2.2.2.1))).trans (hHeld.2.2.2.1)
         have HS4_ := (hb.cell (World.block_lt_of_cell? _ _ (hHeld.2.2.2.2))).trans (hHeld.2.2.2.2)
         refine ⟨_, rfl, ?_⟩
         have n0_ := A_ (Kd.R_below (tr_x HO_871002.out) hb)
         have n1_ := A_ (Kd.R_below (tr_x HO874.out) hb)
         have n2_ := A_ (Kd.R_below (tr_x HO877.out) hb)
         have n3_ := A_ (blk_below (g := gb863) (o := .cells #[.int .i64 a0_0, .int .i64 a0_1, .slice A0_2 l0_2.length c0_2] 26 (0, 0)) (tk_ BK863) hb)
         have n4_ := A_ (blk_below (g := gb870) (o := .cells #[.int .i64 t864, .int .i64 t865, .slice Ao13 t866.length co13] 26 (0, 0)) (tk_ BK870) hb)
         have n5_ := A_ (below_step tb_ hb)
         clear HO_871002
         clear HO874
         clear HO877
         clear BK863
         clear BK870
         clear HB
         have HO_871002 := n0_
         have HO874 := n1_
         have HO877 := n2_
         have BK863 := n3_
         have BK870 := n4_
         have HB := n5_
         clear n0_ n1_ n2_ n3_ n4_ n5_
         (try clear hb)
         (try clear hb2)
         (try clear hk)
         (try clear hi)
         refine hK.out _ _ ⟨(blk_cell BK863.out 0).trans rfl, (blk_cell BK863.out 1).trans rfl, (blk_cell BK863.out 2).trans rfl, HS3_, HS4_⟩ (fun hHeld => ?_)
         clear hK K
         refine norm_ (a' := ?_) ?_ ?_
         rotate_left
         ·
          show Act.put _ (some 48) _ = _
          simp only [Act.put, List.setIfInBounds_toArray, List.set_cons_zero, List.set_cons_succ, i64_w, i32_w]
          rfl
         refine pq_ 10 (some 38) (Fn.bl 17 2047) HT_.out ?_
         refine pq_ 11 (some 49) (Fn.bl 17 4095) HT_.out ?_
         refine pq_ 12 (some 50) (Fn.bl 17 8191) HT_.out ?_
         refine pq_ 13 (some 51) (Fn.bl 17 16383) HT_.out ?_
         refine pq_ 14 (some 15) (Fn.bl 17 32767) HT_.out ?_
         refine pq_ 15 (some 16) (Fn.bl 17 65535) HT_.out ?_
         refine pq_ 16 (some 12) (Fn.bl 17 131071) HT_.out ?_
         refine done_ (done_of HT_.out (by kernel_rfl)) ?_
         try go_wp2
         go_ret3
         exact ⟨te_, tb_⟩
        ·
         replace c26 := Bool.eq_false_iff.mpr c26
         subst c26
         have H1 : (some (0, 0, false)) = some (r1, r2, r3) := by rw [if_neg (show ¬ (false = true) by decide)] at H; exact H
         clear H
         have H := H1
         clear H1
         simp only [Option.some.injEq, Prod.mk.injEq] at H
         obtain ⟨rfl, rfl, rfl⟩ := H
         have hnb34 := NB863_870.out
         have hnc34 := NB870_863.out
         obtain ⟨hcz35_0, hcz35_1, hcz35_2, hfz35_0, hfz35_1, hfz35_2⟩ := cf3_ BK863.out
         try go_wp2_with (first | (refine gc_ 113 ?_; refine goesT_ (some 35) Try.func113 #[.agg #[.int .i64 a0_0, .int .i64 a0_1, .slice A0_2 l0_2.length c0_2], .int .i64 a1] ?_; (with_reducible refine (impl_Board_diagonals.calls kj5 a0_0 a0_1 _ _ l0_2 a1 t872 t875 _ ?side1 ?side2 A20.out).mono ?_); (case side1 => exact tc_ HR0_2.out); (case side2 => exact HC0_2.out); rintro e w36 ⟨v873, v876, rfl, ho0, ho1, hb⟩; refine ⟨_, rfl, ?_⟩; have HO874 := A_ (Kd.R_lower (Kd.R_new' ho0 (Kd.R_lt (tr_x HO_871002.out))) (below_size tb_)); have HO877 := A_ (Kd.R_lower (Kd.R_new' ho1 (Kd.R_lt (tr_x HO_871002.out))) (below_size tb_)); replace HO_871002 := A_ (Kd.R_mono (Kd.R_told (Kd.R_told (Kd.R_old (tr_x HO_871002.out) hb) (Kd.R_base ho0)) (Kd.R_base ho1)) (fun _ h_ => h_.1)); replace BK863 := A_ (blk_below (g := gb863) (o := .cells #[.int .i64 a0_0, .int .i64 a0_1, .slice A0_2 l0_2.length c0_2] 26 (0, 0)) (tk_ BK863) hb); replace BK870 := A_ (blk_below (g := gb870) (o := .cells #[.int .i64 t864, .int .i64 t865, .slice Ao13 t866.length co13] 26 (0, 0)) (tk_ BK870) hb); replace HB := A_ (below_step tb_ hb); (try clear hb); (try clear ho0); (try clear ho1)))
         have n0_ := A_ (Kd.R_drew HO_871002.out)
         have n1_ := A_ (Kd.R_drew HO874.out)
         have n2_ := A_ (Kd.R_drew HO877.out)
         have n3_ := A_ (blk_drew BK863.out)
         have n4_ := A_ (blk_drew BK870.out)
         have n5_ := A_ (below_drew1 HB.out)
         clear HO_871002
         clear HO874
         clear HO877
         clear BK863
         clear BK870
         clear HB
         have HO_871002 := n0_
         have HO874 := n1_
         have HO877 := n2_
         have BK863 := n3_
         have BK870 := n4_
         have HB := n5_
         clear n0_ n1_ n2_ n3_ n4_ n5_
         obtain ⟨Ao38, co38, eo38⟩ := Kd.R_slice HO874.out
         (first | subst eo38 | (injection eo38 with f1_ f2_ f3_; have f4_ := f1_.symm; have f5_ := f3_.symm; clear f1_ f2_ f3_; subst f4_; subst f5_))
         have p878 : 0 ≤ (a2 : Int) := od_
         have q878 : a2 < (t872.length : Int) := od_
         obtain ⟨ad878, e878, hx878_0⟩ := Kd.at_int (Kd.R_reads' HO874.out).2.2 a2 p878 q878
         cases e878
         replace p878 := eq_true p878
         replace q878 := eq_true q878
         obtain ⟨Ao39, co39, eo39⟩ := Kd.R_slice HO877.out
         (first | subst eo39 | (injection eo39 with f1_ f2_ f3_; have f4_ := f1_.symm; have f5_ := f3_.symm; clear f1_ f2_ f3_; subst f4_; subst f5_))
         have p879 : 0 ≤ (a3 : Int) := od_
         have q879 : a3 < (t875.length : Int) := od_
         obtain ⟨ad879, e879, hx879_0⟩ := Kd.at_int (Kd.R_reads' HO877.out).2.2 a3 p879 q879
         cases e879
         replace p879 := eq_true p879
         replace q879 := eq_true q879
         refine start_ (n := 17) (S := fun w' => w'.cell? ⟨gb863, 0, none⟩ = some (.int .i64 a0_0) ∧ w'.cell? ⟨gb863, 1, none⟩ = some (.int .i64 a0_1) ∧ w'.cell? ⟨gb863, 2, none⟩ = some (.slice A0_2 l0_2.length c0_2) ∧ w'.cell? (ad878.add (a2).toNat) = some (.int .i64 (rd t872 a2)) ∧ w'.cell? (ad879.add (a3).toNat) = some (.int .i64 (rd t875 a3))) (ds := []) (Fn.bl 17 0) (by kernel_rfl) rfl rfl ⟨(blk_cell BK863.out 0).trans rfl, (blk_cell BK863.out 1).trans rfl, (blk_cell BK863.out 2).trans rfl, hx878_0, hx879_0⟩ (fun hHeld => ?_); refine with_tabW impl_CellOfColour.tab5 impl_CellOfColour.bits5 (fun HT_ HW_ => ?_)
         generalize w36.drew = w37 at HO_871002 HO874 HO877 BK863 BK870 HB hx878_0 hx879_0 hHeld ⊢
         refine pq_ 1 (some 40) (Fn.bl 17 2) HT_.out ?_
         refine pq_ 2 (some 41) (Fn.bl 17 6) HT_.out ?_
         refine pq_ 3 (some 42) (Fn.bl 17 14) HT_.out ?_
         refine pq_ 5 (some 44) (Fn.bl 17 46) HT_.out ?_
         refine pq_ 6 (some 45) (Fn.bl 17 110) HT_.out ?_
         refine pq_ 7 (some 46) (Fn.bl 17 238) HT_.out ?_
         refine tq_ 0 (some 39) (Fn.bl 17 239) HT_.out HW_.out hHeld ?_ (hy0 := by rintro w' ⟨s0, s1, s2, s3, s4⟩; go_simp; with_reducible rfl)
         refine tq_ 4 (some 43) (Fn.bl 17 255) HT_.out HW_.out hHeld ?_ (hy0 := by rintro w' ⟨s0, s1, s2, s3, s4⟩; go_simp; with_reducible rfl)
         refine tq_ 8 (some 47) (Fn.bl 17 511) HT_.out HW_.out hHeld ?_ (hy0 := by rintro w' ⟨s0, s1, s2, s3, s4⟩; go_simp; with_reducible rfl)
         refine one_ (i := 9) (N := some 48) (Fn.bl 17 1023) rfl rfl (one_of HT_.out (by kernel_rfl)) (by decide) (fun K hK => ?_)
         refine goes_ Try.func114 (by kernel_rfl) rfl #[.agg #[.int .i64 a0_0, .int .i64 a0_1, .slice A0_2 l0_2.length c0_2], .int .i64 (rd t872 a2), .int .i64 (rd t875 a3)] (by rfl) rfl rfl ta_ ?_
         with_reducible refine (impl_Board_crossing.calls a0_0 a0_1 _ _ l0_2 (rd t872 a2) (rd t875 a3) t880 t881 false _ ?side1 ?side2 A25.out).mono ?_
         (case side1 => exact tc_ HR0_2.out)
         (case side2 => exact HC0_2.out)
         rintro e w40 ⟨rfl, hb⟩
         have HS3_ := (hb.cell (World.block_lt_of_cell? _ _ (hHeld.2.2.2.1))).trans (hHeld.2.2.2.1)
         have HS4_ := (hb.cell (World.block_lt_of_cell? _ _ (hHeld.2.2.2.2))).trans (hHeld.2.2.2.2)
         refine ⟨_, rfl, ?_⟩
         have n0_ := A_ (Kd.R_below (tr_x HO_871002.out) hb)
         have n1_ := A_ (Kd.R_below (tr_x HO874.out) hb)
         have n2_ := A_ (Kd.R_below (tr_x HO877.out) hb)
         have n3_ := A_ (blk_below (g := gb863) (o := .cells #[.int .i64 a0_0, .int .i64 a0_1, .slice A0_2 l0_2.length c0_2] 26 (0, 0)) (tk_ BK863) hb)
         have n4_ := A_ (blk_below (g := gb870) (o := .cells #[.int .i64 t864, .int .i64 t865, .slice Ao13 t866.length co13] 26 (0, 0)) (tk_ BK870) hb)
         have n5_ := A_ (below_step tb_ hb)
         clear HO_871002
         clear HO874
         clear HO877
         clear BK863
         clear BK870
         clear HB
         have HO_871002 := n0_
         have HO874 := n1_
         have HO877 := n2_
         have BK863 := n3_
         have BK870 := n4_
         have HB := n5_
         clear n0_ n1_ n2_ n3_ n4_ n5_
         (try clear hb)
         (try clear hb2)
         (try clear hk)
         (try clear hi)
         refine hK.out _ _ ⟨(blk_cell BK863.out 0).trans rfl, (blk_cell BK863.out 1).trans rfl, (blk_cell BK863.out 2).trans rfl, HS3_, HS4_⟩ (fun hHeld => ?_)
         clear hK K
         refine norm_ (a' := ?_) ?_ ?_
         rotate_left
         ·
          show Act.put _ (some 48) _ = _
          simp only [Act.put, List.setIfInBounds_toArray, List.set_cons_zero, List.set_cons_succ, i64_w, i32_w]
          rfl
         refine pq_ 10 (some 38) (Fn.bl 17 2047) HT_.out ?_
         refine pq_ 11 (some 49) (Fn.bl 17 4095) HT_.out ?_
         refine pq_ 12 (some 50) (Fn.bl 17 8191) HT_.out ?_
         refine pq_ 13 (some 51) (Fn.bl 17 16383) HT_.out ?_
         refine pq_ 14 (some 15) (Fn.bl 17 32767) HT_.out ?_
         refine pq_ 15 (some 16) (Fn.bl 17 65535) HT_.out ?_
         refine pq_ 16 (some 12) (Fn.bl 17 131071) HT_.out ?_
         refine done_ (done_of HT_.out (by kernel_rfl)) ?_
         try go_wp2
         go_ret3
         exact ⟨te_, tb_⟩
       ·
        rw [if_neg c24] at H
        exact absurd H (by simp)
      ·
       rw [if_neg c23] at H
       exact absurd H (by simp)
     ·
      rw [if_neg c22] at H
      exact absurd H (by simp)
    ·
     rw [if_neg c21] at H
     exact absurd H (by simp)

/-! ### laws_eqIntS: function 64 -/
def laws_eqIntS.l0 : Nat → List Int → List Int → Int → Option (Bool)
 | 0, _, _, _ => none
 | k + 1, x0, x1, x5 => if x5 < (x0.length : Int) then (if 0 ≤ x5 then (if x5 < (x1.length : Int) then (if (rd x0 x5) = (rd x1 x5) then (laws_eqIntS.l0 k x0 x1 (wrap64 (x5 + 1))) else (some false)) else (none)) else (none)) else (some true)
def laws_eqIntS.f (k : Nat) (l0 : List Int) (l1 : List Int) : Option (Bool) := if (l0.length : Int) = (l1.length : Int) then (laws_eqIntS.l0 k l0 l1 0) else (some false)
theorem laws_eqIntS.mono_l : ∀ k, (∀ y0 y1 y2, LeO (laws_eqIntS.l0 k y0 y1 y2) (laws_eqIntS.l0 (k + 1) y0 y1 y2))
 | 0 => fun _ _ _ r h => by simp [laws_eqIntS.l0] at h
 | k + 1 => by
  have ih0 := laws_eqIntS.mono_l k
  ·
   intro y0 y1 y2
   unfold laws_eqIntS.l0
   repeat' first | (with_reducible first | exact ih0 _ _ _ | exact LeO.refl _ | exact LeO.none _ | refine LeO.ite ?_ ?_ | refine LeO.bind ?_ (fun _ => ?_)) | exact ih0 _ _ _ | exact LeO.none _ | refine LeO.ite ?_ ?_ | refine LeO.bind ?_ (fun _ => ?_)
theorem laws_eqIntS.mono : ∀ a0 a1 k, LeO (laws_eqIntS.f k a0 a1) (laws_eqIntS.f (k + 1) a0 a1) := by
 intro a0 a1 k
 have ih0 := laws_eqIntS.mono_l k
 unfold laws_eqIntS.f
 repeat' first | (with_reducible first | exact ih0 _ _ _ | exact LeO.refl _ | exact LeO.none _ | refine LeO.ite ?_ ?_ | refine LeO.bind ?_ (fun _ => ?_)) | exact ih0 _ _ _ | exact LeO.none _ | refine LeO.ite ?_ ?_ | refine LeO.bind ?_ (fun _ => ?_)
theorem laws_eqIntS.calls (k : Nat) (A0 : Option Addr) (c0 : Nat) (l0 : List Int) (A1 : Option Addr) (c1 : Nat) (l1 : List Int) (r : Bool) (w : World) (hr0 : Kd.C (Kd.int .i64) w A0 l0.length l0) (hc0 : l0.length ≤ c0) (hr1 : Kd.C (Kd.int .i64) w A1 l1.length l1) (hc1 : l1.length ≤ c1) (h : laws_eqIntS.f k l0 l1 = some r) :
  Calls Try.prog 64 #[.slice A0 l0.length c0, .slice A1 l1.length c1] w fun e w' => e = .returned (.bool r) ∧ Drawn0 w w' := by
 have HR0 := A_ hr0
 have HC0 := A_ hc0
 clear hr0 hc0
 have HR1 := A_ hr1
 have HC1 := A_ hc1
 clear hr1 hc1
 have H : (if (l0.length : Int) = (l1.length : Int) then (laws_eqIntS.l0 k l0 l1 0) else (some false)) = some r := h
 clear h
 by_cases c3 : (l0.length : Int) = (l1.length : Int)
 ·
  rw [if_pos c3] at H
  have c3b0 : ((l0.length : Int) == (l1.length : Int)) = true := beq_iff_eq.mpr c3
  have c3b1 : ((l0.length : Int) != (l1.length : Int)) = false := bne_eq_false_iff_eq.mpr c3
  have c3b2 : (l0.length == l1.length) = true := by first | simpa using c3 | (simp at c3 ⊢; omega)
  clear c3
  have H' := A_ H
  clear H
  go_enter Try.func64, Try.ntmps64
  go_wp2
  repeat (go_quiet (fail); try go_wp2)
  go_loopg [5] k (fun kq v5 w' => ∃ (x5_1 : Int), v5 = .int .i64 x5_1 ∧ Aside0 (laws_eqIntS.l0 kq l0 l1 x5_1 = some r) ∧ Aside0 (kq ≤ k) ∧ Drawn0 w w')
  case atStart => exact ⟨(0), tf_, H', ⟨Nat.le_refl _⟩, dr_⟩
  case round =>
   clear H'
   try clear c1
   try clear p2
   try clear c3
   try clear c3b0
   try clear c3b1
   try clear c3b2
   obtain ⟨x5_1, rfl, HA, HK1, ⟨m1, rfl⟩⟩ := hrel
   cases gk with
   | zero => exact absurd HA.out (by simp [laws_eqIntS.l0])
   | succ k1 =>
    have H := HA.out
    clear HA
    simp only [laws_eqIntS.l0] at H
    by_cases c4 : x5_1 < (l0.length : Int)
    ·
     rw [if_pos c4] at H
     have c4b0 := decide_eq_true c4
     clear c4
     by_cases c5 : 0 ≤ x5_1
     ·
      rw [if_pos c5] at H
      have c5b0 := decide_eq_true c5
      clear c5
      by_cases c6 : x5_1 < (l1.length : Int)
      ·
       rw [if_pos c6] at H
       have c6b0 := decide_eq_true c6
       clear c6
       by_cases c7 : (rd l0 x5_1) = (rd l1 x5_1)
       ·
        rw [if_pos c7] at H
        have c7b0 : ((rd l0 x5_1) == (rd l1 x5_1)) = true := beq_iff_eq.mpr c7
        have c7b1 : ((rd l0 x5_1) != (rd l1 x5_1)) = false := bne_eq_false_iff_eq.mpr c7
        clear c7
        have H' := A_ H
        clear H
        have p883 : 0 ≤ (x5_1 : Int) := od_
        have q883 : x5_1 < (l0.length : Int) := od_
        obtain ⟨ad883, e883, hx883_0⟩ := Kd.at_int HR0.out x5_1 p883 q883
        cases e883
        replace p883 := eq_true p883
        replace q883 := eq_true q883
        have p884 : 0 ≤ (x5_1 : Int) := od_
        have q884 : x5_1 < (l1.length : Int) := od_
        obtain ⟨ad884, e884, hx884_0⟩ := Kd.at_int HR1.out x5_1 p884 q884
        cases e884
        replace p884 := eq_true p884
        replace q884 := eq_true q884
        go_wp2
        repeat (go_quiet (fail); try go_wp2)
        go_roundg k1
        case measure => have := HK1.out; omega
        case rel => exact ⟨(wrap64 (x5_1 + 1)), tf_, H', ⟨by have := HK1.out; omega⟩, dr_⟩
       ·
        rw [if_neg c7] at H
        have c7b0 : ((rd l0 x5_1) == (rd l1 x5_1)) = false := beq_eq_false_iff_ne.mpr c7
        have c7b1 : ((rd l0 x5_1) != (rd l1 x5_1)) = true := bne_iff_ne.mpr c7
        obtain rfl := Option.some.inj H
        have p883 : 0 ≤ (x5_1 : Int) := od_
        have q883 : x5_1 < (l0.length : Int) := od_
        obtain ⟨ad883, e883, hx883_0⟩ := Kd.at_int HR0.out x5_1 p883 q883
        cases e883
        replace p883 := eq_true p883
        replace q883 := eq_true q883
        have p884 : 0 ≤ (x5_1 : Int) := od_
        have q884 : x5_1 < (l1.length : Int) := od_
        obtain ⟨ad884, e884, hx884_0⟩ := Kd.at_int HR1.out x5_1 p884 q884
        cases e884
        replace p884 := eq_true p884
        replace q884 := eq_true q884
        go_wp2
        repeat (go_quiet (fail); try go_wp2)
        go_ret
        exact ⟨tf_, dr_⟩
      ·
       rw [if_neg c6] at H
       exact absurd H (by simp)
     ·
      rw [if_neg c5] at H
      exact absurd H (by simp)
    ·
     rw [if_neg c4] at H
     have c4b0 := decide_eq_false c4
     clear c4
     obtain rfl := Option.some.inj H
     go_wp2
     repeat (go_quiet (fail); try go_wp2)
     go_ret
     exact ⟨tf_, dr_⟩
 ·
  rw [if_neg c3] at H
  have c3b0 : ((l0.length : Int) == (l1.length : Int)) = false := beq_eq_false_iff_ne.mpr c3
  have c3b1 : ((l0.length : Int) != (l1.length : Int)) = true := bne_iff_ne.mpr c3
  have c3b2 : (l0.length == l1.length) = false := by first | simpa using c3 | (simp at c3 ⊢; omega)
  obtain rfl := Option.some.inj H
  go_enter Try.func64, Try.ntmps64
  go_wp2
  repeat (go_quiet (fail); try go_wp2)
  go_ret
  exact ⟨tf_, dr_⟩

end
end Go.Proofs.Ytnhamhpalbeflaa.P
