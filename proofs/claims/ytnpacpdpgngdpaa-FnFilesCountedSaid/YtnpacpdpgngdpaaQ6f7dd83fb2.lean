-- printed functions (wip/slim.py)
import Derived.Test.YtnpacpdpgngdpaaPx0
import Derived.Test.YtnpacpdpgngdpaaQd1950a5485
import Derived.Test.YtnpacpdpgngdpaaQ34a903f869
namespace Go.Proofs.Ytnpacpdpgngdpaa.P
noncomputable section
set_option maxHeartbeats 8000000
set_option maxRecDepth 100000
open Go.RowKit Go.Proofs.YtnpacpdpgngdpaaW.PrintWords Go.Proofs.YtnpacpdpgngdpaaW.PrintLast Go.Proofs.YtnpacpdpgngdpaaW.PrintMore
attribute [local go_sem] max2_int min2_int max_two min_two max_three min_three max_four min_four   -- for this text's walks alone
set_option linter.unusedVariables false
set_option linter.unusedSimpArgs false

/-! ### spec_IsFilePlacement: function 118 -/
def spec_IsFilePlacement.f (k : Nat) (a0_0 : Int) (a0_1 : Int) (l0_2 : List Int) (l1 : List Int) : Option (Bool × Bool) := (spec_boGood.f k a0_0 a0_1 l0_2).bind fun t1922 => (if t1922 = true then (if (l1.length : Int) = a0_1 then ((spec_l1All.f k l1 (-1) 999).bind fun t1923 => (if t1923 = true then ((spec_fiGood.f k a0_0 a0_1 l0_2 l1).bind fun t1924 => (some (t1924, true))) else (some (false, false)))) else (some (false, false))) else (some (false, false)))
theorem spec_IsFilePlacement.mono : ∀ a0 a1 a2 a3 k, LeO (spec_IsFilePlacement.f k a0 a1 a2 a3) (spec_IsFilePlacement.f (k + 1) a0 a1 a2 a3) := by
 intro a0 a1 a2 a3 k
 unfold spec_IsFilePlacement.f
 repeat' first | (with_reducible first | exact spec_boGood.mono _ _ _ _ | exact spec_fiGood.mono _ _ _ _ _ | exact spec_l1All.mono _ _ _ _ | exact LeO.refl _ | exact LeO.none _ | refine LeO.ite ?_ ?_ | refine LeO.bind ?_ (fun _ => ?_)) | exact spec_boGood.mono _ _ _ _ | exact spec_fiGood.mono _ _ _ _ _ | exact spec_l1All.mono _ _ _ _ | exact LeO.none _ | refine LeO.ite ?_ ?_ | refine LeO.bind ?_ (fun _ => ?_)
theorem spec_IsFilePlacement.calls (k : Nat) (a0_0 : Int) (a0_1 : Int) (A0_2 : Option Addr) (c0_2 : Nat) (l0_2 : List Int) (A1 : Option Addr) (c1 : Nat) (l1 : List Int) (r1 : Bool) (r2 : Bool) (w : World) (hr0_2 : Kd.C (Kd.int .i64) w A0_2 l0_2.length l0_2) (hc0_2 : l0_2.length ≤ c0_2) (hr1 : Kd.C (Kd.int .i64) w A1 l1.length l1) (hc1 : l1.length ≤ c1) (h : spec_IsFilePlacement.f k a0_0 a0_1 l0_2 l1 = some (r1, r2)) :
  Calls Try.prog 118 #[.agg #[.int .i64 a0_0, .int .i64 a0_1, .slice A0_2 l0_2.length c0_2], .slice A1 l1.length c1] w fun e w' => e = .returned (.tuple #[.bool r1, .bool r2]) ∧ Below w.heap.size w w' := by
 have hu28 := Try.underlying28
 have HR0_2 := A_ hr0_2
 have HC0_2 := A_ hc0_2
 clear hr0_2 hc0_2
 have HR1 := A_ hr1
 have HC1 := A_ hc1
 clear hr1 hc1
 have HB := A_ (Below.refl w.heap.size w)
 have H : ((spec_boGood.f k a0_0 a0_1 l0_2).bind fun t1922 => (if t1922 = true then (if (l1.length : Int) = a0_1 then ((spec_l1All.f k l1 (-1) 999).bind fun t1923 => (if t1923 = true then ((spec_fiGood.f k a0_0 a0_1 l0_2 l1).bind fun t1924 => (some (t1924, true))) else (some (false, false)))) else (some (false, false))) else (some (false, false)))) = some (r1, r2) := h
 clear h
 replace H := Option.bind_eq_some_iff.mp H
 obtain ⟨t1922, A30, H⟩ := H
 replace H : (if t1922 = true then (if (l1.length : Int) = a0_1 then ((spec_l1All.f k l1 (-1) 999).bind fun t1923 => (if t1923 = true then ((spec_fiGood.f k a0_0 a0_1 l0_2 l1).bind fun t1924 => (some (t1924, true))) else (some (false, false)))) else (some (false, false))) else (some (false, false))) = some (r1, r2) := H
 have A3 := A_ A30
 clear A30
 by_cases c4 : t1922 = true
 ·
  subst c4
  have H1 : (if (l1.length : Int) = a0_1 then ((spec_l1All.f k l1 (-1) 999).bind fun t1923 => (if t1923 = true then ((spec_fiGood.f k a0_0 a0_1 l0_2 l1).bind fun t1924 => (some (t1924, true))) else (some (false, false)))) else (some (false, false))) = some (r1, r2) := by rw [if_pos rfl] at H; exact H
  clear H
  have H := H1
  clear H1
  by_cases c5 : (l1.length : Int) = a0_1
  ·
   rw [if_pos c5] at H
   have c5b0 : ((l1.length : Int) == a0_1) = true := beq_iff_eq.mpr c5
   have c5b1 : ((l1.length : Int) != a0_1) = false := bne_eq_false_iff_eq.mpr c5
   clear c5
   replace H := Option.bind_eq_some_iff.mp H
   obtain ⟨t1923, A60, H⟩ := H
   replace H : (if t1923 = true then ((spec_fiGood.f k a0_0 a0_1 l0_2 l1).bind fun t1924 => (some (t1924, true))) else (some (false, false))) = some (r1, r2) := H
   have A6 := A_ A60
   clear A60
   by_cases c7 : t1923 = true
   ·
    subst c7
    have H1 : ((spec_fiGood.f k a0_0 a0_1 l0_2 l1).bind fun t1924 => (some (t1924, true))) = some (r1, r2) := by rw [if_pos rfl] at H; exact H
    clear H
    have H := H1
    clear H1
    replace H := Option.bind_eq_some_iff.mp H
    obtain ⟨t1924, A80, H⟩ := H
    replace H : (some (t1924, true)) = some (r1, r2) := H
    have A8 := A_ A80
    clear A80
    simp only [Option.some.injEq, Prod.mk.injEq] at H
    obtain ⟨rfl, rfl⟩ := H
    go_enter Try.func118, Try.ntmps118
    go_wp2_with (first | (refine gd_ 2 ?_; (try (refine gate_guard (by rfl) ?_; dsimp only)); refine bx_ 2 #[.int .i64 a0_0, .int .i64 a0_1, .slice A0_2 l0_2.length c0_2] 28 ?_; intro gb1921 hg w9 hbox hb; have BK1921 := A_ (hbox); have GW1921 := A_ ((ts_ hg : w.heap.size ≤ gb1921)); have GE1921 := A_ ((ts_ hg : w.heap.size ≤ gb1921)); replace HB := A_ (below_step tb_ hb); clear hb hbox hg; obtain ⟨hcz10_0, hcz10_1, hcz10_2, hfz10_0, hfz10_1, hfz10_2⟩ := cf3_ BK1921.out) | (refine gc_ 144 ?_; refine goesT_ (some 7) Try.func144 #[.agg #[.int .i64 a0_0, .int .i64 a0_1, .slice A0_2 l0_2.length c0_2]] ?_; (with_reducible refine (spec_boGood.calls k a0_0 a0_1 _ _ l0_2 true _ ?side1 ?side2 A3.out).mono ?_); (case side1 => exact tc_ HR0_2.out); (case side2 => exact HC0_2.out); rintro e w11 ⟨rfl, hb⟩; refine ⟨_, rfl, ?_⟩; replace BK1921 := A_ (blk_below (g := gb1921) (o := .cells #[.int .i64 a0_0, .int .i64 a0_1, .slice A0_2 l0_2.length c0_2] 28 (0, 0)) (tk_ BK1921) hb); replace HB := A_ (below_step tb_ hb); (try clear hb); obtain ⟨hcz12_0, hcz12_1, hcz12_2, hfz12_0, hfz12_1, hfz12_2⟩ := cf3_ BK1921.out) | (go_at_call 168; (with_reducible refine (spec_l1All.calls k _ _ l1 (-1) 999 true _ ?side1 ?side2 A6.out).mono ?_); (case side1 => exact tc_ HR1.out); (case side2 => exact HC1.out); rintro e w' ⟨rfl, ⟨nd, rfl⟩⟩) | (refine gc_ 148 ?_; refine goesT_ (some 23) Try.func148 #[.agg #[.int .i64 a0_0, .int .i64 a0_1, .slice A0_2 l0_2.length c0_2], .slice A1 l1.length c1] ?_; (with_reducible refine (spec_fiGood.calls k a0_0 a0_1 _ _ l0_2 _ _ l1 t1924 _ ?side1 ?side2 ?side3 ?side4 A8.out).mono ?_); (case side1 => repeat (first | exact (Kd.C_below HR0_2.out tb_) | (with_reducible refine Kd.C_alloc ?_ _) | (with_reducible refine Kd.C_drewN ?_ _) | (with_reducible refine Kd.C_drew ?_))); (case side2 => exact HC0_2.out); (case side3 => repeat (first | exact (Kd.C_below HR1.out tb_) | (with_reducible refine Kd.C_alloc ?_ _) | (with_reducible refine Kd.C_drewN ?_ _) | (with_reducible refine Kd.C_drew ?_))); (case side4 => exact HC1.out); rintro e w13 ⟨rfl, hb⟩; refine ⟨_, rfl, ?_⟩; replace BK1921 := A_ (blk_below (g := gb1921) (o := .cells #[.int .i64 a0_0, .int .i64 a0_1, .slice A0_2 l0_2.length c0_2] 28 (0, 0)) (tk_ BK1921) hb); replace HB := A_ (below_step tb_ hb); (try clear hb)))
    go_ret2
    exact ⟨te_, tb_⟩
   ·
    replace c7 := Bool.eq_false_iff.mpr c7
    subst c7
    have H1 : (some (false, false)) = some (r1, r2) := by rw [if_neg (show ¬ (false = true) by decide)] at H; exact H
    clear H
    have H := H1
    clear H1
    simp only [Option.some.injEq, Prod.mk.injEq] at H
    obtain ⟨rfl, rfl⟩ := H
    go_enter Try.func118, Try.ntmps118
    go_wp2_with (first | (refine gd_ 2 ?_; (try (refine gate_guard (by rfl) ?_; dsimp only)); refine bx_ 2 #[.int .i64 a0_0, .int .i64 a0_1, .slice A0_2 l0_2.length c0_2] 28 ?_; intro gb1921 hg w14 hbox hb; have BK1921 := A_ (hbox); have GW1921 := A_ ((ts_ hg : w.heap.size ≤ gb1921)); have GE1921 := A_ ((ts_ hg : w.heap.size ≤ gb1921)); replace HB := A_ (below_step tb_ hb); clear hb hbox hg; obtain ⟨hcz15_0, hcz15_1, hcz15_2, hfz15_0, hfz15_1, hfz15_2⟩ := cf3_ BK1921.out) | (refine gc_ 144 ?_; refine goesT_ (some 7) Try.func144 #[.agg #[.int .i64 a0_0, .int .i64 a0_1, .slice A0_2 l0_2.length c0_2]] ?_; (with_reducible refine (spec_boGood.calls k a0_0 a0_1 _ _ l0_2 true _ ?side1 ?side2 A3.out).mono ?_); (case side1 => exact tc_ HR0_2.out); (case side2 => exact HC0_2.out); rintro e w16 ⟨rfl, hb⟩; refine ⟨_, rfl, ?_⟩; replace BK1921 := A_ (blk_below (g := gb1921) (o := .cells #[.int .i64 a0_0, .int .i64 a0_1, .slice A0_2 l0_2.length c0_2] 28 (0, 0)) (tk_ BK1921) hb); replace HB := A_ (below_step tb_ hb); (try clear hb); obtain ⟨hcz17_0, hcz17_1, hcz17_2, hfz17_0, hfz17_1, hfz17_2⟩ := cf3_ BK1921.out) | (go_at_call 168; (with_reducible refine (spec_l1All.calls k _ _ l1 (-1) 999 false _ ?side1 ?side2 A6.out).mono ?_); (case side1 => exact tc_ HR1.out); (case side2 => exact HC1.out); rintro e w' ⟨rfl, ⟨nd, rfl⟩⟩))
    go_ret2
    exact ⟨te_, tb_⟩
  ·
   rw [if_neg c5] at H
   have c5b0 : ((l1.length : Int) == a0_1) = false := beq_eq_false_iff_ne.mpr c5
   have c5b1 : ((l1.length : Int) != a0_1) = true := bne_iff_ne.mpr c5
   simp only [Option.some.injEq, Prod.mk.injEq] at H
   obtain ⟨rfl, rfl⟩ := H
   go_enter Try.func118, Try.ntmps118
   go_wp2_with (first | (refine gd_ 2 ?_; (try (refine gate_guard (by rfl) ?_; dsimp only)); refine bx_ 2 #[.int .i64 a0_0, .int .i64 a0_1, .slice A0_2 l0_2.length c0_2] 28 ?_; intro gb1921 hg w18 hbox hb; have BK1921 := A_ (hbox); have GW1921 := A_ ((ts_ hg : w.heap.size ≤ gb1921)); have GE1921 := A_ ((ts_ hg : w.heap.size ≤ gb1921)); replace HB := A_ (below_step tb_ hb); clear hb hbox hg; obtain ⟨hcz19_0, hcz19_1, hcz19_2, hfz19_0, hfz19_1, hfz19_2⟩ := cf3_ BK1921.out) | (refine gc_ 144 ?_; refine goesT_ (some 7) Try.func144 #[.agg #[.int .i64 a0_0, .int .i64 a0_1, .slice A0_2 l0_2.length c0_2]] ?_; (with_reducible refine (spec_boGood.calls k a0_0 a0_1 _ _ l0_2 true _ ?side1 ?side2 A3.out).mono ?_); (case side1 => exact tc_ HR0_2.out); (case side2 => exact HC0_2.out); rintro e w20 ⟨rfl, hb⟩; refine ⟨_, rfl, ?_⟩; replace BK1921 := A_ (blk_below (g := gb1921) (o := .cells #[.int .i64 a0_0, .int .i64 a0_1, .slice A0_2 l0_2.length c0_2] 28 (0, 0)) (tk_ BK1921) hb); replace HB := A_ (below_step tb_ hb); (try clear hb); obtain ⟨hcz21_0, hcz21_1, hcz21_2, hfz21_0, hfz21_1, hfz21_2⟩ := cf3_ BK1921.out))
   go_ret2
   exact ⟨te_, tb_⟩
 ·
  replace c4 := Bool.eq_false_iff.mpr c4
  subst c4
  have H1 : (some (false, false)) = some (r1, r2) := by rw [if_neg (show ¬ (false = true) by decide)] at H; exact H
  clear H
  have H := H1
  clear H1
  simp only [Option.some.injEq, Prod.mk.injEq] at H
  obtain ⟨rfl, rfl⟩ := H
  go_enter Try.func118, Try.ntmps118
  go_wp2_with (first | (refine gd_ 2 ?_; (try (refine gate_guard (by rfl) ?_; dsimp only)); refine bx_ 2 #[.int .i64 a0_0, .int .i64 a0_1, .slice A0_2 l0_2.length c0_2] 28 ?_; intro gb1921 hg w22 hbox hb; have BK1921 := A_ (hbox); have GW1921 := A_ ((ts_ hg : w.heap.size ≤ gb1921)); have GE1921 := A_ ((ts_ hg : w.heap.size ≤ gb1921)); replace HB := A_ (below_step tb_ hb); clear hb hbox hg; obtain ⟨hcz23_0, hcz23_1, hcz23_2, hfz23_0, hfz23_1, hfz23_2⟩ := cf3_ BK1921.out) | (refine gc_ 144 ?_; refine goesT_ (some 7) Try.func144 #[.agg #[.int .i64 a0_0, .int .i64 a0_1, .slice A0_2 l0_2.length c0_2]] ?_; (with_reducible refine (spec_boGood.calls k a0_0 a0_1 _ _ l0_2 false _ ?side1 ?side2 A3.out).mono ?_); (case side1 => exact tc_ HR0_2.out); (case side2 => exact HC0_2.out); rintro e w24 ⟨rfl, hb⟩; refine ⟨_, rfl, ?_⟩; replace BK1921 := A_ (blk_below (g := gb1921) (o := .cells #[.int .i64 a0_0, .int .i64 a0_1, .slice A0_2 l0_2.length c0_2] 28 (0, 0)) (tk_ BK1921) hb); replace HB := A_ (below_step tb_ hb); (try clear hb)))
  go_ret2
  exact ⟨te_, tb_⟩

end
end Go.Proofs.Ytnpacpdpgngdpaa.P
