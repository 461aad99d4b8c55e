-- printed functions (wip/slim.py)
import Derived.Test.YthlcaikplebpmaaPx0
import Derived.Test.YthlcaikplebpmaaLn
import Derived.Test.YthlcaikplebpmaaLo
import Derived.Test.YthlcaikplebpmaaQ611dc6a13e
namespace Go.Proofs.Ythlcaikplebpmaa.P
noncomputable section
set_option maxHeartbeats 8000000
set_option maxRecDepth 100000
open Go.RowKit Go.Proofs.YthlcaikplebpmaaW.PrintWords Go.Proofs.YthlcaikplebpmaaW.PrintLast Go.Proofs.YthlcaikplebpmaaW.PrintMore
attribute [local go_sem] max2_int min2_int max_two min_two max_three min_three max_four min_four   -- for this text's walks alone
set_option linter.unusedVariables false
set_option linter.unusedSimpArgs false

/-! ### impl_watching_1: function 189 -/
def impl_watching_1.f (l0 : List Int) (a1 : Int) (a2 : Int) : Option (Bool) := if 0 < (l0.length : Int) then (if (rd l0 0) = a1 then (some true) else (if 1 < (l0.length : Int) then (if (rd l0 1) = a2 then (some true) else ((impl_attacked.f (rd l0 0) (rd l0 1) a1 a2).bind fun t889 => (some t889))) else (none))) else (none)
def impl_watching_1.T1 : Bool × List (List Nat × List Nat) := (true, [([], []), ([0], [0]), ([1], [1]), ([], []), ([2, 3], [2, 3]), ([4], [4]), ([5], [5]), ([6, 5], [5, 6]), ([7, 5], [5, 7]), ([5], [5]), ([8, 9, 5], [5, 8, 9]), ([5, 10], [5, 10]), ([11, 5], [11]), ([12], [12]), ([13, 12], [12, 13]), ([14, 12], [12, 14]), ([12], [12]), ([16, 12], [12, 16]), ([17, 12], [12, 17]), ([12], [12]), ([12], [12]), ([15, 18, 19, 20, 12, 12], [12, 15, 18, 19, 20]), ([12, 21], [12, 21]), ([22, 21, 0, 1, 2, 3, 4, 5, 6, 7, 8, 9, 10, 11, 12, 13, 14, 15, 16, 17, 18, 19, 20, 21, 22], [22])])
def impl_watching_1.B1 : List Nat := [0, 1, 3, 0, 15, 31, 63, 127, 255, 63, 1023, 2047, 4095, 8191, 16383, 32767, 8191, 73727, 204799, 8191, 8191, 2097151, 4194303, 8388607]
theorem impl_watching_1.tab1 : rtab .any (opsOf Try.f189 1) = impl_watching_1.T1 := by kernel_rfl
theorem impl_watching_1.bits1 : waitsOk impl_watching_1.T1.2 impl_watching_1.B1 = true := by kernel_rfl
theorem impl_watching_1.calls (A0 : Option Addr) (c0 : Nat) (l0 : List Int) (g1 : Nat) (a1 : Int) (g2 : Nat) (a2 : Int) (r : Bool) (w : World) (hr0 : Kd.C (Kd.int .i64) w A0 l0.length l0) (hc0 : l0.length ≤ c0) (hq1 : w.cell? ⟨g1, 0, none⟩ = some (.int .i64 a1)) (hq2 : w.cell? ⟨g2, 0, none⟩ = some (.int .i64 a2)) (h : impl_watching_1.f l0 a1 a2 = some r) :
  Calls Try.prog 189 #[.slice A0 l0.length c0, .pointer (some ⟨g1, 0, none⟩), .pointer (some ⟨g2, 0, none⟩)] w fun e w' => e = .returned (.bool r) ∧ Below w.heap.size w w' := by
 have HR0 := A_ hr0
 have HC0 := A_ hc0
 clear hr0 hc0
 have HQ1 := A_ hq1
 clear hq1
 have HQ2 := A_ hq2
 clear hq2
 have HB := A_ (Below.refl w.heap.size w)
 have H : (if 0 < (l0.length : Int) then (if (rd l0 0) = a1 then (some true) else (if 1 < (l0.length : Int) then (if (rd l0 1) = a2 then (some true) else ((impl_attacked.f (rd l0 0) (rd l0 1) a1 a2).bind fun t889 => (some t889))) else (none))) else (none)) = some r := h
 clear h
 by_cases c4 : 0 < (l0.length : Int)
 ·
  rw [if_pos c4] at H
  have c4b0 := decide_eq_true c4
  have c4b1 : decide (0 < l0.length) = true := decide_eq_true (by omega)
  clear c4
  by_cases c5 : (rd l0 0) = a1
  ·
   rw [if_pos c5] at H
   have c5b0 : ((rd l0 0) == a1) = true := beq_iff_eq.mpr c5
   have c5b1 : ((rd l0 0) != a1) = false := bne_eq_false_iff_eq.mpr c5
   clear c5
   obtain rfl := Option.some.inj H
   go_enter Try.func189, Try.ntmps189
   try go_wp2
   have n0_ := A_ (below_drew1 HB.out)
   clear HB
   have HB := n0_
   clear n0_
   have p885 : 0 ≤ (0 : Int) := (by omega)
   have q885 : 0 < (l0.length : Int) := od_
   obtain ⟨ad885, e885, hx885_0⟩ := Kd.at_int HR0.out 0 p885 q885
   have hw885_0 := hx885_0
   (try rw [show ((0 : Int)).toNat = 0 from rfl] at hw885_0)
   (try rw [show 0 * 1 = 0 from rfl] at hw885_0)
   (try rw [Addr.add_zero'] at hw885_0)
   cases e885
   have qi885 : (0 < l0.length) = True := eq_true (by omega)
   (try rw [show ((0 : Int)).toNat = 0 from rfl] at hx885_0)
   (try rw [Addr.add_zero'] at hx885_0)
   (try replace hx885_0 := (HB.out.cell (World.block_lt_of_cell? w _ hx885_0)).trans hx885_0)
   replace p885 := eq_true p885
   replace q885 := eq_true q885
   refine start_ (n := 24) (S := fun w' => w'.cell? ad885 = some (.int .i64 (rd l0 0)) ∧ w'.cell? ⟨g1, 0, none⟩ = some (.int .i64 a1) ∧ w'.cell? ⟨g2, 0, none⟩ = some (.int .i64 a2)) (ds := []) (Fn.bl 24 0) (by kernel_rfl) rfl rfl ⟨((HB.out.cell (World.block_lt_of_cell? w _ hw885_0)).trans hw885_0), ((HB.out.cell (World.block_lt_of_cell? w _ HQ1.out)).trans HQ1.out), ((HB.out.cell (World.block_lt_of_cell? w _ HQ2.out)).trans HQ2.out)⟩ (fun hHeld => ?_); refine with_tabW impl_watching_1.tab1 impl_watching_1.bits1 (fun HT_ HW_ => ?_)
   generalize w.drew = w6 at HB hx885_0 hHeld ⊢
   refine pq_ 0 (some 5) (Fn.bl 24 1) HT_.out ?_
   refine pq_ 1 (some 6) (Fn.bl 24 3) HT_.out ?_
   refine tq_ 2 (some 7) (Fn.bl 24 7) HT_.out HW_.out hHeld ?_ (hy0 := by rintro w' ⟨s0, s1, s2⟩; go_simp; with_reducible rfl)
   refine tq_ 3 (some 8) (Fn.bl 24 15) HT_.out HW_.out hHeld ?_ (hy0 := by rintro w' ⟨s0, s1, s2⟩; go_simp; with_reducible rfl)
   refine pq_ 4 (some 9) (Fn.bl 24 31) HT_.out ?_
   refine pq_ 5 (some 10) (Fn.bl 24 63) HT_.out ?_
   refine pu_ 6 (some 11) (Fn.bl 24 127) HT_.out ?_
   refine pu_ 7 (some 12) (Fn.bl 24 255) HT_.out ?_
   refine pu_ 8 (some 13) (Fn.bl 24 511) HT_.out ?_
   refine pu_ 9 (some 14) (Fn.bl 24 1023) HT_.out ?_
   refine pu_ 10 (some 15) (Fn.bl 24 2047) HT_.out ?_
   refine pq_ 11 (some 16) (Fn.bl 24 4095) HT_.out ?_
   refine pq_ 12 (some 17) (Fn.bl 24 8191) HT_.out ?_
   refine pu_ 13 (some 18) (Fn.bl 24 16383) HT_.out ?_
   refine pu_ 14 (some 19) (Fn.bl 24 32767) HT_.out ?_
   refine pu_ 15 (some 20) (Fn.bl 24 65535) HT_.out ?_
   refine pu_ 16 (some 21) (Fn.bl 24 131071) HT_.out ?_
   refine pu_ 17 (some 22) (Fn.bl 24 262143) HT_.out ?_
   refine pu_ 18 (some 23) (Fn.bl 24 524287) HT_.out ?_
   refine pu_ 19 (some 24) (Fn.bl 24 1048575) HT_.out ?_
   refine pu_ 20 (some 25) (Fn.bl 24 2097151) HT_.out ?_
   refine pu_ 21 (some 26) (Fn.bl 24 4194303) HT_.out ?_
   refine pq_ 22 (some 27) (Fn.bl 24 8388607) HT_.out ?_
   refine pq_ 23 (some 4) (Fn.bl 24 16777215) HT_.out ?_
   refine done_ (done_of HT_.out (by kernel_rfl)) ?_
   try go_wp2
   go_ret
   exact ⟨te_, tb_⟩
  ·
   rw [if_neg c5] at H
   have c5b0 : ((rd l0 0) == a1) = false := beq_eq_false_iff_ne.mpr c5
   have c5b1 : ((rd l0 0) != a1) = true := bne_iff_ne.mpr c5
   by_cases c7 : 1 < (l0.length : Int)
   ·
    rw [if_pos c7] at H
    have c7b0 := decide_eq_true c7
    have c7b1 : decide (1 < l0.length) = true := decide_eq_true (by omega)
    clear c7
    by_cases c8 : (rd l0 1) = a2
    ·
     rw [if_pos c8] at H
     have c8b0 : ((rd l0 1) == a2) = true := beq_iff_eq.mpr c8
     have c8b1 : ((rd l0 1) != a2) = false := bne_eq_false_iff_eq.mpr c8
     clear c8
     obtain rfl := Option.some.inj H
     go_enter Try.func189, Try.ntmps189
     try go_wp2
     have n0_ := A_ (below_drew1 HB.out)
     clear HB
     have HB := n0_
     clear n0_
     have p885 : 0 ≤ (0 : Int) := (by omega)
     have q885 : 0 < (l0.length : Int) := od_
     obtain ⟨ad885, e885, hx885_0⟩ := Kd.at_int HR0.out 0 p885 q885
     have hw885_0 := hx885_0
     (try rw [show ((0 : Int)).toNat = 0 from rfl] at hw885_0)
     (try rw [show 0 * 1 = 0 from rfl] at hw885_0)
     (try rw [Addr.add_zero'] at hw885_0)
     cases e885
     have qi885 : (0 < l0.length) = True := eq_true (by omega)
     (try rw [show ((0 : Int)).toNat = 0 from rfl] at hx885_0)
     (try rw [Addr.add_zero'] at hx885_0)
     (try replace hx885_0 := (HB.out.cell (World.block_lt_of_cell? w _ hx885_0)).trans hx885_0)
     replace p885 := eq_true p885
     replace q885 := eq_true q885
     have p886 : 0 ≤ (1 : Int) := (by omega)
     have q886 : 1 < (l0.length : Int) := od_
     obtain ⟨ad886, e886, hx886_0⟩ := Kd.at_int HR0.out 1 p886 q886
     have hw886_0 := hx886_0
     (try rw [show ((1 : Int)).toNat = 1 from rfl] at hw886_0)
     (try rw [show 1 * 1 = 1 from rfl] at hw886_0)
     (try simp only [Nat.reduceMul, Nat.reduceEqDiff, Go.Addr.add, ↓reduceIte] at hw886_0)
     obtain rfl : ad885 = ad886 := (by injection e886)
     (try simp only [show (1 : Int).toNat = 1 from rfl, Nat.reduceMul, Nat.reduceEqDiff, Go.Addr.add, ↓reduceIte] at hx886_0)
     have qi886 : (1 < l0.length) = True := eq_true (by omega)
     (try rw [show ((1 : Int)).toNat = 1 from rfl] at hx886_0)
     (try replace hx886_0 := (HB.out.cell (World.block_lt_of_cell? w _ hx886_0)).trans hx886_0)
     replace p886 := eq_true p886
     replace q886 := eq_true q886
     refine start_ (n := 24) (S := fun w' => w'.cell? ad885 = some (.int .i64 (rd l0 0)) ∧ w'.cell? ⟨ad885.block, ad885.off + 1, none⟩ = some (.int .i64 (rd l0 1)) ∧ w'.cell? ⟨g1, 0, none⟩ = some (.int .i64 a1) ∧ w'.cell? ⟨g2, 0, none⟩ = some (.int .i64 a2)) (ds := []) (Fn.bl 24 0) (by kernel_rfl) rfl rfl ⟨((HB.out.cell (World.block_lt_of_cell? w _ hw885_0)).trans hw885_0), ((HB.out.cell (World.block_lt_of_cell? w _ hw886_0)).trans hw886_0), ((HB.out.cell (World.block_lt_of_cell? w _ HQ1.out)).trans HQ1.out), ((HB.out.cell (World.block_lt_of_cell? w _ HQ2.out)).trans HQ2.out)⟩ (fun hHeld => ?_); refine with_tabW impl_watching_1.tab1 impl_watching_1.bits1 (fun HT_ HW_ => ?_)
     generalize w.drew = w9 at HB hx885_0 hx886_0 hHeld ⊢
     refine pq_ 0 (some 5) (Fn.bl 24 1) HT_.out ?_
     refine pq_ 1 (some 6) (Fn.bl 24 3) HT_.out ?_
     refine tq_ 2 (some 7) (Fn.bl 24 7) HT_.out HW_.out hHeld ?_ (hy0 := by rintro w' ⟨s0, s1, s2, s3⟩; go_simp; with_reducible rfl)
     refine tq_ 3 (some 8) (Fn.bl 24 15) HT_.out HW_.out hHeld ?_ (hy0 := by rintro w' ⟨s0, s1, s2, s3⟩; go_simp; with_reducible rfl)
     refine pq_ 4 (some 9) (Fn.bl 24 31) HT_.out ?_
     refine pq_ 5 (some 10) (Fn.bl 24 63) HT_.out ?_
     refine pq_ 6 (some 11) (Fn.bl 24 127) HT_.out ?_
     refine pq_ 7 (some 12) (Fn.bl 24 255) HT_.out ?_
     refine tq_ 8 (some 13) (Fn.bl 24 511) HT_.out HW_.out hHeld ?_ (hy0 := by rintro w' ⟨s0, s1, s2, s3⟩; go_simp; with_reducible rfl)
     refine tq_ 9 (some 14) (Fn.bl 24 1023) HT_.out HW_.out hHeld ?_ (hy0 := by rintro w' ⟨s0, s1, s2, s3⟩; go_simp; with_reducible rfl)
     refine pq_ 10 (some 15) (Fn.bl 24 2047) HT_.out ?_
     refine pq_ 11 (some 16) (Fn.bl 24 4095) HT_.out ?_
     refine pq_ 12 (some 17) (Fn.bl 24 8191) HT_.out ?_
     refine pu_ 13 (some 18) (Fn.bl 24 16383) HT_.out ?_
     refine pu_ 14 (some 19) (Fn.bl 24 32767) HT_.out ?_
     refine pu_ 15 (some 20) (Fn.bl 24 65535) HT_.out ?_
     refine pu_ 16 (some 21) (Fn.bl 24 131071) HT_.out ?_
     refine pu_ 17 (some 22) (Fn.bl 24 262143) HT_.out ?_
     refine pu_ 18 (some 23) (Fn.bl 24 524287) HT_.out ?_
     refine pu_ 19 (some 24) (Fn.bl 24 1048575) HT_.out ?_
     refine pu_ 20 (some 25) (Fn.bl 24 2097151) HT_.out ?_
     refine pu_ 21 (some 26) (Fn.bl 24 4194303) HT_.out ?_
     refine pq_ 22 (some 27) (Fn.bl 24 8388607) HT_.out ?_
     refine pq_ 23 (some 4) (Fn.bl 24 16777215) HT_.out ?_
     refine done_ (done_of HT_.out (by kernel_rfl)) ?_
     try go_wp2
     go_ret
     exact ⟨te_, tb_⟩
    ·
     rw [if_neg c8] at H
     have c8b0 : ((rd l0 1) == a2) = false := beq_eq_false_iff_ne.mpr c8
     have c8b1 : ((rd l0 1) != a2) = true := bne_iff_ne.mpr c8
     replace H := Option.bind_eq_some_iff.mp H
     obtain ⟨t889, A100, H⟩ := H
     replace H : (some t889) = some r := H
     have A10 := A_ A100
     clear A100
     obtain rfl := Option.some.inj H
     go_enter Try.func189, Try.ntmps189
     try go_wp2
     have n0_ := A_ (below_drew1 HB.out)
     clear HB
     have HB := n0_
     clear n0_
     have p885 : 0 ≤ (0 : Int) := (by omega)
     have q885 : 0 < (l0.length : Int) := od_
     obtain ⟨ad885, e885, hx885_0⟩ := Kd.at_int HR0.out 0 p885 q885
     have hw885_0 := hx885_0
     (try rw [show ((0 : Int)).toNat = 0 from rfl] at hw885_0)
     (try rw [show 0 * 1 = 0 from rfl] at hw885_0)
     (try rw [Addr.add_zero'] at hw885_0)
     cases e885
     have qi885 : (0 < l0.length) = True := eq_true (by omega)
     (try rw [show ((0 : Int)).toNat = 0 from rfl] at hx885_0)
     (try rw [Addr.add_zero'] at hx885_0)
     (try replace hx885_0 := (HB.out.cell (World.block_lt_of_cell? w _ hx885_0)).trans hx885_0)
     replace p885 := eq_true p885
     replace q885 := eq_true q885
     have p886 : 0 ≤ (1 : Int) := (by omega)
     have q886 : 1 < (l0.length : Int) := od_
     obtain ⟨ad886, e886, hx886_0⟩ := Kd.at_int HR0.out 1 p886 q886
     have hw886_0 := hx886_0
     (try rw [show ((1 : Int)).toNat = 1 from rfl] at hw886_0)
     (try rw [show 1 * 1 = 1 from rfl] at hw886_0)
     (try simp only [Nat.reduceMul, Nat.reduceEqDiff, Go.Addr.add, ↓reduceIte] at hw886_0)
     obtain rfl : ad885 = ad886 := (by injection e886)
     (try simp only [show (1 : Int).toNat = 1 from rfl, Nat.reduceMul, Nat.reduceEqDiff, Go.Addr.add, ↓reduceIte] at hx886_0)
     have qi886 : (1 < l0.length) = True := eq_true (by omega)
     (try rw [show ((1 : Int)).toNat = 1 from rfl] at hx886_0)
     (try replace hx886_0 := (HB.out.cell (World.block_lt_of_cell? w _ hx886_0)).trans hx886_0)
     replace p886 := eq_true p886
     replace q886 := eq_true q886
     have p887 : 0 ≤ (0 : Int) := (by omega)
     have q887 : 0 < (l0.length : Int) := od_
     obtain ⟨ad887, e887, hx887_0⟩ := Kd.at_int HR0.out 0 p887 q887
     have hw887_0 := hx887_0
     (try rw [show ((0 : Int)).toNat = 0 from rfl] at hw887_0)
     (try rw [show 0 * 1 = 0 from rfl] at hw887_0)
     (try rw [Addr.add_zero'] at hw887_0)
     obtain rfl : ad885 = ad887 := (by injection e887)
     have qi887 : (0 < l0.length) = True := eq_true (by omega)
     (try rw [show ((0 : Int)).toNat = 0 from rfl] at hx887_0)
     (try rw [Addr.add_zero'] at hx887_0)
     (try replace hx887_0 := (HB.out.cell (World.block_lt_of_cell? w _ hx887_0)).trans hx887_0)
     replace p887 := eq_true p887
     replace q887 := eq_true q887
     have p888 : 0 ≤ (1 : Int) := (by omega)
     have q888 : 1 < (l0.length : Int) := od_
     obtain ⟨ad888, e888, hx888_0⟩ := Kd.at_int HR0.out 1 p888 q888
     have hw888_0 := hx888_0
     (try rw [show ((1 : Int)).toNat = 1 from rfl] at hw888_0)
     (try rw [show 1 * 1 = 1 from rfl] at hw888_0)
     (try simp only [Nat.reduceMul, Nat.reduceEqDiff, Go.Addr.add, ↓reduceIte] at hw888_0)
     obtain rfl : ad885 = ad888 := (by injection e888)
     (try simp only [show (1 : Int).toNat = 1 from rfl, Nat.reduceMul, Nat.reduceEqDiff, Go.Addr.add, ↓reduceIte] at hx888_0)
     have qi888 : (1 < l0.length) = True := eq_true (by omega)
     (try rw [show ((1 : Int)).toNat = 1 from rfl] at hx888_0)
     (try replace hx888_0 := (HB.out.cell (World.block_lt_of_cell? w _ hx888_0)).trans hx888_0)
     replace p888 := eq_true p888
     replace q888 := eq_true q888
     refine start_ (n := 24) (S := fun w' => w'.cell? ad885 = some (.int .i64 (rd l0 0)) ∧ w'.cell? ⟨ad885.block, ad885.off + 1, none⟩ = some (.int .i64 (rd l0 1)) ∧ w'.cell? ad885 = some (.int .i64 (rd l0 0)) ∧ w'.cell? ⟨ad885.block, ad885.off + 1, none⟩ = some (.int .i64 (rd l0 1)) ∧ w'.cell? ⟨g1, 0, none⟩ = some (.int .i64 a1) ∧ w'.cell? ⟨g2, 0, none⟩ = some (.int .i64 a2)) (ds := []) (Fn.bl 24 0) (by kernel_rfl) rfl rfl ⟨((HB.out.cell (World.block_lt_of_cell? w _ hw885_0)).trans hw885_0), ((HB.out.cell (World.block_lt_of_cell? w _ hw886_0)).trans hw886_0), ((HB.out.cell (World.block_lt_of_cell? w _ hw887_0)).trans hw887_0), ((HB.out.cell (World.block_lt_of_cell? w _ hw888_0)).trans hw888_0), ((HB.out.cell (World.block_lt_of_cell? w _ HQ1.out)).trans HQ1.out), ((HB.out.cell (World.block_lt_of_cell? w _ HQ2.out)).trans HQ2.out)⟩ (fun hHeld => ?_); refine with_tabW impl_watching_1.tab1 impl_watching_1.bits1 (fun HT_ HW_ => ?_)
     generalize w.drew = w11 at HB hx885_0 hx886_0 hx887_0 hx888_0 hHeld ⊢
     refine pq_ 0 (some 5) (Fn.bl 24 1) HT_.out ?_
     refine pq_ 1 (some 6) (Fn.bl 24 3) HT_.out ?_
     refine tq_ 2 (some 7) (Fn.bl 24 7) HT_.out HW_.out hHeld ?_ (hy0 := by rintro w' ⟨s0, s1, s2, s3, s4, s5⟩; go_simp; with_reducible rfl)
     refine tq_ 3 (some 8) (Fn.bl 24 15) HT_.out HW_.out hHeld ?_ (hy0 := by rintro w' ⟨s0, s1, s2, s3, s4, s5⟩; go_simp; with_reducible rfl)
     refine pq_ 4 (some 9) (Fn.bl 24 31) HT_.out ?_
     refine pq_ 5 (some 10) (Fn.bl 24 63) HT_.out ?_
     refine pq_ 6 (some 11) (Fn.bl 24 127) HT_.out ?_
     refine pq_ 7 (some 12) (Fn.bl 24 255) HT_.out ?_
     refine tq_ 8 (some 13) (Fn.bl 24 511) HT_.out HW_.out hHeld ?_ (hy0 := by rintro w' ⟨s0, s1, s2, s3, s4, s5⟩; go_simp; with_reducible rfl)
     refine tq_ 9 (some 14) (Fn.bl 24 1023) HT_.out HW_.out hHeld ?_ (hy0 := by rintro w' ⟨s0, s1, s2, s3, s4, s5⟩; go_simp; with_reducible rfl)
     refine pq_ 10 (some 15) (Fn.bl 24 2047) HT_.out ?_
     refine pq_ 11 (some 16) (Fn.bl 24 4095) HT_.out ?_
     refine pq_ 12 (some 17) (Fn.bl 24 8191) HT_.out ?_
     refine pq_ 13 (some 18) (Fn.bl 24 16383) HT_.out ?_
     refine pq_ 14 (some 19) (Fn.bl 24 32767) HT_.out ?_
     refine pq_ 16 (some 21) (Fn.bl 24 98303) HT_.out ?_
     refine pq_ 17 (some 22) (Fn.bl 24 229375) HT_.out ?_
     refine tq_ 15 (some 20) (Fn.bl 24 262143) HT_.out HW_.out hHeld ?_ (hy0 := by rintro w' ⟨s0, s1, s2, s3, s4, s5⟩; go_simp; with_reducible rfl)
     refine tq_ 18 (some 23) (Fn.bl 24 524287) HT_.out HW_.out hHeld ?_ (hy0 := by rintro w' ⟨s0, s1, s2, s3, s4, s5⟩; go_simp; with_reducible rfl)
     refine tq_ 19 (some 24) (Fn.bl 24 1048575) HT_.out HW_.out hHeld ?_ (hy0 := by rintro w' ⟨s0, s1, s2, s3, s4, s5⟩; go_simp; with_reducible rfl)
     refine tq_ 20 (some 25) (Fn.bl 24 2097151) HT_.out HW_.out hHeld ?_ (hy0 := by rintro w' ⟨s0, s1, s2, s3, s4, s5⟩; go_simp; with_reducible rfl)
     refine one_ (i := 21) (N := some 26) (Fn.bl 24 4194303) rfl rfl (one_of HT_.out (by kernel_rfl)) (by decide) (fun K hK => ?_)
     refine goes_ Try.func190 (by kernel_rfl) rfl #[.int .i64 (rd l0 0), .int .i64 (rd l0 1), .int .i64 a1, .int .i64 a2] (by rfl) rfl rfl ta_ ?_
     with_reducible refine (impl_attacked.calls (rd l0 0) (rd l0 1) a1 a2 t889 _ A10.out).mono ?_
     rintro e w12 ⟨rfl, hb⟩
     refine ⟨_, rfl, ?_⟩
     have n0_ := A_ (below_step tb_ hb)
     clear HB
     have HB := n0_
     clear n0_
     (try clear hb)
     (try clear hb2)
     (try clear hk)
     (try clear hi)
     refine hK.out _ _ ⟨((HB.out.cell (World.block_lt_of_cell? w _ hw885_0)).trans hw885_0), ((HB.out.cell (World.block_lt_of_cell? w _ hw886_0)).trans hw886_0), ((HB.out.cell (World.block_lt_of_cell? w _ hw887_0)).trans hw887_0), ((HB.out.cell (World.block_lt_of_cell? w _ hw888_0)).trans hw888_0), ((HB.out.cell (World.block_lt_of_cell? w _ HQ1.out)).trans HQ1.out), ((HB.out.cell (World.block_lt_of_cell? w _ HQ2.out)).trans HQ2.out)⟩ (fun hHeld => ?_)
     clear hK K
     refine norm_ (a' := ?_) ?_ ?_
     rotate_left
     ·
      show Act.put _ (some 26) _ = _
      simp only [Act.put, List.setIfInBounds_toArray, List.set_cons_zero, List.set_cons_succ, i64_w, i32_w]
      rfl
     refine pq_ 22 (some 27) (Fn.bl 24 8388607) HT_.out ?_
     refine pq_ 23 (some 4) (Fn.bl 24 16777215) HT_.out ?_
     refine done_ (done_of HT_.out (by kernel_rfl)) ?_
     try go_wp2
     go_ret
     exact ⟨te_, tb_⟩
   ·
    rw [if_neg c7] at H
    exact absurd H (by simp)
 ·
  rw [if_neg c4] at H
  exact absurd H (by simp)

def impl_watching_1.fc (a1 : Int) (a2 : Int) : FnT57 := fun l0 => impl_watching_1.f l0 a1 a2
theorem impl_watching_1.fcok (w : World) (g1 : Nat) (a1 : Int) (g2 : Nat) (a2 : Int) (hq1 : w.cell? ⟨g1, 0, none⟩ = some (.int .i64 a1)) (hq2 : w.cell? ⟨g2, 0, none⟩ = some (.int .i64 a2)) : FnOk57 w (.func (.func 189) #[] #[.pointer (some ⟨g1, 0, none⟩), .pointer (some ⟨g2, 0, none⟩)]) (impl_watching_1.fc a1 a2) := fun A0 c0 l0 r W hr0 hc0 h hB => ⟨189, _, _, rfl, Try.func189, by kernel_rfl, rfl, (impl_watching_1.calls A0 c0 l0 g1 a1 g2 a2 r W hr0 hc0 ((hB.cell (World.block_lt_of_cell? w _ hq1)).trans hq1) ((hB.cell (World.block_lt_of_cell? w _ hq2)).trans hq2) h).mono fun e w' ⟨he, hd⟩ => ⟨he, hd⟩⟩

/-! ### impl_watching: function 117 -/
mutual
def impl_watching.l0 : Nat → Int → List (List Int) → Int → Int → Option (Bool)
 | 0, _, _, _, _ => none
 | k + 1, x0, x1, x7, x8 => if x8 < x7 then (impl_watching.l1 k x0 x1 x7 x8 x0 0 x8) else (some true)
def impl_watching.l1 : Nat → Int → List (List Int) → Int → Int → Int → Int → Int → Option (Bool)
 | 0, _, _, _, _, _, _, _ => none
 | k + 1, x0, x1, x7, x8, x11, x12, x891000 => if x12 < x11 then ((slices_ContainsFunc_int_int_120.f k x1 (impl_watching_1.fc x891000 x12)).bind fun t892 => (if t892 = true then (impl_watching.l1 k x0 x1 x7 x8 x11 (wrap64 (x12 + 1)) x891000) else (some false))) else (impl_watching.l0 k x0 x1 x7 (wrap64 (x8 + 1)))
end
def impl_watching.f (k : Nat) (a0 : Int) (l1 : List (List Int)) : Option (Bool) := impl_watching.l0 k a0 l1 a0 0
theorem impl_watching.mono_l : ∀ k, (∀ y0 y1 y2 y3, LeO (impl_watching.l0 k y0 y1 y2 y3) (impl_watching.l0 (k + 1) y0 y1 y2 y3)) ∧ (∀ y0 y1 y2 y3 y4 y5 y6, LeO (impl_watching.l1 k y0 y1 y2 y3 y4 y5 y6) (impl_watching.l1 (k + 1) y0 y1 y2 y3 y4 y5 y6))
 | 0 => ⟨fun _ _ _ _ r h => by simp [impl_watching.l0] at h, fun _ _ _ _ _ _ _ r h => by simp [impl_watching.l1] at h⟩
 | k + 1 => by
  obtain ⟨ih0, ih1⟩ := impl_watching.mono_l k
  refine ⟨?_, ?_⟩
  ·
   intro y0 y1 y2 y3
   unfold impl_watching.l0
   repeat' first | (with_reducible first | exact ih0 _ _ _ _ | exact ih1 _ _ _ _ _ _ _ | exact slices_ContainsFunc_int_int_120.mono _ _ _ | exact LeO.refl _ | exact LeO.none _ | refine LeO.ite ?_ ?_ | refine LeO.bind ?_ (fun _ => ?_)) | exact ih0 _ _ _ _ | exact ih1 _ _ _ _ _ _ _ | exact slices_ContainsFunc_int_int_120.mono _ _ _ | exact LeO.none _ | refine LeO.ite ?_ ?_ | refine LeO.bind ?_ (fun _ => ?_)
  ·
   intro y0 y1 y2 y3 y4 y5 y6
   unfold impl_watching.l1
   repeat' first | (with_reducible first | exact ih0 _ _ _ _ | exact ih1 _ _ _ _ _ _ _ | exact slices_ContainsFunc_int_int_120.mono _ _ _ | exact LeO.refl _ | exact LeO.none _ | refine LeO.ite ?_ ?_ | refine LeO.bind ?_ (fun _ => ?_)) | exact ih0 _ _ _ _ | exact ih1 _ _ _ _ _ _ _ | exact slices_ContainsFunc_int_int_120.mono _ _ _ | exact LeO.none _ | refine LeO.ite ?_ ?_ | refine LeO.bind ?_ (fun _ => ?_)
theorem impl_watching.mono : ∀ a0 a1 k, LeO (impl_watching.f k a0 a1) (impl_watching.f (k + 1) a0 a1) := by
 intro a0 a1 k
 obtain ⟨ih0, ih1⟩ := impl_watching.mono_l k
 unfold impl_watching.f
 repeat' first | (with_reducible first | exact ih0 _ _ _ _ | exact ih1 _ _ _ _ _ _ _ | exact slices_ContainsFunc_int_int_120.mono _ _ _ | exact LeO.refl _ | exact LeO.none _ | refine LeO.ite ?_ ?_ | refine LeO.bind ?_ (fun _ => ?_)) | exact ih0 _ _ _ _ | exact ih1 _ _ _ _ _ _ _ | exact slices_ContainsFunc_int_int_120.mono _ _ _ | exact LeO.none _ | refine LeO.ite ?_ ?_ | refine LeO.bind ?_ (fun _ => ?_)
theorem impl_watching.calls (k : Nat) (a0 : Int) (A1 : Option Addr) (c1 : Nat) (l1 : List (List Int)) (r : Bool) (w : World) (hr1 : Kd.C (Kd.slice 3 (Kd.int .i64)) w A1 l1.length l1) (hc1 : l1.length ≤ c1) (h : impl_watching.f k a0 l1 = some r) :
  Calls Try.prog 117 #[.int .i64 a0, .slice A1 l1.length c1] w fun e w' => e = .returned (.bool r) ∧ Below w.heap.size w w' := by
 have HR1 := A_ hr1
 have HC1 := A_ hc1
 clear hr1 hc1
 have HB := A_ (Below.refl w.heap.size w)
 have H : (impl_watching.l0 k a0 l1 a0 0) = some r := h
 clear h
 have H' := A_ H
 clear H
 have hmf_ : ∀ (fn : Go.Fn) (first cap : Array Value) (w : World), (Instr.makeFunc fn first cap).run Try.prog w = .ok (.func fn first cap) w := fun _ _ _ _ => rfl
 go_enter Try.func117, Try.ntmps117
 go_wp2
 go_loopg [8] k (fun kq v8 w' => ∃ (x8_1 : Int), v8 = .int .i64 x8_1 ∧ Aside0 (impl_watching.l0 kq a0 l1 a0 x8_1 = some r) ∧ Aside0 (kq ≤ k) ∧ Aside0 (Below w.heap.size w w'))
 case atStart => exact ⟨(0), tf_, H', ⟨Nat.le_refl _⟩, ⟨tb_⟩⟩
 case round =>
  clear H'
  try clear c1
  try clear p2
  obtain ⟨x8_1, rfl, HA, HK1, HB⟩ := hrel
  cases gk with
  | zero => exact absurd HA.out (by simp [impl_watching.l0])
  | succ k1 =>
   have H := HA.out
   clear HA
   simp only [impl_watching.l0] at H
   by_cases c3 : x8_1 < a0
   ·
    rw [if_pos c3] at H
    have c3b0 := decide_eq_true c3
    clear c3
    have H' := A_ H
    clear H
    go_wp2_with (first | (refine gd_ 5 ?_; refine bx_ 5 #[.int .i64 0] 3 ?_; intro gb890 hg w4 hbox hb; have BK890 := A_ (hbox); have GW890 := A_ ((ts_ hg : w.heap.size ≤ gb890)); have GE890 := A_ ((ts_ hg : w.heap.size ≤ gb890)); replace HB := A_ (below_step tb_ hb); clear hb hbox hg; obtain ⟨hcz5_0, hfz5_0⟩ := cf1_ BK890.out))
    go_loopg [12] k1 (fun kq v12 w' => ∃ (x12_2 : Int), v12 = .int .i64 x12_2 ∧ Aside0 (impl_watching.l1 kq a0 l1 a0 x8_1 a0 x12_2 x8_1 = some r) ∧ Aside0 (kq ≤ k1) ∧ Aside0 (w'.heap[gb890]? = some (.cells #[.int .i64 x8_1] 3 (0, 0))) ∧ Aside0 (Below w.heap.size w w'))
    case atStart => exact ⟨(0), tf_, H', ⟨Nat.le_refl _⟩, ⟨by (with_reducible repeat (first | refine blk_drewN ?_ _ | refine blk_drew ?_ | refine blk_alloc ?_ _)); refine blk_put (cs := #[.int .i64 0]) ?_ 0 _ rfl; (with_reducible repeat (first | refine blk_drewN ?_ _ | refine blk_drew ?_ | refine blk_alloc ?_ _)); exact BK890.out⟩, ⟨tb_⟩⟩
    case round =>
     clear H'
     try clear c1
     try clear p2
     try clear c3
     try clear c3b0
     try clear hcz5_0
     try clear hfz5_0
     try clear p2
     obtain ⟨x12_2, rfl, HA, HK2, BK890, HB⟩ := hrel
     cases gk with
     | zero => exact absurd HA.out (by simp [impl_watching.l1])
     | succ k2 =>
      have H := HA.out
      clear HA
      simp only [impl_watching.l1] at H
      by_cases c6 : x12_2 < a0
      ·
       rw [if_pos c6] at H
       have c6b0 := decide_eq_true c6
       clear c6
       replace H := Option.bind_eq_some_iff.mp H
       obtain ⟨t892, A70, H⟩ := H
       replace H : (if t892 = true then (impl_watching.l1 k2 a0 l1 a0 x8_1 a0 (wrap64 (x12_2 + 1)) x8_1) else (some false)) = some r := H
       have A7 := A_ A70
       clear A70
       by_cases c8 : t892 = true
       ·
        subst c8
        have H1 : (impl_watching.l1 k2 a0 l1 a0 x8_1 a0 (wrap64 (x12_2 + 1)) x8_1) = some r := by rw [if_pos rfl] at H; exact H
        clear H
        have H := H1
        clear H1
        have H' := A_ H
        clear H
        go_wp2_with (first | (refine gd_ 6 ?_; refine bx_ 6 #[.int .i64 0] 3 ?_; intro gb891 hg w9 hbox hb; have BK891 := A_ (hbox); have GW891 := A_ ((ts_ hg : w.heap.size ≤ gb891)); have GE891 := A_ ((ts_ hg : w.heap.size ≤ gb891)); replace HB := A_ (below_step tb_ hb); have NB890_891 := A_ ((by rw [hg]; exact Nat.ne_of_lt (blk_lt (g := gb890) (o := .cells #[.int .i64 x8_1] 3 (0, 0)) (tk_ BK890)) : gb890 ≠ gb891)); have NB891_890 := A_ ((by rw [hg]; exact Nat.ne_of_gt (blk_lt (g := gb890) (o := .cells #[.int .i64 x8_1] 3 (0, 0)) (tk_ BK890)) : gb891 ≠ gb890)); replace BK890 := A_ (blk_below (g := gb890) (o := .cells #[.int .i64 x8_1] 3 (0, 0)) (tk_ BK890) hb); clear hb hbox hg; have hnb10 := NB891_890.out; have hnc10 := NB890_891.out; obtain ⟨hcz11_0, hfz11_0⟩ := cf1_ BK891.out) | (refine gc_ 120 ?_; refine goesT_ (some 17) Try.func120 #[.slice A1 l1.length c1, .func (.func 189) #[] #[.pointer (some ⟨gb890, 0, none⟩), .pointer (some ⟨gb891, 0, none⟩)]] ?_; (with_reducible refine (slices_ContainsFunc_int_int_120.calls k2 _ _ l1 (.func (.func 189) #[] #[.pointer (some ⟨gb890, 0, none⟩), .pointer (some ⟨gb891, 0, none⟩)]) (impl_watching_1.fc x8_1 x12_2) true _ ?side1 ?side2 ?side3 A7.out).mono ?_); (case side1 => exact Kd.C_below HR1.out tb_); (case side2 => exact HC1.out); (case side3 => exact impl_watching_1.fcok _ _ _  _ _  ((blk_cell (g := gb890) (cs := #[.int .i64 x8_1]) (t := 3) (tk_ BK890) 0).trans rfl) ((blk_cell (g := gb891) (cs := #[.int .i64 x12_2]) (t := 3) (by (with_reducible repeat (first | refine blk_drewN ?_ _ | refine blk_drew ?_ | refine blk_alloc ?_ _)); refine blk_put (cs := #[.int .i64 0]) ?_ 0 _ rfl; (with_reducible repeat (first | refine blk_drewN ?_ _ | refine blk_drew ?_ | refine blk_alloc ?_ _)); exact BK891.out) 0).trans rfl)); rintro e w12 ⟨rfl, hb⟩; refine ⟨_, rfl, ?_⟩; replace BK890 := A_ (blk_below (g := gb890) (o := .cells #[.int .i64 x8_1] 3 (0, 0)) (tk_ BK890) hb); replace BK891 := A_ (blk_below (g := gb891) (o := .cells #[.int .i64 x12_2] 3 (0, 0)) (by (with_reducible repeat (first | refine blk_drewN ?_ _ | refine blk_drew ?_ | refine blk_alloc ?_ _)); refine blk_put (cs := #[.int .i64 0]) ?_ 0 _ rfl; (with_reducible repeat (first | refine blk_drewN ?_ _ | refine blk_drew ?_ | refine blk_alloc ?_ _)); exact BK891.out) hb); replace HB := A_ (below_step tb_ hb); (try clear hb)))
        go_roundg k2
        case measure => have := HK1.out; have := HK2.out; omega
        case rel => exact ⟨(wrap64 (x12_2 + 1)), tf_, H', ⟨by have := HK1.out; have := HK2.out; omega⟩, ⟨tk_ BK890⟩, ⟨tb_⟩⟩
       ·
        replace c8 := Bool.eq_false_iff.mpr c8
        subst c8
        have H1 : (some false) = some r := by rw [if_neg (show ¬ (false = true) by decide)] at H; exact H
        clear H
        have H := H1
        clear H1
        obtain rfl := Option.some.inj H
        go_wp2_with (first | (refine gd_ 6 ?_; refine bx_ 6 #[.int .i64 0] 3 ?_; intro gb891 hg w13 hbox hb; have BK891 := A_ (hbox); have GW891 := A_ ((ts_ hg : w.heap.size ≤ gb891)); have GE891 := A_ ((ts_ hg : w.heap.size ≤ gb891)); replace HB := A_ (below_step tb_ hb); have NB890_891 := A_ ((by rw [hg]; exact Nat.ne_of_lt (blk_lt (g := gb890) (o := .cells #[.int .i64 x8_1] 3 (0, 0)) (tk_ BK890)) : gb890 ≠ gb891)); have NB891_890 := A_ ((by rw [hg]; exact Nat.ne_of_gt (blk_lt (g := gb890) (o := .cells #[.int .i64 x8_1] 3 (0, 0)) (tk_ BK890)) : gb891 ≠ gb890)); replace BK890 := A_ (blk_below (g := gb890) (o := .cells #[.int .i64 x8_1] 3 (0, 0)) (tk_ BK890) hb); clear hb hbox hg; have hnb14 := NB891_890.out; have hnc14 := NB890_891.out; obtain ⟨hcz15_0, hfz15_0⟩ := cf1_ BK891.out) | (refine gc_ 120 ?_; refine goesT_ (some 17) Try.func120 #[.slice A1 l1.length c1, .func (.func 189) #[] #[.pointer (some ⟨gb890, 0, none⟩), .pointer (some ⟨gb891, 0, none⟩)]] ?_; (with_reducible refine (slices_ContainsFunc_int_int_120.calls k2 _ _ l1 (.func (.func 189) #[] #[.pointer (some ⟨gb890, 0, none⟩), .pointer (some ⟨gb891, 0, none⟩)]) (impl_watching_1.fc x8_1 x12_2) false _ ?side1 ?side2 ?side3 A7.out).mono ?_); (case side1 => exact Kd.C_below HR1.out tb_); (case side2 => exact HC1.out); (case side3 => exact impl_watching_1.fcok _ _ _  _ _  ((blk_cell (g := gb890) (cs := #[.int .i64 x8_1]) (t := 3) (tk_ BK890) 0).trans rfl) ((blk_cell (g := gb891) (cs := #[.int .i64 x12_2]) (t := 3) (by (with_reducible repeat (first | refine blk_drewN ?_ _ | refine blk_drew ?_ | refine blk_alloc ?_ _)); refine blk_put (cs := #[.int .i64 0]) ?_ 0 _ rfl; (with_reducible repeat (first | refine blk_drewN ?_ _ | refine blk_drew ?_ | refine blk_alloc ?_ _)); exact BK891.out) 0).trans rfl)); rintro e w16 ⟨rfl, hb⟩; refine ⟨_, rfl, ?_⟩; replace BK890 := A_ (blk_below (g := gb890) (o := .cells #[.int .i64 x8_1] 3 (0, 0)) (tk_ BK890) hb); replace BK891 := A_ (blk_below (g := gb891) (o := .cells #[.int .i64 x12_2] 3 (0, 0)) (by (with_reducible repeat (first | refine blk_drewN ?_ _ | refine blk_drew ?_ | refine blk_alloc ?_ _)); refine blk_put (cs := #[.int .i64 0]) ?_ 0 _ rfl; (with_reducible repeat (first | refine blk_drewN ?_ _ | refine blk_drew ?_ | refine blk_alloc ?_ _)); exact BK891.out) hb); replace HB := A_ (below_step tb_ hb); (try clear hb)))
        go_ret
        exact ⟨te_, tb_⟩
      ·
       rw [if_neg c6] at H
       have c6b0 := decide_eq_false c6
       clear c6
       have H' := A_ H
       clear H
       go_wp2
       go_roundg k2
       case measure => have := HK1.out; have := HK2.out; omega
       case rel => exact ⟨(wrap64 (x8_1 + 1)), tf_, H', ⟨by have := HK1.out; have := HK2.out; omega⟩, ⟨tb_⟩⟩
   ·
    rw [if_neg c3] at H
    have c3b0 := decide_eq_false c3
    clear c3
    obtain rfl := Option.some.inj H
    go_wp2
    go_ret
    exact ⟨te_, tb_⟩

/-! ### impl_LeastWatch_1: function 116 -/
mutual
def impl_LeastWatch_1.f (n most : Int) (all : List (List Int)) : Nat → Int → List (List Int) → Option (Bool × List (List Int))
 | 0, _, _ => none
 | k + 1, fr, q => if (q.length : Int) = most then (impl_watching.f k n q).bind fun b => some (b, q) else impl_LeastWatch_1.l0 n most all k fr q
def impl_LeastWatch_1.l0 (n most : Int) (all : List (List Int)) : Nat → Int → List (List Int) → Option (Bool × List (List Int))
 | 0, _, _ => none
 | k + 1, i, q => if i < (all.length : Int) then (if 0 ≤ i then (if q.length < 5864062014805 then ((impl_LeastWatch_1.f n most all k (wrap64 (i + 1)) (q ++ [all.getD i.toNat []])).bind fun r => if r.1 = true then some r else if r.2 = q ++ [all.getD i.toNat []] then impl_LeastWatch_1.l0 n most all k (wrap64 (i + 1)) q else none) else none) else none) else some (false, q)
end
theorem impl_LeastWatch_1.mono_l (n most : Int) (all : List (List Int)) : ∀ k, (∀ fr q, LeO (impl_LeastWatch_1.f n most all k fr q) (impl_LeastWatch_1.f n most all (k + 1) fr q)) ∧ (∀ i q, LeO (impl_LeastWatch_1.l0 n most all k i q) (impl_LeastWatch_1.l0 n most all (k + 1) i q))
 | 0 => ⟨fun _ _ r h => by simp [impl_LeastWatch_1.f] at h, fun _ _ r h => by simp [impl_LeastWatch_1.l0] at h⟩
 | k + 1 => by
  obtain ⟨i0, i1⟩ := impl_LeastWatch_1.mono_l n most all k
  refine ⟨?_, ?_⟩
  ·
   intro fr q
   unfold impl_LeastWatch_1.f
   refine LeO.ite ?_ (i1 _ _)
   exact LeO.bind (impl_watching.mono _ _ _) (fun _ => LeO.refl _)
  ·
   intro i q
   unfold impl_LeastWatch_1.l0
   refine LeO.ite ?_ (LeO.refl _)
   refine LeO.ite ?_ (LeO.refl _)
   refine LeO.ite ?_ (LeO.refl _)
   refine LeO.bind (i0 _ _) (fun r => ?_)
   refine LeO.ite (LeO.refl _) ?_
   exact LeO.ite (i1 _ _) (LeO.refl _)
theorem impl_LeastWatch_1.mono (n most : Int) (all : List (List Int)) : ∀ fr q k, LeO (impl_LeastWatch_1.f n most all k fr q) (impl_LeastWatch_1.f n most all (k + 1) fr q) := fun fr q k => (impl_LeastWatch_1.mono_l n most all k).1 _ _
def impl_LeastWatch_1.self (gl gm gn ga gx : Nat) : Value := .func (.func 116) #[] #[.pointer (some ⟨gl, 0, none⟩), .pointer (some ⟨gm, 0, none⟩), .pointer (some ⟨gn, 0, none⟩), .pointer (some ⟨ga, 0, none⟩), .pointer (some ⟨gx, 0, none⟩)]
def impl_LeastWatch_1.vars (gl gm gn ga gx : Nat) (n most : Int) (Aa : Option Addr) (na ca : Nat) : List (Nat × Nat × Value) :=
 [(gm, 3, .int .i64 most), (gn, 3, .int .i64 n), (ga, 41, .slice Aa na ca), (gx, 47, impl_LeastWatch_1.self gl gm gn ga gx)]
abbrev impl_LeastWatch_1.St (bI : Nat) (w w0 : World) (U : Nat → Prop) (L : List (Nat × Nat × Value)) (gl : Nat) (W : World) (vl : Value) (q : List (List Int)) : Prop :=
 Cap.Lw 3 bI 22 41 w w0 U L gl W vl q
theorem impl_LeastWatch_1.enters (gl gm gn ga gx : Nat) {fr : Int} {w : World} {Q : Ending → World → Prop} (h : Calls Try.prog 116 #[.int .i64 fr, .pointer (some ⟨gl, 0, none⟩), .pointer (some ⟨gm, 0, none⟩), .pointer (some ⟨gn, 0, none⟩), .pointer (some ⟨ga, 0, none⟩), .pointer (some ⟨gx, 0, none⟩)] w Q) :
  Fn.CallsV Try.prog (impl_LeastWatch_1.self gl gm gn ga gx) #[.int .i64 fr] w Q := ⟨116, _, _, rfl, Try.func116, by kernel_rfl, rfl, by simpa using h⟩
theorem impl_LeastWatch_1.calls (w w0 : World) (U : Nat → Prop) (bI gl gm gn ga gx : Nat) (Aa : Option Addr) (ca : Nat) (all : List (List Int)) (n most : Int) (hA0 : (Cap.lent 3 bI U w0).C w0 Aa all.length all) (hU0 : ∀ ad, Aa = some ad → U ad.block) (hc0 : all.length ≤ ca) (k : Nat) :
  ∀ (W : World) (vl : Value) (q : List (List Int)) (fr : Int) (r : Bool × List (List Int)) (hS : impl_LeastWatch_1.St bI w w0 U (impl_LeastWatch_1.vars gl gm gn ga gx n most Aa all.length ca) gl W vl q) (h : impl_LeastWatch_1.f n most all k fr q = some r),
  Calls Try.prog 116 #[.int .i64 fr, .pointer (some ⟨gl, 0, none⟩), .pointer (some ⟨gm, 0, none⟩), .pointer (some ⟨gn, 0, none⟩), .pointer (some ⟨ga, 0, none⟩), .pointer (some ⟨gx, 0, none⟩)] W fun e W' => e = .returned (.bool r.1) ∧ ∃ vl', impl_LeastWatch_1.St bI w w0 U (impl_LeastWatch_1.vars gl gm gn ga gx n most Aa all.length ca) gl W' vl' r.2 := by
 have hA := A_ hA0
 have hU := A_ hU0
 have hC := A_ hc0
 clear hA0 hU0 hc0
 induction k using Nat.strongRecOn with
 | _ k ih =>
 intro W vl q fr r hS h
 cases k with
 | zero => exact absurd h (by simp [impl_LeastWatch_1.f])
 | succ k =>
 simp only [impl_LeastWatch_1.f] at h
 obtain ⟨Al, cl, rfl⟩ := Kd.R_slice hS.hl
 have hcl := hS.celll
 have hcm := hS.fix.cell (g := gm) (.head _)
 have hcn := hS.fix.cell (g := gn) (.tail _ (.head _))
 have hrw := A_ (hS.rows (e := 3))
 have HS := A_ hS
 clear hS
 obtain ⟨i0, hi0, _⟩ := info_parts info22
 replace hi0 := A_ hi0
 by_cases c3 : (q.length : Int) = most
 ·
  rw [if_pos c3] at h
  have c3b0 : ((q.length : Int) == most) = true := beq_iff_eq.mpr c3
  have c3b1 : ((q.length : Int) != most) = false := bne_eq_false_iff_eq.mpr c3
  clear c3
  obtain ⟨b, A1, H⟩ := Option.bind_eq_some_iff.mp h
  obtain rfl := Option.some.inj H
  clear h H
  replace A1 := A_ A1
  go_enter Try.func116, Try.ntmps116
  go_wp2_with (first | (refine gc_ 117 ?_; refine goesL_ (some 15) rfl rfl Try.func117 (by kernel_rfl) rfl #[.int .i64 n, .slice Al q.length cl] rfl (by (try simp only [List.map_toArray, List.map_cons, List.map_nil]); first | done | rfl) ?_; (with_reducible refine (impl_watching.calls k n Al cl q b _ hrw.out.2.2 hrw.out.2.1 A1.out).mono ?_); rintro e w5 ⟨rfl, hd⟩; refine ⟨_, rfl, ?_⟩; have HS5 := A_ (HS.out.below (by first | exact hd | exact hd.below)); clear hd))
  go_ret
  exact ⟨rfl, _, HS5.out⟩
 ·
  rw [if_neg c3] at h
  have c3b0 : ((q.length : Int) == most) = false := beq_eq_false_iff_ne.mpr c3
  have c3b1 : ((q.length : Int) != most) = true := bne_iff_ne.mpr c3
  clear c3
  replace h := A_ h
  go_enter Try.func116, Try.ntmps116
  go_wp2
  go_loopg [8] k (fun kq v8 W' => ∃ (i : Int) (vl2 : Value), v8 = .int .i64 i ∧ Aside0 (impl_LeastWatch_1.l0 n most all kq i q = some r) ∧ Aside0 (kq ≤ k) ∧ Aside0 (impl_LeastWatch_1.St bI w w0 U (impl_LeastWatch_1.vars gl gm gn ga gx n most Aa all.length ca) gl W' vl2 q))
  case atStart => exact ⟨fr, _, rfl, h, ⟨Nat.le_refl _⟩, HS⟩
  case round =>
   clear h HS hcl hcm hcn hrw
   obtain ⟨i, vl2, rfl, HA, HK1, HS⟩ := hrel
   obtain ⟨Al2, cl2, e2⟩ := Kd.R_slice HS.out.hl
   subst e2
   have hcl := HS.out.celll
   have hca := HS.out.fix.cell (g := ga) (.tail _ (.tail _ (.head _)))
   cases gk with
   | zero => exact absurd HA.out (by simp [impl_LeastWatch_1.l0])
   | succ k1 =>
    have H := HA.out
    clear HA
    simp only [impl_LeastWatch_1.l0] at H
    by_cases c4 : i < (all.length : Int)
    case neg =>
     rw [if_neg c4] at H
     have c4b := decide_eq_false c4
     clear c4
     obtain rfl := Option.some.inj H
     clear H
     go_wp2
     go_ret
     exact ⟨rfl, _, HS.out⟩
    rw [if_pos c4] at H
    have c4b := decide_eq_true c4
    by_cases c5 : 0 ≤ i
    case neg =>
     rw [if_neg c5] at H
     exact absurd H (by simp)
    rw [if_pos c5] at H
    by_cases c6 : q.length < 5864062014805
    case neg =>
     rw [if_neg c6] at H
     exact absurd H (by simp)
    rw [if_pos c6] at H
    have c6a := A_ c6
    clear c6
    obtain ⟨⟨b3, q3⟩, A3, H⟩ := Option.bind_eq_some_iff.mp H
    replace A3 := A_ A3
    have HSd := A_ (HS.out.below (below_drew (Below.refl _ _)))
    obtain ⟨ad, Ax, cx, rfl, hxe, hxl⟩ := HSd.out.elem hA.out hU.out i c5 c4
    have hxl := A_ hxl
    have p5 := eq_true c5
    have q5 := eq_true c4
    have hw : wrap64 (q.length : Int) = (q.length : Int) := by have := c6a.out; unfold wrap64; omega
    have HW := A_ hw
    clear hw
    go_wp2
    refine start_ (n := 8) (S := fun w' => w'.cell? ⟨gl, 0, none⟩ = some (.slice Al2 q.length cl2) ∧ w'.cell? ⟨ga, 0, none⟩ = some (.slice (some ad) all.length ca) ∧ w'.cell? (ad.add i.toNat) = some (.slice Ax (all.getD i.toNat []).length cx)) (ds := [7]) (Fn.bl 8 0) (by kernel_rfl) rfl rfl ⟨HSd.out.celll, HSd.out.fix.cell (.tail _ (.tail _ (.head _))), hxe⟩ (fun hHeld => ?_)
    clear HS hcl hca hxe
    generalize World.drew _ = w6 at HSd hHeld ⊢
    refine take_ (i := 0) (N := some 23) (v := ?_) (a' := ?_) (Fn.bl 8 1) rfl rfl (by kernel_rfl) (fun _ _ _ h => h) (Or.inl ⟨by rfl, ?_⟩) hHeld ?_ ?_
    rotate_left
    ·
     rintro w' ⟨s0, s1, s2⟩
     go_simp
     with_reducible rfl
    rotate_left
    ·
     simp only [Act.put, List.setIfInBounds_toArray, List.set_cons_zero, List.set_cons_succ, i64_w, i32_w]
     rfl
    refine take_ (i := 1) (N := some 24) (v := ?_) (a' := ?_) (Fn.bl 8 3) rfl rfl (by kernel_rfl) (fun _ _ _ h => h) (Or.inl ⟨by rfl, ?_⟩) hHeld ?_ ?_
    rotate_left
    ·
     rintro w' ⟨s0, s1, s2⟩
     go_simp
     with_reducible rfl
    rotate_left
    ·
     simp only [Act.put, List.setIfInBounds_toArray, List.set_cons_zero, List.set_cons_succ, i64_w, i32_w]
     rfl
    refine take_ (i := 2) (N := some 25) (v := ?_) (a' := ?_) (Fn.bl 8 7) rfl rfl (by kernel_rfl) (fun _ _ _ h => h) (Or.inl ⟨by rfl, ?_⟩) hHeld ?_ ?_
    rotate_left
    ·
     rintro w' ⟨s0, s1, s2⟩
     go_simp
     with_reducible rfl
    rotate_left
    ·
     simp only [Act.put, List.setIfInBounds_toArray, List.set_cons_zero, List.set_cons_succ, i64_w, i32_w]
     rfl
    refine take_ (i := 3) (N := some 26) (v := ?_) (a' := ?_) (Fn.bl 8 15) rfl rfl (by kernel_rfl) (fun _ _ _ h => h) (Or.inl ⟨by rfl, ?_⟩) hHeld ?_ ?_
    rotate_left
    ·
     rintro w' ⟨s0, s1, s2⟩
     go_simp
     with_reducible rfl
    rotate_left
    ·
     simp only [Act.put, List.setIfInBounds_toArray, List.set_cons_zero, List.set_cons_succ, i64_w, i32_w]
     rfl
    refine take_ (i := 4) (N := some 27) (v := ?_) (a' := ?_) (Fn.bl 8 31) rfl rfl (by kernel_rfl) (fun _ _ _ h => h) (Or.inl ⟨by rfl, ?_⟩) hHeld ?_ ?_
    rotate_left
    ·
     rintro w' ⟨s0, s1, s2⟩
     go_simp
     with_reducible rfl
    rotate_left
    ·
     simp only [Act.put, List.setIfInBounds_toArray, List.set_cons_zero, List.set_cons_succ, i64_w, i32_w]
     rfl
    have hxe : w6.cell? (ad.add i.toNat) = some (.slice Ax (all.getD i.toNat []).length cx) := hHeld.2.2
    have hub : U (ad.add i.toNat).block := by rw [Cap.add_block]; exact hU.out ad rfl
    refine one_ (i := 5) (N := some 28) (Fn.bl 8 63) rfl rfl (by kernel_rfl) (by decide) (fun K hK => ?_)
    refine value_ (v := .slice (some ⟨w6.heap.size, 0, none⟩) 1 1) (w1 := w6.alloc (.cells #[.slice Ax (all.getD i.toNat []).length cx] 22)) (by rfl) rfl ?_ ?_
    ·
     go_simp
    have HSe := A_ (HSd.out.below (below_alloc (Below.refl _ _) (.cells #[.slice Ax (all.getD i.toNat []).length cx] 22)))
    refine hK.out _ _ ⟨HSe.out.celll, HSe.out.fix.cell (.tail _ (.tail _ (.head _))), ((below_alloc (Below.refl _ w6) _).cell (World.block_lt_of_cell? w6 _ hxe)).trans hxe⟩ (fun hHeld => ?_)
    clear hK K
    refine norm_ (a' := ?_) ?_ ?_
    rotate_left
    ·
     show Act.put _ (some 28) _ = _
     simp only [Act.put, List.setIfInBounds_toArray, List.set_cons_zero, List.set_cons_succ, i64_w, i32_w]
     rfl
    refine one_ (i := 6) (N := some 29) (Fn.bl 8 127) rfl rfl (by kernel_rfl) (by decide) (fun K hK => ?_)
    refine Kd.R_append_step (Cap.lent 3 bI U w0) (w0 := w) w.heap.size (by rfl) (.tmp 23) (.tmp 28) 41 22 (.slice none 0 0) 24 rfl Try.underlying41 info22 rfl (show 0 < 1 by decide) (by omega) (.slice Al2 q.length cl2) q (all.getD i.toNat []) [.slice Ax (all.getD i.toNat []).length cx] (fun _ => True) (fun _ => False) rfl rfl hxl.out (fun _ hk => hk.elim) (fun _ _ => trivial) (Kd.R_mono HSd.out.hl (fun _ _ => trivial)) HSd.out.bel HSd.out.bel.size (by have := c6a.out; omega) ?_
    intro v1 w7 ho hb hg hat
    obtain ⟨A1, c1, e1⟩ := Kd.R_slice ho
    rw [List.length_append, List.length_singleton] at e1
    subst e1
    have HT := A_ (HSd.out.setl hb hg ho hat)
    have HH := HSd.out.held hg
    have hcl7 := HT.out.2.1
    have hfl7 := HT.out.2.2
    have HS7 := A_ HT.out.1
    have hxe7 := (HH.2 _ hub).trans hxe
    have hca7 := HH.1.cell (.tail _ (.tail _ (.head _)))
    clear ho hb hg hat HT HH HSe
    refine hK.out _ _ ⟨hcl7, hca7, hxe7⟩ (fun hHeld => ?_)
    clear hK K
    refine norm_ (a' := ?_) ?_ ?_
    rotate_left
    ·
     show Act.put _ (some 29) _ = _
     simp only [Act.put, List.setIfInBounds_toArray, List.set_cons_zero, List.set_cons_succ, i64_w, i32_w]
     rfl
    clear hxe7 hca7
    refine last_ (i := 7) (N := none) (Fn.bl 8 255) rfl rfl (by kernel_rfl) (by decide) (fun K hK => ?_)
    refine skip_ (w1 := ?_) (by rfl) rfl ?_ ?_
    rotate_left
    ·
     go_simp
     rfl
    refine hK.out _ _ ?_
    clear hK K
    refine done_ (by kernel_rfl) ?_
    have hx7 := HS7.out.fix.cell (g := gx) (.tail _ (.tail _ (.tail _ (.head _))))
    clear hcl7 hfl7 hxe hub p5 q5
    cases b3 with
    | true =>
     rw [if_pos rfl] at H
     obtain rfl := Option.some.inj H
     clear H
     go_wp2_with (first | ((with_reducible refine Fn.gate_value rfl ?_); refine Fn.goesVw_ (some 33) rfl (by first | rfl | (simp [Region.wanted, yielded]; done)) (impl_LeastWatch_1.self gl gm gn ga gx) rfl #[.int .i64 (wrap64 (i + 1))] rfl (by (try simp only [List.map_toArray, List.map_cons, List.map_nil]); first | done | rfl) ?_; refine impl_LeastWatch_1.enters gl gm gn ga gx ?_; (with_reducible refine (ih k1 (by have := HK1.out; omega) _ _ (q ++ [all.getD i.toNat []]) (wrap64 (i + 1)) (true, q3) HS7.out A3.out).mono ?_); rintro e w8 ⟨rfl, vl8, hs⟩; refine ⟨_, rfl, ?_⟩; have HS8 := A_ hs; clear hs))
     go_ret
     exact ⟨rfl, _, HS8.out⟩
    | false =>
     rw [if_neg (by simp)] at H
     by_cases c7 : q3 = q ++ [all.getD i.toNat []]
     case neg =>
      rw [if_neg c7] at H
      exact absurd H (by simp)
     rw [if_pos c7] at H
     subst c7
     replace H := A_ H
     go_wp2_with (first | ((with_reducible refine Fn.gate_value rfl ?_); refine Fn.goesVw_ (some 33) rfl (by first | rfl | (simp [Region.wanted, yielded]; done)) (impl_LeastWatch_1.self gl gm gn ga gx) rfl #[.int .i64 (wrap64 (i + 1))] rfl (by (try simp only [List.map_toArray, List.map_cons, List.map_nil]); first | done | rfl) ?_; refine impl_LeastWatch_1.enters gl gm gn ga gx ?_; (with_reducible refine (ih k1 (by have := HK1.out; omega) _ _ (q ++ [all.getD i.toNat []]) (wrap64 (i + 1)) (false, q ++ [all.getD i.toNat []]) HS7.out A3.out).mono ?_); rintro e w8 ⟨rfl, vl8, hs⟩; refine ⟨_, rfl, ?_⟩; obtain ⟨A8, c8, e8⟩ := Kd.R_slice hs.hl; rw [List.length_append, List.length_singleton] at e8; subst e8; have HS8 := A_ hs; clear hs; have hcl8 := HS8.out.celll; have hfl8 := HS8.out.freel; have hcut8 := cut_to (P := Try.prog) 41 22 .i64 Try.underlying41 hi0.out A8 (q.length + 1) c8 (wrap64 (q.length : Int)) (by rw [HW.out]; omega) (by rw [HW.out]; omega) (by have := (Kd.R_reads' HS8.out.hl).2.1; simpa using this); have HS9 := A_ (HS8.out.cutq (wrap64 (q.length : Int)).toNat (by rw [HW.out]; simp) q (by rw [HW.out, Int.toNat_natCast, List.take_left' rfl]))))
     go_roundg k1
     case measure => have := HK1.out; omega
     case rel => exact ⟨wrap64 (i + 1), _, tf_, H, ⟨by have := HK1.out; omega⟩, HS9⟩

/-! ### impl_FullBoard: function 114 -/
mutual
def impl_FullBoard.j0 : Nat → Int → Int → Bool → Option (Int × Int × List Int × Bool)
 | 0, _, _, _ => none
 | k + 1, x0, x1, x15 => if x15 = true then (some (0, 0, ([] : List Int), false)) else ((impl_newBoard.f x0 x1).bind fun bt896 => (impl_FullBoard.l0 k x1 (bt896.2.2.length : Int) 0 bt896.1 bt896.2.1 bt896.2.2))
def impl_FullBoard.l0 : Nat → Int → Int → Int → Int → Int → List Int → Option (Int × Int × List Int × Bool)
 | 0, _, _, _, _, _, _ => none
 | k + 1, x1, x22, x23, x902000, x902001, x902002 => if x23 < x22 then (if 0 ≤ x1 then (if 0 ≤ x23 then (if x23 < (x902002.length : Int) then (impl_FullBoard.l0 k x1 x22 (wrap64 (x23 + 1)) x902000 x902001 (x902002.set (x23 : Int).toNat (wrap64 ((shl .i64 1 x1) - 1)))) else (none)) else (none)) else (none)) else (some (x902000, x902001, x902002, true))
end
def impl_FullBoard.f (k : Nat) (a0 : Int) (a1 : Int) : Option (Int × Int × List Int × Bool) := (impl_isSide.f a0).bind fun t894 => (if t894 = true then ((impl_isSide.f a1).bind fun t895 => (impl_FullBoard.j0 k a0 a1 (!t895))) else (impl_FullBoard.j0 k a0 a1 true))
theorem impl_FullBoard.mono_l : ∀ k, (∀ y0 y1 y2, LeO (impl_FullBoard.j0 k y0 y1 y2) (impl_FullBoard.j0 (k + 1) y0 y1 y2)) ∧ (∀ y0 y1 y2 y3 y4 y5, LeO (impl_FullBoard.l0 k y0 y1 y2 y3 y4 y5) (impl_FullBoard.l0 (k + 1) y0 y1 y2 y3 y4 y5))
 | 0 => ⟨fun _ _ _ r h => by simp [impl_FullBoard.j0] at h, fun _ _ _ _ _ _ r h => by simp [impl_FullBoard.l0] at h⟩
 | k + 1 => by
  obtain ⟨ih0, ih1⟩ := impl_FullBoard.mono_l k
  refine ⟨?_, ?_⟩
  ·
   intro y0 y1 y2
   unfold impl_FullBoard.j0
   repeat' first | (with_reducible first | exact ih0 _ _ _ | exact ih1 _ _ _ _ _ _ | exact LeO.refl _ | exact LeO.none _ | refine LeO.ite ?_ ?_ | refine LeO.bind ?_ (fun _ => ?_)) | exact ih0 _ _ _ | exact ih1 _ _ _ _ _ _ | exact LeO.none _ | refine LeO.ite ?_ ?_ | refine LeO.bind ?_ (fun _ => ?_)
  ·
   intro y0 y1 y2 y3 y4 y5
   unfold impl_FullBoard.l0
   repeat' first | (with_reducible first | exact ih0 _ _ _ | exact ih1 _ _ _ _ _ _ | exact LeO.refl _ | exact LeO.none _ | refine LeO.ite ?_ ?_ | refine LeO.bind ?_ (fun _ => ?_)) | exact ih0 _ _ _ | exact ih1 _ _ _ _ _ _ | exact LeO.none _ | refine LeO.ite ?_ ?_ | refine LeO.bind ?_ (fun _ => ?_)
theorem impl_FullBoard.mono : ∀ a0 a1 k, LeO (impl_FullBoard.f k a0 a1) (impl_FullBoard.f (k + 1) a0 a1) := by
 intro a0 a1 k
 obtain ⟨ih0, ih1⟩ := impl_FullBoard.mono_l k
 unfold impl_FullBoard.f
 repeat' first | (with_reducible first | exact ih0 _ _ _ | exact ih1 _ _ _ _ _ _ | exact LeO.refl _ | exact LeO.none _ | refine LeO.ite ?_ ?_ | refine LeO.bind ?_ (fun _ => ?_)) | exact ih0 _ _ _ | exact ih1 _ _ _ _ _ _ | exact LeO.none _ | refine LeO.ite ?_ ?_ | refine LeO.bind ?_ (fun _ => ?_)
def impl_FullBoard.T7 : Bool × List (List Nat × List Nat) := (true, [([], []), ([0], [0]), ([], []), ([], []), ([3], [3]), ([4], [4]), ([1, 2, 0, 1, 2, 3, 4, 5], [1, 2]), ([6, 5, 0, 1, 2, 3, 4, 5], [5, 6])])
def impl_FullBoard.B7 : List Nat := [0, 1, 0, 0, 8, 24, 63, 127]
theorem impl_FullBoard.tab7 : rtab .any (opsOf Try.f114 7) = impl_FullBoard.T7 := by kernel_rfl
theorem impl_FullBoard.bits7 : waitsOk impl_FullBoard.T7.2 impl_FullBoard.B7 = true := by kernel_rfl
theorem impl_FullBoard.calls (k : Nat) (a0 : Int) (a1 : Int) (r1 : Int) (r2 : Int) (r3 : List Int) (r4 : Bool) (w : World) (h : impl_FullBoard.f k a0 a1 = some (r1, r2, r3, r4)) :
  Calls Try.prog 114 #[.int .i64 a0, .int .i64 a1] w fun e w' => ∃ v2_ : Value, e = .returned (.tuple #[.agg #[.int .i64 r1, .int .i64 r2, v2_], .bool r4]) ∧ Kd.R (Kd.int .i64) 3 w' w.heap.size (fun _ => True) v2_ r3 ∧ Below w.heap.size w w' := by
 have hu26 := Try.underlying26
 have HB := A_ (Below.refl w.heap.size w)
 have H : ((impl_isSide.f a0).bind fun t894 => (if t894 = true then ((impl_isSide.f a1).bind fun t895 => (impl_FullBoard.j0 k a0 a1 (!t895))) else (impl_FullBoard.j0 k a0 a1 true))) = some (r1, r2, r3, r4) := h
 clear h
 have HC3 := A_ H
 clear H
 go_enter Try.func114, Try.ntmps114
 go_upto_region 1 with (first | (refine gd_ 4 ?_; refine bx_ 4 #[.int .i64 0, .int .i64 0, .slice none 0 0] 26 ?_; intro gb893 hg w4 hbox hb; have BK893 := A_ (hbox); have GW893 := A_ ((ts_ hg : w.heap.size ≤ gb893)); have GE893 := A_ ((ts_ hg : w.heap.size ≤ gb893)); replace HB := A_ (below_step tb_ hb); clear hb hbox hg))
 (try simp only [Act.put, List.setIfInBounds_toArray, List.set_cons_zero, List.set_cons_succ])
 go_cut [15] (fun v15 wc => ∃ (kq : Nat) (x15_2 : Bool), v15 = .bool x15_2 ∧ Aside0 (impl_FullBoard.j0 kq a0 a1 x15_2 = some (r1, r2, r3, r4)) ∧ Aside0 (kq ≤ k) ∧ Aside0 (wc.heap[gb893]? = some (.cells #[.int .i64 0, .int .i64 0, (.slice none 0 0)] 26 (0, 0))) ∧ Aside0 (Below w.heap.size w wc))
 case first =>
  have H := HC3.out
  clear HC3
  replace H := Option.bind_eq_some_iff.mp H
  obtain ⟨t894, A50, H⟩ := H
  replace H : (if t894 = true then ((impl_isSide.f a1).bind fun t895 => (impl_FullBoard.j0 k a0 a1 (!t895))) else (impl_FullBoard.j0 k a0 a1 true)) = some (r1, r2, r3, r4) := H
  have A5 := A_ A50
  clear A50
  by_cases c6 : t894 = true
  ·
   subst c6
   have H1 : ((impl_isSide.f a1).bind fun t895 => (impl_FullBoard.j0 k a0 a1 (!t895))) = some (r1, r2, r3, r4) := by rw [if_pos rfl] at H; exact H
   clear H
   have H := H1
   clear H1
   replace H := Option.bind_eq_some_iff.mp H
   obtain ⟨t895, A70, H⟩ := H
   replace H : (impl_FullBoard.j0 k a0 a1 (!t895)) = some (r1, r2, r3, r4) := H
   have A7 := A_ A70
   clear A70
   have H' := A_ H
   clear H
   go_wp2_with (first | (refine gc_ 172 ?_; refine goesT_ (some 9) Try.func172 #[.int .i64 a0] ?_; (with_reducible refine (impl_isSide.calls a0 true _ A5.out).mono ?_); rintro e w' ⟨rfl, ⟨nd, rfl⟩⟩; refine ⟨_, rfl, ?_⟩) | (go_at_call 172; (with_reducible refine (impl_isSide.calls a1 t895 _ A7.out).mono ?_); rintro e w' ⟨rfl, ⟨nd, rfl⟩⟩))
   go_meet
   case rel => exact ⟨_, (!t895), tf_, H', ⟨by first | omega | exact Nat.le_refl _⟩, ⟨tk_ BK893⟩, ⟨tb_⟩⟩
  ·
   replace c6 := Bool.eq_false_iff.mpr c6
   subst c6
   have H1 : (impl_FullBoard.j0 k a0 a1 true) = some (r1, r2, r3, r4) := by rw [if_neg (show ¬ (false = true) by decide)] at H; exact H
   clear H
   have H := H1
   clear H1
   have H' := A_ H
   clear H
   go_wp2_with (first | (refine gc_ 172 ?_; refine goesT_ (some 9) Try.func172 #[.int .i64 a0] ?_; (with_reducible refine (impl_isSide.calls a0 false _ A5.out).mono ?_); rintro e w' ⟨rfl, ⟨nd, rfl⟩⟩; refine ⟨_, rfl, ?_⟩))
   go_meet
   case rel => exact ⟨_, (true), tf_, H', ⟨by first | omega | exact Nat.le_refl _⟩, ⟨tk_ BK893⟩, ⟨tb_⟩⟩
 case rest =>
  clear HC3
  try clear c1
  try clear p2
  try clear c6
  obtain ⟨kq, x15_2, rfl, HA, HJ2, BK893, HB⟩ := hcut
  cases kq with
  | zero => exact absurd HA.out (by simp [impl_FullBoard.j0])
  | succ kj2 =>
   have H := HA.out
   clear HA
   simp only [impl_FullBoard.j0] at H
   by_cases c8 : x15_2 = true
   ·
    subst c8
    have H1 : (some (0, 0, ([] : List Int), false)) = some (r1, r2, r3, r4) := by rw [if_pos rfl] at H; exact H
    clear H
    have H := H1
    clear H1
    simp only [Option.some.injEq, Prod.mk.injEq] at H
    obtain ⟨rfl, rfl, rfl, rfl⟩ := H
    obtain ⟨hcz9_0, hcz9_1, hcz9_2, hfz9_0, hfz9_1, hfz9_2⟩ := cf3_ BK893.out
    go_wp2
    refine bodyPost_ret (results_ct rfl _ _ gb893 26 #[.int .i64 0, .int .i64 0, .slice none 0 0] (0, 0) _ rfl (by (with_reducible repeat (first | refine blk_drewN ?_ _ | refine blk_drew ?_ | refine blk_alloc ?_ _)); refine blk_put (cs := #[.int .i64 0, .int .i64 0, .slice none 0 0]) ?_ 2 _ rfl; (with_reducible repeat (first | refine blk_drewN ?_ _ | refine blk_drew ?_ | refine blk_alloc ?_ _)); refine blk_put (cs := #[.int .i64 0, .int .i64 0, .slice none 0 0]) ?_ 1 _ rfl; (with_reducible repeat (first | refine blk_drewN ?_ _ | refine blk_drew ?_ | refine blk_alloc ?_ _)); refine blk_put (cs := #[.int .i64 0, .int .i64 0, .slice none 0 0]) ?_ 0 _ rfl; (with_reducible repeat (first | refine blk_drewN ?_ _ | refine blk_drew ?_ | refine blk_alloc ?_ _)); exact BK893.out) Try.underlying26 rfl (by kernel_rfl)) rfl ?_
    exact ⟨_, te_, by first | exact Kd.R_nil _ _ _ _ _ | exact Kd.N_nil _ _ _ _ _ | exact Kd.V_nil _ _ _ _ _ | exact Kd.Q_nil _ _ _ _ _ | exact Kd.S_nil _ _ _ _ _, tb_⟩
   ·
    replace c8 := Bool.eq_false_iff.mpr c8
    subst c8
    have H1 : ((impl_newBoard.f a0 a1).bind fun bt896 => (impl_FullBoard.l0 kj2 a1 (bt896.2.2.length : Int) 0 bt896.1 bt896.2.1 bt896.2.2)) = some (r1, r2, r3, r4) := by rw [if_neg (show ¬ (false = true) by decide)] at H; exact H
    clear H
    have H := H1
    clear H1
    replace H := Option.bind_eq_some_iff.mp H
    obtain ⟨⟨t896, t897, t898⟩, A100, H⟩ := H
    replace H : (impl_FullBoard.l0 kj2 a1 (t898.length : Int) 0 t896 t897 t898) = some (r1, r2, r3, r4) := H
    have A10 := A_ A100
    clear A100
    have H' := A_ H
    clear H
    go_wp2_with (first | (refine gc_ 174 ?_; refine goesT_ (some 19) Try.func174 #[.int .i64 a0, .int .i64 a1] ?_; (with_reducible refine (impl_newBoard.calls a0 a1 t896 t897 t898 _ A10.out).mono ?_); rintro e w11 ⟨v899, rfl, ho0, hb⟩; refine ⟨_, rfl, ?_⟩; have HO900 := A_ (Kd.R_lower ho0 (below_size tb_)); replace BK893 := A_ (blk_below (g := gb893) (o := .cells #[.int .i64 0, .int .i64 0, .slice none 0 0] 26 (0, 0)) (tk_ BK893) hb); replace HB := A_ (below_step tb_ hb); (try clear hb); (try clear ho0)) | (refine gd_ 6 ?_; refine bx_ 6 #[.int .i64 0, .int .i64 0, .slice none 0 0] 26 ?_; intro gb901 hg w12 hbox hb; replace HO900 := A_ (Kd.R_below (tr_x HO900.out) hb); have BK901 := A_ (hbox); have GW901 := A_ ((ts_ hg : w.heap.size ≤ gb901)); have GE901 := A_ ((ts_ hg : w.heap.size ≤ gb901)); replace HB := A_ (below_step tb_ hb); have NB893_901 := A_ ((by rw [hg]; exact Nat.ne_of_lt (blk_lt (g := gb893) (o := .cells #[.int .i64 0, .int .i64 0, .slice none 0 0] 26 (0, 0)) (tk_ BK893)) : gb893 ≠ gb901)); have NB901_893 := A_ ((by rw [hg]; exact Nat.ne_of_gt (blk_lt (g := gb893) (o := .cells #[.int .i64 0, .int .i64 0, .slice none 0 0] 26 (0, 0)) (tk_ BK893)) : gb901 ≠ gb893)); replace BK893 := A_ (blk_below (g := gb893) (o := .cells #[.int .i64 0, .int .i64 0, .slice none 0 0] 26 (0, 0)) (tk_ BK893) hb); clear hb hbox hg; have hnb13 := NB901_893.out; have hnc13 := NB893_901.out; obtain ⟨hcz14_0, hcz14_1, hcz14_2, hfz14_0, hfz14_1, hfz14_2⟩ := cf3_ BK901.out; obtain ⟨Ao15, co15, eo15⟩ := Kd.R_slice HO900.out; subst eo15))
    go_loopg [23] kj2 (fun kq v23 w' => ∃ (x23_2 : Int) (x902002_2 : List Int) (u902002 : Value), v23 = .int .i64 x23_2 ∧ Aside0 (impl_FullBoard.l0 kq a1 (t898.length : Int) x23_2 t896 t897 x902002_2 = some (r1, r2, r3, r4)) ∧ Aside0 (kq ≤ kj2) ∧ Aside0 (Kd.R (Kd.int .i64) 3 w' w.heap.size (fun _ => True) u902002 x902002_2) ∧ Aside0 (w'.heap[gb893]? = some (.cells #[.int .i64 0, .int .i64 0, (.slice none 0 0)] 26 (0, 0))) ∧ Aside0 (w'.heap[gb901]? = some (.cells #[.int .i64 t896, .int .i64 t897, u902002] 26 (0, 0))) ∧ Aside0 (Below w.heap.size w w'))
    case atStart => exact ⟨(0), (t898), (.slice Ao15 t898.length co15), tf_, H', ⟨Nat.le_refl _⟩, ⟨by (with_reducible repeat (first | apply Kd.R_alloc | apply Kd.R_drewN | apply Kd.R_drew)); exact Kd.R_mono (Kd.R_far (p := ⟨gb901, 2, none⟩) (Kd.R_far (p := ⟨gb901, 1, none⟩) (Kd.R_far (p := ⟨gb901, 0, none⟩) (Kd.R_types HO900.out BK901.out (by decide)) (fun _ hk => hk.2) (.int .i64 t896)) (fun _ hk => hk.2) (.int .i64 t897)) (fun _ hk => hk.2) (.slice Ao15 t898.length co15)) (fun _ hk => trivial)⟩, ⟨tk_ BK893⟩, ⟨by (with_reducible repeat (first | refine blk_drewN ?_ _ | refine blk_drew ?_ | refine blk_alloc ?_ _)); refine blk_put (cs := #[.int .i64 t896, .int .i64 t897, .slice none 0 0]) ?_ 2 _ rfl; (with_reducible repeat (first | refine blk_drewN ?_ _ | refine blk_drew ?_ | refine blk_alloc ?_ _)); refine blk_put (cs := #[.int .i64 t896, .int .i64 0, .slice none 0 0]) ?_ 1 _ rfl; (with_reducible repeat (first | refine blk_drewN ?_ _ | refine blk_drew ?_ | refine blk_alloc ?_ _)); refine blk_put (cs := #[.int .i64 0, .int .i64 0, .slice none 0 0]) ?_ 0 _ rfl; (with_reducible repeat (first | refine blk_drewN ?_ _ | refine blk_drew ?_ | refine blk_alloc ?_ _)); exact BK901.out⟩, ⟨tb_⟩⟩
    case round =>
     clear H'
     try clear c1
     try clear p2
     try clear c6
     try clear c8
     try clear c11
     try clear c13
     try clear hcz14_0
     try clear hcz14_1
     try clear hcz14_2
     try clear hcz9_0
     try clear hcz9_1
     try clear hcz9_2
     try clear hfz14_0
     try clear hfz14_1
     try clear hfz14_2
     try clear hfz9_0
     try clear hfz9_1
     try clear hfz9_2
     try clear p2
     obtain ⟨x23_2, x902002_2, u902002, rfl, HA, HK2, HO_902002, BK893, BK901, HB⟩ := hrel
     cases gk with
     | zero => exact absurd HA.out (by simp [impl_FullBoard.l0])
     | succ k2 =>
      have H := HA.out
      clear HA
      simp only [impl_FullBoard.l0] at H
      by_cases c16 : x23_2 < (t898.length : Int)
      ·
       rw [if_pos c16] at H
       have c16b0 := decide_eq_true c16
       clear c16
       by_cases c17 : 0 ≤ a1
       ·
        rw [if_pos c17] at H
        have c17b0 := eq_true c17
        have c17b1 := decide_eq_true c17
        clear c17
        obtain ⟨ji18, hji18⟩ : ∃ j_ : Int, (shl .i64 1 a1) = j_ := ⟨_, rfl⟩
        replace H : (if 0 ≤ x23_2 then (if x23_2 < (x902002_2.length : Int) then (impl_FullBoard.l0 k2 a1 (t898.length : Int) (wrap64 (x23_2 + 1)) t896 t897 (x902002_2.set (x23_2 : Int).toNat (wrap64 ((ji18) - 1)))) else (none)) else (none)) = some (r1, r2, r3, r4) := by first | (rw [hji18] at H; exact H) | (simp only [hji18] at H ⊢; exact H)
        have hji18_ : (IntKind.i64.wrap (1 * 2 ^ min a1.toNat 64)) = ji18 := hji18
        have hji18z : a1 ≤ 64 → (IntKind.i64.wrap (1 * 2 ^ a1.toNat)) = ji18 := shl_small hji18
        have hji18u : (IntKind.i64.wrap (2 ^ min a1.toNat 64)) = ji18 := by have h_ := hji18_; rw [Int.one_mul] at h_; exact h_
        have hji18v : a1 ≤ 64 → (IntKind.i64.wrap (2 ^ a1.toNat)) = ji18 := fun hle_ => by have h_ := hji18z hle_; rw [Int.one_mul] at h_; exact h_
        have hji18y : (wrap64 (1 * 2 ^ min a1.toNat 64)) = ji18 := (i64_w _).symm.trans hji18_
        have hji18x : a1 ≤ 64 → (wrap64 (1 * 2 ^ a1.toNat)) = ji18 := fun h_ => (i64_w _).symm.trans (hji18z h_)
        by_cases c19 : 0 ≤ x23_2
        ·
         rw [if_pos c19] at H
         have c19b0 := decide_eq_true c19
         clear c19
         by_cases c20 : x23_2 < (x902002_2.length : Int)
         ·
          rw [if_pos c20] at H
          have c20b0 := decide_eq_true c20
          clear c20
          obtain ⟨y902, hy902⟩ : ∃ y_ : List Int, y_ = (x902002_2.set (x23_2 : Int).toNat (wrap64 ((ji18) - 1))) := ⟨_, rfl⟩
          replace H : (impl_FullBoard.l0 k2 a1 (t898.length : Int) (wrap64 (x23_2 + 1)) t896 t897 y902) = some (r1, r2, r3, r4) := ty_ hy902 H
          have Ny902 := A_ hy902
          clear hy902
          have H' := A_ H
          clear H
          try go_wp2
          have n0_ := A_ (Kd.R_drew HO_902002.out)
          have n1_ := A_ (blk_drew BK893.out)
          have n2_ := A_ (blk_drew BK901.out)
          have n3_ := A_ (below_drew1 HB.out)
          clear HO_902002
          clear BK893
          clear BK901
          clear HB
          have HO_902002 := n0_
          have BK893 := n1_
          have BK901 := n2_
          have HB := n3_
          clear n0_ n1_ n2_ n3_
          have p21 : 0 ≤ (x23_2 : Int) := od_
          have q21 : (x23_2 : Int) < ((x902002_2.length : Int) : Int) := od_
          obtain ⟨go21, co21, eo21, gb21, gl21, cl21, HG21⟩ := Kd.R_form HO_902002.out (by omega)
          (first | cases eo21 | (injection eo21 with ea_ en_ ec_; (first | subst ea_ | (injection ea_ with ea_; subst ea_)); subst ec_; clear en_))
          have GB21 := A_ gb21
          have GG21 := A_ HG21
          clear gb21 gl21 HG21
          obtain ⟨hx21_0, hf21_0⟩ := Kd.R_celln 0 HO_902002.out (x23_2 : Int) p21 q21
          replace p21 := eq_true p21
          replace q21 := eq_true q21
          have HP23 := Kd.R_putn HO_902002.out (x23_2 : Int) (wrap64 ((ji18) - 1))
          rw [← Ny902.out] at HP23
          have HQ23 := A_ HP23
          clear HP23
          refine start_ (n := 8) (S := fun w' => w'.cell? ⟨gb901, 0, none⟩ = some (.int .i64 t896) ∧ w'.cell? ⟨gb901, 1, none⟩ = some (.int .i64 t897) ∧ w'.cell? ⟨gb901, 2, none⟩ = some (.slice (some ⟨go21, 0, none⟩) x902002_2.length co21)) (ds := [7]) (Fn.bl 8 0) (by kernel_rfl) rfl rfl ⟨(blk_cell BK901.out 0).trans rfl, (blk_cell BK901.out 1).trans rfl, (blk_cell BK901.out 2).trans rfl⟩ (fun hHeld => ?_); refine with_tabW impl_FullBoard.tab7 impl_FullBoard.bits7 (fun HT_ HW_ => ?_)
          generalize wr.drew = w22 at HO_902002 BK893 BK901 HB GG21 HQ23 hf21_0 hx21_0 hHeld ⊢
          refine pq_ 0 (some 26) (Fn.bl 8 1) HT_.out ?_
          refine pq_ 2 (some 28) (Fn.bl 8 5) HT_.out ?_
          refine pq_ 3 (some 29) (Fn.bl 8 13) HT_.out ?_
          refine pq_ 4 (some 30) (Fn.bl 8 29) HT_.out ?_
          refine pq_ 5 (some 31) (Fn.bl 8 61) HT_.out ?_
          refine tq_ 1 (some 27) (Fn.bl 8 63) HT_.out HW_.out hHeld ?_ (hy0 := by rintro w' ⟨s0, s1, s2⟩; go_simp; with_reducible rfl)
          refine pq_ 6 (some 32) (Fn.bl 8 127) HT_.out ?_
          refine last_ (i := 7) (N := none) (Fn.bl 8 255) rfl rfl (one_of HT_.out (by kernel_rfl)) (by decide) (fun K hK => ?_)
          refine skip_ (w1 := ?_) (by rfl) rfl ?_ ?_
          rotate_left
          ·
           go_simp
           rfl
          refine hK.out _ _ ?_
          clear hK K
          refine done_ (done_of HT_.out (by kernel_rfl)) ?_
          try go_wp2
          go_roundg k2
          case measure => have := HJ2.out; have := HK2.out; omega
          case rel => exact ⟨(wrap64 (x23_2 + 1)), (y902), (.slice (some ⟨go21, 0, none⟩) x902002_2.length co21), tf_, H', ⟨by have := HJ2.out; have := HK2.out; omega⟩, ⟨tr_x HQ23.out⟩, ⟨by (with_reducible repeat (first | refine blk_drewN ?_ _ | refine blk_drew ?_ | refine blk_alloc ?_ _)); refine blk_far ?_ (by have h_ := Kd.R_ne HO_902002.out BK893.out (by decide); intro e_; exact h_ (by rw [e_]; rfl)) _; (with_reducible repeat (first | refine blk_drewN ?_ _ | refine blk_drew ?_ | refine blk_alloc ?_ _)); exact BK893.out⟩, ⟨by (with_reducible repeat (first | refine blk_drewN ?_ _ | refine blk_drew ?_ | refine blk_alloc ?_ _)); refine blk_far ?_ (by have h_ := Kd.R_ne HO_902002.out BK901.out (by decide); intro e_; exact h_ (by rw [e_]; rfl)) _; (with_reducible repeat (first | refine blk_drewN ?_ _ | refine blk_drew ?_ | refine blk_alloc ?_ _)); exact BK901.out⟩, ⟨tb_⟩⟩
         ·
          rw [if_neg c20] at H
          exact absurd H (by simp)
        ·
         rw [if_neg c19] at H
         exact absurd H (by simp)
       ·
        rw [if_neg c17] at H
        exact absurd H (by simp)
      ·
       rw [if_neg c16] at H
       have c16b0 := decide_eq_false c16
       clear c16
       simp only [Option.some.injEq, Prod.mk.injEq] at H
       obtain ⟨rfl, rfl, rfl, rfl⟩ := H
       have hnb24 := NB901_893.out
       have hnc24 := NB893_901.out
       obtain ⟨hcz25_0, hcz25_1, hcz25_2, hfz25_0, hfz25_1, hfz25_2⟩ := cf3_ BK901.out
       obtain ⟨hcz26_0, hcz26_1, hcz26_2, hfz26_0, hfz26_1, hfz26_2⟩ := cf3_ BK893.out
       obtain ⟨Ao27, co27, eo27⟩ := Kd.R_slice HO_902002.out
       subst eo27
       go_wp2
       refine bodyPost_ret (results_ct rfl _ _ gb893 26 #[.int .i64 t896, .int .i64 t897, .slice Ao27 x902002_2.length co27] (0, 0) _ rfl (by (with_reducible repeat (first | refine blk_drewN ?_ _ | refine blk_drew ?_ | refine blk_alloc ?_ _)); refine blk_put (cs := #[.int .i64 t896, .int .i64 t897, .slice none 0 0]) ?_ 2 _ rfl; (with_reducible repeat (first | refine blk_drewN ?_ _ | refine blk_drew ?_ | refine blk_alloc ?_ _)); refine blk_put (cs := #[.int .i64 t896, .int .i64 0, .slice none 0 0]) ?_ 1 _ rfl; (with_reducible repeat (first | refine blk_drewN ?_ _ | refine blk_drew ?_ | refine blk_alloc ?_ _)); refine blk_put (cs := #[.int .i64 0, .int .i64 0, .slice none 0 0]) ?_ 0 _ rfl; (with_reducible repeat (first | refine blk_drewN ?_ _ | refine blk_drew ?_ | refine blk_alloc ?_ _)); exact BK893.out) Try.underlying26 rfl (by kernel_rfl)) rfl ?_
       exact ⟨_, te_, by (with_reducible repeat (first | apply Kd.R_alloc | apply Kd.R_drewN | apply Kd.R_drew)); exact Kd.R_mono (Kd.R_far (p := ⟨gb893, 2, none⟩) (Kd.R_far (p := ⟨gb893, 1, none⟩) (Kd.R_far (p := ⟨gb893, 0, none⟩) (Kd.R_types HO_902002.out BK893.out (by decide)) (fun _ hk => hk.2) (.int .i64 t896)) (fun _ hk => hk.2) (.int .i64 t897)) (fun _ hk => hk.2) (.slice Ao27 x902002_2.length co27)) (fun _ hk => trivial), tb_⟩

/-! ### impl_LeastWatch: function 41 -/
def impl_LeastWatch.l0 (n : Int) (all : List (List Int)) : Nat → Int → Option (List (List Int) × Bool)
 | 0, _ => none
 | k + 1, kk => (impl_LeastWatch_1.f n kk all k 0 []).bind fun r => if r.1 = true then (if r.2.Nodup ∧ ∀ x ∈ r.2, x.length = 2 then some (r.2, true) else none) else impl_LeastWatch.l0 n all k (wrap64 (kk + 1))
def impl_LeastWatch.f (k : Nat) (n : Int) : Option (List (List Int) × Bool) := (impl_within.f n 1 6).bind fun t => if t = true then ((impl_FullBoard.f k n n).bind fun b => (impl_CellsOf.f k b.1 b.2.1 b.2.2.1).bind fun c => impl_LeastWatch.l0 n c.1 k 1) else some ([], false)
theorem impl_LeastWatch.mono_l (n : Int) (all : List (List Int)) : ∀ k, (∀ kk, LeO (impl_LeastWatch.l0 n all k kk) (impl_LeastWatch.l0 n all (k + 1) kk))
 | 0 => fun _ r h => by simp [impl_LeastWatch.l0] at h
 | k + 1 => by
  intro kk
  unfold impl_LeastWatch.l0
  refine LeO.bind (impl_LeastWatch_1.mono _ _ _ _ _ _) (fun r => ?_)
  exact LeO.ite (LeO.refl _) (impl_LeastWatch.mono_l n all k _)
theorem impl_LeastWatch.mono : ∀ n k, LeO (impl_LeastWatch.f k n) (impl_LeastWatch.f (k + 1) n) := by
 intro n k
 unfold impl_LeastWatch.f
 refine LeO.bind (LeO.refl _) (fun t => ?_)
 refine LeO.ite ?_ (LeO.refl _)
 refine LeO.bind (impl_FullBoard.mono _ _ _) (fun b => ?_)
 exact LeO.bind (impl_CellsOf.mono _ _ _ _) (fun c => impl_LeastWatch.mono_l _ _ _ _)
theorem impl_LeastWatch.calls (k : Nat) (a0 : Int) (r1 : List (List Int)) (r2 : Bool) (w : World) (h : impl_LeastWatch.f k a0 = some (r1, r2)) :
  Calls Try.prog 41 #[.int .i64 a0] w fun e w' => ∃ v0_ : Value, e = .returned (.tuple #[v0_, .bool r2]) ∧ Kd.S (Kd.slice 3 (Kd.int .i64)) 22 w' w.heap.size (fun _ => True) v0_ r1 ∧ Below w.heap.size w w' := by
 unfold impl_LeastWatch.f at h
 have hu26 := Try.underlying26
 have hmf_ : ∀ (fn : Go.Fn) (first cap : Array Value) (w : World), (Instr.makeFunc fn first cap).run Try.prog w = .ok (.func fn first cap) w := fun _ _ _ _ => rfl
 have hb1 := A_ (below_alloc (Below.refl w.heap.size w) (.cells #[.int .i64 a0] 3))
 have fN := A_ (blk_new w (.cells #[.int .i64 a0] 3))
 obtain ⟨t, A2, H⟩ := Option.bind_eq_some_iff.mp h
 have A2' := A_ A2
 clear A2 h
 cases t with
 | false =>
  simp only [Bool.false_eq_true, if_false, Option.some.injEq, Prod.mk.injEq] at H
  obtain ⟨rfl, rfl⟩ := H
  go_enter Try.func41, Try.ntmps41
  go_wp2_with (first | (go_at_call 113; (with_reducible refine (impl_within.calls a0 1 6 false _ A2'.out).mono ?_); rintro e w2 ⟨rfl, hb⟩; have HB2 := A_ (below_then hb1.out hb1.out.size hb.below); clear hb))
  go_ret2
  exact ⟨_, rfl, Kd.S_nil _ _ _ _ _, HB2.out⟩
 | true =>
  simp only [if_true] at H
  obtain ⟨⟨b1, b2, bl, b4⟩, A3, H⟩ := Option.bind_eq_some_iff.mp H
  obtain ⟨⟨all, ok⟩, A4, H⟩ := Option.bind_eq_some_iff.mp H
  replace A3 := A_ A3
  replace A4 := A_ A4
  replace H := A_ H
  go_enter Try.func41, Try.ntmps41
  go_wp2_with (first | (go_at_call 113; (with_reducible refine (impl_within.calls a0 1 6 true _ A2'.out).mono ?_); rintro e w2 ⟨rfl, hb⟩; have HB2 := A_ (below_then hb1.out hb1.out.size hb.below); have fN2 := A_ (blk_below fN.out hb.below); have hn2 := cell_of_one fN2.out; clear hb) | (refine gc_ 114 ?_; refine goesL_ (some 17) rfl rfl Try.func114 (by kernel_rfl) rfl #[.int .i64 a0, .int .i64 a0] rfl (by (try simp only [List.map_toArray, List.map_cons, List.map_nil]); first | done | rfl) ?_; (with_reducible refine (impl_FullBoard.calls k a0 a0 b1 b2 bl b4 _ A3.out).mono ?_); rintro e w3 ⟨vb, rfl, hR, hb⟩; refine ⟨_, rfl, ?_⟩; obtain ⟨Ab, cb, eb⟩ := Kd.R_slice hR; subst eb; have HR3 := A_ (Kd.R_reads' hR); have HB3 := A_ (below_then HB2.out HB2.out.size hb); have fN3 := A_ (blk_below fN2.out hb); clear hR hb) | (refine gc_ 115 ?_; refine goesL_ (some 22) rfl rfl Try.func115 (by kernel_rfl) rfl #[.agg #[.int .i64 b1, .int .i64 b2, .slice Ab bl.length cb]] rfl (by (try simp only [List.map_toArray, List.map_cons, List.map_nil]); first | done | rfl) ?_; (with_reducible refine (impl_CellsOf.calls k b1 b2 Ab cb bl all ok _ ?q1 HR3.out.2.1 A4.out).mono ?_); (case q1 => exact Kd.C_below HR3.out.2.2 (below_alloc (Below.refl _ _) _)); rintro e w5 ⟨va, rfl, hs, hb⟩; refine ⟨_, rfl, ?_⟩; obtain ⟨Aa, ca, ea⟩ := Kd.S_slice hs; subst ea; have HS5 := A_ (Kd.S_R hs); have HB5 := A_ hb; clear hs hb))
  have e4 : (w3.alloc (.cells #[.int .i64 b1, .int .i64 b2, .slice Ab bl.length cb] 26)).heap.size = w3.heap.size + 1 := by simp
  have hb4 : Below w3.heap.size w3 (w3.alloc (.cells #[.int .i64 b1, .int .i64 b2, .slice Ab bl.length cb] 26)) := below_alloc (Below.refl _ _) _
  have hs5 := HB5.out.size
  rw [e4] at hs5
  have hw3 := HB3.out.size
  have hnl : w.heap.size < w3.heap.size := blk_lt fN3.out
  have hb5 : Below w.heap.size w w5 := below_then HB3.out hw3 (below_then hb4 hb4.size HB5.out)
  have fN5 := blk_below (blk_alloc fN3.out (.cells #[.int .i64 b1, .int .i64 b2, .slice Ab bl.length cb] 26)) HB5.out
  have hle0 := HS5.out
  rw [e4] at hle0
  have HLE := A_ (Cap.lent_of hle0)
  have HCA := A_ (Kd.R_reads' hle0).2.1
  have hbI : Aside0 (w.heap.size ≤ w3.heap.size + 1) := ⟨by omega⟩
  clear hle0
  go_loopg [8] k (fun kq v8 W' => ∃ (gm : Nat) (kk : Int), v8 = .pointer (some ⟨gm, 0, none⟩) ∧ Aside0 (impl_LeastWatch.l0 a0 all kq kk = some (r1, r2)) ∧ Aside0 (kq ≤ k) ∧ Aside0 (Below w.heap.size w W' ∧ (∀ j, (fun j => w3.heap.size + 1 ≤ j ∧ j < w5.heap.size) j → W'.heap[j]? = w5.heap[j]?) ∧ (∀ j, (fun j => w3.heap.size + 1 ≤ j ∧ j < w5.heap.size) j → j < W'.heap.size) ∧ Cap.Fix W' [(gm, 3, .int .i64 kk), (w.heap.size, 3, .int .i64 a0), (w5.heap.size, 41, .slice Aa all.length ca)] ∧ (∀ j, (fun j => w3.heap.size + 1 ≤ j ∧ j < w5.heap.size) j → Cap.Off [(gm, 3, .int .i64 kk), (w.heap.size, 3, .int .i64 a0), (w5.heap.size, 41, .slice Aa all.length ca)] j)))
  case atStart =>
   have b6 : Below w5.heap.size w5 ((w5.alloc (.cells #[.slice Aa all.length ca] 41)).alloc (.cells #[.int .i64 1] 3)) := below_alloc (below_alloc (Below.refl _ _) _) _
   refine ⟨w5.heap.size + 1, 1, rfl, H, ⟨Nat.le_refl _⟩, ⟨below_then hb5 hb5.size b6, fun j hj => b6.block j hj.2, fun j hj => Nat.lt_of_lt_of_le hj.2 b6.size, ?_, ?_⟩⟩
   ·
    intro x hx
    simp only [List.mem_cons, List.not_mem_nil, or_false] at hx
    rcases hx with rfl | rfl | rfl
    ·
     have := blk_new (w5.alloc (.cells #[.slice Aa all.length ca] 41)) (.cells #[.int .i64 1] 3)
     simpa using this
    ·
     exact blk_below fN5 b6
    ·
     exact blk_alloc (blk_new _ _) _
   ·
    intro j hj x hx
    simp only [List.mem_cons, List.not_mem_nil, or_false] at hx
    rcases hx with rfl | rfl | rfl <;> (have := hj.1; have := hj.2; dsimp only at *; omega)
  case round =>
   clear H hb5 fN5 hs5 e4 hb4 hw3
   obtain ⟨gm, kk, rfl, HA, HK1, HW⟩ := hrel
   obtain ⟨k1_, k2_, k3_, k4_, k5_⟩ := HW.out
   have S0 := Cap.Lw.start (eI := 3) (bI := w3.heap.size + 1) (tL := 22) (tV := 41) k1_ k2_ k3_ k4_ k5_
   have S1 := S0.boxn 47 (impl_LeastWatch_1.self (wr.heap.size + 1) gm w.heap.size w5.heap.size (wr.heap.size + 1 + 1)) (wr.heap.size + 1 + 1) (by simp)
   have S2 := A_ (S1.sub (L' := impl_LeastWatch_1.vars (wr.heap.size + 1) gm w.heap.size w5.heap.size (wr.heap.size + 1 + 1) a0 kk Aa all.length ca) (fun x hx => by
    simp only [impl_LeastWatch_1.vars, List.mem_cons, List.not_mem_nil, or_false] at hx
    simp only [List.mem_cons, List.not_mem_nil, or_false]
    rcases hx with rfl | rfl | rfl | rfl <;> simp))
   clear k1_ k2_ k3_ k4_ k5_ S0 S1 HW
   cases gk with
   | zero => exact absurd HA.out (by simp [impl_LeastWatch.l0])
   | succ k1 =>
    have H := HA.out
    clear HA
    simp only [impl_LeastWatch.l0] at H
    obtain ⟨⟨b3, q3⟩, A5, H⟩ := Option.bind_eq_some_iff.mp H
    replace A5 := A_ A5
    replace H := A_ H
    replace H := H.out
    cases b3 with
    | true =>
     rw [if_pos rfl] at H
     by_cases c7 : q3.Nodup ∧ ∀ x ∈ q3, x.length = 2
     case neg =>
      simp only [if_neg c7] at H
      exact absurd H (by simp)
     simp only [if_pos c7] at H
     obtain ⟨rfl, rfl⟩ := Prod.mk.inj (Option.some.inj H)
     clear H
     have C7 := A_ c7
     clear c7
     go_wp2_with (first | ((with_reducible refine Fn.gate_value rfl ?_); refine Fn.goesVw_ (some 30) rfl (by first | rfl | (simp [Region.wanted, yielded]; done)) (impl_LeastWatch_1.self (wr.heap.size + 1) gm w.heap.size w5.heap.size (wr.heap.size + 1 + 1)) rfl #[.int .i64 0] rfl (by (try simp only [List.map_toArray, List.map_cons, List.map_nil]); first | done | rfl) ?_; refine impl_LeastWatch_1.enters _ _ _ _ _ ?_; refine (impl_LeastWatch_1.calls w w5 (fun j => w3.heap.size + 1 ≤ j ∧ j < w5.heap.size) (w3.heap.size + 1) (wr.heap.size + 1) gm w.heap.size w5.heap.size (wr.heap.size + 1 + 1) Aa ca all a0 kk HLE.out.1 HLE.out.2 HCA.out k1 _ _ [] 0 (true, q3) S2.out A5.out).mono ?_; rintro e w8 ⟨rfl, vl8, hs⟩; refine ⟨_, rfl, ?_⟩; have hcl8 := hs.celll; have HS8 := A_ hs; clear hs))
     go_ret2
     exact ⟨_, rfl, Cap.lent_S HS8.out.hl HS8.out.keep (fun k e => (HS8.out.nl k e).2.2) hbI.out C7.out.1 C7.out.2, HS8.out.bel⟩
    | false =>
     simp only [Bool.false_eq_true, if_false] at H
     replace H := A_ H
     go_wp2_with (first | ((with_reducible refine Fn.gate_value rfl ?_); refine Fn.goesVw_ (some 30) rfl (by first | rfl | (simp [Region.wanted, yielded]; done)) (impl_LeastWatch_1.self (wr.heap.size + 1) gm w.heap.size w5.heap.size (wr.heap.size + 1 + 1)) rfl #[.int .i64 0] rfl (by (try simp only [List.map_toArray, List.map_cons, List.map_nil]); first | done | rfl) ?_; refine impl_LeastWatch_1.enters _ _ _ _ _ ?_; refine (impl_LeastWatch_1.calls w w5 (fun j => w3.heap.size + 1 ≤ j ∧ j < w5.heap.size) (w3.heap.size + 1) (wr.heap.size + 1) gm w.heap.size w5.heap.size (wr.heap.size + 1 + 1) Aa ca all a0 kk HLE.out.1 HLE.out.2 HCA.out k1 _ _ [] 0 (false, q3) S2.out A5.out).mono ?_; rintro e w8 ⟨rfl, vl8, hs⟩; refine ⟨_, rfl, ?_⟩; have hcm8 := hs.fix.cell (g := gm) (.head _); have HS8 := A_ hs; clear hs))
     have b9 : Below w8.heap.size w8 (w8.alloc (.cells #[.int .i64 (wrap64 (kk + 1))] 3)) := below_alloc (Below.refl _ _) _
     have HW9 : Aside0 (Below w.heap.size w (w8.alloc (.cells #[.int .i64 (wrap64 (kk + 1))] 3)) ∧ (∀ j, (fun j => w3.heap.size + 1 ≤ j ∧ j < w5.heap.size) j → (w8.alloc (.cells #[.int .i64 (wrap64 (kk + 1))] 3)).heap[j]? = w5.heap[j]?) ∧ (∀ j, (fun j => w3.heap.size + 1 ≤ j ∧ j < w5.heap.size) j → j < (w8.alloc (.cells #[.int .i64 (wrap64 (kk + 1))] 3)).heap.size) ∧ Cap.Fix (w8.alloc (.cells #[.int .i64 (wrap64 (kk + 1))] 3)) [(w8.heap.size, 3, .int .i64 (wrap64 (kk + 1))), (w.heap.size, 3, .int .i64 a0), (w5.heap.size, 41, .slice Aa all.length ca)] ∧ (∀ j, (fun j => w3.heap.size + 1 ≤ j ∧ j < w5.heap.size) j → Cap.Off [(w8.heap.size, 3, .int .i64 (wrap64 (kk + 1))), (w.heap.size, 3, .int .i64 a0), (w5.heap.size, 41, .slice Aa all.length ca)] j)) := by
      refine ⟨below_then HS8.out.bel HS8.out.bel.size b9, fun j hj => (b9.block j (HS8.out.ul j hj)).trans (HS8.out.keep j hj), fun j hj => Nat.lt_of_lt_of_le (HS8.out.ul j hj) b9.size, fun x hx => ?_, fun j hj x hx => ?_⟩
      ·
       simp only [List.mem_cons, List.not_mem_nil, or_false] at hx
       rcases hx with rfl | rfl | rfl
       ·
        exact blk_new _ _
       ·
        exact blk_alloc (HS8.out.fix _ (.tail _ (.head _))) _
       ·
        exact blk_alloc (HS8.out.fix _ (.tail _ (.tail _ (.head _)))) _
      ·
       simp only [List.mem_cons, List.not_mem_nil, or_false] at hx
       rcases hx with rfl | rfl | rfl
       ·
        have := HS8.out.ul j hj; dsimp only; omega
       ·
        exact HS8.out.ux j hj _ (.tail _ (.head _))
       ·
        exact HS8.out.ux j hj _ (.tail _ (.tail _ (.head _)))
     go_roundg k1
     case measure => have := HK1.out; omega
     case rel => exact ⟨_, wrap64 (kk + 1), rfl, H, ⟨by have := HK1.out; omega⟩, HW9⟩

/-! ### laws_FnExactLeastWatch: function 9 -/
def laws_FnExactLeastWatch.Tests (k : Nat) (a0 : Int) : Prop := ∃ g0_ : List (List Int), ∃ g1_ : Bool, ∃ m3 : Int, ∃ n3 : List (List Int), spec_LeastWatch.f k a0 = some (g0_, g1_) ∧ impl_LeastWatch.f k a0 = some (g0_, g1_) ∧ laws_eqIntSS.f k g0_ g0_ = some true ∧ 0 ≤ m3 ∧ laws_markIntSS.f k g0_ 1 = some (m3, n3) ∧ laws_heldIntSS.f k n3 1 = some m3
open Classical in
noncomputable def laws_FnExactLeastWatch.f (k : Nat) (a0 : Int) : Option Bool :=  if laws_FnExactLeastWatch.Tests k a0 then some true else none
theorem laws_FnExactLeastWatch.calls (k : Nat) (a0 : Int) (r : Bool) (w : World) (h : laws_FnExactLeastWatch.f k a0 = some r) :
  Calls Try.prog 9 #[.int .i64 a0] w fun e w' => e = .returned (.bool r) ∧ Below w.heap.size w w' := by
 have HB := A_ (Below.refl w.heap.size w)
 have HT := A_ (Nat.le_refl w.heap.size)
 unfold laws_FnExactLeastWatch.f at h
 have hT : laws_FnExactLeastWatch.Tests k a0 := by
  refine Classical.byContradiction (fun hT => ?_)
  rw [if_neg hT] at h; cases h
 rw [if_pos hT] at h
 obtain rfl := Option.some.inj h
 clear h
 obtain ⟨g0_, g1_, m3, n3, T0, T1, T2, T3, T4, T5⟩ := hT
 replace T0 := A_ T0
 replace T1 := A_ T1
 replace T2 := A_ T2
 have T3b := decide_eq_false (Int.not_lt.mpr T3)
 replace T3 := A_ T3
 replace T4 := A_ T4
 replace T5 := A_ T5
 go_enter Try.func9, Try.ntmps9
 go_wp2_with (first | (refine gc_ 40 ?_; refine goesL_ (some 13) rfl rfl Try.func40 (by kernel_rfl) rfl #[.int .i64 a0] rfl (by (try simp only [List.map_toArray, List.map_cons, List.map_nil]); first | done | rfl) ?_; (with_reducible refine (spec_LeastWatch.calls k a0 g0_ g1_ _ T0.out).mono ?_); rintro e w_0 ⟨v0_0, rfl, ho0, hb⟩; refine ⟨_, rfl, ?_⟩; obtain ⟨p_0, q_0, hn_, hp_, hq_⟩   := Fn.law_span hb HT.out; have HN_0 := A_ hn_; obtain ⟨A_00, c_00, e_, hl_, hF_⟩ := ho0; subst e_; have HL_00 := A_ hl_; have HO_00 := A_ (Kd.F_mono (Kd.F_bound hF_) (fun k_ hk_ => (⟨by have := hk_.1; omega, by have := hk_.2; omega⟩ : p_0 ≤ k_ ∧ k_ < q_0))); clear hl_ hF_; clear hn_ hp_ HT; have HT := A_ (Nat.le_of_eq hq_); clear hq_; have z_ := A_ (below_step tb_ hb); clear HB; have HB := z_; clear z_ hb) | (refine gc_ 41 ?_; refine goesL_ (some 18) rfl rfl Try.func41 (by kernel_rfl) rfl #[.int .i64 a0] rfl (by (try simp only [List.map_toArray, List.map_cons, List.map_nil]); first | done | rfl) ?_; (with_reducible refine (impl_LeastWatch.calls k a0 g0_ g1_ _ T1.out).mono ?_); rintro e w_1 ⟨v1_0, rfl, ho0, hb⟩; refine ⟨_, rfl, ?_⟩; have z_ := A_ (Kd.F_below (ts2_x HO_00.out) hb); clear HO_00; have HO_00 := z_; clear z_; obtain ⟨p_1, q_1, hn_, hp_, hq_⟩   := Fn.law_span hb HT.out; have HN_1 := A_ hn_; obtain ⟨A_10, c_10, e_⟩ := Kd.S_slice ho0; subst e_; have HO_10 := A_ (Kd.S_lower (Kd.S_mono (Kd.S_bound ho0) (fun k_ hk_ => (⟨by have := hk_.2.1; omega, by have := hk_.2.2.1; omega⟩ : p_1 ≤ k_ ∧ k_ < q_1))) (below_size tb_)); clear ho0; clear hn_ hp_ HT; have HT := A_ (Nat.le_of_eq hq_); clear hq_; have z_ := A_ (below_step tb_ hb); clear HB; have HB := z_; clear z_ hb) | (refine gc_ 35 ?_; refine goesL_ (some 23) rfl rfl Try.func35 (by kernel_rfl) rfl #[.slice A_10 g0_.length c_10, .slice A_00 g0_.length c_00] rfl (by (try simp only [List.map_toArray, List.map_cons, List.map_nil]); first | done | rfl) ?_; (with_reducible refine (laws_eqIntSS.calls k A_10 c_10 g0_ A_00 c_00 g0_ true _ ?s0 ?s1 ?s2 ?s3 T2.out).mono ?_); (case s0 => exact (Kd.S_reads' (ts2_x HO_10.out)).2.2); (case s1 => (have h1_ := Kd.S_reads' HO_10.out; have h2_ := h1_.1; have h3_ := h1_.2.1; omega)); (case s2 => exact Kd.F_now (ts2_x HO_00.out)); (case s3 => exact HL_00.out); rintro e w' ⟨rfl, ⟨nd_2, rfl⟩⟩; refine ⟨_, rfl, ?_⟩) | (refine gc_ 36 ?_; refine goesL_ (some 32) rfl rfl Try.func36 (by kernel_rfl) rfl #[.slice A_10 g0_.length c_10, .int .i64 1] rfl (by (try simp only [List.map_toArray, List.map_cons, List.map_nil]); first | done | rfl) ?_; (with_reducible refine (laws_markIntSS.calls k (fun k_ => p_1 ≤ k_ ∧ k_ < q_1) (.slice A_10 g0_.length c_10) g0_ 1 m3 n3 w _ ?s0 ?s1 T4.out).mono ?_); (case s0 => exact tb_); (case s1 => exact (ts2_x HO_10.out)); rintro e w_3 ⟨rfl, ho0, hb, hkp⟩; refine ⟨_, rfl, ?_⟩; have z_ := A_ (Kd.F_step (ts2_x HO_00.out) (fun k_ hk_ hlt_ => hkp.2 k_ hlt_ (fun h_ => by have := HN_0.out; have := HN_1.out; obtain ⟨_, _⟩ := hk_; obtain ⟨_, _⟩ := h_; omega))); clear HO_00; have HO_00 := z_; clear z_; clear HO_10; have HO_10 := A_ ho0; clear ho0; have e_ := (Kd.S_reads' HO_10.out).1; have HO_10E := A_ e_; clear e_; have z_ := A_ (Nat.le_trans HT.out hkp.1); clear HT; have HT := z_; clear z_; clear HB; have HB := A_ hb; clear hb hkp) | (refine gc_ 37 ?_; refine goesL_ (some 35) rfl rfl Try.func37 (by kernel_rfl) rfl #[.slice A_10 n3.length c_10, .int .i64 1] rfl (by (try simp only [List.map_toArray, List.map_cons, List.map_nil]); first | done | (rw [← HO_10E.out] <;> rfl) | rfl) ?_; (with_reducible refine (laws_heldIntSS.calls k A_10 c_10 n3 1 m3 _ ?s0 ?s1 T5.out).mono ?_); (case s0 => exact (Kd.S_reads' (ts2_x HO_10.out)).2.2); (case s1 => (have h1_ := Kd.S_reads' HO_10.out; have h2_ := h1_.1; have h3_ := h1_.2.1; omega)); rintro e w' ⟨rfl, ⟨nd_4, rfl⟩⟩; refine ⟨_, rfl, ?_⟩) | (refine gc_ 41 ?_; refine goesL_ (some 43) rfl rfl Try.func41 (by kernel_rfl) rfl #[.int .i64 a0] rfl (by (try simp only [List.map_toArray, List.map_cons, List.map_nil]); first | done | (rw [← HO_10E.out] <;> rfl) | rfl) ?_; (with_reducible refine (impl_LeastWatch.calls k a0 g0_ g1_ _ T1.out).mono ?_); rintro e w_5 ⟨v5_0, rfl, ho0, hb⟩; refine ⟨_, rfl, ?_⟩; have z_ := A_ (Kd.F_below (ts2_x HO_00.out) hb); clear HO_00; have HO_00 := z_; clear z_; have z_ := A_ (Kd.S_below (ts2_x HO_10.out) hb); clear HO_10; have HO_10 := z_; clear z_; obtain ⟨p_5, q_5, hn_, hp_, hq_⟩   := Fn.law_span hb HT.out; have HN_5 := A_ hn_; obtain ⟨A_50, c_50, e_⟩ := Kd.S_slice ho0; subst e_; have HO_50 := A_ (Kd.S_lower (Kd.S_mono (Kd.S_bound ho0) (fun k_ hk_ => (⟨by have := hk_.2.1; omega, by have := hk_.2.2.1; omega⟩ : p_5 ≤ k_ ∧ k_ < q_5))) (below_size tb_)); clear ho0; clear hn_ hp_ HT; have HT := A_ (Nat.le_of_eq hq_); clear hq_; have z_ := A_ (below_step tb_ hb); clear HB; have HB := z_; clear z_ hb) | (refine gc_ 35 ?_; refine goesL_ (some 48) rfl rfl Try.func35 (by kernel_rfl) rfl #[.slice A_50 g0_.length c_50, .slice A_00 g0_.length c_00] rfl (by (try simp only [List.map_toArray, List.map_cons, List.map_nil]); first | done | (rw [← HO_10E.out] <;> rfl) | rfl) ?_; (with_reducible refine (laws_eqIntSS.calls k A_50 c_50 g0_ A_00 c_00 g0_ true _ ?s0 ?s1 ?s2 ?s3 T2.out).mono ?_); (case s0 => exact (Kd.S_reads' (ts2_x HO_50.out)).2.2); (case s1 => (have h1_ := Kd.S_reads' HO_50.out; have h2_ := h1_.1; have h3_ := h1_.2.1; omega)); (case s2 => exact Kd.F_now (ts2_x HO_00.out)); (case s3 => exact HL_00.out); rintro e w' ⟨rfl, ⟨nd_6, rfl⟩⟩; refine ⟨_, rfl, ?_⟩) | (refine gc_ 37 ?_; refine goesL_ (some 57) rfl rfl Try.func37 (by kernel_rfl) rfl #[.slice A_10 n3.length c_10, .int .i64 1] rfl (by (try simp only [List.map_toArray, List.map_cons, List.map_nil]); first | done | (rw [← HO_10E.out] <;> rfl) | rfl) ?_; (with_reducible refine (laws_heldIntSS.calls k A_10 c_10 n3 1 m3 _ ?s0 ?s1 T5.out).mono ?_); (case s0 => exact (Kd.S_reads' (ts2_x HO_10.out)).2.2); (case s1 => (have h1_ := Kd.S_reads' HO_10.out; have h2_ := h1_.1; have h3_ := h1_.2.1; omega)); rintro e w' ⟨rfl, ⟨nd_7, rfl⟩⟩; refine ⟨_, rfl, ?_⟩))
 go_ret
 exact ⟨by first | rfl | (simp <;> rfl), tb_⟩

/-- THE ONE PURE STATEMENT of laws_FnExactLeastWatch: yours. -/
def laws_FnExactLeastWatch.Pure : Prop := ∀ (a0 : Int), (Lit.int .i64 a0).wf = true → ∃ k, laws_FnExactLeastWatch.f k a0 = some true
theorem laws_FnExactLeastWatch.walk (P : laws_FnExactLeastWatch.Pure) (a0 : Int) (w : World) (w0 : (Lit.int .i64 a0).wf = true) :
  Calls Try.prog 9 #[.int .i64 a0] w fun e w' => e = .returned (.bool true) ∧ Below w.heap.size w w' := by
 obtain ⟨k, h⟩ := P a0 w0
 refine (laws_FnExactLeastWatch.calls k a0 true w h).mono ?_
 rintro e w' ⟨rfl, hd⟩
 exact ⟨rfl, hd⟩

end
end Go.Proofs.Ythlcaikplebpmaa.P
