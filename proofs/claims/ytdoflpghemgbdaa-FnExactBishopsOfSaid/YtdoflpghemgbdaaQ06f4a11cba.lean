-- printed functions (wip/slim.py)
import Derived.Test.YtdoflpghemgbdaaPx0
namespace Go.Proofs.Ytdoflpghemgbdaa.P
noncomputable section
set_option maxHeartbeats 8000000
set_option maxRecDepth 100000
open Go.RowKit Go.Proofs.YtdoflpghemgbdaaW.PrintWords Go.Proofs.YtdoflpghemgbdaaW.PrintLast Go.Proofs.YtdoflpghemgbdaaW.PrintMore
attribute [local go_sem] max2_int min2_int max_two min_two max_three min_three max_four min_four   -- for this text's walks alone
set_option linter.unusedVariables false
set_option linter.unusedSimpArgs false

/-! ### impl_Board_has: function 119 -/
def impl_Board_has.f (a0_0 : Int) (a0_1 : Int) (l0_2 : List Int) (a1 : Int) (a2 : Int) : Option (Bool) := if 0 ≤ a1 then (if a1 < (l0_2.length : Int) then (if 0 ≤ a2 then (some ((Go.bits .and .i64 (shr .i64 (rd l0_2 a1) a2) 1) == 1)) else (none)) else (none)) else (none)
theorem impl_Board_has.calls (a0_0 : Int) (a0_1 : Int) (A0_2 : Option Addr) (c0_2 : Nat) (l0_2 : List Int) (a1 : Int) (a2 : Int) (r : Bool) (w : World) (hr0_2 : Kd.C (Kd.int .i64) w A0_2 l0_2.length l0_2) (hc0_2 : l0_2.length ≤ c0_2) (h : impl_Board_has.f a0_0 a0_1 l0_2 a1 a2 = some r) :
  Calls Try.prog 119 #[.agg #[.int .i64 a0_0, .int .i64 a0_1, .slice A0_2 l0_2.length c0_2], .int .i64 a1, .int .i64 a2] w fun e w' => e = .returned (.bool r) ∧ Below w.heap.size w w' := by
 have hu26 := Try.underlying26
 have HR0_2 := A_ hr0_2
 have HC0_2 := A_ hc0_2
 clear hr0_2 hc0_2
 have HB := A_ (Below.refl w.heap.size w)
 have H : (if 0 ≤ a1 then (if a1 < (l0_2.length : Int) then (if 0 ≤ a2 then (some ((Go.bits .and .i64 (shr .i64 (rd l0_2 a1) a2) 1) == 1)) else (none)) else (none)) else (none)) = some r := h
 clear h
 by_cases c4 : 0 ≤ a1
 ·
  rw [if_pos c4] at H
  have c4b0 := decide_eq_true c4
  clear c4
  by_cases c5 : a1 < (l0_2.length : Int)
  ·
   rw [if_pos c5] at H
   have c5b0 := decide_eq_true c5
   clear c5
   by_cases c6 : 0 ≤ a2
   ·
    rw [if_pos c6] at H
    have c6b0 := eq_true c6
    have c6b1 := decide_eq_true c6
    clear c6
    obtain ⟨ji7, hji7⟩ : ∃ j_ : Int, (shr .i64 (rd l0_2 a1) a2) = j_ := ⟨_, rfl⟩
    replace H : (some ((Go.bits .and .i64 (ji7) 1) == 1)) = some r := by first | (rw [hji7] at H; exact H) | (simp only [hji7] at H ⊢; exact H)
    have hji7_ : ((rd l0_2 a1) / 2 ^ min a2.toNat 64) = ji7 := hji7
    have hji7z : a2 ≤ 64 → ((rd l0_2 a1) / 2 ^ a2.toNat) = ji7 := shr_small hji7
    obtain rfl := Option.some.inj H
    go_enter Try.func119, Try.ntmps119
    go_wp2_with (first | (refine gd_ 3 ?_; refine bx_ 3 #[.int .i64 a0_0, .int .i64 a0_1, .slice A0_2 l0_2.length c0_2] 26 ?_; intro gb231 hg w8 hbox hb; have BK231 := A_ (hbox); have GW231 := A_ ((ts_ hg : w.heap.size ≤ gb231)); have GE231 := A_ ((ts_ hg : w.heap.size ≤ gb231)); replace HB := A_ (below_step tb_ hb); clear hb hbox hg; obtain ⟨hcz9_0, hcz9_1, hcz9_2, hfz9_0, hfz9_1, hfz9_2⟩ := cf3_ BK231.out; have p232 : 0 ≤ (a1 : Int) := od_; have q232 : a1 < (l0_2.length : Int) := od_; obtain ⟨ad232, e232, hx232_0⟩ := Kd.at_int HR0_2.out a1 p232 q232; cases e232; (try replace hx232_0 := (HB.out.cell (World.block_lt_of_cell? w _ hx232_0)).trans hx232_0); replace p232 := eq_true p232; replace q232 := eq_true q232))
    go_ret
    exact ⟨by first | rfl | (simp [errW_none, errW_some] <;> rfl) | (simp only [← hji7]; first | rfl | (simp [errW_none, errW_some] <;> rfl)) | (simp [*, errW_none, errW_some] <;> rfl), tb_⟩
   ·
    rw [if_neg c6] at H
    exact absurd H (by simp)
  ·
   rw [if_neg c5] at H
   exact absurd H (by simp)
 ·
  rw [if_neg c4] at H
  exact absurd H (by simp)

/-! ### slices_Sort_int_int: function 154 -/
def slices_Sort_int_int.f (l0 : List Int) : Option (List Int) := if l0.length ≤ 1000 then some (Go.Proofs.YtdoflpghemgbdaaW.So.sortI l0) else none
theorem slices_Sort_int_int.calls (P0_ : Nat → Prop) (u9000_ : Value) (l0 : List Int) (r : List Int) (w0 w : World) (hB : Below w0.heap.size w0 w) (ho0 : Kd.R (Kd.int .i64) 3 w w0.heap.size P0_ u9000_ l0) (h : slices_Sort_int_int.f l0 = some r) :
  Calls Try.prog 154 #[u9000_] w fun e w' => e = .returned (.tuple #[]) ∧ Kd.R (Kd.int .i64) 3 w' w0.heap.size (fun k_ => (P0_ k_ ∨ w.heap.size ≤ k_)) u9000_ r ∧ Below w0.heap.size w0 w' ∧ Kept w w' (fun k_ => P0_ k_) := by
 unfold slices_Sort_int_int.f at h
 have hl : l0.length ≤ 1000 := by
  split at h
  ·
   assumption
  ·
   cases h
 rw [if_pos hl] at h
 obtain rfl := Option.some.inj h
 clear h
 have how := Kd.own_of_R ho0
 have hok := ho0.1
 rcases Go.Proofs.YtdoflpghemgbdaaW.So.own how with ⟨rfl, rfl⟩ | ⟨g, cap, rfl, hb, hi, hm, hH, hA⟩
 ·
  refine (Go.Proofs.Try.slices_Sort_int_none none 0 w).mono fun e w' ⟨he, hw⟩ => ⟨he, ?_, ?_, ?_⟩
  all_goals rw [hw]
  ·
   refine Kd.R_of_own (enc := Value.int .i64) ?_ (fun k hk => ?_)
   ·
    exact ⟨by simp [encs, Go.Proofs.YtdoflpghemgbdaaW.So.sortI], .inl ⟨rfl, by simp [Go.Proofs.YtdoflpghemgbdaaW.So.sortI]⟩⟩
   ·
    cases hk
  ·
   exact hB
  ·
   exact Kept.refl _ _
 ·
  refine (Go.Proofs.Try.slices_Sort_int g 0 cap l0 w hH hi (by omega)).mono fun e w' ⟨he, n, os, hw⟩ => ⟨he, ?_, ?_, ?_⟩
  all_goals rw [Go.Proofs.YtdoflpghemgbdaaW.So.mergeSort_eq] at hw
  all_goals subst hw
  ·
   exact Kd.R_of_own (enc := Value.int .i64) (hA n os _ (Go.Proofs.YtdoflpghemgbdaaW.So.sortI_perm _).length_eq) (fun k hk => .inl (hok k hk))
  ·
   exact hB.trans ⟨rfl, rfl, rfl, Go.Proofs.YtdoflpghemgbdaaW.So.size_le w n g _ os, fun k hk => Go.Proofs.YtdoflpghemgbdaaW.So.far w n g _ os k (by have := hB.size; omega) (by omega)⟩
  ·
   exact ⟨Go.Proofs.YtdoflpghemgbdaaW.So.size_le w n g _ os, fun i hi2 hn => Go.Proofs.YtdoflpghemgbdaaW.So.far w n g _ os i hi2 (fun e => hn (e ▸ hok g rfl))⟩

/-! ### slices_Compact_int_int: function 155 -/
def slices_Compact_int_int.f (l0 : List Int) : Option (List Int) := if l0.length ≤ 1000 then some (Lib.compact l0) else none
theorem slices_Compact_int_int.calls (P0_ : Nat → Prop) (u9000_ : Value) (l0 : List Int) (r : List Int) (w0 w : World) (hB : Below w0.heap.size w0 w) (ho0 : Kd.R (Kd.int .i64) 3 w w0.heap.size P0_ u9000_ l0) (h : slices_Compact_int_int.f l0 = some r) :
  Calls Try.prog 155 #[u9000_] w fun e w' => ∃ v0_ : Value, e = .returned (v0_) ∧ Kd.R (Kd.int .i64) 3 w' w0.heap.size (fun k_ => (P0_ k_ ∨ w.heap.size ≤ k_)) v0_ r ∧ Below w0.heap.size w0 w' ∧ Kept w w' (fun k_ => P0_ k_) := by
 unfold slices_Compact_int_int.f at h
 have hl : l0.length ≤ 1000 := by
  split at h
  ·
   assumption
  ·
   cases h
 rw [if_pos hl] at h
 obtain rfl := Option.some.inj h
 clear h
 have how := Kd.own_of_R ho0
 have hok := ho0.1
 have hcl := Lib.compact_length_le l0
 rcases Go.Proofs.YtdoflpghemgbdaaW.So.own2 how with ⟨rfl, rfl⟩ | ⟨g, cap, rfl, hb, hi, hm, hH, hA⟩
 ·
  refine (Go.Proofs.Try.slices_Compact_int_empty none 0 w).mono fun e w' ⟨he, hw⟩ => ⟨_, he, ?_, ?_, ?_⟩
  all_goals rw [hw]
  ·
   refine Kd.R_of_own (enc := Value.int .i64) ?_ (fun k hk => ?_)
   ·
    exact ⟨by simp [encs, Lib.compact, Lib.compactUpTo], .inl ⟨rfl, by simp [Lib.compact, Lib.compactUpTo]⟩⟩
   ·
    cases hk
  ·
   exact hB
  ·
   exact Kept.refl _ _
 ·
  refine (Go.Proofs.Try.slices_Compact_int g 0 cap l0 w hH (by omega) hm).mono fun e w' ⟨he, n, hw⟩ => ⟨_, he, ?_, ?_, ?_⟩
  all_goals rw [Go.Proofs.YtdoflpghemgbdaaW.So.after_none] at hw
  all_goals subst hw
  ·
   have h := hA n #[] (Lib.compact l0 ++ List.replicate (l0.length - (Lib.compact l0).length) 0) (Lib.compact l0).length (by simp; omega) (by simp)
   rw [List.take_left'  rfl] at h
   exact Kd.R_of_own (enc := Value.int .i64) h (fun k hk => .inl (hok k hk))
  ·
   exact hB.trans ⟨rfl, rfl, rfl, Go.Proofs.YtdoflpghemgbdaaW.So.size_le w n g _ _, fun k hk => Go.Proofs.YtdoflpghemgbdaaW.So.far w n g _ _ k (by have := hB.size; omega) (by omega)⟩
  ·
   exact ⟨Go.Proofs.YtdoflpghemgbdaaW.So.size_le w n g _ _, fun i hi2 hn => Go.Proofs.YtdoflpghemgbdaaW.So.far w n g _ _ i hi2 (fun e => hn (e ▸ hok g rfl))⟩

/-! ### impl_Board_diagonals: function 90 -/
mutual
def impl_Board_diagonals.l0 : Nat → Int → List Int → List Int → Int → Int → Int → Int → List Int → Option (List Int × List Int)
 | 0, _, _, _, _, _, _, _, _ => none
 | k + 1, x1, x6, x7, x13, x14, x494000, x494001, x494002 => if x14 < x13 then (impl_Board_diagonals.l1 k x1 x6 x7 x14 x13 x14 x494001 0 x494000 x494001 x494002) else ((slices_Sort_int_int.f x6).bind fun t512 => ((slices_Sort_int_int.f x7).bind fun t513 => ((slices_Compact_int_int.f t512).bind fun t514 => ((slices_Compact_int_int.f t513).bind fun t517 => (some (t514, t517))))))
def impl_Board_diagonals.l1 : Nat → Int → List Int → List Int → Int → Int → Int → Int → Int → Int → Int → List Int → Option (List Int × List Int)
 | 0, _, _, _, _, _, _, _, _, _, _, _ => none
 | k + 1, x1, x6, x7, x8, x13, x14, x18, x19, x494000, x494001, x494002 => if x19 < x18 then (if (Int.tmod (wrap64 (x8 + x19)) 2) = x1 then ((some (([wrap64 (x8 + x19)] : List Int) : List Int)).bind fun y500 => (if x6.length + y500.length < 17592186044416 then ((some (([wrap64 ((wrap64 ((wrap64 (x8 - x19)) + x494001)) - 1)] : List Int) : List Int)).bind fun y506 => (if x7.length + y506.length < 17592186044416 then (impl_Board_diagonals.l1 k x1 (x6 ++ y500) (x7 ++ y506) x8 x13 x14 x18 (wrap64 (x19 + 1)) x494000 x494001 x494002) else (none))) else (none))) else (impl_Board_diagonals.l1 k x1 x6 x7 x8 x13 x14 x18 (wrap64 (x19 + 1)) x494000 x494001 x494002)) else (impl_Board_diagonals.l0 k x1 x6 x7 x13 (wrap64 (x14 + 1)) x494000 x494001 x494002)
end
def impl_Board_diagonals.f (k : Nat) (a0_0 : Int) (a0_1 : Int) (l0_2 : List Int) (a1 : Int) : Option (List Int × List Int) := impl_Board_diagonals.l0 k a1 (([] : List Int)) (([] : List Int)) a0_0 0 a0_0 a0_1 l0_2
theorem impl_Board_diagonals.mono_l : ∀ k, (∀ y0 y1 y2 y3 y4 y5 y6 y7, LeO (impl_Board_diagonals.l0 k y0 y1 y2 y3 y4 y5 y6 y7) (impl_Board_diagonals.l0 (k + 1) y0 y1 y2 y3 y4 y5 y6 y7)) ∧ (∀ y0 y1 y2 y3 y4 y5 y6 y7 y8 y9 y10, LeO (impl_Board_diagonals.l1 k y0 y1 y2 y3 y4 y5 y6 y7 y8 y9 y10) (impl_Board_diagonals.l1 (k + 1) y0 y1 y2 y3 y4 y5 y6 y7 y8 y9 y10))
 | 0 => ⟨fun _ _ _ _ _ _ _ _ r h => by simp [impl_Board_diagonals.l0] at h, fun _ _ _ _ _ _ _ _ _ _ _ r h => by simp [impl_Board_diagonals.l1] at h⟩
 | k + 1 => by
  obtain ⟨ih0, ih1⟩ := impl_Board_diagonals.mono_l k
  refine ⟨?_, ?_⟩
  ·
   intro y0 y1 y2 y3 y4 y5 y6 y7
   unfold impl_Board_diagonals.l0
   repeat' first | (with_reducible first | exact ih0 _ _ _ _ _ _ _ _ | exact ih1 _ _ _ _ _ _ _ _ _ _ _ | exact LeO.refl _ | exact LeO.none _ | refine LeO.ite ?_ ?_ | refine LeO.bind ?_ (fun _ => ?_)) | exact ih0 _ _ _ _ _ _ _ _ | exact ih1 _ _ _ _ _ _ _ _ _ _ _ | exact LeO.none _ | refine LeO.ite ?_ ?_ | refine LeO.bind ?_ (fun _ => ?_)
  ·
   intro y0 y1 y2 y3 y4 y5 y6 y7 y8 y9 y10
   unfold impl_Board_diagonals.l1
   repeat' first | (with_reducible first | exact ih0 _ _ _ _ _ _ _ _ | exact ih1 _ _ _ _ _ _ _ _ _ _ _ | exact LeO.refl _ | exact LeO.none _ | refine LeO.ite ?_ ?_ | refine LeO.bind ?_ (fun _ => ?_)) | exact ih0 _ _ _ _ _ _ _ _ | exact ih1 _ _ _ _ _ _ _ _ _ _ _ | exact LeO.none _ | refine LeO.ite ?_ ?_ | refine LeO.bind ?_ (fun _ => ?_)
theorem impl_Board_diagonals.mono : ∀ a0 a1 a2 a3 k, LeO (impl_Board_diagonals.f k a0 a1 a2 a3) (impl_Board_diagonals.f (k + 1) a0 a1 a2 a3) := by
 intro a0 a1 a2 a3 k
 obtain ⟨ih0, ih1⟩ := impl_Board_diagonals.mono_l k
 unfold impl_Board_diagonals.f
 repeat' first | (with_reducible first | exact ih0 _ _ _ _ _ _ _ _ | exact ih1 _ _ _ _ _ _ _ _ _ _ _ | exact LeO.refl _ | exact LeO.none _ | refine LeO.ite ?_ ?_ | refine LeO.bind ?_ (fun _ => ?_)) | exact ih0 _ _ _ _ _ _ _ _ | exact ih1 _ _ _ _ _ _ _ _ _ _ _ | exact LeO.none _ | refine LeO.ite ?_ ?_ | refine LeO.bind ?_ (fun _ => ?_)
def impl_Board_diagonals.T9 : Bool × List (List Nat × List Nat) := (true, [([], []), ([], []), ([], []), ([1, 2], [1, 2]), ([3], [3]), ([0, 4], [0, 4]), ([], []), ([], []), ([], []), ([7, 8], [7, 8]), ([], []), ([10], [10]), ([9, 11], [9, 11]), ([12], [12]), ([13], [13]), ([6, 14, 5], [6, 14]), ([5, 15, 0, 1, 2, 3, 4, 5], [0, 5]), ([15, 16, 0, 1, 2, 3, 4, 5, 6, 7, 8, 9, 10, 11, 12, 13, 14, 15, 16], [6, 15])])
def impl_Board_diagonals.B9 : List Nat := [0, 0, 0, 6, 14, 31, 0, 0, 0, 384, 0, 1024, 3968, 8064, 16256, 32767, 65535, 131071]
theorem impl_Board_diagonals.tab9 : rtab .any (opsOf Try.f90 9) = impl_Board_diagonals.T9 := by kernel_rfl
theorem impl_Board_diagonals.bits9 : waitsOk impl_Board_diagonals.T9.2 impl_Board_diagonals.B9 = true := by kernel_rfl
theorem impl_Board_diagonals.calls (k : Nat) (a0_0 : Int) (a0_1 : Int) (A0_2 : Option Addr) (c0_2 : Nat) (l0_2 : List Int) (a1 : Int) (r1 : List Int) (r2 : List Int) (w : World) (hr0_2 : Kd.C (Kd.int .i64) w A0_2 l0_2.length l0_2) (hc0_2 : l0_2.length ≤ c0_2) (h : impl_Board_diagonals.f k a0_0 a0_1 l0_2 a1 = some (r1, r2)) :
  Calls Try.prog 90 #[.agg #[.int .i64 a0_0, .int .i64 a0_1, .slice A0_2 l0_2.length c0_2], .int .i64 a1] w fun e w' => ∃ v0_ v1_ : Value, e = .returned (.tuple #[v0_, v1_]) ∧ Kd.R (Kd.int .i64) 3 w' w.heap.size (fun k_ => some k_ ≠ (v1_ : Value).ownBlock) v0_ r1 ∧ Kd.R (Kd.int .i64) 3 w' w.heap.size (fun k_ => some k_ ≠ (v0_ : Value).ownBlock) v1_ r2 ∧ Below w.heap.size w w' := by
 have hu26 := Try.underlying26
 have HR0_2 := A_ hr0_2
 have HC0_2 := A_ hc0_2
 clear hr0_2 hc0_2
 have HB := A_ (Below.refl w.heap.size w)
 have H : (impl_Board_diagonals.l0 k a1 (([] : List Int)) (([] : List Int)) a0_0 0 a0_0 a0_1 l0_2) = some (r1, r2) := h
 clear h
 obtain ⟨y494, hy494⟩ : ∃ y_ : List Int, y_ = (([] : List Int)) := ⟨_, rfl⟩
 replace H : (impl_Board_diagonals.l0 k a1 y494 (([] : List Int)) a0_0 0 a0_0 a0_1 l0_2) = some (r1, r2) := ty_ hy494 H
 have Ny494 := A_ hy494
 clear hy494
 obtain ⟨y497, hy497⟩ : ∃ y_ : List Int, y_ = (([] : List Int)) := ⟨_, rfl⟩
 replace H : (impl_Board_diagonals.l0 k a1 y494 y497 a0_0 0 a0_0 a0_1 l0_2) = some (r1, r2) := ty_ hy497 H
 have Ny497 := A_ hy497
 clear hy497
 have H' := A_ H
 clear H
 go_enter Try.func90, Try.ntmps90
 go_wp2_with (first | (refine gd_ 2 ?_; refine bx_ 2 #[.int .i64 a0_0, .int .i64 a0_1, .slice A0_2 l0_2.length c0_2] 26 ?_; intro gb493 hg w3 hbox hb; have BK493 := A_ (hbox); have GW493 := A_ ((ts_ hg : w.heap.size ≤ gb493)); have GE493 := A_ ((ts_ hg : w.heap.size ≤ gb493)); replace HB := A_ (below_step tb_ hb); clear hb hbox hg) | (refine gd_ 10 ?_; refine Kd.R_lit (Kd.int .i64) _ 3 ?hg (N := 10) ?hd (xs := ([] : List Int)) (inner := []) (ok := fun _ => True) (okp := fun _ => True) ?hr ?hp (fun _ hk => hk) trivial (Below.refl _ _) (Nat.le_refl _) (by simp) ?_; (case hd => rfl); (case hg => rfl); (case hr => first | (go_simp; done) | (go_simp; rfl)); (case hp => exact (Reps.none _ _)); intro v495 w4 ho5 hb hg_ hnew_; clear hg_ hnew_; (first | rw [← Ny494.out] at ho5 | (simp only [Int.reduceToNat] at ho5; rw [← Ny494.out] at ho5)); have HO496 := A_ (Kd.R_lower ho5 (below_size tb_)); replace BK493 := A_ (blk_below (g := gb493) (o := .cells #[.int .i64 a0_0, .int .i64 a0_1, .slice A0_2 l0_2.length c0_2] 26 (0, 0)) (tk_ BK493) hb); replace HB := A_ (below_step tb_ hb); clear hb ho5) | (refine gd_ 11 ?_; refine Kd.R_lit (Kd.int .i64) _ 3 ?hg (N := 11) ?hd (xs := ([] : List Int)) (inner := []) (ok := fun _ => True) (okp := fun _ => True) ?hr ?hp (fun _ hk => hk) trivial (Below.refl _ _) (Nat.le_refl _) (by simp) ?_; (case hd => rfl); (case hg => rfl); (case hr => first | (go_simp; done) | (go_simp; rfl)); (case hp => exact (Reps.none _ _)); intro v498 w6 ho7 hb hg_ hnew_; clear hg_ hnew_; (first | rw [← Ny497.out] at ho7 | (simp only [Int.reduceToNat] at ho7; rw [← Ny497.out] at ho7)); have HO499 := A_ (Kd.R_lower (Kd.R_new' ho7 (Kd.R_lt (tr_x HO496.out))) (below_size tb_)); replace HO496 := A_ (Kd.R_elder' (tr_x HO496.out) (Kd.R_base ho7) hb); replace BK493 := A_ (blk_below (g := gb493) (o := .cells #[.int .i64 a0_0, .int .i64 a0_1, .slice A0_2 l0_2.length c0_2] 26 (0, 0)) (tk_ BK493) hb); replace HB := A_ (below_step tb_ hb); clear hb ho7; obtain ⟨hcz8_0, hcz8_1, hcz8_2, hfz8_0, hfz8_1, hfz8_2⟩ := cf3_ BK493.out))
 go_loopg [6, 7, 14] k (fun kq v6 v7 v14 w' => ∃ (x6_1 : List Int) (x7_1 : List Int) (x14_1 : Int), v14 = .int .i64 x14_1 ∧ Aside0 (impl_Board_diagonals.l0 kq a1 x6_1 x7_1 a0_0 x14_1 a0_0 a0_1 l0_2 = some (r1, r2)) ∧ Aside0 (kq ≤ k) ∧ Aside0 (Kd.R (Kd.int .i64) 3 w' w.heap.size (fun k_ => some k_ ≠ (v7 : Value).ownBlock) v6 x6_1) ∧ Aside0 (Kd.R (Kd.int .i64) 3 w' w.heap.size (fun k_ => some k_ ≠ (v6 : Value).ownBlock) v7 x7_1) ∧ Aside0 (w'.heap[gb493]? = some (.cells #[.int .i64 a0_0, .int .i64 a0_1, (.slice A0_2 l0_2.length c0_2)] 26 (0, 0))) ∧ Aside0 (Below w.heap.size w w'))
 case atStart => exact ⟨(y494), (y497), (0), tf_, H', ⟨Nat.le_refl _⟩, ⟨by (with_reducible repeat (first | apply Kd.R_alloc | apply Kd.R_drewN | apply Kd.R_drew)); exact Kd.R_mono HO496.out (fun _ hk => hk.2)⟩, ⟨by (with_reducible repeat (first | apply Kd.R_alloc | apply Kd.R_drewN | apply Kd.R_drew)); exact Kd.R_mono HO499.out (fun _ hk => hk.2)⟩, ⟨tk_ BK493⟩, ⟨tb_⟩⟩
 case round =>
  clear H'
  try clear p2
  try clear hcz8_0
  try clear hcz8_1
  try clear hcz8_2
  try clear hfz8_0
  try clear hfz8_1
  try clear hfz8_2
  obtain ⟨x6_1, x7_1, x14_1, rfl, HA, HK1, HO_6, HO_7, BK493, HB⟩ := hrel
  cases gk with
  | zero => exact absurd HA.out (by simp [impl_Board_diagonals.l0])
  | succ k1 =>
   have H := HA.out
   clear HA
   simp only [impl_Board_diagonals.l0] at H
   by_cases c9 : x14_1 < a0_0
   ·
    rw [if_pos c9] at H
    have c9b0 := decide_eq_true c9
    clear c9
    have H' := A_ H
    clear H
    obtain ⟨hcz10_0, hcz10_1, hcz10_2, hfz10_0, hfz10_1, hfz10_2⟩ := cf3_ BK493.out
    go_wp2
    go_loopg [6, 7, 19] k1 (fun kq v6 v7 v19 w' => ∃ (x6_2 : List Int) (x7_2 : List Int) (x19_2 : Int), v19 = .int .i64 x19_2 ∧ Aside0 (impl_Board_diagonals.l1 kq a1 x6_2 x7_2 x14_1 a0_0 x14_1 a0_1 x19_2 a0_0 a0_1 l0_2 = some (r1, r2)) ∧ Aside0 (kq ≤ k1) ∧ Aside0 (Kd.R (Kd.int .i64) 3 w' w.heap.size (fun k_ => some k_ ≠ (v7 : Value).ownBlock) v6 x6_2) ∧ Aside0 (Kd.R (Kd.int .i64) 3 w' w.heap.size (fun k_ => some k_ ≠ (v6 : Value).ownBlock) v7 x7_2) ∧ Aside0 (w'.heap[gb493]? = some (.cells #[.int .i64 a0_0, .int .i64 a0_1, (.slice A0_2 l0_2.length c0_2)] 26 (0, 0))) ∧ Aside0 (Below w.heap.size w w'))
    case atStart => exact ⟨(x6_1), (x7_1), (0), tf_, H', ⟨Nat.le_refl _⟩, ⟨tr_x HO_6.out⟩, ⟨tr_x HO_7.out⟩, ⟨tk_ BK493⟩, ⟨tb_⟩⟩
    case round =>
     clear H'
     try clear p2
     try clear c9
     try clear c9b0
     try clear hcz10_0
     try clear hcz10_1
     try clear hcz10_2
     try clear hcz8_0
     try clear hcz8_1
     try clear hcz8_2
     try clear hfz10_0
     try clear hfz10_1
     try clear hfz10_2
     try clear hfz8_0
     try clear hfz8_1
     try clear hfz8_2
     try clear p2
     obtain ⟨x6_2, x7_2, x19_2, rfl, HA, HK2, HO_6, HO_7, BK493, HB⟩ := hrel
     cases gk with
     | zero => exact absurd HA.out (by simp [impl_Board_diagonals.l1])
     | succ k2 =>
      have H := HA.out
      clear HA
      simp only [impl_Board_diagonals.l1] at H
      by_cases c11 : x19_2 < a0_1
      ·
       rw [if_pos c11] at H
       have c11b0 := decide_eq_true c11
       clear c11
       by_cases c12 : (Int.tmod (wrap64 (x14_1 + x19_2)) 2) = a1
       ·
        rw [if_pos c12] at H
        have c12b0 : ((Int.tmod (wrap64 (x14_1 + x19_2)) 2) == a1) = true := beq_iff_eq.mpr c12
        have c12b1 : ((Int.tmod (wrap64 (x14_1 + x19_2)) 2) != a1) = false := bne_eq_false_iff_eq.mpr c12
        clear c12
        obtain ⟨y500, hy500⟩ : ∃ y_ : List Int, y_ = (([wrap64 (x14_1 + x19_2)] : List Int)) := ⟨_, rfl⟩
        replace H : (if x6_2.length + y500.length < 17592186044416 then ((some (([wrap64 ((wrap64 ((wrap64 (x14_1 - x19_2)) + a0_1)) - 1)] : List Int) : List Int)).bind fun y506 => (if x7_2.length + y506.length < 17592186044416 then (impl_Board_diagonals.l1 k2 a1 (x6_2 ++ y500) (x7_2 ++ y506) x14_1 a0_0 x14_1 a0_1 (wrap64 (x19_2 + 1)) a0_0 a0_1 l0_2) else (none))) else (none)) = some (r1, r2) := ty_ hy500 H
        have Ny500 := A_ hy500
        clear hy500
        by_cases c13 : x6_2.length + y500.length < 17592186044416
        ·
         rw [if_pos c13] at H
         have LMc13 := A_ c13
         clear c13
         obtain ⟨y503, hy503⟩ : ∃ y_ : List Int, y_ = (x6_2 ++ y500) := ⟨_, rfl⟩
         replace H : ((some (([wrap64 ((wrap64 ((wrap64 (x14_1 - x19_2)) + a0_1)) - 1)] : List Int) : List Int)).bind fun y506 => (if x7_2.length + y506.length < 17592186044416 then (impl_Board_diagonals.l1 k2 a1 y503 (x7_2 ++ y506) x14_1 a0_0 x14_1 a0_1 (wrap64 (x19_2 + 1)) a0_0 a0_1 l0_2) else (none))) = some (r1, r2) := ty_ hy503 H
         have Ny503 := A_ hy503
         clear hy503
         obtain ⟨y506, hy506⟩ : ∃ y_ : List Int, y_ = (([wrap64 ((wrap64 ((wrap64 (x14_1 - x19_2)) + a0_1)) - 1)] : List Int)) := ⟨_, rfl⟩
         replace H : (if x7_2.length + y506.length < 17592186044416 then (impl_Board_diagonals.l1 k2 a1 y503 (x7_2 ++ y506) x14_1 a0_0 x14_1 a0_1 (wrap64 (x19_2 + 1)) a0_0 a0_1 l0_2) else (none)) = some (r1, r2) := ty_ hy506 H
         have Ny506 := A_ hy506
         clear hy506
         by_cases c14 : x7_2.length + y506.length < 17592186044416
         ·
          rw [if_pos c14] at H
          have LMc14 := A_ c14
          clear c14
          obtain ⟨y509, hy509⟩ : ∃ y_ : List Int, y_ = (x7_2 ++ y506) := ⟨_, rfl⟩
          replace H : (impl_Board_diagonals.l1 k2 a1 y503 y509 x14_1 a0_0 x14_1 a0_1 (wrap64 (x19_2 + 1)) a0_0 a0_1 l0_2) = some (r1, r2) := ty_ hy509 H
          have Ny509 := A_ hy509
          clear hy509
          have H' := A_ H
          clear H
          obtain ⟨Ao15, co15, eo15⟩ := Kd.R_slice HO_6.out
          subst eo15
          obtain ⟨Ao16, co16, eo16⟩ := Kd.R_slice HO_7.out
          subst eo16
          try go_wp2
          have n0_ := A_ (Kd.R_drew HO_6.out)
          have n1_ := A_ (Kd.R_drew HO_7.out)
          have n2_ := A_ (blk_drew BK493.out)
          have n3_ := A_ (below_drew1 HB.out)
          clear HO_6
          clear HO_7
          clear BK493
          clear HB
          have HO_6 := n0_
          have HO_7 := n1_
          have BK493 := n2_
          have HB := n3_
          clear n0_ n1_ n2_ n3_
          refine start_ (n := 18) (S := fun w' => w'.cell? ⟨gb493, 0, none⟩ = some (.int .i64 a0_0) ∧ w'.cell? ⟨gb493, 1, none⟩ = some (.int .i64 a0_1) ∧ w'.cell? ⟨gb493, 2, none⟩ = some (.slice A0_2 l0_2.length c0_2)) (ds := []) (Fn.bl 18 0) (by kernel_rfl) rfl rfl ⟨(blk_cell BK493.out 0).trans rfl, (blk_cell BK493.out 1).trans rfl, (blk_cell BK493.out 2).trans rfl⟩ (fun hHeld => ?_); refine with_tabW impl_Board_diagonals.tab9 impl_Board_diagonals.bits9 (fun HT_ HW_ => ?_)
          generalize wr.drew = w17 at HO_6 HO_7 BK493 HB hHeld ⊢
          refine pq_ 0 (some 28) (Fn.bl 18 1) HT_.out ?_
          refine pq_ 1 (some 29) (Fn.bl 18 3) HT_.out ?_
          refine pq_ 2 (some 30) (Fn.bl 18 7) HT_.out ?_
          refine pq_ 3 (some 31) (Fn.bl 18 15) HT_.out ?_
          refine pq_ 6 (some 34) (Fn.bl 18 79) HT_.out ?_
          refine pq_ 7 (some 35) (Fn.bl 18 207) HT_.out ?_
          refine pq_ 8 (some 36) (Fn.bl 18 463) HT_.out ?_
          refine pq_ 9 (some 37) (Fn.bl 18 975) HT_.out ?_
          refine pq_ 10 (some 38) (Fn.bl 18 1999) HT_.out ?_
          refine tq_ 11 (some 39) (Fn.bl 18 4047) HT_.out HW_.out hHeld ?_ (hy0 := by rintro w' ⟨s0, s1, s2⟩; go_simp; with_reducible rfl)
          refine pq_ 12 (some 40) (Fn.bl 18 8143) HT_.out ?_
          refine pq_ 13 (some 41) (Fn.bl 18 16335) HT_.out ?_
          refine join_ (σ := Value × Value × Value) 3 (Fn.bl 18 32767) (fun s_ => [(32, s_.1), (33, s_.2.1), (42, s_.2.2)]) (fun s_ w' => (w'.cell? ⟨gb493, 0, none⟩ = some (.int .i64 a0_0) ∧ w'.cell? ⟨gb493, 1, none⟩ = some (.int .i64 a0_1) ∧ w'.cell? ⟨gb493, 2, none⟩ = some (.slice A0_2 l0_2.length c0_2)) ∧ (Kd.R (Kd.int .i64) 3 w' w.heap.size (fun k_ => some k_ ≠ (s_.2.1 : Value).ownBlock ∧ some k_ ≠ (s_.2.2 : Value).ownBlock ∧ some k_ ≠ (.slice Ao16 x7_2.length co16 : Value).ownBlock) s_.1 y500) ∧ (Kd.R (Kd.int .i64) 3 w' w.heap.size (fun k_ => some k_ ≠ (s_.1 : Value).ownBlock ∧ some k_ ≠ (s_.2.2 : Value).ownBlock ∧ some k_ ≠ (.slice Ao16 x7_2.length co16 : Value).ownBlock) s_.2.1 y503) ∧ (Kd.R (Kd.int .i64) 3 w' w.heap.size (fun k_ => some k_ ≠ (s_.1 : Value).ownBlock ∧ some k_ ≠ (s_.2.1 : Value).ownBlock ∧ some k_ ≠ (.slice Ao16 x7_2.length co16 : Value).ownBlock) s_.2.2 y506) ∧ (Kd.R (Kd.int .i64) 3 w' w.heap.size (fun k_ => some k_ ≠ (s_.1 : Value).ownBlock ∧ some k_ ≠ (s_.2.1 : Value).ownBlock ∧ some k_ ≠ (s_.2.2 : Value).ownBlock) (.slice Ao16 x7_2.length co16) x7_2) ∧ (w'.heap[gb493]? = some (.cells #[.int .i64 a0_0, .int .i64 a0_1, .slice A0_2 l0_2.length c0_2] 26 (0, 0))) ∧ (Below w.heap.size w w')) ?_ ?_
          rotate_left
          ·
           intro hCont
           refine two_ (i := 4) (j := 14) (Ni := some 32) (Nj := some 42) (Fn.bl 18 16351) (Fn.bl 18 32719) rfl rfl rfl rfl (two_of HT_.out (by kernel_rfl)) (by decide) (by decide) (fun K hK => ?_) (fun K hK => ?_)
           ·
            skip
            refine Kd.R_lit_step (Kd.int .i64) _ 3 ?hg (N := 32) ?hd (xs := ([wrap64 (x14_1 + x19_2)] : List Int)) (inner := [.int .i64 (wrap64 (x14_1 + x19_2))]) (ok := fun _ => True) (okp := fun _ => True) ?hr ?hp (fun _ hk => hk) trivial (Below.refl _ _) (Nat.le_refl _) (by simp) ?_; (case hd => rfl); (case hg => rfl); (case hr => first | (go_simp; done) | (go_simp; rfl)); (case hp => exact (Reps.one (show Kd.M (Kd.int .i64) _ _ _ (wrap64 (x14_1 + x19_2)) [.int .i64 (wrap64 (x14_1 + x19_2))] from rfl) (Reps.none _ _)))
            intro v501 w18 ho19 hb hg_ hnew_
            clear hg_ hnew_
            (first | rw [← Ny500.out] at ho19 | (simp only [Int.reduceToNat] at ho19; rw [← Ny500.out] at ho19))
            have n0_ := A_ (Kd.R_elder' (tr_x HO_6.out) (Kd.R_base ho19) hb)
            have n1_ := A_ (Kd.R_elder' (tr_x HO_7.out) (Kd.R_base ho19) hb)
            have n2_ := A_ (Kd.R_lower (Kd.R_new' (Kd.R_new' ho19 (Kd.R_lt (tr_x HO_6.out))) (Kd.R_lt (tr_x HO_7.out))) (below_size tb_))
            have n3_ := A_ (blk_below (g := gb493) (o := .cells #[.int .i64 a0_0, .int .i64 a0_1, .slice A0_2 l0_2.length c0_2] 26 (0, 0)) (tk_ BK493) hb)
            have n4_ := A_ (below_step tb_ hb)
            clear HO_6
            clear HO_7
            clear BK493
            clear HB
            have HO_6 := n0_
            have HO_7 := n1_
            have HO502 := n2_
            have BK493 := n3_
            have HB := n4_
            clear n0_ n1_ n2_ n3_ n4_
            clear hb ho19
            obtain ⟨Ao21, co21, eo21⟩ := Kd.R_slice HO502.out
            (first | subst eo21 | (injection eo21 with f1_ f2_ f3_; have f4_ := f1_.symm; have f5_ := f3_.symm; clear f1_ f2_ f3_; subst f4_; subst f5_))
            refine hK.out _ _ ⟨(blk_cell BK493.out 0).trans rfl, (blk_cell BK493.out 1).trans rfl, (blk_cell BK493.out 2).trans rfl⟩ (fun hHeld => ?_)
            clear hK K
            refine norm_ (a' := ?_) ?_ ?_
            rotate_left
            ·
             show Act.put _ (some 32) _ = _
             simp only [Act.put, List.setIfInBounds_toArray, List.set_cons_zero, List.set_cons_succ, i64_w, i32_w]
             rfl
            refine two_ (i := 5) (j := 14) (Ni := some 33) (Nj := some 42) (Fn.bl 18 16383) (Fn.bl 18 32735) rfl rfl rfl rfl (two_of HT_.out (by kernel_rfl)) (by decide) (by decide) (fun K hK => ?_) (fun K hK => ?_)
            ·
             skip
             refine Kd.R_append_rows_step (Kd.int .i64) (w0 := w) w.heap.size (by rfl) (.tmp 28) (.tmp 32) 24 3 (.int .i64 0) 8 rfl Try.underlying24 info3 rfl (by decide) (by omega) (.slice Ao15 x6_2.length co15) x6_2 y500 _ _ _ (fun k_ => some k_ ≠ (.slice Ao16 x7_2.length co16 : Value).ownBlock ∧ some k_ ≠ (.slice Ao21 y500.length co21 : Value).ownBlock) (fun _ => False) rfl rfl ?aO ?aR (fun _ _ h => h) (fun _ h => h.elim) ?aF ?aB ?aS ?aL ?_
             (case aR => exact tc0_ (Kd.R_reads' HO502.out).2.2)
             (case aB => exact tb_)
             (case aF => exact (fun k_ hk => ⟨Kd.fresh' (Kd.R_lt (tr_x HO_7.out)) k_ hk, Kd.fresh' (Kd.R_lt (tr_x HO502.out)) k_ hk⟩))
             (case aO => exact (tr_x HO_6.out))
             (case aS => exact (below_size tb_))
             (case aL => have := LMc13.out; omega)
             intro v504 w20 ho hb hg hat
             rw [← Ny503.out] at ho
             have n0_ := A_ (Kd.R_after (ok := (fun k_ => some k_ ≠ (.slice Ao21 y500.length co21 : Value).ownBlock)) (tr_ (h := by exact Kd.R_mono HO_7.out om_)) hg hat)
             have n1_ := A_ (blk_grown (g := gb493) (o := .cells #[.int .i64 a0_0, .int .i64 a0_1, .slice A0_2 l0_2.length c0_2] 26 (0, 0)) (tk_ BK493) hg (Kd.R_ne HO_6.out BK493.out (by decide)))
             have n2_ := A_ (Kd.R_after (ok := (fun k_ => some k_ ≠ (.slice Ao16 x7_2.length co16 : Value).ownBlock)) (tr_ (h := by exact Kd.R_mono HO502.out om_)) hg hat)
             have n3_ := A_ (hb)
             have n4_ := A_ (ho)
             clear HO_7
             clear BK493
             clear HO502
             clear HB
             clear HO_6
             have HO_7 := n0_
             have BK493 := n1_
             have HO502 := n2_
             have HB := n3_
             have HO505 := n4_
             clear n0_ n1_ n2_ n3_ n4_
             clear ho hb hg hat
             refine hK.out _ _ ⟨(blk_cell BK493.out 0).trans rfl, (blk_cell BK493.out 1).trans rfl, (blk_cell BK493.out 2).trans rfl⟩ (fun hHeld => ?_)
             clear hK K
             refine norm_ (a' := ?_) ?_ ?_
             rotate_left
             ·
              show Act.put _ (some 33) _ = _
              simp only [Act.put, List.setIfInBounds_toArray, List.set_cons_zero, List.set_cons_succ, i64_w, i32_w]
              rfl
             refine one_ (i := 14) (N := some 42) (Fn.bl 18 32767) rfl rfl (one_of HT_.out (by kernel_rfl)) (by decide) (fun K hK => ?_)
             refine Kd.R_lit_step (Kd.int .i64) _ 3 ?hg (N := 42) ?hd (xs := ([wrap64 ((wrap64 ((wrap64 (x14_1 - x19_2)) + a0_1)) - 1)] : List Int)) (inner := [.int .i64 (wrap64 ((wrap64 ((wrap64 (x14_1 - x19_2)) + a0_1)) - 1))]) (ok := fun _ => True) (okp := fun _ => True) ?hr ?hp (fun _ hk => hk) trivial (Below.refl _ _) (Nat.le_refl _) (by simp) ?_; (case hd => rfl); (case hg => rfl); (case hr => first | (go_simp; done) | (go_simp; rfl)); (case hp => exact (Reps.one (show Kd.M (Kd.int .i64) _ _ _ (wrap64 ((wrap64 ((wrap64 (x14_1 - x19_2)) + a0_1)) - 1)) [.int .i64 (wrap64 ((wrap64 ((wrap64 (x14_1 - x19_2)) + a0_1)) - 1))] from rfl) (Reps.none _ _)))
             intro v507 w22 ho23 hb hg_ hnew_
             clear hg_ hnew_
             (first | rw [← Ny506.out] at ho23 | (simp only [Int.reduceToNat] at ho23; rw [← Ny506.out] at ho23))
             have n0_ := A_ (Kd.R_elder' (tr_x HO_7.out) (Kd.R_base ho23) hb)
             have n1_ := A_ (Kd.R_elder' (tr_x HO502.out) (Kd.R_base ho23) hb)
             have n2_ := A_ (Kd.R_elder' (tr_x HO505.out) (Kd.R_base ho23) hb)
             have n3_ := A_ (Kd.R_lower (Kd.R_new' (Kd.R_new' (Kd.R_new' ho23 (Kd.R_lt (tr_x HO_7.out))) (Kd.R_lt (tr_x HO502.out))) (Kd.R_lt (tr_x HO505.out))) (below_size tb_))
             have n4_ := A_ (blk_below (g := gb493) (o := .cells #[.int .i64 a0_0, .int .i64 a0_1, .slice A0_2 l0_2.length c0_2] 26 (0, 0)) (tk_ BK493) hb)
             have n5_ := A_ (below_step tb_ hb)
             clear HO_7
             clear HO502
             clear HO505
             clear BK493
             clear HB
             have HO_7 := n0_
             have HO502 := n1_
             have HO505 := n2_
             have HO508 := n3_
             have BK493 := n4_
             have HB := n5_
             clear n0_ n1_ n2_ n3_ n4_ n5_
             clear hb ho23
             refine hK.out _ _ ⟨(blk_cell BK493.out 0).trans rfl, (blk_cell BK493.out 1).trans rfl, (blk_cell BK493.out 2).trans rfl⟩ (fun hHeld => ?_)
             clear hK K
             refine norm_ (a' := ?_) ?_ ?_
             rotate_left
             ·
              show Act.put _ (some 42) _ = _
              simp only [Act.put, List.setIfInBounds_toArray, List.set_cons_zero, List.set_cons_succ, i64_w, i32_w]
              rfl
             exact norm_ (by simp only [putAll, Act.put, List.setIfInBounds_toArray, List.set_cons_zero, List.set_cons_succ]) (hCont (.slice Ao21 y500.length co21, v504, v507) _ ⟨hHeld, (tr_ (h := by exact Kd.R_mono HO502.out om_)), (tr_ (h := by exact Kd.R_mono HO505.out om_)), (tr_ (h := by exact Kd.R_mono HO508.out om_)), (tr_ (h := by exact Kd.R_mono HO_7.out om_)), (tk_ BK493), tb_⟩)
            ·
             skip
             refine Kd.R_lit_step (Kd.int .i64) _ 3 ?hg (N := 42) ?hd (xs := ([wrap64 ((wrap64 ((wrap64 (x14_1 - x19_2)) + a0_1)) - 1)] : List Int)) (inner := [.int .i64 (wrap64 ((wrap64 ((wrap64 (x14_1 - x19_2)) + a0_1)) - 1))]) (ok := fun _ => True) (okp := fun _ => True) ?hr ?hp (fun _ hk => hk) trivial (Below.refl _ _) (Nat.le_refl _) (by simp) ?_; (case hd => rfl); (case hg => rfl); (case hr => first | (go_simp; done) | (go_simp; rfl)); (case hp => exact (Reps.one (show Kd.M (Kd.int .i64) _ _ _ (wrap64 ((wrap64 ((wrap64 (x14_1 - x19_2)) + a0_1)) - 1)) [.int .i64 (wrap64 ((wrap64 ((wrap64 (x14_1 - x19_2)) + a0_1)) - 1))] from rfl) (Reps.none _ _)))
             intro v507 w20 ho21 hb hg_ hnew_
             clear hg_ hnew_
             (first | rw [← Ny506.out] at ho21 | (simp only [Int.reduceToNat] at ho21; rw [← Ny506.out] at ho21))
             have n0_ := A_ (Kd.R_elder' (tr_x HO_6.out) (Kd.R_base ho21) hb)
             have n1_ := A_ (Kd.R_elder' (tr_x HO_7.out) (Kd.R_base ho21) hb)
             have n2_ := A_ (Kd.R_elder' (tr_x HO502.out) (Kd.R_base ho21) hb)
             have n3_ := A_ (Kd.R_lower (Kd.R_new' (Kd.R_new' (Kd.R_new' ho21 (Kd.R_lt (tr_x HO_6.out))) (Kd.R_lt (tr_x HO_7.out))) (Kd.R_lt (tr_x HO502.out))) (below_size tb_))
             have n4_ := A_ (blk_below (g := gb493) (o := .cells #[.int .i64 a0_0, .int .i64 a0_1, .slice A0_2 l0_2.length c0_2] 26 (0, 0)) (tk_ BK493) hb)
             have n5_ := A_ (below_step tb_ hb)
             clear HO_6
             clear HO_7
             clear HO502
             clear BK493
             clear HB
             have HO_6 := n0_
             have HO_7 := n1_
             have HO502 := n2_
             have HO508 := n3_
             have BK493 := n4_
             have HB := n5_
             clear n0_ n1_ n2_ n3_ n4_ n5_
             clear hb ho21
             obtain ⟨Ao23, co23, eo23⟩ := Kd.R_slice HO502.out
             (first | subst eo23 | (injection eo23 with f1_ f2_ f3_; have f4_ := f1_.symm; have f5_ := f3_.symm; clear f1_ f2_ f3_; subst f4_; subst f5_))
             refine hK.out _ _ ⟨(blk_cell BK493.out 0).trans rfl, (blk_cell BK493.out 1).trans rfl, (blk_cell BK493.out 2).trans rfl⟩ (fun hHeld => ?_)
             clear hK K
             refine norm_ (a' := ?_) ?_ ?_
             rotate_left
             ·
              show Act.put _ (some 42) _ = _
              simp only [Act.put, List.setIfInBounds_toArray, List.set_cons_zero, List.set_cons_succ, i64_w, i32_w]
              rfl
             refine one_ (i := 5) (N := some 33) (Fn.bl 18 32767) rfl rfl (one_of HT_.out (by kernel_rfl)) (by decide) (fun K hK => ?_)
             refine Kd.R_append_rows_step (Kd.int .i64) (w0 := w) w.heap.size (by rfl) (.tmp 28) (.tmp 32) 24 3 (.int .i64 0) 8 rfl Try.underlying24 info3 rfl (by decide) (by omega) (.slice Ao15 x6_2.length co15) x6_2 y500 _ _ _ (fun k_ => some k_ ≠ (.slice Ao16 x7_2.length co16 : Value).ownBlock ∧ some k_ ≠ (.slice Ao23 y500.length co23 : Value).ownBlock ∧ some k_ ≠ (v507 : Value).ownBlock) (fun _ => False) rfl rfl ?aO ?aR (fun _ _ h => h) (fun _ h => h.elim) ?aF ?aB ?aS ?aL ?_
             (case aR => exact tc0_ (Kd.R_reads' HO502.out).2.2)
             (case aB => exact tb_)
             (case aF => exact (fun k_ hk => ⟨Kd.fresh' (Kd.R_lt (tr_x HO_7.out)) k_ hk, Kd.fresh' (Kd.R_lt (tr_x HO502.out)) k_ hk, Kd.fresh' (Kd.R_lt (tr_x HO508.out)) k_ hk⟩))
             (case aO => exact (tr_ (h := by exact Kd.R_mono HO_6.out om_)))
             (case aS => exact (below_size tb_))
             (case aL => have := LMc13.out; omega)
             intro v504 w22 ho hb hg hat
             rw [← Ny503.out] at ho
             have n0_ := A_ (Kd.R_after (ok := (fun k_ => some k_ ≠ (.slice Ao23 y500.length co23 : Value).ownBlock ∧ some k_ ≠ (v507 : Value).ownBlock)) (tr_ (h := by exact Kd.R_mono HO_7.out om_)) hg hat)
             have n1_ := A_ (blk_grown (g := gb493) (o := .cells #[.int .i64 a0_0, .int .i64 a0_1, .slice A0_2 l0_2.length c0_2] 26 (0, 0)) (tk_ BK493) hg (Kd.R_ne HO_6.out BK493.out (by decide)))
             have n2_ := A_ (Kd.R_after (ok := (fun k_ => some k_ ≠ (.slice Ao16 x7_2.length co16 : Value).ownBlock ∧ some k_ ≠ (v507 : Value).ownBlock)) (tr_ (h := by exact Kd.R_mono HO502.out om_)) hg hat)
             have n3_ := A_ (Kd.R_after (ok := (fun k_ => some k_ ≠ (.slice Ao16 x7_2.length co16 : Value).ownBlock ∧ some k_ ≠ (.slice Ao23 y500.length co23 : Value).ownBlock)) (tr_ (h := by exact Kd.R_mono HO508.out om_)) hg hat)
             have n4_ := A_ (hb)
             have n5_ := A_ (ho)
             clear HO_7
             clear BK493
             clear HO502
             clear HO508
             clear HB
             clear HO_6
             have HO_7 := n0_
             have BK493 := n1_
             have HO502 := n2_
             have HO508 := n3_
             have HB := n4_
             have HO505 := n5_
             clear n0_ n1_ n2_ n3_ n4_ n5_
             clear ho hb hg hat
             refine hK.out _ _ ⟨(blk_cell BK493.out 0).trans rfl, (blk_cell BK493.out 1).trans rfl, (blk_cell BK493.out 2).trans rfl⟩ (fun hHeld => ?_)
             clear hK K
             refine norm_ (a' := ?_) ?_ ?_
             rotate_left
             ·
              show Act.put _ (some 33) _ = _
              simp only [Act.put, List.setIfInBounds_toArray, List.set_cons_zero, List.set_cons_succ, i64_w, i32_w]
              rfl
             exact norm_ (by simp only [putAll, Act.put, List.setIfInBounds_toArray, List.set_cons_zero, List.set_cons_succ]) (hCont (.slice Ao23 y500.length co23, v504, v507) _ ⟨hHeld, (tr_ (h := by exact Kd.R_mono HO502.out om_)), (tr_ (h := by exact Kd.R_mono HO505.out om_)), (tr_ (h := by exact Kd.R_mono HO508.out om_)), (tr_ (h := by exact Kd.R_mono HO_7.out om_)), (tk_ BK493), tb_⟩)
           ·
            skip
            refine Kd.R_lit_step (Kd.int .i64) _ 3 ?hg (N := 42) ?hd (xs := ([wrap64 ((wrap64 ((wrap64 (x14_1 - x19_2)) + a0_1)) - 1)] : List Int)) (inner := [.int .i64 (wrap64 ((wrap64 ((wrap64 (x14_1 - x19_2)) + a0_1)) - 1))]) (ok := fun _ => True) (okp := fun _ => True) ?hr ?hp (fun _ hk => hk) trivial (Below.refl _ _) (Nat.le_refl _) (by simp) ?_; (case hd => rfl); (case hg => rfl); (case hr => first | (go_simp; done) | (go_simp; rfl)); (case hp => exact (Reps.one (show Kd.M (Kd.int .i64) _ _ _ (wrap64 ((wrap64 ((wrap64 (x14_1 - x19_2)) + a0_1)) - 1)) [.int .i64 (wrap64 ((wrap64 ((wrap64 (x14_1 - x19_2)) + a0_1)) - 1))] from rfl) (Reps.none _ _)))
            intro v507 w18 ho19 hb hg_ hnew_
            clear hg_ hnew_
            (first | rw [← Ny506.out] at ho19 | (simp only [Int.reduceToNat] at ho19; rw [← Ny506.out] at ho19))
            have n0_ := A_ (Kd.R_elder' (tr_x HO_6.out) (Kd.R_base ho19) hb)
            have n1_ := A_ (Kd.R_elder' (tr_x HO_7.out) (Kd.R_base ho19) hb)
            have n2_ := A_ (Kd.R_lower (Kd.R_new' (Kd.R_new' ho19 (Kd.R_lt (tr_x HO_6.out))) (Kd.R_lt (tr_x HO_7.out))) (below_size tb_))
            have n3_ := A_ (blk_below (g := gb493) (o := .cells #[.int .i64 a0_0, .int .i64 a0_1, .slice A0_2 l0_2.length c0_2] 26 (0, 0)) (tk_ BK493) hb)
            have n4_ := A_ (below_step tb_ hb)
            clear HO_6
            clear HO_7
            clear BK493
            clear HB
            have HO_6 := n0_
            have HO_7 := n1_
            have HO508 := n2_
            have BK493 := n3_
            have HB := n4_
            clear n0_ n1_ n2_ n3_ n4_
            clear hb ho19
            refine hK.out _ _ ⟨(blk_cell BK493.out 0).trans rfl, (blk_cell BK493.out 1).trans rfl, (blk_cell BK493.out 2).trans rfl⟩ (fun hHeld => ?_)
            clear hK K
            refine norm_ (a' := ?_) ?_ ?_
            rotate_left
            ·
             show Act.put _ (some 42) _ = _
             simp only [Act.put, List.setIfInBounds_toArray, List.set_cons_zero, List.set_cons_succ, i64_w, i32_w]
             rfl
            refine one_ (i := 4) (N := some 32) (Fn.bl 18 32735) rfl rfl (one_of HT_.out (by kernel_rfl)) (by decide) (fun K hK => ?_)
            refine Kd.R_lit_step (Kd.int .i64) _ 3 ?hg (N := 32) ?hd (xs := ([wrap64 (x14_1 + x19_2)] : List Int)) (inner := [.int .i64 (wrap64 (x14_1 + x19_2))]) (ok := fun _ => True) (okp := fun _ => True) ?hr ?hp (fun _ hk => hk) trivial (Below.refl _ _) (Nat.le_refl _) (by simp) ?_; (case hd => rfl); (case hg => rfl); (case hr => first | (go_simp; done) | (go_simp; rfl)); (case hp => exact (Reps.one (show Kd.M (Kd.int .i64) _ _ _ (wrap64 (x14_1 + x19_2)) [.int .i64 (wrap64 (x14_1 + x19_2))] from rfl) (Reps.none _ _)))
            intro v501 w20 ho21 hb hg_ hnew_
            clear hg_ hnew_
            (first | rw [← Ny500.out] at ho21 | (simp only [Int.reduceToNat] at ho21; rw [← Ny500.out] at ho21))
            have n0_ := A_ (Kd.R_elder' (tr_x HO_6.out) (Kd.R_base ho21) hb)
            have n1_ := A_ (Kd.R_elder' (tr_x HO_7.out) (Kd.R_base ho21) hb)
            have n2_ := A_ (Kd.R_elder' (tr_x HO508.out) (Kd.R_base ho21) hb)
            have n3_ := A_ (Kd.R_lower (Kd.R_new' (Kd.R_new' (Kd.R_new' ho21 (Kd.R_lt (tr_x HO_6.out))) (Kd.R_lt (tr_x HO_7.out))) (Kd.R_lt (tr_x HO508.out))) (below_size tb_))
            have n4_ := A_ (blk_below (g := gb493) (o := .cells #[.int .i64 a0_0, .int .i64 a0_1, .slice A0_2 l0_2.length c0_2] 26 (0, 0)) (tk_ BK493) hb)
            have n5_ := A_ (below_step tb_ hb)
            clear HO_6
            clear HO_7
            clear HO508
            clear BK493
            clear HB
            have HO_6 := n0_
            have HO_7 := n1_
            have HO508 := n2_
            have HO502 := n3_
            have BK493 := n4_
            have HB := n5_
            clear n0_ n1_ n2_ n3_ n4_ n5_
            clear hb ho21
            obtain ⟨Ao23, co23, eo23⟩ := Kd.R_slice HO502.out
            (first | subst eo23 | (injection eo23 with f1_ f2_ f3_; have f4_ := f1_.symm; have f5_ := f3_.symm; clear f1_ f2_ f3_; subst f4_; subst f5_))
            refine hK.out _ _ ⟨(blk_cell BK493.out 0).trans rfl, (blk_cell BK493.out 1).trans rfl, (blk_cell BK493.out 2).trans rfl⟩ (fun hHeld => ?_)
            clear hK K
            refine norm_ (a' := ?_) ?_ ?_
            rotate_left
            ·
             show Act.put _ (some 32) _ = _
             simp only [Act.put, List.setIfInBounds_toArray, List.set_cons_zero, List.set_cons_succ, i64_w, i32_w]
             rfl
            refine one_ (i := 5) (N := some 33) (Fn.bl 18 32767) rfl rfl (one_of HT_.out (by kernel_rfl)) (by decide) (fun K hK => ?_)
            refine Kd.R_append_rows_step (Kd.int .i64) (w0 := w) w.heap.size (by rfl) (.tmp 28) (.tmp 32) 24 3 (.int .i64 0) 8 rfl Try.underlying24 info3 rfl (by decide) (by omega) (.slice Ao15 x6_2.length co15) x6_2 y500 _ _ _ (fun k_ => some k_ ≠ (.slice Ao16 x7_2.length co16 : Value).ownBlock ∧ some k_ ≠ (v507 : Value).ownBlock ∧ some k_ ≠ (.slice Ao23 y500.length co23 : Value).ownBlock) (fun _ => False) rfl rfl ?aO ?aR (fun _ _ h => h) (fun _ h => h.elim) ?aF ?aB ?aS ?aL ?_
            (case aR => exact tc0_ (Kd.R_reads' HO502.out).2.2)
            (case aB => exact tb_)
            (case aF => exact (fun k_ hk => ⟨Kd.fresh' (Kd.R_lt (tr_x HO_7.out)) k_ hk, Kd.fresh' (Kd.R_lt (tr_x HO508.out)) k_ hk, Kd.fresh' (Kd.R_lt (tr_x HO502.out)) k_ hk⟩))
            (case aO => exact (tr_ (h := by exact Kd.R_mono HO_6.out om_)))
            (case aS => exact (below_size tb_))
            (case aL => have := LMc13.out; omega)
            intro v504 w22 ho hb hg hat
            rw [← Ny503.out] at ho
            have n0_ := A_ (Kd.R_after (ok := (fun k_ => some k_ ≠ (v507 : Value).ownBlock ∧ some k_ ≠ (.slice Ao23 y500.length co23 : Value).ownBlock)) (tr_ (h := by exact Kd.R_mono HO_7.out om_)) hg hat)
            have n1_ := A_ (blk_grown (g := gb493) (o := .cells #[.int .i64 a0_0, .int .i64 a0_1, .slice A0_2 l0_2.length c0_2] 26 (0, 0)) (tk_ BK493) hg (Kd.R_ne HO_6.out BK493.out (by decide)))
            have n2_ := A_ (Kd.R_after (ok := (fun k_ => some k_ ≠ (.slice Ao16 x7_2.length co16 : Value).ownBlock ∧ some k_ ≠ (.slice Ao23 y500.length co23 : Value).ownBlock)) (tr_ (h := by exact Kd.R_mono HO508.out om_)) hg hat)
            have n3_ := A_ (Kd.R_after (ok := (fun k_ => some k_ ≠ (.slice Ao16 x7_2.length co16 : Value).ownBlock ∧ some k_ ≠ (v507 : Value).ownBlock)) (tr_ (h := by exact Kd.R_mono HO502.out om_)) hg hat)
            have n4_ := A_ (hb)
            have n5_ := A_ (ho)
            clear HO_7
            clear BK493
            clear HO508
            clear HO502
            clear HB
            clear HO_6
            have HO_7 := n0_
            have BK493 := n1_
            have HO508 := n2_
            have HO502 := n3_
            have HB := n4_
            have HO505 := n5_
            clear n0_ n1_ n2_ n3_ n4_ n5_
            clear ho hb hg hat
            refine hK.out _ _ ⟨(blk_cell BK493.out 0).trans rfl, (blk_cell BK493.out 1).trans rfl, (blk_cell BK493.out 2).trans rfl⟩ (fun hHeld => ?_)
            clear hK K
            refine norm_ (a' := ?_) ?_ ?_
            rotate_left
            ·
             show Act.put _ (some 33) _ = _
             simp only [Act.put, List.setIfInBounds_toArray, List.set_cons_zero, List.set_cons_succ, i64_w, i32_w]
             rfl
            exact norm_ (by simp only [putAll, Act.put, List.setIfInBounds_toArray, List.set_cons_zero, List.set_cons_succ]) (hCont (.slice Ao23 y500.length co23, v504, v507) _ ⟨hHeld, (tr_ (h := by exact Kd.R_mono HO502.out om_)), (tr_ (h := by exact Kd.R_mono HO505.out om_)), (tr_ (h := by exact Kd.R_mono HO508.out om_)), (tr_ (h := by exact Kd.R_mono HO_7.out om_)), (tk_ BK493), tb_⟩)
          rintro ⟨v501, v504, v507⟩ w24 ⟨hS_, h0_, h1_, h2_, h3_, h4_, h5_⟩
          have n0_ : Aside0 (Kd.R (Kd.int .i64) 3 w24 w.heap.size (fun k_ => some k_ ≠ (v504 : Value).ownBlock ∧ some k_ ≠ (v507 : Value).ownBlock ∧ some k_ ≠ (.slice Ao16 x7_2.length co16 : Value).ownBlock) v501 y500) := ⟨h0_⟩
          have n1_ : Aside0 (Kd.R (Kd.int .i64) 3 w24 w.heap.size (fun k_ => some k_ ≠ (v501 : Value).ownBlock ∧ some k_ ≠ (v507 : Value).ownBlock ∧ some k_ ≠ (.slice Ao16 x7_2.length co16 : Value).ownBlock) v504 y503) := ⟨h1_⟩
          have n2_ : Aside0 (Kd.R (Kd.int .i64) 3 w24 w.heap.size (fun k_ => some k_ ≠ (v501 : Value).ownBlock ∧ some k_ ≠ (v504 : Value).ownBlock ∧ some k_ ≠ (.slice Ao16 x7_2.length co16 : Value).ownBlock) v507 y506) := ⟨h2_⟩
          have n3_ : Aside0 (Kd.R (Kd.int .i64) 3 w24 w.heap.size (fun k_ => some k_ ≠ (v501 : Value).ownBlock ∧ some k_ ≠ (v504 : Value).ownBlock ∧ some k_ ≠ (v507 : Value).ownBlock) (.slice Ao16 x7_2.length co16) x7_2) := ⟨h3_⟩
          have n4_ : Aside0 (w24.heap[gb493]? = some (.cells #[.int .i64 a0_0, .int .i64 a0_1, .slice A0_2 l0_2.length c0_2] 26 (0, 0))) := ⟨h4_⟩
          have n5_ : Aside0 (Below w.heap.size w w24) := ⟨h5_⟩
          clear HO_6
          clear HO_7
          clear BK493
          clear HB
          clear h0_ h1_ h2_ h3_ h4_ h5_
          have HO502 := n0_
          have HO505 := n1_
          have HO508 := n2_
          have HO_7 := n3_
          have BK493 := n4_
          have HB := n5_
          clear n0_ n1_ n2_ n3_ n4_ n5_
          have hHeld : w24.cell? ⟨gb493, 0, none⟩ = some (.int .i64 a0_0) ∧ w24.cell? ⟨gb493, 1, none⟩ = some (.int .i64 a0_1) ∧ w24.cell? ⟨gb493, 2, none⟩ = some (.slice A0_2 l0_2.length c0_2) := hS_
          obtain ⟨Ao26, co26, eo26⟩ := Kd.R_slice HO508.out
          (first | subst eo26 | (injection eo26 with f1_ f2_ f3_; have f4_ := f1_.symm; have f5_ := f3_.symm; clear f1_ f2_ f3_; subst f4_; subst f5_))
          refine norm_ (a' := ?_) ?_ ?_
          rotate_left
          ·
           simp only [putAll, Act.put, List.setIfInBounds_toArray, List.set_cons_zero, List.set_cons_succ]
           rfl
          refine one_ (i := 15) (N := some 43) (Fn.bl 18 65535) rfl rfl (one_of HT_.out (by kernel_rfl)) (by decide) (fun K hK => ?_)
          refine Kd.R_append_rows_step (Kd.int .i64) (w0 := w) w.heap.size (by rfl) (.tmp 34) (.tmp 42) 24 3 (.int .i64 0) 8 rfl Try.underlying24 info3 rfl (by decide) (by omega) (.slice Ao16 x7_2.length co16) x7_2 y506 _ _ _ (fun k_ => some k_ ≠ (v501 : Value).ownBlock ∧ some k_ ≠ (v504 : Value).ownBlock ∧ some k_ ≠ (.slice Ao26 y506.length co26 : Value).ownBlock) (fun _ => False) rfl rfl ?aO ?aR (fun _ _ h => h) (fun _ h => h.elim) ?aF ?aB ?aS ?aL ?_
          (case aR => exact tc0_ (Kd.R_reads' HO508.out).2.2)
          (case aB => exact tb_)
          (case aF => exact (fun k_ hk => ⟨Kd.fresh' (Kd.R_lt (tr_x HO502.out)) k_ hk, Kd.fresh' (Kd.R_lt (tr_x HO505.out)) k_ hk, Kd.fresh' (Kd.R_lt (tr_x HO508.out)) k_ hk⟩))
          (case aO => exact (tr_x HO_7.out))
          (case aS => exact (below_size tb_))
          (case aL => have := LMc14.out; omega)
          intro v510 w25 ho hb hg hat
          rw [← Ny509.out] at ho
          have n0_ := A_ (blk_grown (g := gb493) (o := .cells #[.int .i64 a0_0, .int .i64 a0_1, .slice A0_2 l0_2.length c0_2] 26 (0, 0)) (tk_ BK493) hg (Kd.R_ne HO_7.out BK493.out (by decide)))
          have n1_ := A_ (Kd.R_after (ok := (fun k_ => some k_ ≠ (v504 : Value).ownBlock ∧ some k_ ≠ (.slice Ao26 y506.length co26 : Value).ownBlock)) (tr_ (h := by exact Kd.R_mono HO502.out om_)) hg hat)
          have n2_ := A_ (Kd.R_after (ok := (fun k_ => some k_ ≠ (v501 : Value).ownBlock ∧ some k_ ≠ (.slice Ao26 y506.length co26 : Value).ownBlock)) (tr_ (h := by exact Kd.R_mono HO505.out om_)) hg hat)
          have n3_ := A_ (Kd.R_after (ok := (fun k_ => some k_ ≠ (v501 : Value).ownBlock ∧ some k_ ≠ (v504 : Value).ownBlock)) (tr_ (h := by exact Kd.R_mono HO508.out om_)) hg hat)
          have n4_ := A_ (hb)
          have n5_ := A_ (ho)
          clear BK493
          clear HO502
          clear HO505
          clear HO508
          clear HB
          clear HO_7
          have BK493 := n0_
          have HO502 := n1_
          have HO505 := n2_
          have HO508 := n3_
          have HB := n4_
          have HO511 := n5_
          clear n0_ n1_ n2_ n3_ n4_ n5_
          clear ho hb hg hat
          refine hK.out _ _ ⟨(blk_cell BK493.out 0).trans rfl, (blk_cell BK493.out 1).trans rfl, (blk_cell BK493.out 2).trans rfl⟩ (fun hHeld => ?_)
          clear hK K
          refine norm_ (a' := ?_) ?_ ?_
          rotate_left
          ·
           show Act.put _ (some 43) _ = _
           simp only [Act.put, List.setIfInBounds_toArray, List.set_cons_zero, List.set_cons_succ, i64_w, i32_w]
           rfl
          refine pq_ 16 (some 6) (Fn.bl 18 131071) HT_.out ?_
          refine pq_ 17 (some 7) (Fn.bl 18 262143) HT_.out ?_
          refine done_ (done_of HT_.out (by kernel_rfl)) ?_
          try go_wp2
          go_roundg k2
          case measure => have := HK1.out; have := HK2.out; omega
          case rel => exact ⟨(y503), (y509), (wrap64 (x19_2 + 1)), tf_, H', ⟨by have := HK1.out; have := HK2.out; omega⟩, ⟨by (with_reducible repeat (first | apply Kd.R_alloc | apply Kd.R_drewN | apply Kd.R_drew)); exact Kd.R_mono HO505.out (fun _ hk => hk.2)⟩, ⟨by (with_reducible repeat (first | apply Kd.R_alloc | apply Kd.R_drewN | apply Kd.R_drew)); exact Kd.R_mono HO511.out (fun _ hk => hk.2.1)⟩, ⟨tk_ BK493⟩, ⟨tb_⟩⟩
         ·
          rw [if_neg c14] at H
          exact absurd H (by simp)
        ·
         rw [if_neg c13] at H
         exact absurd H (by simp)
       ·
        rw [if_neg c12] at H
        have c12b0 : ((Int.tmod (wrap64 (x14_1 + x19_2)) 2) == a1) = false := beq_eq_false_iff_ne.mpr c12
        have c12b1 : ((Int.tmod (wrap64 (x14_1 + x19_2)) 2) != a1) = true := bne_iff_ne.mpr c12
        have H' := A_ H
        clear H
        go_wp2
        go_roundg k2
        case measure => have := HK1.out; have := HK2.out; omega
        case rel => exact ⟨(x6_2), (x7_2), (wrap64 (x19_2 + 1)), tf_, H', ⟨by have := HK1.out; have := HK2.out; omega⟩, ⟨tr_x HO_6.out⟩, ⟨tr_x HO_7.out⟩, ⟨tk_ BK493⟩, ⟨tb_⟩⟩
      ·
       rw [if_neg c11] at H
       have c11b0 := decide_eq_false c11
       clear c11
       have H' := A_ H
       clear H
       go_wp2
       go_roundg k2
       case measure => have := HK1.out; have := HK2.out; omega
       case rel => exact ⟨(x6_2), (x7_2), (wrap64 (x14_1 + 1)), tf_, H', ⟨by have := HK1.out; have := HK2.out; omega⟩, ⟨tr_x HO_6.out⟩, ⟨tr_x HO_7.out⟩, ⟨tk_ BK493⟩, ⟨tb_⟩⟩
   ·
    rw [if_neg c9] at H
    have c9b0 := decide_eq_false c9
    clear c9
    replace H := Option.bind_eq_some_iff.mp H
    obtain ⟨t512, A270, H⟩ := H
    replace H : ((slices_Sort_int_int.f x7_1).bind fun t513 => ((slices_Compact_int_int.f t512).bind fun t514 => ((slices_Compact_int_int.f t513).bind fun t517 => (some (t514, t517))))) = some (r1, r2) := H
    have A27 := A_ A270
    clear A270
    replace H := Option.bind_eq_some_iff.mp H
    obtain ⟨t513, A280, H⟩ := H
    replace H : ((slices_Compact_int_int.f t512).bind fun t514 => ((slices_Compact_int_int.f t513).bind fun t517 => (some (t514, t517)))) = some (r1, r2) := H
    have A28 := A_ A280
    clear A280
    replace H := Option.bind_eq_some_iff.mp H
    obtain ⟨t514, A290, H⟩ := H
    replace H : ((slices_Compact_int_int.f t513).bind fun t517 => (some (t514, t517))) = some (r1, r2) := H
    have A29 := A_ A290
    clear A290
    replace H := Option.bind_eq_some_iff.mp H
    obtain ⟨t517, A300, H⟩ := H
    replace H : (some (t514, t517)) = some (r1, r2) := H
    have A30 := A_ A300
    clear A300
    simp only [Option.some.injEq, Prod.mk.injEq] at H
    obtain ⟨rfl, rfl⟩ := H
    obtain ⟨Ao31, co31, eo31⟩ := Kd.R_slice HO_6.out
    subst eo31
    go_wp2_with (first | (refine gc_ 154 ?_; refine goesT_ (some 47) Try.func154 #[.slice Ao31 x6_1.length co31] ?_; (with_reducible refine (slices_Sort_int_int.calls (fun k_ => some k_ = (.slice Ao31 x6_1.length co31 : Value).ownBlock) (.slice Ao31 x6_1.length co31) x6_1 t512 w _ ?side1 ?side2 A27.out).mono ?_); (case side1 => repeat (first | (with_reducible first | exact HB.out | apply below_alloc | apply pw_below_drewN | apply below_drew1 | refine below_set ?_ GE493.out) | exact HB.out)); (case side2 => exact Kd.R_tight rfl HO_6.out); rintro e w32 ⟨rfl, hy0, hb, hkp⟩; refine ⟨_, rfl, ?_⟩; replace HO_7 := A_ (Kd.R_mono (ok' := fun k_ => some k_ ≠ (.slice Ao31 x6_1.length co31 : Value).ownBlock) (Kd.R_keptB (HO_7.out) hkp (fun k_ hk_ hs_ => (hk_) hs_)) (fun k_ hk_ => hk_.1)); replace BK493 := A_ (blk_kept (tk_ BK493) hkp (fun hs_ => (fun e_ => (Kd.R_ne HO_6.out BK493.out (by decide)) e_) hs_)); replace HO_6 := A_ (Kd.R_reok rfl hy0 (fun k_ e_ => HO_6.out.1 k_ e_)); replace HB := A_ (hb); (try clear hb); (try clear hkp); (try clear hy0); obtain ⟨Ao33, co33, eo33⟩ := Kd.R_slice HO_7.out; subst eo33) | (refine gc_ 154 ?_; refine goesT_ (some 49) Try.func154 #[.slice Ao33 x7_1.length co33] ?_; (with_reducible refine (slices_Sort_int_int.calls (fun k_ => some k_ = (.slice Ao33 x7_1.length co33 : Value).ownBlock) (.slice Ao33 x7_1.length co33) x7_1 t513 w _ ?side1 ?side2 A28.out).mono ?_); (case side1 => repeat (first | (with_reducible first | exact HB.out | apply below_alloc | apply pw_below_drewN | apply below_drew1 | refine below_set ?_ GE493.out) | exact HB.out)); (case side2 => exact Kd.R_tight rfl HO_7.out); rintro e w34 ⟨rfl, hy0, hb, hkp⟩; refine ⟨_, rfl, ?_⟩; replace HO_6 := A_ (Kd.R_mono (ok' := fun k_ => some k_ ≠ (.slice Ao33 x7_1.length co33 : Value).ownBlock) (Kd.R_keptB (HO_6.out) hkp (fun k_ hk_ hs_ => (hk_) hs_)) (fun k_ hk_ => hk_.1)); replace BK493 := A_ (blk_kept (tk_ BK493) hkp (fun hs_ => (fun e_ => (Kd.R_ne HO_7.out BK493.out (by decide)) e_) hs_)); replace HO_7 := A_ (Kd.R_reok rfl hy0 (fun k_ e_ => HO_7.out.1 k_ e_)); replace HB := A_ (hb); (try clear hb); (try clear hkp); (try clear hy0)) | (refine gc_ 155 ?_; refine goesT_ (some 51) Try.func155 #[.slice Ao31 x6_1.length co31] ?_; (with_reducible refine (slices_Compact_int_int.calls (fun k_ => some k_ = (.slice Ao31 x6_1.length co31 : Value).ownBlock) (.slice Ao31 x6_1.length co31) t512 t514 w _ ?side1 ?side2 A29.out).mono ?_); (case side1 => repeat (first | (with_reducible first | exact HB.out | apply below_alloc | apply pw_below_drewN | apply below_drew1 | refine below_set ?_ GE493.out) | exact HB.out)); (case side2 => exact Kd.R_tight rfl HO_6.out); rintro e w35 ⟨v515, rfl, ho0, hb, hkp⟩; refine ⟨_, rfl, ?_⟩; have n0_ := A_ (Kd.R_mono (ok' := fun k_ => some k_ ≠ (v515 : Value).ownBlock) (Kd.R_keptB (HO_7.out) hkp (fun k_ hk_ hs_ => (hk_) hs_)) (fun k_ hk_ => fun e_ => Or.elim (ho0.1 k_ e_.symm) (fun hs_ => hk_.2.1 hs_) (fun hn_ => Nat.not_le.2 hk_.2.2 hn_))); have n1_ := A_ (blk_kept (tk_ BK493) hkp (fun hs_ => (fun e_ => (Kd.R_ne HO_6.out BK493.out (by decide)) e_) hs_)); have n2_ := A_ (Kd.R_mono (ok' := fun k_ => some k_ ≠ (.slice Ao33 x7_1.length co33 : Value).ownBlock) ho0 (fun k_ hk_ => Or.elim hk_ (fun hs_ => fun e_ => (((HO_7.out).1 k_ e_.symm)) hs_) (fun hn_ => (Kd.fresh' (Kd.R_lt (tr_x HO_7.out)) k_ hn_)))); have n3_ := A_ (hb); clear HO_7; clear BK493; clear HB; clear HO_6; have HO_7 := n0_; have BK493 := n1_; have HO516 := n2_; have HB := n3_; clear n0_ n1_ n2_ n3_; (try clear hb); (try clear hkp); (try clear ho0)) | (refine gc_ 155 ?_; refine goesT_ (some 53) Try.func155 #[.slice Ao33 x7_1.length co33] ?_; (with_reducible refine (slices_Compact_int_int.calls (fun k_ => some k_ = (.slice Ao33 x7_1.length co33 : Value).ownBlock) (.slice Ao33 x7_1.length co33) t513 t517 w _ ?side1 ?side2 A30.out).mono ?_); (case side1 => repeat (first | (with_reducible first | exact HB.out | apply below_alloc | apply pw_below_drewN | apply below_drew1 | refine below_set ?_ GE493.out) | exact HB.out)); (case side2 => exact Kd.R_tight rfl HO_7.out); rintro e w36 ⟨v518, rfl, ho0, hb, hkp⟩; refine ⟨_, rfl, ?_⟩; have n0_ := A_ (blk_kept (tk_ BK493) hkp (fun hs_ => (fun e_ => (Kd.R_ne HO_7.out BK493.out (by decide)) e_) hs_)); have n1_ := A_ (Kd.R_mono (ok' := fun k_ => some k_ ≠ (v518 : Value).ownBlock) (Kd.R_keptB (HO516.out) hkp (fun k_ hk_ hs_ => (hk_) hs_)) (fun k_ hk_ => fun e_ => Or.elim (ho0.1 k_ e_.symm) (fun hs_ => hk_.2.1 hs_) (fun hn_ => Nat.not_le.2 hk_.2.2 hn_))); have n2_ := A_ (Kd.R_mono (ok' := fun k_ => some k_ ≠ (v515 : Value).ownBlock) ho0 (fun k_ hk_ => Or.elim hk_ (fun hs_ => fun e_ => (((HO516.out).1 k_ e_.symm)) hs_) (fun hn_ => (Kd.fresh' (Kd.R_lt (tr_x HO516.out)) k_ hn_)))); have n3_ := A_ (hb); clear BK493; clear HO516; clear HB; clear HO_7; have BK493 := n0_; have HO516 := n1_; have HO519 := n2_; have HB := n3_; clear n0_ n1_ n2_ n3_; (try clear hb); (try clear hkp); (try clear ho0)))
    go_ret2
    exact ⟨_, _, te_, tr_x HO516.out, tr_x HO519.out, tb_⟩

/-! ### impl_within: function 104 -/
def impl_within.f (a0 : Int) (a1 : Int) (a2 : Int) : Option (Bool) := if a1 ≤ a0 then (some (decide (a0 ≤ a2))) else (some false)
theorem impl_within.calls (a0 : Int) (a1 : Int) (a2 : Int) (r : Bool) (w : World) (h : impl_within.f a0 a1 a2 = some r) :
  Calls Try.prog 104 #[.int .i64 a0, .int .i64 a1, .int .i64 a2] w fun e w' => e = .returned (.bool r) ∧ Drawn0 w w' := by
 have H : (if a1 ≤ a0 then (some (decide (a0 ≤ a2))) else (some false)) = some r := h
 clear h
 by_cases c4 : a1 ≤ a0
 ·
  rw [if_pos c4] at H
  have c4b0 := decide_eq_true c4
  clear c4
  obtain rfl := Option.some.inj H
  go_enter Try.func104, Try.ntmps104
  go_wp2
  go_ret
  exact ⟨tf_, dr_⟩
 ·
  rw [if_neg c4] at H
  have c4b0 := decide_eq_false c4
  clear c4
  obtain rfl := Option.some.inj H
  go_enter Try.func104, Try.ntmps104
  go_wp2
  go_ret
  exact ⟨tf_, dr_⟩

/-! ### impl_Board_place: function 81 -/
def impl_Board_place.f (a0_0 : Int) (a0_1 : Int) (l0_2 : List Int) (a1 : Int) (a2 : Int) : Option (Bool) := (impl_within.f a1 0 (wrap64 (a0_0 - 1))).bind fun t229 => (if t229 = true then ((impl_within.f a2 0 (wrap64 (a0_1 - 1))).bind fun t230 => (some t230)) else (some false))
theorem impl_Board_place.calls (a0_0 : Int) (a0_1 : Int) (A0_2 : Option Addr) (c0_2 : Nat) (l0_2 : List Int) (a1 : Int) (a2 : Int) (r : Bool) (w : World) (hr0_2 : Kd.C (Kd.int .i64) w A0_2 l0_2.length l0_2) (hc0_2 : l0_2.length ≤ c0_2) (h : impl_Board_place.f a0_0 a0_1 l0_2 a1 a2 = some r) :
  Calls Try.prog 81 #[.agg #[.int .i64 a0_0, .int .i64 a0_1, .slice A0_2 l0_2.length c0_2], .int .i64 a1, .int .i64 a2] w fun e w' => e = .returned (.bool r) ∧ Below w.heap.size w w' := by
 have hu26 := Try.underlying26
 have HR0_2 := A_ hr0_2
 have HC0_2 := A_ hc0_2
 clear hr0_2 hc0_2
 have HB := A_ (Below.refl w.heap.size w)
 have H : ((impl_within.f a1 0 (wrap64 (a0_0 - 1))).bind fun t229 => (if t229 = true then ((impl_within.f a2 0 (wrap64 (a0_1 - 1))).bind fun t230 => (some t230)) else (some false))) = some r := h
 clear h
 replace H := Option.bind_eq_some_iff.mp H
 obtain ⟨t229, A40, H⟩ := H
 replace H : (if t229 = true then ((impl_within.f a2 0 (wrap64 (a0_1 - 1))).bind fun t230 => (some t230)) else (some false)) = some r := H
 have A4 := A_ A40
 clear A40
 by_cases c5 : t229 = true
 ·
  subst c5
  have H1 : ((impl_within.f a2 0 (wrap64 (a0_1 - 1))).bind fun t230 => (some t230)) = some r := by rw [if_pos rfl] at H; exact H
  clear H
  have H := H1
  clear H1
  replace H := Option.bind_eq_some_iff.mp H
  obtain ⟨t230, A60, H⟩ := H
  replace H : (some t230) = some r := H
  have A6 := A_ A60
  clear A60
  obtain rfl := Option.some.inj H
  go_enter Try.func81, Try.ntmps81
  go_wp2_with (first | (refine gd_ 3 ?_; refine bx_ 3 #[.int .i64 a0_0, .int .i64 a0_1, .slice A0_2 l0_2.length c0_2] 26 ?_; intro gb228 hg w7 hbox hb; have BK228 := A_ (hbox); have GW228 := A_ ((ts_ hg : w.heap.size ≤ gb228)); have GE228 := A_ ((ts_ hg : w.heap.size ≤ gb228)); replace HB := A_ (below_step tb_ hb); clear hb hbox hg; obtain ⟨hcz8_0, hcz8_1, hcz8_2, hfz8_0, hfz8_1, hfz8_2⟩ := cf3_ BK228.out) | (refine gc_ 104 ?_; refine goesT_ (some 11) Try.func104 #[.int .i64 a1, .int .i64 0, .int .i64 (wrap64 (a0_0 - 1))] ?_; (with_reducible refine (impl_within.calls a1 0 (wrap64 (a0_0 - 1)) true _ A4.out).mono ?_); rintro e w' ⟨rfl, ⟨nd, rfl⟩⟩; refine ⟨_, rfl, ?_⟩) | (go_at_call 104; (with_reducible refine (impl_within.calls a2 0 (wrap64 (a0_1 - 1)) t230 _ A6.out).mono ?_); rintro e w' ⟨rfl, ⟨nd, rfl⟩⟩))
  go_ret
  exact ⟨te_, tb_⟩
 ·
  replace c5 := Bool.eq_false_iff.mpr c5
  subst c5
  have H1 : (some false) = some r := by rw [if_neg (show ¬ (false = true) by decide)] at H; exact H
  clear H
  have H := H1
  clear H1
  obtain rfl := Option.some.inj H
  go_enter Try.func81, Try.ntmps81
  go_wp2_with (first | (refine gd_ 3 ?_; refine bx_ 3 #[.int .i64 a0_0, .int .i64 a0_1, .slice A0_2 l0_2.length c0_2] 26 ?_; intro gb228 hg w9 hbox hb; have BK228 := A_ (hbox); have GW228 := A_ ((ts_ hg : w.heap.size ≤ gb228)); have GE228 := A_ ((ts_ hg : w.heap.size ≤ gb228)); replace HB := A_ (below_step tb_ hb); clear hb hbox hg; obtain ⟨hcz10_0, hcz10_1, hcz10_2, hfz10_0, hfz10_1, hfz10_2⟩ := cf3_ BK228.out) | (refine gc_ 104 ?_; refine goesT_ (some 11) Try.func104 #[.int .i64 a1, .int .i64 0, .int .i64 (wrap64 (a0_0 - 1))] ?_; (with_reducible refine (impl_within.calls a1 0 (wrap64 (a0_0 - 1)) false _ A4.out).mono ?_); rintro e w' ⟨rfl, ⟨nd, rfl⟩⟩; refine ⟨_, rfl, ?_⟩))
  go_ret
  exact ⟨te_, tb_⟩

/-! ### impl_Board_crossing: function 91 -/
def impl_Board_crossing.f (a0_0 : Int) (a0_1 : Int) (l0_2 : List Int) (a1 : Int) (a2 : Int) : Option (Int × Int × Bool) := if (wrap64 ((wrap64 ((wrap64 (a1 + a2)) - a0_1)) + 1)) ≥ 0 then (if (Int.tmod (wrap64 ((wrap64 ((wrap64 (a1 + a2)) - a0_1)) + 1)) 2) = 0 then ((impl_Board_place.f a0_0 a0_1 l0_2 (wrap64 (Int.tdiv (wrap64 ((wrap64 ((wrap64 (a1 + a2)) - a0_1)) + 1)) 2)) (wrap64 (a1 - (wrap64 (Int.tdiv (wrap64 ((wrap64 ((wrap64 (a1 + a2)) - a0_1)) + 1)) 2))))).bind fun t521 => (some (wrap64 (Int.tdiv (wrap64 ((wrap64 ((wrap64 (a1 + a2)) - a0_1)) + 1)) 2), wrap64 (a1 - (wrap64 (Int.tdiv (wrap64 ((wrap64 ((wrap64 (a1 + a2)) - a0_1)) + 1)) 2))), t521))) else (some (wrap64 (Int.tdiv (wrap64 ((wrap64 ((wrap64 (a1 + a2)) - a0_1)) + 1)) 2), wrap64 (a1 - (wrap64 (Int.tdiv (wrap64 ((wrap64 ((wrap64 (a1 + a2)) - a0_1)) + 1)) 2))), false))) else (some (wrap64 (Int.tdiv (wrap64 ((wrap64 ((wrap64 (a1 + a2)) - a0_1)) + 1)) 2), wrap64 (a1 - (wrap64 (Int.tdiv (wrap64 ((wrap64 ((wrap64 (a1 + a2)) - a0_1)) + 1)) 2))), false))
theorem impl_Board_crossing.calls (a0_0 : Int) (a0_1 : Int) (A0_2 : Option Addr) (c0_2 : Nat) (l0_2 : List Int) (a1 : Int) (a2 : Int) (r1 : Int) (r2 : Int) (r3 : Bool) (w : World) (hr0_2 : Kd.C (Kd.int .i64) w A0_2 l0_2.length l0_2) (hc0_2 : l0_2.length ≤ c0_2) (h : impl_Board_crossing.f a0_0 a0_1 l0_2 a1 a2 = some (r1, r2, r3)) :
  Calls Try.prog 91 #[.agg #[.int .i64 a0_0, .int .i64 a0_1, .slice A0_2 l0_2.length c0_2], .int .i64 a1, .int .i64 a2] w fun e w' => e = .returned (.tuple #[.int .i64 r1, .int .i64 r2, .bool r3]) ∧ Below w.heap.size w w' := by
 have hu26 := Try.underlying26
 have HR0_2 := A_ hr0_2
 have HC0_2 := A_ hc0_2
 clear hr0_2 hc0_2
 have HB := A_ (Below.refl w.heap.size w)
 have H : (if (wrap64 ((wrap64 ((wrap64 (a1 + a2)) - a0_1)) + 1)) ≥ 0 then (if (Int.tmod (wrap64 ((wrap64 ((wrap64 (a1 + a2)) - a0_1)) + 1)) 2) = 0 then ((impl_Board_place.f a0_0 a0_1 l0_2 (wrap64 (Int.tdiv (wrap64 ((wrap64 ((wrap64 (a1 + a2)) - a0_1)) + 1)) 2)) (wrap64 (a1 - (wrap64 (Int.tdiv (wrap64 ((wrap64 ((wrap64 (a1 + a2)) - a0_1)) + 1)) 2))))).bind fun t521 => (some (wrap64 (Int.tdiv (wrap64 ((wrap64 ((wrap64 (a1 + a2)) - a0_1)) + 1)) 2), wrap64 (a1 - (wrap64 (Int.tdiv (wrap64 ((wrap64 ((wrap64 (a1 + a2)) - a0_1)) + 1)) 2))), t521))) else (some (wrap64 (Int.tdiv (wrap64 ((wrap64 ((wrap64 (a1 + a2)) - a0_1)) + 1)) 2), wrap64 (a1 - (wrap64 (Int.tdiv (wrap64 ((wrap64 ((wrap64 (a1 + a2)) - a0_1)) + 1)) 2))), false))) else (some (wrap64 (Int.tdiv (wrap64 ((wrap64 ((wrap64 (a1 + a2)) - a0_1)) + 1)) 2), wrap64 (a1 - (wrap64 (Int.tdiv (wrap64 ((wrap64 ((wrap64 (a1 + a2)) - a0_1)) + 1)) 2))), false))) = some (r1, r2, r3) := h
 clear h
 by_cases c4 : (wrap64 ((wrap64 ((wrap64 (a1 + a2)) - a0_1)) + 1)) ≥ 0
 ·
  rw [if_pos c4] at H
  have c4b0 := decide_eq_true c4
  clear c4
  by_cases c5 : (Int.tmod (wrap64 ((wrap64 ((wrap64 (a1 + a2)) - a0_1)) + 1)) 2) = 0
  ·
   rw [if_pos c5] at H
   have c5b0 : ((Int.tmod (wrap64 ((wrap64 ((wrap64 (a1 + a2)) - a0_1)) + 1)) 2) == 0) = true := beq_iff_eq.mpr c5
   have c5b1 : ((Int.tmod (wrap64 ((wrap64 ((wrap64 (a1 + a2)) - a0_1)) + 1)) 2) != 0) = false := bne_eq_false_iff_eq.mpr c5
   clear c5
   replace H := Option.bind_eq_some_iff.mp H
   obtain ⟨t521, A60, H⟩ := H
   replace H : (some (wrap64 (Int.tdiv (wrap64 ((wrap64 ((wrap64 (a1 + a2)) - a0_1)) + 1)) 2), wrap64 (a1 - (wrap64 (Int.tdiv (wrap64 ((wrap64 ((wrap64 (a1 + a2)) - a0_1)) + 1)) 2))), t521)) = some (r1, r2, r3) := H
   have A6 := A_ A60
   clear A60
   simp only [Option.some.injEq, Prod.mk.injEq] at H
   obtain ⟨rfl, rfl, rfl⟩ := H
   go_enter Try.func91, Try.ntmps91
   go_wp2_with (first | (refine gd_ 3 ?_; refine bx_ 3 #[.int .i64 a0_0, .int .i64 a0_1, .slice A0_2 l0_2.length c0_2] 26 ?_; intro gb520 hg w7 hbox hb; have BK520 := A_ (hbox); have GW520 := A_ ((ts_ hg : w.heap.size ≤ gb520)); have GE520 := A_ ((ts_ hg : w.heap.size ≤ gb520)); replace HB := A_ (below_step tb_ hb); clear hb hbox hg; obtain ⟨hcz8_0, hcz8_1, hcz8_2, hfz8_0, hfz8_1, hfz8_2⟩ := cf3_ BK520.out) | (go_at_call 81; (with_reducible refine (impl_Board_place.calls a0_0 a0_1 _ _ l0_2 (wrap64 (Int.tdiv (wrap64 ((wrap64 ((wrap64 (a1 + a2)) - a0_1)) + 1)) 2)) (wrap64 (a1 - (wrap64 (Int.tdiv (wrap64 ((wrap64 ((wrap64 (a1 + a2)) - a0_1)) + 1)) 2)))) t521 _ ?side1 ?side2 A6.out).mono ?_); (case side1 => exact tc_ HR0_2.out); (case side2 => exact HC0_2.out); rintro e w9 ⟨rfl, hb⟩; replace BK520 := A_ (blk_below (g := gb520) (o := .cells #[.int .i64 a0_0, .int .i64 a0_1, .slice A0_2 l0_2.length c0_2] 26 (0, 0)) (tk_ BK520) hb); replace HB := A_ (below_step tb_ hb); (try clear hb)))
   go_ret3
   exact ⟨te_, tb_⟩
  ·
   rw [if_neg c5] at H
   have c5b0 : ((Int.tmod (wrap64 ((wrap64 ((wrap64 (a1 + a2)) - a0_1)) + 1)) 2) == 0) = false := beq_eq_false_iff_ne.mpr c5
   have c5b1 : ((Int.tmod (wrap64 ((wrap64 ((wrap64 (a1 + a2)) - a0_1)) + 1)) 2) != 0) = true := bne_iff_ne.mpr c5
   simp only [Option.some.injEq, Prod.mk.injEq] at H
   obtain ⟨rfl, rfl, rfl⟩ := H
   go_enter Try.func91, Try.ntmps91
   go_wp2_with (first | (refine gd_ 3 ?_; refine bx_ 3 #[.int .i64 a0_0, .int .i64 a0_1, .slice A0_2 l0_2.length c0_2] 26 ?_; intro gb520 hg w10 hbox hb; have BK520 := A_ (hbox); have GW520 := A_ ((ts_ hg : w.heap.size ≤ gb520)); have GE520 := A_ ((ts_ hg : w.heap.size ≤ gb520)); replace HB := A_ (below_step tb_ hb); clear hb hbox hg; obtain ⟨hcz11_0, hcz11_1, hcz11_2, hfz11_0, hfz11_1, hfz11_2⟩ := cf3_ BK520.out))
   go_ret3
   exact ⟨te_, tb_⟩
 ·
  rw [if_neg c4] at H
  have c4b0 := decide_eq_false c4
  clear c4
  simp only [Option.some.injEq, Prod.mk.injEq] at H
  obtain ⟨rfl, rfl, rfl⟩ := H
  go_enter Try.func91, Try.ntmps91
  go_wp2_with (first | (refine gd_ 3 ?_; refine bx_ 3 #[.int .i64 a0_0, .int .i64 a0_1, .slice A0_2 l0_2.length c0_2] 26 ?_; intro gb520 hg w12 hbox hb; have BK520 := A_ (hbox); have GW520 := A_ ((ts_ hg : w.heap.size ≤ gb520)); have GE520 := A_ ((ts_ hg : w.heap.size ≤ gb520)); replace HB := A_ (below_step tb_ hb); clear hb hbox hg; obtain ⟨hcz13_0, hcz13_1, hcz13_2, hfz13_0, hfz13_1, hfz13_2⟩ := cf3_ BK520.out))
  go_ret3
  exact ⟨te_, tb_⟩

/-! ### impl_newBoard: function 157 -/
def impl_newBoard.f (a0 : Int) (a1 : Int) : Option (Int × Int × List Int) := if 0 ≤ a0 then (if (a0 : Int).toNat ≤ 35184372088832 then (some (a0, a1, (List.replicate (a0 : Int).toNat 0))) else (none)) else (none)
theorem impl_newBoard.calls (a0 : Int) (a1 : Int) (r1 : Int) (r2 : Int) (r3 : List Int) (w : World) (h : impl_newBoard.f a0 a1 = some (r1, r2, r3)) :
  Calls Try.prog 157 #[.int .i64 a0, .int .i64 a1] w fun e w' => ∃ v2_ : Value, e = .returned (.agg #[.int .i64 r1, .int .i64 r2, v2_]) ∧ Kd.R (Kd.int .i64) 3 w' w.heap.size (fun _ => True) v2_ r3 ∧ Below w.heap.size w w' := by
 have hu26 := Try.underlying26
 have HB := A_ (Below.refl w.heap.size w)
 have H : (if 0 ≤ a0 then (if (a0 : Int).toNat ≤ 35184372088832 then (some (a0, a1, (List.replicate (a0 : Int).toNat 0))) else (none)) else (none)) = some (r1, r2, r3) := h
 clear h
 by_cases c3 : 0 ≤ a0
 ·
  rw [if_pos c3] at H
  have c3b0 := eq_true c3
  have c3b1 := decide_eq_true c3
  clear c3
  by_cases c4 : (a0 : Int).toNat ≤ 35184372088832
  ·
   rw [if_pos c4] at H
   have c4b0 := eq_true c4
   have c4b1 := decide_eq_true c4
   clear c4
   obtain ⟨y523, hy523⟩ : ∃ y_ : List Int, y_ = (List.replicate (a0 : Int).toNat 0) := ⟨_, rfl⟩
   replace H : (some (a0, a1, y523)) = some (r1, r2, r3) := ty_ hy523 H
   have Ny523 := A_ hy523
   clear hy523
   simp only [Option.some.injEq, Prod.mk.injEq] at H
   obtain ⟨rfl, rfl, rfl⟩ := H
   go_enter Try.func157, Try.ntmps157
   go_wp2_with (first | (refine gd_ 4 ?_; refine bx_ 4 #[.int .i64 0, .int .i64 0, .slice none 0 0] 26 ?_; intro gb522 hg w5 hbox hb; have BK522 := A_ (hbox); have GW522 := A_ ((ts_ hg : w.heap.size ≤ gb522)); have GE522 := A_ ((ts_ hg : w.heap.size ≤ gb522)); replace HB := A_ (below_step tb_ hb); clear hb hbox hg) | (refine gd_ 8 ?_; refine Kd.R_make (Kd.int .i64) _ 3 rfl (N := 8) rfl 24 _ _ rfl a0 rfl rfl Try.underlying24 (.int .i64 0) 8 info3 rfl (by decide) (by omega) 0 (ok := fun _ => True) (okp := fun _ => True) rfl (fun _ hk => hk) trivial (od_) (Nat.le_trans (Nat.mul_le_mul_right _ (od_ : a0.toNat ≤ 35184372088832)) (by omega)) (Below.refl _ _) (Nat.le_refl _) ?_; intro v524 w6 ho7 hb hg_ hnew_; clear hg_ hnew_; (first | rw [← Ny523.out] at ho7 | (simp only [Int.reduceToNat] at ho7; rw [← Ny523.out] at ho7)); have HO525 := A_ (Kd.R_lower ho7 (below_size tb_)); replace BK522 := A_ (blk_below (g := gb522) (o := .cells #[.int .i64 0, .int .i64 0, .slice none 0 0] 26 (0, 0)) (tk_ BK522) hb); replace HB := A_ (below_step tb_ hb); clear hb ho7; obtain ⟨Ao8, co8, eo8⟩ := Kd.R_slice HO525.out; subst eo8; obtain ⟨hcz9_0, hcz9_1, hcz9_2, hfz9_0, hfz9_1, hfz9_2⟩ := cf3_ BK522.out))
   refine bodyPost_ret (results_cell_row rfl _ _ gb522 26 #[.int .i64 a0, .int .i64 a1, .slice Ao8 y523.length co8] (0, 0) _ rfl (by (with_reducible repeat (first | refine blk_drewN ?_ _ | refine blk_drew ?_ | refine blk_alloc ?_ _)); refine blk_put (cs := #[.int .i64 a0, .int .i64 a1, .slice none 0 0]) ?_ 2 _ rfl; (with_reducible repeat (first | refine blk_drewN ?_ _ | refine blk_drew ?_ | refine blk_alloc ?_ _)); refine blk_put (cs := #[.int .i64 a0, .int .i64 0, .slice none 0 0]) ?_ 1 _ rfl; (with_reducible repeat (first | refine blk_drewN ?_ _ | refine blk_drew ?_ | refine blk_alloc ?_ _)); refine blk_put (cs := #[.int .i64 0, .int .i64 0, .slice none 0 0]) ?_ 0 _ rfl; (with_reducible repeat (first | refine blk_drewN ?_ _ | refine blk_drew ?_ | refine blk_alloc ?_ _)); exact BK522.out) Try.underlying26 rfl (by kernel_rfl)) rfl ?_
   exact ⟨_, te_, by (with_reducible repeat (first | apply Kd.R_alloc | apply Kd.R_drewN | apply Kd.R_drew)); exact Kd.R_mono (Kd.R_far (p := ⟨gb522, 2, none⟩) (Kd.R_far (p := ⟨gb522, 1, none⟩) (Kd.R_far (p := ⟨gb522, 0, none⟩) (Kd.R_types HO525.out BK522.out (by decide)) (fun _ hk => hk.2) (.int .i64 a0)) (fun _ hk => hk.2) (.int .i64 a1)) (fun _ hk => hk.2) (.slice Ao8 y523.length co8)) (fun _ hk => trivial), tb_⟩
  ·
   rw [if_neg c4] at H
   exact absurd H (by simp)
 ·
  rw [if_neg c3] at H
  exact absurd H (by simp)

end
end Go.Proofs.Ytdoflpghemgbdaa.P
