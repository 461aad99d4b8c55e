-- printed functions (wip/slim.py)
import Derived.Test.YthlcaikplebpmaaPx0
namespace Go.Proofs.Ythlcaikplebpmaa.P
noncomputable section
set_option maxHeartbeats 8000000
set_option maxRecDepth 100000
open Go.RowKit Go.Proofs.YthlcaikplebpmaaW.PrintWords Go.Proofs.YthlcaikplebpmaaW.PrintLast Go.Proofs.YthlcaikplebpmaaW.PrintMore
attribute [local go_sem] max2_int min2_int max_two min_two max_three min_three max_four min_four   -- for this text's walks alone
set_option linter.unusedVariables false
set_option linter.unusedSimpArgs false

/-! ### slices_Sort_int_int: function 208 -/
def slices_Sort_int_int.f (l0 : List Int) : Option (List Int) := if l0.length ≤ 1000 then some (Go.Proofs.YthlcaikplebpmaaW.So.sortI l0) else none
theorem slices_Sort_int_int.calls (P0_ : Nat → Prop) (u9000_ : Value) (l0 : List Int) (r : List Int) (w0 w : World) (hB : Below w0.heap.size w0 w) (ho0 : Kd.R (Kd.int .i64) 3 w w0.heap.size P0_ u9000_ l0) (h : slices_Sort_int_int.f l0 = some r) :
  Calls Try.prog 208 #[u9000_] w fun e w' => e = .returned (.tuple #[]) ∧ Kd.R (Kd.int .i64) 3 w' w0.heap.size (fun k_ => (P0_ k_ ∨ w.heap.size ≤ k_)) u9000_ r ∧ Below w0.heap.size w0 w' ∧ Kept w w' (fun k_ => P0_ k_) := by
 unfold slices_Sort_int_int.f at h
 have hl : l0.length ≤ 1000 := by
  split at h
  ·
   assumption
  ·
   cases h
 rw [if_pos hl] at h
 obtain rfl := Option.some.inj h
 clear h
 have how := Kd.own_of_R ho0
 have hok := ho0.1
 rcases Go.Proofs.YthlcaikplebpmaaW.So.own how with ⟨rfl, rfl⟩ | ⟨g, cap, rfl, hb, hi, hm, hH, hA⟩
 ·
  refine (Go.Proofs.Try.slices_Sort_int_none none 0 w).mono fun e w' ⟨he, hw⟩ => ⟨he, ?_, ?_, ?_⟩
  all_goals rw [hw]
  ·
   refine Kd.R_of_own (enc := Value.int .i64) ?_ (fun k hk => ?_)
   ·
    exact ⟨by simp [encs, Go.Proofs.YthlcaikplebpmaaW.So.sortI], .inl ⟨rfl, by simp [Go.Proofs.YthlcaikplebpmaaW.So.sortI]⟩⟩
   ·
    cases hk
  ·
   exact hB
  ·
   exact Kept.refl _ _
 ·
  refine (Go.Proofs.Try.slices_Sort_int g 0 cap l0 w hH hi (by omega)).mono fun e w' ⟨he, n, os, hw⟩ => ⟨he, ?_, ?_, ?_⟩
  all_goals rw [Go.Proofs.YthlcaikplebpmaaW.So.mergeSort_eq] at hw
  all_goals subst hw
  ·
   exact Kd.R_of_own (enc := Value.int .i64) (hA n os _ (Go.Proofs.YthlcaikplebpmaaW.So.sortI_perm _).length_eq) (fun k hk => .inl (hok k hk))
  ·
   exact hB.trans ⟨rfl, rfl, rfl, Go.Proofs.YthlcaikplebpmaaW.So.size_le w n g _ os, fun k hk => Go.Proofs.YthlcaikplebpmaaW.So.far w n g _ os k (by have := hB.size; omega) (by omega)⟩
  ·
   exact ⟨Go.Proofs.YthlcaikplebpmaaW.So.size_le w n g _ os, fun i hi2 hn => Go.Proofs.YthlcaikplebpmaaW.So.far w n g _ os i hi2 (fun e => hn (e ▸ hok g rfl))⟩

/-! ### slices_Compact_int_int: function 209 -/
def slices_Compact_int_int.f (l0 : List Int) : Option (List Int) := if l0.length ≤ 1000 then some (Lib.compact l0) else none
theorem slices_Compact_int_int.calls (P0_ : Nat → Prop) (u9000_ : Value) (l0 : List Int) (r : List Int) (w0 w : World) (hB : Below w0.heap.size w0 w) (ho0 : Kd.R (Kd.int .i64) 3 w w0.heap.size P0_ u9000_ l0) (h : slices_Compact_int_int.f l0 = some r) :
  Calls Try.prog 209 #[u9000_] w fun e w' => ∃ v0_ : Value, e = .returned (v0_) ∧ Kd.R (Kd.int .i64) 3 w' w0.heap.size (fun k_ => (P0_ k_ ∨ w.heap.size ≤ k_)) v0_ r ∧ Below w0.heap.size w0 w' ∧ Kept w w' (fun k_ => P0_ k_) := by
 unfold slices_Compact_int_int.f at h
 have hl : l0.length ≤ 1000 := by
  split at h
  ·
   assumption
  ·
   cases h
 rw [if_pos hl] at h
 obtain rfl := Option.some.inj h
 clear h
 have how := Kd.own_of_R ho0
 have hok := ho0.1
 have hcl := Lib.compact_length_le l0
 rcases Go.Proofs.YthlcaikplebpmaaW.So.own2 how with ⟨rfl, rfl⟩ | ⟨g, cap, rfl, hb, hi, hm, hH, hA⟩
 ·
  refine (Go.Proofs.Try.slices_Compact_int_empty none 0 w).mono fun e w' ⟨he, hw⟩ => ⟨_, he, ?_, ?_, ?_⟩
  all_goals rw [hw]
  ·
   refine Kd.R_of_own (enc := Value.int .i64) ?_ (fun k hk => ?_)
   ·
    exact ⟨by simp [encs, Lib.compact, Lib.compactUpTo], .inl ⟨rfl, by simp [Lib.compact, Lib.compactUpTo]⟩⟩
   ·
    cases hk
  ·
   exact hB
  ·
   exact Kept.refl _ _
 ·
  refine (Go.Proofs.Try.slices_Compact_int g 0 cap l0 w hH (by omega) hm).mono fun e w' ⟨he, n, hw⟩ => ⟨_, he, ?_, ?_, ?_⟩
  all_goals rw [Go.Proofs.YthlcaikplebpmaaW.So.after_none] at hw
  all_goals subst hw
  ·
   have h := hA n #[] (Lib.compact l0 ++ List.replicate (l0.length - (Lib.compact l0).length) 0) (Lib.compact l0).length (by simp; omega) (by simp)
   rw [List.take_left'  rfl] at h
   exact Kd.R_of_own (enc := Value.int .i64) h (fun k hk => .inl (hok k hk))
  ·
   exact hB.trans ⟨rfl, rfl, rfl, Go.Proofs.YthlcaikplebpmaaW.So.size_le w n g _ _, fun k hk => Go.Proofs.YthlcaikplebpmaaW.So.far w n g _ _ k (by have := hB.size; omega) (by omega)⟩
  ·
   exact ⟨Go.Proofs.YthlcaikplebpmaaW.So.size_le w n g _ _, fun i hi2 hn => Go.Proofs.YthlcaikplebpmaaW.So.far w n g _ _ i hi2 (fun e => hn (e ▸ hok g rfl))⟩

/-! ### impl_Board_diagonals: function 165 -/
mutual
def impl_Board_diagonals.l0 : Nat → Int → List Int → List Int → Int → Int → Int → Int → List Int → Option (List Int × List Int)
 | 0, _, _, _, _, _, _, _, _ => none
 | k + 1, x1, x6, x7, x13, x14, x361000, x361001, x361002 => if x14 < x13 then (impl_Board_diagonals.l1 k x1 x6 x7 x14 x13 x14 x361001 0 x361000 x361001 x361002) else ((slices_Sort_int_int.f x6).bind fun t379 => ((slices_Sort_int_int.f x7).bind fun t380 => ((slices_Compact_int_int.f t379).bind fun t381 => ((slices_Compact_int_int.f t380).bind fun t384 => (some (t381, t384))))))
def impl_Board_diagonals.l1 : Nat → Int → List Int → List Int → Int → Int → Int → Int → Int → Int → Int → List Int → Option (List Int × List Int)
 | 0, _, _, _, _, _, _, _, _, _, _, _ => none
 | k + 1, x1, x6, x7, x8, x13, x14, x18, x19, x361000, x361001, x361002 => if x19 < x18 then (if (Int.tmod (wrap64 (x8 + x19)) 2) = x1 then ((some (([wrap64 (x8 + x19)] : List Int) : List Int)).bind fun y367 => (if x6.length + y367.length < 17592186044416 then ((some (([wrap64 ((wrap64 ((wrap64 (x8 - x19)) + x361001)) - 1)] : List Int) : List Int)).bind fun y373 => (if x7.length + y373.length < 17592186044416 then (impl_Board_diagonals.l1 k x1 (x6 ++ y367) (x7 ++ y373) x8 x13 x14 x18 (wrap64 (x19 + 1)) x361000 x361001 x361002) else (none))) else (none))) else (impl_Board_diagonals.l1 k x1 x6 x7 x8 x13 x14 x18 (wrap64 (x19 + 1)) x361000 x361001 x361002)) else (impl_Board_diagonals.l0 k x1 x6 x7 x13 (wrap64 (x14 + 1)) x361000 x361001 x361002)
end
def impl_Board_diagonals.f (k : Nat) (a0_0 : Int) (a0_1 : Int) (l0_2 : List Int) (a1 : Int) : Option (List Int × List Int) := impl_Board_diagonals.l0 k a1 (([] : List Int)) (([] : List Int)) a0_0 0 a0_0 a0_1 l0_2
theorem impl_Board_diagonals.mono_l : ∀ k, (∀ y0 y1 y2 y3 y4 y5 y6 y7, LeO (impl_Board_diagonals.l0 k y0 y1 y2 y3 y4 y5 y6 y7) (impl_Board_diagonals.l0 (k + 1) y0 y1 y2 y3 y4 y5 y6 y7)) ∧ (∀ y0 y1 y2 y3 y4 y5 y6 y7 y8 y9 y10, LeO (impl_Board_diagonals.l1 k y0 y1 y2 y3 y4 y5 y6 y7 y8 y9 y10) (impl_Board_diagonals.l1 (k + 1) y0 y1 y2 y3 y4 y5 y6 y7 y8 y9 y10))
 | 0 => ⟨fun _ _ _ _ _ _ _ _ r h => by simp [impl_Board_diagonals.l0] at h, fun _ _ _ _ _ _ _ _ _ _ _ r h => by simp [impl_Board_diagonals.l1] at h⟩
 | k + 1 => by
  obtain ⟨ih0, ih1⟩ := impl_Board_diagonals.mono_l k
  refine ⟨?_, ?_⟩
  ·
   intro y0 y1 y2 y3 y4 y5 y6 y7
   unfold impl_Board_diagonals.l0
   repeat' first | (with_reducible first | exact ih0 _ _ _ _ _ _ _ _ | exact ih1 _ _ _ _ _ _ _ _ _ _ _ | exact LeO.refl _ | exact LeO.none _ | refine LeO.ite ?_ ?_ | refine LeO.bind ?_ (fun _ => ?_)) | exact ih0 _ _ _ _ _ _ _ _ | exact ih1 _ _ _ _ _ _ _ _ _ _ _ | exact LeO.none _ | refine LeO.ite ?_ ?_ | refine LeO.bind ?_ (fun _ => ?_)
  ·
   intro y0 y1 y2 y3 y4 y5 y6 y7 y8 y9 y10
   unfold impl_Board_diagonals.l1
   repeat' first | (with_reducible first | exact ih0 _ _ _ _ _ _ _ _ | exact ih1 _ _ _ _ _ _ _ _ _ _ _ | exact LeO.refl _ | exact LeO.none _ | refine LeO.ite ?_ ?_ | refine LeO.bind ?_ (fun _ => ?_)) | exact ih0 _ _ _ _ _ _ _ _ | exact ih1 _ _ _ _ _ _ _ _ _ _ _ | exact LeO.none _ | refine LeO.ite ?_ ?_ | refine LeO.bind ?_ (fun _ => ?_)
theorem impl_Board_diagonals.mono : ∀ a0 a1 a2 a3 k, LeO (impl_Board_diagonals.f k a0 a1 a2 a3) (impl_Board_diagonals.f (k + 1) a0 a1 a2 a3) := by
 intro a0 a1 a2 a3 k
 obtain ⟨ih0, ih1⟩ := impl_Board_diagonals.mono_l k
 unfold impl_Board_diagonals.f
 repeat' first | (with_reducible first | exact ih0 _ _ _ _ _ _ _ _ | exact ih1 _ _ _ _ _ _ _ _ _ _ _ | exact LeO.refl _ | exact LeO.none _ | refine LeO.ite ?_ ?_ | refine LeO.bind ?_ (fun _ => ?_)) | exact ih0 _ _ _ _ _ _ _ _ | exact ih1 _ _ _ _ _ _ _ _ _ _ _ | exact LeO.none _ | refine LeO.ite ?_ ?_ | refine LeO.bind ?_ (fun _ => ?_)
def impl_Board_diagonals.T9 : Bool × List (List Nat × List Nat) := (true, [([], []), ([], []), ([], []), ([1, 2], [1, 2]), ([3], [3]), ([0, 4], [0, 4]), ([], []), ([], []), ([], []), ([7, 8], [7, 8]), ([], []), ([10], [10]), ([9, 11], [9, 11]), ([12], [12]), ([13], [13]), ([6, 14, 5], [6, 14]), ([5, 15, 0, 1, 2, 3, 4, 5], [0, 5]), ([15, 16, 0, 1, 2, 3, 4, 5, 6, 7, 8, 9, 10, 11, 12, 13, 14, 15, 16], [6, 15])])
def impl_Board_diagonals.B9 : List Nat := [0, 0, 0, 6, 14, 31, 0, 0, 0, 384, 0, 1024, 3968, 8064, 16256, 32767, 65535, 131071]
theorem impl_Board_diagonals.tab9 : rtab .any (opsOf Try.f165 9) = impl_Board_diagonals.T9 := by kernel_rfl
theorem impl_Board_diagonals.bits9 : waitsOk impl_Board_diagonals.T9.2 impl_Board_diagonals.B9 = true := by kernel_rfl
theorem impl_Board_diagonals.calls (k : Nat) (a0_0 : Int) (a0_1 : Int) (A0_2 : Option Addr) (c0_2 : Nat) (l0_2 : List Int) (a1 : Int) (r1 : List Int) (r2 : List Int) (w : World) (hr0_2 : Kd.C (Kd.int .i64) w A0_2 l0_2.length l0_2) (hc0_2 : l0_2.length ≤ c0_2) (h : impl_Board_diagonals.f k a0_0 a0_1 l0_2 a1 = some (r1, r2)) :
  Calls Try.prog 165 #[.agg #[.int .i64 a0_0, .int .i64 a0_1, .slice A0_2 l0_2.length c0_2], .int .i64 a1] w fun e w' => ∃ v0_ v1_ : Value, e = .returned (.tuple #[v0_, v1_]) ∧ Kd.R (Kd.int .i64) 3 w' w.heap.size (fun k_ => some k_ ≠ (v1_ : Value).ownBlock) v0_ r1 ∧ Kd.R (Kd.int .i64) 3 w' w.heap.size (fun k_ => some k_ ≠ (v0_ : Value).ownBlock) v1_ r2 ∧ Below w.heap.size w w' := by
 have hu26 := Try.underlying26
 have HR0_2 := A_ hr0_2
 have HC0_2 := A_ hc0_2
 clear hr0_2 hc0_2
 have HB := A_ (Below.refl w.heap.size w)
 have H : (impl_Board_diagonals.l0 k a1 (([] : List Int)) (([] : List Int)) a0_0 0 a0_0 a0_1 l0_2) = some (r1, r2) := h
 clear h
 obtain ⟨y361, hy361⟩ : ∃ y_ : List Int, y_ = (([] : List Int)) := ⟨_, rfl⟩
 replace H : (impl_Board_diagonals.l0 k a1 y361 (([] : List Int)) a0_0 0 a0_0 a0_1 l0_2) = some (r1, r2) := ty_ hy361 H
 have Ny361 := A_ hy361
 clear hy361
 obtain ⟨y364, hy364⟩ : ∃ y_ : List Int, y_ = (([] : List Int)) := ⟨_, rfl⟩
 replace H : (impl_Board_diagonals.l0 k a1 y361 y364 a0_0 0 a0_0 a0_1 l0_2) = some (r1, r2) := ty_ hy364 H
 have Ny364 := A_ hy364
 clear hy364
 have H' := A_ H
 clear H
 go_enter Try.func165, Try.ntmps165
 go_wp2_with (first | (refine gd_ 2 ?_; refine bx_ 2 #[.int .i64 a0_0, .int .i64 a0_1, .slice A0_2 l0_2.length c0_2] 26 ?_; intro gb360 hg w3 hbox hb; have BK360 := A_ (hbox); have GW360 := A_ ((ts_ hg : w.heap.size ≤ gb360)); have GE360 := A_ ((ts_ hg : w.heap.size ≤ gb360)); replace HB := A_ (below_step tb_ hb); clear hb hbox hg) | (refine gd_ 10 ?_; refine Kd.R_lit (Kd.int .i64) _ 3 ?hg (N := 10) ?hd (xs := ([] : List Int)) (inner := []) (ok := fun _ => True) (okp := fun _ => True) ?hr ?hp (fun _ hk => hk) trivial (Below.refl _ _) (Nat.le_refl _) (by simp) ?_; (case hd => rfl); (case hg => rfl); (case hr => first | (go_simp; done) | (go_simp; rfl)); (case hp => exact (Reps.none _ _)); intro v362 w4 ho5 hb hg_ hnew_; clear hg_ hnew_; (first | rw [← Ny361.out] at ho5 | (simp only [Int.reduceToNat] at ho5; rw [← Ny361.out] at ho5)); have HO363 := A_ (Kd.R_lower ho5 (below_size tb_)); replace BK360 := A_ (blk_below (g := gb360) (o := .cells #[.int .i64 a0_0, .int .i64 a0_1, .slice A0_2 l0_2.length c0_2] 26 (0, 0)) (tk_ BK360) hb); replace HB := A_ (below_step tb_ hb); clear hb ho5) | (refine gd_ 11 ?_; refine Kd.R_lit (Kd.int .i64) _ 3 ?hg (N := 11) ?hd (xs := ([] : List Int)) (inner := []) (ok := fun _ => True) (okp := fun _ => True) ?hr ?hp (fun _ hk => hk) trivial (Below.refl _ _) (Nat.le_refl _) (by simp) ?_; (case hd => rfl); (case hg => rfl); (case hr => first | (go_simp; done) | (go_simp; rfl)); (case hp => exact (Reps.none _ _)); intro v365 w6 ho7 hb hg_ hnew_; clear hg_ hnew_; (first | rw [← Ny364.out] at ho7 | (simp only [Int.reduceToNat] at ho7; rw [← Ny364.out] at ho7)); have HO366 := A_ (Kd.R_lower (Kd.R_new' ho7 (Kd.R_lt (tr_x HO363.out))) (below_size tb_)); replace HO363 := A_ (Kd.R_elder' (tr_x HO363.out) (Kd.R_base ho7) hb); replace BK360 := A_ (blk_below (g := gb360) (o := .cells #[.int .i64 a0_0, .int .i64 a0_1, .slice A0_2 l0_2.length c0_2] 26 (0, 0)) (tk_ BK360) hb); replace HB := A_ (below_step tb_ hb); clear hb ho7; obtain ⟨hcz8_0, hcz8_1, hcz8_2, hfz8_0, hfz8_1, hfz8_2⟩ := cf3_ BK360.out))
 go_loopg [6, 7, 14] k (fun kq v6 v7 v14 w' => ∃ (x6_1 : List Int) (x7_1 : List Int) (x14_1 : Int), v14 = .int .i64 x14_1 ∧ Aside0 (impl_Board_diagonals.l0 kq a1 x6_1 x7_1 a0_0 x14_1 a0_0 a0_1 l0_2 = some (r1, r2)) ∧ Aside0 (kq ≤ k) ∧ Aside0 (Kd.R (Kd.int .i64) 3 w' w.heap.size (fun k_ => some k_ ≠ (v7 : Value).ownBlock) v6 x6_1) ∧ Aside0 (Kd.R (Kd.int .i64) 3 w' w.heap.size (fun k_ => some k_ ≠ (v6 : Value).ownBlock) v7 x7_1) ∧ Aside0 (w'.heap[gb360]? = some (.cells #[.int .i64 a0_0, .int .i64 a0_1, (.slice A0_2 l0_2.length c0_2)] 26 (0, 0))) ∧ Aside0 (Below w.heap.size w w'))
 case atStart => exact ⟨(y361), (y364), (0), tf_, H', ⟨Nat.le_refl _⟩, ⟨by (with_reducible repeat (first | apply Kd.R_alloc | apply Kd.R_drewN | apply Kd.R_drew)); exact Kd.R_mono HO363.out (fun _ hk => hk.2)⟩, ⟨by (with_reducible repeat (first | apply Kd.R_alloc | apply Kd.R_drewN | apply Kd.R_drew)); exact Kd.R_mono HO366.out (fun _ hk => hk.2)⟩, ⟨tk_ BK360⟩, ⟨tb_⟩⟩
 case round =>
  clear H'
  try clear c1
  try clear p2
  try clear hcz8_0
  try clear hcz8_1
  try clear hcz8_2
  try clear hfz8_0
  try clear hfz8_1
  try clear hfz8_2
  obtain ⟨x6_1, x7_1, x14_1, rfl, HA, HK1, HO_6, HO_7, BK360, HB⟩ := hrel
  cases gk with
  | zero => exact absurd HA.out (by simp [impl_Board_diagonals.l0])
  | succ k1 =>
   have H := HA.out
   clear HA
   simp only [impl_Board_diagonals.l0] at H
   by_cases c9 : x14_1 < a0_0
   ·
    rw [if_pos c9] at H
    have c9b0 := decide_eq_true c9
    clear c9
    have H' := A_ H
    clear H
    obtain ⟨hcz10_0, hcz10_1, hcz10_2, hfz10_0, hfz10_1, hfz10_2⟩ := cf3_ BK360.out
    go_wp2
    go_loopg [6, 7, 19] k1 (fun kq v6 v7 v19 w' => ∃ (x6_2 : List Int) (x7_2 : List Int) (x19_2 : Int), v19 = .int .i64 x19_2 ∧ Aside0 (impl_Board_diagonals.l1 kq a1 x6_2 x7_2 x14_1 a0_0 x14_1 a0_1 x19_2 a0_0 a0_1 l0_2 = some (r1, r2)) ∧ Aside0 (kq ≤ k1) ∧ Aside0 (Kd.R (Kd.int .i64) 3 w' w.heap.size (fun k_ => some k_ ≠ (v7 : Value).ownBlock) v6 x6_2) ∧ Aside0 (Kd.R (Kd.int .i64) 3 w' w.heap.size (fun k_ => some k_ ≠ (v6 : Value).ownBlock) v7 x7_2) ∧ Aside0 (w'.heap[gb360]? = some (.cells #[.int .i64 a0_0, .int .i64 a0_1, (.slice A0_2 l0_2.length c0_2)] 26 (0, 0))) ∧ Aside0 (Below w.heap.size w w'))
    case atStart => exact ⟨(x6_1), (x7_1), (0), tf_, H', ⟨Nat.le_refl _⟩, ⟨tr_x HO_6.out⟩, ⟨tr_x HO_7.out⟩, ⟨tk_ BK360⟩, ⟨tb_⟩⟩
    case round =>
     clear H'
     try clear c1
     try clear p2
     try clear c9
     try clear c9b0
     try clear hcz10_0
     try clear hcz10_1
     try clear hcz10_2
     try clear hcz8_0
     try clear hcz8_1
     try clear hcz8_2
     try clear hfz10_0
     try clear hfz10_1
     try clear hfz10_2
     try clear hfz8_0
     try clear hfz8_1
     try clear hfz8_2
     try clear p2
     obtain ⟨x6_2, x7_2, x19_2, rfl, HA, HK2, HO_6, HO_7, BK360, HB⟩ := hrel
     cases gk with
     | zero => exact absurd HA.out (by simp [impl_Board_diagonals.l1])
     | succ k2 =>
      have H := HA.out
      clear HA
      simp only [impl_Board_diagonals.l1] at H
      by_cases c11 : x19_2 < a0_1
      ·
       rw [if_pos c11] at H
       have c11b0 := decide_eq_true c11
       clear c11
       by_cases c12 : (Int.tmod (wrap64 (x14_1 + x19_2)) 2) = a1
       ·
        rw [if_pos c12] at H
        have c12b0 : ((Int.tmod (wrap64 (x14_1 + x19_2)) 2) == a1) = true := beq_iff_eq.mpr c12
        have c12b1 : ((Int.tmod (wrap64 (x14_1 + x19_2)) 2) != a1) = false := bne_eq_false_iff_eq.mpr c12
        clear c12
        obtain ⟨y367, hy367⟩ : ∃ y_ : List Int, y_ = (([wrap64 (x14_1 + x19_2)] : List Int)) := ⟨_, rfl⟩
        replace H : (if x6_2.length + y367.length < 17592186044416 then ((some (([wrap64 ((wrap64 ((wrap64 (x14_1 - x19_2)) + a0_1)) - 1)] : List Int) : List Int)).bind fun y373 => (if x7_2.length + y373.length < 17592186044416 then (impl_Board_diagonals.l1 k2 a1 (x6_2 ++ y367) (x7_2 ++ y373) x14_1 a0_0 x14_1 a0_1 (wrap64 (x19_2 + 1)) a0_0 a0_1 l0_2) else (none))) else (none)) = some (r1, r2) := ty_ hy367 H
        have Ny367 := A_ hy367
        clear hy367
        by_cases c13 : x6_2.length + y367.length < 17592186044416
        ·
         rw [if_pos c13] at H
         have LMc13 := A_ c13
         clear c13
         obtain ⟨y370, hy370⟩ : ∃ y_ : List Int, y_ = (x6_2 ++ y367) := ⟨_, rfl⟩
         replace H : ((some (([wrap64 ((wrap64 ((wrap64 (x14_1 - x19_2)) + a0_1)) - 1)] : List Int) : List Int)).bind fun y373 => (if x7_2.length + y373.length < 17592186044416 then (impl_Board_diagonals.l1 k2 a1 y370 (x7_2 ++ y373) x14_1 a0_0 x14_1 a0_1 (wrap64 (x19_2 + 1)) a0_0 a0_1 l0_2) else (none))) = some (r1, r2) := ty_ hy370 H
         have Ny370 := A_ hy370
         clear hy370
         obtain ⟨y373, hy373⟩ : ∃ y_ : List Int, y_ = (([wrap64 ((wrap64 ((wrap64 (x14_1 - x19_2)) + a0_1)) - 1)] : List Int)) := ⟨_, rfl⟩
         replace H : (if x7_2.length + y373.length < 17592186044416 then (impl_Board_diagonals.l1 k2 a1 y370 (x7_2 ++ y373) x14_1 a0_0 x14_1 a0_1 (wrap64 (x19_2 + 1)) a0_0 a0_1 l0_2) else (none)) = some (r1, r2) := ty_ hy373 H
         have Ny373 := A_ hy373
         clear hy373
         by_cases c14 : x7_2.length + y373.length < 17592186044416
         ·
          rw [if_pos c14] at H
          have LMc14 := A_ c14
          clear c14
          obtain ⟨y376, hy376⟩ : ∃ y_ : List Int, y_ = (x7_2 ++ y373) := ⟨_, rfl⟩
          replace H : (impl_Board_diagonals.l1 k2 a1 y370 y376 x14_1 a0_0 x14_1 a0_1 (wrap64 (x19_2 + 1)) a0_0 a0_1 l0_2) = some (r1, r2) := ty_ hy376 H
          have Ny376 := A_ hy376
          clear hy376
          have H' := A_ H
          clear H
          obtain ⟨Ao15, co15, eo15⟩ := Kd.R_slice HO_6.out
          subst eo15
          obtain ⟨Ao16, co16, eo16⟩ := Kd.R_slice HO_7.out
          subst eo16
          try go_wp2
          have n0_ := A_ (Kd.R_drew HO_6.out)
          have n1_ := A_ (Kd.R_drew HO_7.out)
          have n2_ := A_ (blk_drew BK360.out)
          have n3_ := A_ (below_drew1 HB.out)
          clear HO_6
          clear HO_7
          clear BK360
          clear HB
          have HO_6 := n0_
          have HO_7 := n1_
          have BK360 := n2_
          have HB := n3_
          clear n0_ n1_ n2_ n3_
          refine start_ (n := 18) (S := fun w' => w'.cell? ⟨gb360, 0, none⟩ = some (.int .i64 a0_0) ∧ w'.cell? ⟨gb360, 1, none⟩ = some (.int .i64 a0_1) ∧ w'.cell? ⟨gb360, 2, none⟩ = some (.slice A0_2 l0_2.length c0_2)) (ds := []) (Fn.bl 18 0) (by kernel_rfl) rfl rfl ⟨(blk_cell BK360.out 0).trans rfl, (blk_cell BK360.out 1).trans rfl, (blk_cell BK360.out 2).trans rfl⟩ (fun hHeld => ?_); refine with_tabW impl_Board_diagonals.tab9 impl_Board_diagonals.bits9 (fun HT_ HW_ => ?_)
          generalize wr.drew = w17 at HO_6 HO_7 BK360 HB hHeld ⊢
          refine pq_ 0 (some 28) (Fn.bl 18 1) HT_.out ?_
          refine pq_ 1 (some 29) (Fn.bl 18 3) HT_.out ?_
          refine pq_ 2 (some 30) (Fn.bl 18 7) HT_.out ?_
          refine pq_ 3 (some 31) (Fn.bl 18 15) HT_.out ?_
          refine pq_ 6 (some 34) (Fn.bl 18 79) HT_.out ?_
          refine pq_ 7 (some 35) (Fn.bl 18 207) HT_.out ?_
          refine pq_ 8 (some 36) (Fn.bl 18 463) HT_.out ?_
          refine pq_ 9 (some 37) (Fn.bl 18 975) HT_.out ?_
          refine pq_ 10 (some 38) (Fn.bl 18 1999) HT_.out ?_
          refine tq_ 11 (some 39) (Fn.bl 18 4047) HT_.out HW_.out hHeld ?_ (hy0 := by rintro w' ⟨s0, s1, s2⟩; go_simp; with_reducible rfl)
          refine pq_ 12 (some 40) (Fn.bl 18 8143) HT_.out ?_
          refine pq_ 13 (some 41) (Fn.bl 18 16335) HT_.out ?_
          refine join_ (σ := Value × Value × Value) 3 (Fn.bl 18 32767) (fun s_ => [(32, s_.1), (33, s_.2.1), (42, s_.2.2)]) (fun s_ w' => (w'.cell? ⟨gb360, 0, none⟩ = some (.int .i64 a0_0) ∧ w'.cell? ⟨gb360, 1, none⟩ = some (.int .i64 a0_1) ∧ w'.cell? ⟨gb360, 2, none⟩ = some (.slice A0_2 l0_2.length c0_2)) ∧ (Kd.R (Kd.int .i64) 3 w' w.heap.size (fun k_ => some k_ ≠ (s_.2.1 : Value).ownBlock ∧ some k_ ≠ (s_.2.2 : Value).ownBlock ∧ some k_ ≠ (.slice Ao16 x7_2.length co16 : Value).ownBlock) s_.1 y367) ∧ (Kd.R (Kd.int .i64) 3 w' w.heap.size (fun k_ => some k_ ≠ (s_.1 : Value).ownBlock ∧ some k_ ≠ (s_.2.2 : Value).ownBlock ∧ some k_ ≠ (.slice Ao16 x7_2.length co16 : Value).ownBlock) s_.2.1 y370) ∧ (Kd.R (Kd.int .i64) 3 w' w.heap.size (fun k_ => some k_ ≠ (s_.1 : Value).ownBlock ∧ some k_ ≠ (s_.2.1 : Value).ownBlock ∧ some k_ ≠ (.slice Ao16 x7_2.length co16 : Value).ownBlock) s_.2.2 y373) ∧ (Kd.R (Kd.int .i64) 3 w' w.heap.size (fun k_ => some k_ ≠ (s_.1 : Value).ownBlock ∧ some k_ ≠ (s_.2.1 : Value).ownBlock ∧ some k_ ≠ (s_.2.2 : Value).ownBlock) (.slice Ao16 x7_2.length co16) x7_2) ∧ (w'.heap[gb360]? = some (.cells #[.int .i64 a0_0, .int .i64 a0_1, .slice A0_2 l0_2.length c0_2] 26 (0, 0))) ∧ (Below w.heap.size w w')) ?_ ?_
          rotate_left
          ·
           intro hCont
           refine two_ (i := 4) (j := 14) (Ni := some 32) (Nj := some 42) (Fn.bl 18 16351) (Fn.bl 18 32719) rfl rfl rfl rfl (two_of HT_.out (by kernel_rfl)) (by decide) (by decide) (fun K hK => ?_) (fun K hK => ?_)
           ·
            skip
            refine Kd.R_lit_step (Kd.int .i64) _ 3 ?hg (N := 32) ?hd (xs := ([wrap64 (x14_1 + x19_2)] : List Int)) (inner := [.int .i64 (wrap64 (x14_1 + x19_2))]) (ok := fun _ => True) (okp := fun _ => True) ?hr ?hp (fun _ hk => hk) trivial (Below.refl _ _) (Nat.le_refl _) (by simp) ?_; (case hd => rfl); (case hg => rfl); (case hr => first | (go_simp; done) | (go_simp; rfl)); (case hp => exact (Reps.one (show Kd.M (Kd.int .i64) _ _ _ (wrap64 (x14_1 + x19_2)) [.int .i64 (wrap64 (x14_1 + x19_2))] from rfl) (Reps.none _ _)))
            intro v368 w18 ho19 hb hg_ hnew_
            clear hg_ hnew_
            (first | rw [← Ny367.out] at ho19 | (simp only [Int.reduceToNat] at ho19; rw [← Ny367.out] at ho19))
            have n0_ := A_ (Kd.R_elder' (tr_x HO_6.out) (Kd.R_base ho19) hb)
            have n1_ := A_ (Kd.R_elder' (tr_x HO_7.out) (Kd.R_base ho19) hb)
            have n2_ := A_ (Kd.R_lower (Kd.R_new' (Kd.R_new' ho19 (Kd.R_lt (tr_x HO_6.out))) (Kd.R_lt (tr_x HO_7.out))) (below_size tb_))
            have n3_ := A_ (blk_below (g := gb360) (o := .cells #[.int .i64 a0_0, .int .i64 a0_1, .slice A0_2 l0_2.length c0_2] 26 (0, 0)) (tk_ BK360) hb)
            have n4_ := A_ (below_step tb_ hb)
            clear HO_6
            clear HO_7
            clear BK360
            clear HB
            have HO_6 := n0_
            have HO_7 := n1_
            have HO369 := n2_
            have BK360 := n3_
            have HB := n4_
            clear n0_ n1_ n2_ n3_ n4_
            clear hb ho19
            obtain ⟨Ao21, co21, eo21⟩ := Kd.R_slice HO369.out
            (first | subst eo21 | (injection eo21 with f1_ f2_ f3_; have f4_ := f1_.symm; have f5_ := f3_.symm; clear f1_ f2_ f3_; subst f4_; subst f5_))
            refine hK.out _ _ ⟨(blk_cell BK360.out 0).trans rfl, (blk_cell BK360.out 1).trans rfl, (blk_cell BK360.out 2).trans rfl⟩ (fun hHeld => ?_)
            clear hK K
            refine norm_ (a' := ?_) ?_ ?_
            rotate_left
            ·
             show Act.put _ (some 32) _ = _
             simp only [Act.put, List.setIfInBounds_toArray, List.set_cons_zero, List.set_cons_succ, i64_w, i32_w]
             rfl
            refine two_ (i := 5) (j := 14) (Ni := some 33) (Nj := some 42) (Fn.bl 18 16383) (Fn.bl 18 32735) rfl rfl rfl rfl (two_of HT_.out (by kernel_rfl)) (by decide) (by decide) (fun K hK => ?_) (fun K hK => ?_)
            ·
             skip
             refine Kd.R_append_rows_step (Kd.int .i64) (w0 := w) w.heap.size (by rfl) (.tmp 28) (.tmp 32) 22 3 (.int .i64 0) 8 rfl Try.underlying22 info3 rfl (by decide) (by omega) (.slice Ao15 x6_2.length co15) x6_2 y367 _ _ _ (fun k_ => some k_ ≠ (.slice Ao16 x7_2.length co16 : Value).ownBlock ∧ some k_ ≠ (.slice Ao21 y367.length co21 : Value).ownBlock) (fun _ => False) rfl rfl ?aO ?aR (fun _ _ h => h) (fun _ h => h.elim) ?aF ?aB ?aS ?aL ?_
             (case aR => exact tc0_ (Kd.R_reads' HO369.out).2.2)
             (case aB => exact tb_)
             (case aF => exact (fun k_ hk => ⟨Kd.fresh' (Kd.R_lt (tr_x HO_7.out)) k_ hk, Kd.fresh' (Kd.R_lt (tr_x HO369.out)) k_ hk⟩))
             (case aO => exact (tr_x HO_6.out))
             (case aS => exact (below_size tb_))
             (case aL => have := LMc13.out; omega)
             intro v371 w20 ho hb hg hat
             rw [← Ny370.out] at ho
             have n0_ := A_ (Kd.R_after (ok := (fun k_ => some k_ ≠ (.slice Ao21 y367.length co21 : Value).ownBlock)) (tr_ (h := by exact Kd.R_mono HO_7.out om_)) hg hat)
             have n1_ := A_ (blk_grown (g := gb360) (o := .cells #[.int .i64 a0_0, .int .i64 a0_1, .slice A0_2 l0_2.length c0_2] 26 (0, 0)) (tk_ BK360) hg (Kd.R_ne HO_6.out BK360.out (by decide)))
             have n2_ := A_ (Kd.R_after (ok := (fun k_ => some k_ ≠ (.slice Ao16 x7_2.length co16 : Value).ownBlock)) (tr_ (h := by exact Kd.R_mono HO369.out om_)) hg hat)
             have n3_ := A_ (hb)
             have n4_ := A_ (ho)
             clear HO_7
             clear BK360
             clear HO369
             clear HB
             clear HO_6
             have HO_7 := n0_
             have BK360 := n1_
             have HO369 := n2_
             have HB := n3_
             have HO372 := n4_
             clear n0_ n1_ n2_ n3_ n4_
             clear ho hb hg hat
             refine hK.out _ _ ⟨(blk_cell BK360.out 0).trans rfl, (blk_cell BK360.out 1).trans rfl, (blk_cell BK360.out 2).trans rfl⟩ (fun hHeld => ?_)
             clear hK K
             refine norm_ (a' := ?_) ?_ ?_
             rotate_left
             ·
              show Act.put _ (some 33) _ = _
              simp only [Act.put, List.setIfInBounds_toArray, List.set_cons_zero, List.set_cons_succ, i64_w, i32_w]
              rfl
             refine one_ (i := 14) (N := some 42) (Fn.bl 18 32767) rfl rfl (one_of HT_.out (by kernel_rfl)) (by decide) (fun K hK => ?_)
             refine Kd.R_lit_step (Kd.int .i64) _ 3 ?hg (N := 42) ?hd (xs := ([wrap64 ((wrap64 ((wrap64 (x14_1 - x19_2)) + a0_1)) - 1)] : List Int)) (inner := [.int .i64 (wrap64 ((wrap64 ((wrap64 (x14_1 - x19_2)) + a0_1)) - 1))]) (ok := fun _ => True) (okp := fun _ => True) ?hr ?hp (fun _ hk => hk) trivial (Below.refl _ _) (Nat.le_refl _) (by simp) ?_; (case hd => rfl); (case hg => rfl); (case hr => first | (go_simp; done) | (go_simp; rfl)); (case hp => exact (Reps.one (show Kd.M (Kd.int .i64) _ _ _ (wrap64 ((wrap64 ((wrap64 (x14_1 - x19_2)) + a0_1)) - 1)) [.int .i64 (wrap64 ((wrap64 ((wrap64 (x14_1 - x19_2)) + a0_1)) - 1))] from rfl) (Reps.none _ _)))
             intro v374 w22 ho23 hb hg_ hnew_
             clear hg_ hnew_
             (first | rw [← Ny373.out] at ho23 | (simp only [Int.reduceToNat] at ho23; rw [← Ny373.out] at ho23))
             have n0_ := A_ (Kd.R_elder' (tr_x HO_7.out) (Kd.R_base ho23) hb)
             have n1_ := A_ (Kd.R_elder' (tr_x HO369.out) (Kd.R_base ho23) hb)
             have n2_ := A_ (Kd.R_elder' (tr_x HO372.out) (Kd.R_base ho23) hb)
             have n3_ := A_ (Kd.R_lower (Kd.R_new' (Kd.R_new' (Kd.R_new' ho23 (Kd.R_lt (tr_x HO_7.out))) (Kd.R_lt (tr_x HO369.out))) (Kd.R_lt (tr_x HO372.out))) (below_size tb_))
             have n4_ := A_ (blk_below (g := gb360) (o := .cells #[.int .i64 a0_0, .int .i64 a0_1, .slice A0_2 l0_2.length c0_2] 26 (0, 0)) (tk_ BK360) hb)
             have n5_ := A_ (below_step tb_ hb)
             clear HO_7
             clear HO369
             clear HO372
             clear BK360
             clear HB
             have HO_7 := n0_
             have HO369 := n1_
             have HO372 := n2_
             have HO375 := n3_
             have BK360 := n4_
             have HB := n5_
             clear n0_ n1_ n2_ n3_ n4_ n5_
             clear hb ho23
             refine hK.out _ _ ⟨(blk_cell BK360.out 0).trans rfl, (blk_cell BK360.out 1).trans rfl, (blk_cell BK360.out 2).trans rfl⟩ (fun hHeld => ?_)
             clear hK K
             refine norm_ (a' := ?_) ?_ ?_
             rotate_left
             ·
              show Act.put _ (some 42) _ = _
              simp only [Act.put, List.setIfInBounds_toArray, List.set_cons_zero, List.set_cons_succ, i64_w, i32_w]
              rfl
             exact norm_ (by simp only [putAll, Act.put, List.setIfInBounds_toArray, List.set_cons_zero, List.set_cons_succ]) (hCont (.slice Ao21 y367.length co21, v371, v374) _ ⟨hHeld, (tr_ (h := by exact Kd.R_mono HO369.out om_)), (tr_ (h := by exact Kd.R_mono HO372.out om_)), (tr_ (h := by exact Kd.R_mono HO375.out om_)), (tr_ (h := by exact Kd.R_mono HO_7.out om_)), (tk_ BK360), tb_⟩)
            ·
             skip
             refine Kd.R_lit_step (Kd.int .i64) _ 3 ?hg (N := 42) ?hd (xs := ([wrap64 ((wrap64 ((wrap64 (x14_1 - x19_2)) + a0_1)) - 1)] : List Int)) (inner := [.int .i64 (wrap64 ((wrap64 ((wrap64 (x14_1 - x19_2)) + a0_1)) - 1))]) (ok := fun _ => True) (okp := fun _ => True) ?hr ?hp (fun _ hk => hk) trivial (Below.refl _ _) (Nat.le_refl _) (by simp) ?_; (case hd => rfl); (case hg => rfl); (case hr => first | (go_simp; done) | (go_simp; rfl)); (case hp => exact (Reps.one (show Kd.M (Kd.int .i64) _ _ _ (wrap64 ((wrap64 ((wrap64 (x14_1 - x19_2)) + a0_1)) - 1)) [.int .i64 (wrap64 ((wrap64 ((wrap64 (x14_1 - x19_2)) + a0_1)) - 1))] from rfl) (Reps.none _ _)))
             intro v374 w20 ho21 hb hg_ hnew_
             clear hg_ hnew_
             (first | rw [← Ny373.out] at ho21 | (simp only [Int.reduceToNat] at ho21; rw [← Ny373.out] at ho21))
             have n0_ := A_ (Kd.R_elder' (tr_x HO_6.out) (Kd.R_base ho21) hb)
             have n1_ := A_ (Kd.R_elder' (tr_x HO_7.out) (Kd.R_base ho21) hb)
             have n2_ := A_ (Kd.R_elder' (tr_x HO369.out) (Kd.R_base ho21) hb)
             have n3_ := A_ (Kd.R_lower (Kd.R_new' (Kd.R_new' (Kd.R_new' ho21 (Kd.R_lt (tr_x HO_6.out))) (Kd.R_lt (tr_x HO_7.out))) (Kd.R_lt (tr_x HO369.out))) (below_size tb_))
             have n4_ := A_ (blk_below (g := gb360) (o := .cells #[.int .i64 a0_0, .int .i64 a0_1, .slice A0_2 l0_2.length c0_2] 26 (0, 0)) (tk_ BK360) hb)
             have n5_ := A_ (below_step tb_ hb)
             clear HO_6
             clear HO_7
             clear HO369
             clear BK360
             clear HB
             have HO_6 := n0_
             have HO_7 := n1_
             have HO369 := n2_
             have HO375 := n3_
             have BK360 := n4_
             have HB := n5_
             clear n0_ n1_ n2_ n3_ n4_ n5_
             clear hb ho21
             obtain ⟨Ao23, co23, eo23⟩ := Kd.R_slice HO369.out
             (first | subst eo23 | (injection eo23 with f1_ f2_ f3_; have f4_ := f1_.symm; have f5_ := f3_.symm; clear f1_ f2_ f3_; subst f4_; subst f5_))
             refine hK.out _ _ ⟨(blk_cell BK360.out 0).trans rfl, (blk_cell BK360.out 1).trans rfl, (blk_cell BK360.out 2).trans rfl⟩ (fun hHeld => ?_)
             clear hK K
             refine norm_ (a' := ?_) ?_ ?_
             rotate_left
             ·
              show Act.put _ (some 42) _ = _
              simp only [Act.put, List.setIfInBounds_toArray, List.set_cons_zero, List.set_cons_succ, i64_w, i32_w]
              rfl
             refine one_ (i := 5) (N := some 33) (Fn.bl 18 32767) rfl rfl (one_of HT_.out (by kernel_rfl)) (by decide) (fun K hK => ?_)
             refine Kd.R_append_rows_step (Kd.int .i64) (w0 := w) w.heap.size (by rfl) (.tmp 28) (.tmp 32) 22 3 (.int .i64 0) 8 rfl Try.underlying22 info3 rfl (by decide) (by omega) (.slice Ao15 x6_2.length co15) x6_2 y367 _ _ _ (fun k_ => some k_ ≠ (.slice Ao16 x7_2.length co16 : Value).ownBlock ∧ some k_ ≠ (.slice Ao23 y367.length co23 : Value).ownBlock ∧ some k_ ≠ (v374 : Value).ownBlock) (fun _ => False) rfl rfl ?aO ?aR (fun _ _ h => h) (fun _ h => h.elim) ?aF ?aB ?aS ?aL ?_
             (case aR => exact tc0_ (Kd.R_reads' HO369.out).2.2)
             (case aB => exact tb_)
             (case aF => exact (fun k_ hk => ⟨Kd.fresh' (Kd.R_lt (tr_x HO_7.out)) k_ hk, Kd.fresh' (Kd.R_lt (tr_x HO369.out)) k_ hk, Kd.fresh' (Kd.R_lt (tr_x HO375.out)) k_ hk⟩))
             (case aO => exact (tr_ (h := by exact Kd.R_mono HO_6.out om_)))
             (case aS => exact (below_size tb_))
             (case aL => have := LMc13.out; omega)
             intro v371 w22 ho hb hg hat
             rw [← Ny370.out] at ho
             have n0_ := A_ (Kd.R_after (ok := (fun k_ => some k_ ≠ (.slice Ao23 y367.length co23 : Value).ownBlock ∧ some k_ ≠ (v374 : Value).ownBlock)) (tr_ (h := by exact Kd.R_mono HO_7.out om_)) hg hat)
             have n1_ := A_ (blk_grown (g := gb360) (o := .cells #[.int .i64 a0_0, .int .i64 a0_1, .slice A0_2 l0_2.length c0_2] 26 (0, 0)) (tk_ BK360) hg (Kd.R_ne HO_6.out BK360.out (by decide)))
             have n2_ := A_ (Kd.R_after (ok := (fun k_ => some k_ ≠ (.slice Ao16 x7_2.length co16 : Value).ownBlock ∧ some k_ ≠ (v374 : Value).ownBlock)) (tr_ (h := by exact Kd.R_mono HO369.out om_)) hg hat)
             have n3_ := A_ (Kd.R_after (ok := (fun k_ => some k_ ≠ (.slice Ao16 x7_2.length co16 : Value).ownBlock ∧ some k_ ≠ (.slice Ao23 y367.length co23 : Value).ownBlock)) (tr_ (h := by exact Kd.R_mono HO375.out om_)) hg hat)
             have n4_ := A_ (hb)
             have n5_ := A_ (ho)
             clear HO_7
             clear BK360
             clear HO369
             clear HO375
             clear HB
             clear HO_6
             have HO_7 := n0_
             have BK360 := n1_
             have HO369 := n2_
             have HO375 := n3_
             have HB := n4_
             have HO372 := n5_
             clear n0_ n1_ n2_ n3_ n4_ n5_
             clear ho hb hg hat
             refine hK.out _ _ ⟨(blk_cell BK360.out 0).trans rfl, (blk_cell BK360.out 1).trans rfl, (blk_cell BK360.out 2).trans rfl⟩ (fun hHeld => ?_)
             clear hK K
             refine norm_ (a' := ?_) ?_ ?_
             rotate_left
             ·
              show Act.put _ (some 33) _ = _
              simp only [Act.put, List.setIfInBounds_toArray, List.set_cons_zero, List.set_cons_succ, i64_w, i32_w]
              rfl
             exact norm_ (by simp only [putAll, Act.put, List.setIfInBounds_toArray, List.set_cons_zero, List.set_cons_succ]) (hCont (.slice Ao23 y367.length co23, v371, v374) _ ⟨hHeld, (tr_ (h := by exact Kd.R_mono HO369.out om_)), (tr_ (h := by exact Kd.R_mono HO372.out om_)), (tr_ (h := by exact Kd.R_mono HO375.out om_)), (tr_ (h := by exact Kd.R_mono HO_7.out om_)), (tk_ BK360), tb_⟩)
           ·
            skip
            refine Kd.R_lit_step (Kd.int .i64) _ 3 ?hg (N := 42) ?hd (xs := ([wrap64 ((wrap64 ((wrap64 (x14_1 - x19_2)) + a0_1)) - 1)] : List Int)) (inner := [.int .i64 (wrap64 ((wrap64 ((wrap64 (x14_1 - x19_2)) + a0_1)) - 1))]) (ok := fun _ => True) (okp := fun _ => True) ?hr ?hp (fun _ hk => hk) trivial (Below.refl _ _) (Nat.le_refl _) (by simp) ?_; (case hd => rfl); (case hg => rfl); (case hr => first | (go_simp; done) | (go_simp; rfl)); (case hp => exact (Reps.one (show Kd.M (Kd.int .i64) _ _ _ (wrap64 ((wrap64 ((wrap64 (x14_1 - x19_2)) + a0_1)) - 1)) [.int .i64 (wrap64 ((wrap64 ((wrap64 (x14_1 - x19_2)) + a0_1)) - 1))] from rfl) (Reps.none _ _)))
            intro v374 w18 ho19 hb hg_ hnew_
            clear hg_ hnew_
            (first | rw [← Ny373.out] at ho19 | (simp only [Int.reduceToNat] at ho19; rw [← Ny373.out] at ho19))
            have n0_ := A_ (Kd.R_elder' (tr_x HO_6.out) (Kd.R_base ho19) hb)
            have n1_ := A_ (Kd.R_elder' (tr_x HO_7.out) (Kd.R_base ho19) hb)
            have n2_ := A_ (Kd.R_lower (Kd.R_new' (Kd.R_new' ho19 (Kd.R_lt (tr_x HO_6.out))) (Kd.R_lt (tr_x HO_7.out))) (below_size tb_))
            have n3_ := A_ (blk_below (g := gb360) (o := .cells #[.int .i64 a0_0, .int .i64 a0_1, .slice A0_2 l0_2.length c0_2] 26 (0, 0)) (tk_ BK360) hb)
            have n4_ := A_ (below_step tb_ hb)
            clear HO_6
            clear HO_7
            clear BK360
            clear HB
            have HO_6 := n0_
            have HO_7 := n1_
            have HO375 := n2_
            have BK360 := n3_
            have HB := n4_
            clear n0_ n1_ n2_ n3_ n4_
            clear hb ho19
            refine hK.out _ _ ⟨(blk_cell BK360.out 0).trans rfl, (blk_cell BK360.out 1).trans rfl, (blk_cell BK360.out 2).trans rfl⟩ (fun hHeld => ?_)
            clear hK K
            refine norm_ (a' := ?_) ?_ ?_
            rotate_left
            ·
             show Act.put _ (some 42) _ = _
             simp only [Act.put, List.setIfInBounds_toArray, List.set_cons_zero, List.set_cons_succ, i64_w, i32_w]
             rfl
            refine one_ (i := 4) (N := some 32) (Fn.bl 18 32735) rfl rfl (one_of HT_.out (by kernel_rfl)) (by decide) (fun K hK => ?_)
            refine Kd.R_lit_step (Kd.int .i64) _ 3 ?hg (N := 32) ?hd (xs := ([wrap64 (x14_1 + x19_2)] : List Int)) (inner := [.int .i64 (wrap64 (x14_1 + x19_2))]) (ok := fun _ => True) (okp := fun _ => True) ?hr ?hp (fun _ hk => hk) trivial (Below.refl _ _) (Nat.le_refl _) (by simp) ?_; (case hd => rfl); (case hg => rfl); (case hr => first | (go_simp; done) | (go_simp; rfl)); (case hp => exact (Reps.one (show Kd.M (Kd.int .i64) _ _ _ (wrap64 (x14_1 + x19_2)) [.int .i64 (wrap64 (x14_1 + x19_2))] from rfl) (Reps.none _ _)))
            intro v368 w20 ho21 hb hg_ hnew_
            clear hg_ hnew_
            (first | rw [← Ny367.out] at ho21 | (simp only [Int.reduceToNat] at ho21; rw [← Ny367.out] at ho21))
            have n0_ := A_ (Kd.R_elder' (tr_x HO_6.out) (Kd.R_base ho21) hb)
            have n1_ := A_ (Kd.R_elder' (tr_x HO_7.out) (Kd.R_base ho21) hb)
            have n2_ := A_ (Kd.R_elder' (tr_x HO375.out) (Kd.R_base ho21) hb)
            have n3_ := A_ (Kd.R_lower (Kd.R_new' (Kd.R_new' (Kd.R_new' ho21 (Kd.R_lt (tr_x HO_6.out))) (Kd.R_lt (tr_x HO_7.out))) (Kd.R_lt (tr_x HO375.out))) (below_size tb_))
            have n4_ := A_ (blk_below (g := gb360) (o := .cells #[.int .i64 a0_0, .int .i64 a0_1, .slice A0_2 l0_2.length c0_2] 26 (0, 0)) (tk_ BK360) hb)
            have n5_ := A_ (below_step tb_ hb)
            clear HO_6
            clear HO_7
            clear HO375
            clear BK360
            clear HB
            have HO_6 := n0_
            have HO_7 := n1_
            have HO375 := n2_
            have HO369 := n3_
            have BK360 := n4_
            have HB := n5_
            clear n0_ n1_ n2_ n3_ n4_ n5_
            clear hb ho21
            obtain ⟨Ao23, co23, eo23⟩ := Kd.R_slice HO369.out
            (first | subst eo23 | (injection eo23 with f1_ f2_ f3_; have f4_ := f1_.symm; have f5_ := f3_.symm; clear f1_ f2_ f3_; subst f4_; subst f5_))
            refine hK.out _ _ ⟨(blk_cell BK360.out 0).trans rfl, (blk_cell BK360.out 1).trans rfl, (blk_cell BK360.out 2).trans rfl⟩ (fun hHeld => ?_)
            clear hK K
            refine norm_ (a' := ?_) ?_ ?_
            rotate_left
            ·
             show Act.put _ (some 32) _ = _
             simp only [Act.put, List.setIfInBounds_toArray, List.set_cons_zero, List.set_cons_succ, i64_w, i32_w]
             rfl
            refine one_ (i := 5) (N := some 33) (Fn.bl 18 32767) rfl rfl (one_of HT_.out (by kernel_rfl)) (by decide) (fun K hK => ?_)
            refine Kd.R_append_rows_step (Kd.int .i64) (w0 := w) w.heap.size (by rfl) (.tmp 28) (.tmp 32) 22 3 (.int .i64 0) 8 rfl Try.underlying22 info3 rfl (by decide) (by omega) (.slice Ao15 x6_2.length co15) x6_2 y367 _ _ _ (fun k_ => some k_ ≠ (.slice Ao16 x7_2.length co16 : Value).ownBlock ∧ some k_ ≠ (v374 : Value).ownBlock ∧ some k_ ≠ (.slice Ao23 y367.length co23 : Value).ownBlock) (fun _ => False) rfl rfl ?aO ?aR (fun _ _ h => h) (fun _ h => h.elim) ?aF ?aB ?aS ?aL ?_
            (case aR => exact tc0_ (Kd.R_reads' HO369.out).2.2)
            (case aB => exact tb_)
            (case aF => exact (fun k_ hk => ⟨Kd.fresh' (Kd.R_lt (tr_x HO_7.out)) k_ hk, Kd.fresh' (Kd.R_lt (tr_x HO375.out)) k_ hk, Kd.fresh' (Kd.R_lt (tr_x HO369.out)) k_ hk⟩))
            (case aO => exact (tr_ (h := by exact Kd.R_mono HO_6.out om_)))
            (case aS => exact (below_size tb_))
            (case aL => have := LMc13.out; omega)
            intro v371 w22 ho hb hg hat
            rw [← Ny370.out] at ho
            have n0_ := A_ (Kd.R_after (ok := (fun k_ => some k_ ≠ (v374 : Value).ownBlock ∧ some k_ ≠ (.slice Ao23 y367.length co23 : Value).ownBlock)) (tr_ (h := by exact Kd.R_mono HO_7.out om_)) hg hat)
            have n1_ := A_ (blk_grown (g := gb360) (o := .cells #[.int .i64 a0_0, .int .i64 a0_1, .slice A0_2 l0_2.length c0_2] 26 (0, 0)) (tk_ BK360) hg (Kd.R_ne HO_6.out BK360.out (by decide)))
            have n2_ := A_ (Kd.R_after (ok := (fun k_ => some k_ ≠ (.slice Ao16 x7_2.length co16 : Value).ownBlock ∧ some k_ ≠ (.slice Ao23 y367.length co23 : Value).ownBlock)) (tr_ (h := by exact Kd.R_mono HO375.out om_)) hg hat)
            have n3_ := A_ (Kd.R_after (ok := (fun k_ => some k_ ≠ (.slice Ao16 x7_2.length co16 : Value).ownBlock ∧ some k_ ≠ (v374 : Value).ownBlock)) (tr_ (h := by exact Kd.R_mono HO369.out om_)) hg hat)
            have n4_ := A_ (hb)
            have n5_ := A_ (ho)
            clear HO_7
            clear BK360
            clear HO375
            clear HO369
            clear HB
            clear HO_6
            have HO_7 := n0_
            have BK360 := n1_
            have HO375 := n2_
            have HO369 := n3_
            have HB := n4_
            have HO372 := n5_
            clear n0_ n1_ n2_ n3_ n4_ n5_
            clear ho hb hg hat
            refine hK.out _ _ ⟨(blk_cell BK360.out 0).trans rfl, (blk_cell BK360.out 1).trans rfl, (blk_cell BK360.out 2).trans rfl⟩ (fun hHeld => ?_)
            clear hK K
            refine norm_ (a' := ?_) ?_ ?_
            rotate_left
            ·
             show Act.put _ (some 33) _ = _
             simp only [Act.put, List.setIfInBounds_toArray, List.set_cons_zero, List.set_cons_succ, i64_w, i32_w]
             rfl
            exact norm_ (by simp only [putAll, Act.put, List.setIfInBounds_toArray, List.set_cons_zero, List.set_cons_succ]) (hCont (.slice Ao23 y367.length co23, v371, v374) _ ⟨hHeld, (tr_ (h := by exact Kd.R_mono HO369.out om_)), (tr_ (h := by exact Kd.R_mono HO372.out om_)), (tr_ (h := by exact Kd.R_mono HO375.out om_)), (tr_ (h := by exact Kd.R_mono HO_7.out om_)), (tk_ BK360), tb_⟩)
          rintro ⟨v368, v371, v374⟩ w24 ⟨hS_, h0_, h1_, h2_, h3_, h4_, h5_⟩
          have n0_ : Aside0 (Kd.R (Kd.int .i64) 3 w24 w.heap.size (fun k_ => some k_ ≠ (v371 : Value).ownBlock ∧ some k_ ≠ (v374 : Value).ownBlock ∧ some k_ ≠ (.slice Ao16 x7_2.length co16 : Value).ownBlock) v368 y367) := ⟨h0_⟩
          have n1_ : Aside0 (Kd.R (Kd.int .i64) 3 w24 w.heap.size (fun k_ => some k_ ≠ (v368 : Value).ownBlock ∧ some k_ ≠ (v374 : Value).ownBlock ∧ some k_ ≠ (.slice Ao16 x7_2.length co16 : Value).ownBlock) v371 y370) := ⟨h1_⟩
          have n2_ : Aside0 (Kd.R (Kd.int .i64) 3 w24 w.heap.size (fun k_ => some k_ ≠ (v368 : Value).ownBlock ∧ some k_ ≠ (v371 : Value).ownBlock ∧ some k_ ≠ (.slice Ao16 x7_2.length co16 : Value).ownBlock) v374 y373) := ⟨h2_⟩
          have n3_ : Aside0 (Kd.R (Kd.int .i64) 3 w24 w.heap.size (fun k_ => some k_ ≠ (v368 : Value).ownBlock ∧ some k_ ≠ (v371 : Value).ownBlock ∧ some k_ ≠ (v374 : Value).ownBlock) (.slice Ao16 x7_2.length co16) x7_2) := ⟨h3_⟩
          have n4_ : Aside0 (w24.heap[gb360]? = some (.cells #[.int .i64 a0_0, .int .i64 a0_1, .slice A0_2 l0_2.length c0_2] 26 (0, 0))) := ⟨h4_⟩
          have n5_ : Aside0 (Below w.heap.size w w24) := ⟨h5_⟩
          clear HO_6
          clear HO_7
          clear BK360
          clear HB
          clear h0_ h1_ h2_ h3_ h4_ h5_
          have HO369 := n0_
          have HO372 := n1_
          have HO375 := n2_
          have HO_7 := n3_
          have BK360 := n4_
          have HB := n5_
          clear n0_ n1_ n2_ n3_ n4_ n5_
          have hHeld : w24.cell? ⟨gb360, 0, none⟩ = some (.int .i64 a0_0) ∧ w24.cell? ⟨gb360, 1, none⟩ = some (.int .i64 a0_1) ∧ w24.cell? ⟨gb360, 2, none⟩ = some (.slice A0_2 l0_2.length c0_2) := hS_
          obtain ⟨Ao26, co26, eo26⟩ := Kd.R_slice HO375.out
          (first | subst eo26 | (injection eo26 with f1_ f2_ f3_; have f4_ := f1_.symm; have f5_ := f3_.symm; clear f1_ f2_ f3_; subst f4_; subst f5_))
          refine norm_ (a' := ?_) ?_ ?_
          rotate_left
          ·
           simp only [putAll, Act.put, List.setIfInBounds_toArray, List.set_cons_zero, List.set_cons_succ]
           rfl
          refine one_ (i := 15) (N := some 43) (Fn.bl 18 65535) rfl rfl (one_of HT_.out (by kernel_rfl)) (by decide) (fun K hK => ?_)
          refine Kd.R_append_rows_step (Kd.int .i64) (w0 := w) w.heap.size (by rfl) (.tmp 34) (.tmp 42) 22 3 (.int .i64 0) 8 rfl Try.underlying22 info3 rfl (by decide) (by omega) (.slice Ao16 x7_2.length co16) x7_2 y373 _ _ _ (fun k_ => some k_ ≠ (v368 : Value).ownBlock ∧ some k_ ≠ (v371 : Value).ownBlock ∧ some k_ ≠ (.slice Ao26 y373.length co26 : Value).ownBlock) (fun _ => False) rfl rfl ?aO ?aR (fun _ _ h => h) (fun _ h => h.elim) ?aF ?aB ?aS ?aL ?_
          (case aR => exact tc0_ (Kd.R_reads' HO375.out).2.2)
          (case aB => exact tb_)
          (case aF => exact (fun k_ hk => ⟨Kd.fresh' (Kd.R_lt (tr_x HO369.out)) k_ hk, Kd.fresh' (Kd.R_lt (tr_x HO372.out)) k_ hk, Kd.fresh' (Kd.R_lt (tr_x HO375.out)) k_ hk⟩))
          (case aO => exact (tr_x HO_7.out))
          (case aS => exact (below_size tb_))
          (case aL => have := LMc14.out; omega)
          intro v377 w25 ho hb hg hat
          rw [← Ny376.out] at ho
          have n0_ := A_ (blk_grown (g := gb360) (o := .cells #[.int .i64 a0_0, .int .i64 a0_1, .slice A0_2 l0_2.length c0_2] 26 (0, 0)) (tk_ BK360) hg (Kd.R_ne HO_7.out BK360.out (by decide)))
          have n1_ := A_ (Kd.R_after (ok := (fun k_ => some k_ ≠ (v371 : Value).ownBlock ∧ some k_ ≠ (.slice Ao26 y373.length co26 : Value).ownBlock)) (tr_ (h := by exact Kd.R_mono HO369.out om_)) hg hat)
          have n2_ := A_ (Kd.R_after (ok := (fun k_ => some k_ ≠ (v368 : Value).ownBlock ∧ some k_ ≠ (.slice Ao26 y373.length co26 : Value).ownBlock)) (tr_ (h := by exact Kd.R_mono HO372.out om_)) hg hat)
          have n3_ := A_ (Kd.R_after (ok := (fun k_ => some k_ ≠ (v368 : Value).ownBlock ∧ some k_ ≠ (v371 : Value).ownBlock)) (tr_ (h := by exact Kd.R_mono HO375.out om_)) hg hat)
          have n4_ := A_ (hb)
          have n5_ := A_ (ho)
          clear BK360
          clear HO369
          clear HO372
          clear HO375
          clear HB
          clear HO_7
          have BK360 := n0_
          have HO369 := n1_
          have HO372 := n2_
          have HO375 := n3_
          have HB := n4_
          have HO378 := n5_
          clear n0_ n1_ n2_ n3_ n4_ n5_
          clear ho hb hg hat
          refine hK.out _ _ ⟨(blk_cell BK360.out 0).trans rfl, (blk_cell BK360.out 1).trans rfl, (blk_cell BK360.out 2).trans rfl⟩ (fun hHeld => ?_)
          clear hK K
          refine norm_ (a' := ?_) ?_ ?_
          rotate_left
          ·
           show Act.put _ (some 43) _ = _
           simp only [Act.put, List.setIfInBounds_toArray, List.set_cons_zero, List.set_cons_succ, i64_w, i32_w]
           rfl
          refine pq_ 16 (some 6) (Fn.bl 18 131071) HT_.out ?_
          refine pq_ 17 (some 7) (Fn.bl 18 262143) HT_.out ?_
          refine done_ (done_of HT_.out (by kernel_rfl)) ?_
          try go_wp2
          go_roundg k2
          case measure => have := HK1.out; have := HK2.out; omega
          case rel => exact ⟨(y370), (y376), (wrap64 (x19_2 + 1)), tf_, H', ⟨by have := HK1.out; have := HK2.out; omega⟩, ⟨by (with_reducible repeat (first | apply Kd.R_alloc | apply Kd.R_drewN | apply Kd.R_drew)); exact Kd.R_mono HO372.out (fun _ hk => hk.2)⟩, ⟨by (with_reducible repeat (first | apply Kd.R_alloc | apply Kd.R_drewN | apply Kd.R_drew)); exact Kd.R_mono HO378.out (fun _ hk => hk.2.1)⟩, ⟨tk_ BK360⟩, ⟨tb_⟩⟩
         ·
          rw [if_neg c14] at H
          exact absurd H (by simp)
        ·
         rw [if_neg c13] at H
         exact absurd H (by simp)
       ·
        rw [if_neg c12] at H
        have c12b0 : ((Int.tmod (wrap64 (x14_1 + x19_2)) 2) == a1) = false := beq_eq_false_iff_ne.mpr c12
        have c12b1 : ((Int.tmod (wrap64 (x14_1 + x19_2)) 2) != a1) = true := bne_iff_ne.mpr c12
        have H' := A_ H
        clear H
        go_wp2
        go_roundg k2
        case measure => have := HK1.out; have := HK2.out; omega
        case rel => exact ⟨(x6_2), (x7_2), (wrap64 (x19_2 + 1)), tf_, H', ⟨by have := HK1.out; have := HK2.out; omega⟩, ⟨tr_x HO_6.out⟩, ⟨tr_x HO_7.out⟩, ⟨tk_ BK360⟩, ⟨tb_⟩⟩
      ·
       rw [if_neg c11] at H
       have c11b0 := decide_eq_false c11
       clear c11
       have H' := A_ H
       clear H
       go_wp2
       go_roundg k2
       case measure => have := HK1.out; have := HK2.out; omega
       case rel => exact ⟨(x6_2), (x7_2), (wrap64 (x14_1 + 1)), tf_, H', ⟨by have := HK1.out; have := HK2.out; omega⟩, ⟨tr_x HO_6.out⟩, ⟨tr_x HO_7.out⟩, ⟨tk_ BK360⟩, ⟨tb_⟩⟩
   ·
    rw [if_neg c9] at H
    have c9b0 := decide_eq_false c9
    clear c9
    replace H := Option.bind_eq_some_iff.mp H
    obtain ⟨t379, A270, H⟩ := H
    replace H : ((slices_Sort_int_int.f x7_1).bind fun t380 => ((slices_Compact_int_int.f t379).bind fun t381 => ((slices_Compact_int_int.f t380).bind fun t384 => (some (t381, t384))))) = some (r1, r2) := H
    have A27 := A_ A270
    clear A270
    replace H := Option.bind_eq_some_iff.mp H
    obtain ⟨t380, A280, H⟩ := H
    replace H : ((slices_Compact_int_int.f t379).bind fun t381 => ((slices_Compact_int_int.f t380).bind fun t384 => (some (t381, t384)))) = some (r1, r2) := H
    have A28 := A_ A280
    clear A280
    replace H := Option.bind_eq_some_iff.mp H
    obtain ⟨t381, A290, H⟩ := H
    replace H : ((slices_Compact_int_int.f t380).bind fun t384 => (some (t381, t384))) = some (r1, r2) := H
    have A29 := A_ A290
    clear A290
    replace H := Option.bind_eq_some_iff.mp H
    obtain ⟨t384, A300, H⟩ := H
    replace H : (some (t381, t384)) = some (r1, r2) := H
    have A30 := A_ A300
    clear A300
    simp only [Option.some.injEq, Prod.mk.injEq] at H
    obtain ⟨rfl, rfl⟩ := H
    obtain ⟨Ao31, co31, eo31⟩ := Kd.R_slice HO_6.out
    subst eo31
    go_wp2_with (first | (refine gc_ 208 ?_; refine goesT_ (some 47) Try.func208 #[.slice Ao31 x6_1.length co31] ?_; (with_reducible refine (slices_Sort_int_int.calls (fun k_ => some k_ = (.slice Ao31 x6_1.length co31 : Value).ownBlock) (.slice Ao31 x6_1.length co31) x6_1 t379 w _ ?side1 ?side2 A27.out).mono ?_); (case side1 => repeat (first | (with_reducible first | exact HB.out | apply below_alloc | apply pw_below_drewN | apply below_drew1 | refine below_set ?_ GE360.out) | exact HB.out)); (case side2 => exact Kd.R_tight rfl HO_6.out); rintro e w32 ⟨rfl, hy0, hb, hkp⟩; refine ⟨_, rfl, ?_⟩; replace HO_7 := A_ (Kd.R_mono (ok' := fun k_ => some k_ ≠ (.slice Ao31 x6_1.length co31 : Value).ownBlock) (Kd.R_keptB (HO_7.out) hkp (fun k_ hk_ hs_ => (hk_) hs_)) (fun k_ hk_ => hk_.1)); replace BK360 := A_ (blk_kept (tk_ BK360) hkp (fun hs_ => (fun e_ => (Kd.R_ne HO_6.out BK360.out (by decide)) e_) hs_)); replace HO_6 := A_ (Kd.R_reok rfl hy0 (fun k_ e_ => HO_6.out.1 k_ e_)); replace HB := A_ (hb); (try clear hb); (try clear hkp); (try clear hy0); obtain ⟨Ao33, co33, eo33⟩ := Kd.R_slice HO_7.out; subst eo33) | (refine gc_ 208 ?_; refine goesT_ (some 49) Try.func208 #[.slice Ao33 x7_1.length co33] ?_; (with_reducible refine (slices_Sort_int_int.calls (fun k_ => some k_ = (.slice Ao33 x7_1.length co33 : Value).ownBlock) (.slice Ao33 x7_1.length co33) x7_1 t380 w _ ?side1 ?side2 A28.out).mono ?_); (case side1 => repeat (first | (with_reducible first | exact HB.out | apply below_alloc | apply pw_below_drewN | apply below_drew1 | refine below_set ?_ GE360.out) | exact HB.out)); (case side2 => exact Kd.R_tight rfl HO_7.out); rintro e w34 ⟨rfl, hy0, hb, hkp⟩; refine ⟨_, rfl, ?_⟩; replace HO_6 := A_ (Kd.R_mono (ok' := fun k_ => some k_ ≠ (.slice Ao33 x7_1.length co33 : Value).ownBlock) (Kd.R_keptB (HO_6.out) hkp (fun k_ hk_ hs_ => (hk_) hs_)) (fun k_ hk_ => hk_.1)); replace BK360 := A_ (blk_kept (tk_ BK360) hkp (fun hs_ => (fun e_ => (Kd.R_ne HO_7.out BK360.out (by decide)) e_) hs_)); replace HO_7 := A_ (Kd.R_reok rfl hy0 (fun k_ e_ => HO_7.out.1 k_ e_)); replace HB := A_ (hb); (try clear hb); (try clear hkp); (try clear hy0)) | (refine gc_ 209 ?_; refine goesT_ (some 51) Try.func209 #[.slice Ao31 x6_1.length co31] ?_; (with_reducible refine (slices_Compact_int_int.calls (fun k_ => some k_ = (.slice Ao31 x6_1.length co31 : Value).ownBlock) (.slice Ao31 x6_1.length co31) t379 t381 w _ ?side1 ?side2 A29.out).mono ?_); (case side1 => repeat (first | (with_reducible first | exact HB.out | apply below_alloc | apply pw_below_drewN | apply below_drew1 | refine below_set ?_ GE360.out) | exact HB.out)); (case side2 => exact Kd.R_tight rfl HO_6.out); rintro e w35 ⟨v382, rfl, ho0, hb, hkp⟩; refine ⟨_, rfl, ?_⟩; have n0_ := A_ (Kd.R_mono (ok' := fun k_ => some k_ ≠ (v382 : Value).ownBlock) (Kd.R_keptB (HO_7.out) hkp (fun k_ hk_ hs_ => (hk_) hs_)) (fun k_ hk_ => fun e_ => Or.elim (ho0.1 k_ e_.symm) (fun hs_ => hk_.2.1 hs_) (fun hn_ => Nat.not_le.2 hk_.2.2 hn_))); have n1_ := A_ (blk_kept (tk_ BK360) hkp (fun hs_ => (fun e_ => (Kd.R_ne HO_6.out BK360.out (by decide)) e_) hs_)); have n2_ := A_ (Kd.R_mono (ok' := fun k_ => some k_ ≠ (.slice Ao33 x7_1.length co33 : Value).ownBlock) ho0 (fun k_ hk_ => Or.elim hk_ (fun hs_ => fun e_ => (((HO_7.out).1 k_ e_.symm)) hs_) (fun hn_ => (Kd.fresh' (Kd.R_lt (tr_x HO_7.out)) k_ hn_)))); have n3_ := A_ (hb); clear HO_7; clear BK360; clear HB; clear HO_6; have HO_7 := n0_; have BK360 := n1_; have HO383 := n2_; have HB := n3_; clear n0_ n1_ n2_ n3_; (try clear hb); (try clear hkp); (try clear ho0)) | (refine gc_ 209 ?_; refine goesT_ (some 53) Try.func209 #[.slice Ao33 x7_1.length co33] ?_; (with_reducible refine (slices_Compact_int_int.calls (fun k_ => some k_ = (.slice Ao33 x7_1.length co33 : Value).ownBlock) (.slice Ao33 x7_1.length co33) t380 t384 w _ ?side1 ?side2 A30.out).mono ?_); (case side1 => repeat (first | (with_reducible first | exact HB.out | apply below_alloc | apply pw_below_drewN | apply below_drew1 | refine below_set ?_ GE360.out) | exact HB.out)); (case side2 => exact Kd.R_tight rfl HO_7.out); rintro e w36 ⟨v385, rfl, ho0, hb, hkp⟩; refine ⟨_, rfl, ?_⟩; have n0_ := A_ (blk_kept (tk_ BK360) hkp (fun hs_ => (fun e_ => (Kd.R_ne HO_7.out BK360.out (by decide)) e_) hs_)); have n1_ := A_ (Kd.R_mono (ok' := fun k_ => some k_ ≠ (v385 : Value).ownBlock) (Kd.R_keptB (HO383.out) hkp (fun k_ hk_ hs_ => (hk_) hs_)) (fun k_ hk_ => fun e_ => Or.elim (ho0.1 k_ e_.symm) (fun hs_ => hk_.2.1 hs_) (fun hn_ => Nat.not_le.2 hk_.2.2 hn_))); have n2_ := A_ (Kd.R_mono (ok' := fun k_ => some k_ ≠ (v382 : Value).ownBlock) ho0 (fun k_ hk_ => Or.elim hk_ (fun hs_ => fun e_ => (((HO383.out).1 k_ e_.symm)) hs_) (fun hn_ => (Kd.fresh' (Kd.R_lt (tr_x HO383.out)) k_ hn_)))); have n3_ := A_ (hb); clear BK360; clear HO383; clear HB; clear HO_7; have BK360 := n0_; have HO383 := n1_; have HO386 := n2_; have HB := n3_; clear n0_ n1_ n2_ n3_; (try clear hb); (try clear hkp); (try clear ho0)))
    go_ret2
    exact ⟨_, _, te_, tr_x HO383.out, tr_x HO386.out, tb_⟩

/-! ### impl_within: function 113 -/
def impl_within.f (a0 : Int) (a1 : Int) (a2 : Int) : Option (Bool) := if a1 ≤ a0 then (some (decide (a0 ≤ a2))) else (some false)
theorem impl_within.calls (a0 : Int) (a1 : Int) (a2 : Int) (r : Bool) (w : World) (h : impl_within.f a0 a1 a2 = some r) :
  Calls Try.prog 113 #[.int .i64 a0, .int .i64 a1, .int .i64 a2] w fun e w' => e = .returned (.bool r) ∧ Drawn0 w w' := by
 have H : (if a1 ≤ a0 then (some (decide (a0 ≤ a2))) else (some false)) = some r := h
 clear h
 by_cases c4 : a1 ≤ a0
 ·
  rw [if_pos c4] at H
  have c4b0 := decide_eq_true c4
  clear c4
  obtain rfl := Option.some.inj H
  go_enter Try.func113, Try.ntmps113
  go_wp2
  go_ret
  exact ⟨tf_, dr_⟩
 ·
  rw [if_neg c4] at H
  have c4b0 := decide_eq_false c4
  clear c4
  obtain rfl := Option.some.inj H
  go_enter Try.func113, Try.ntmps113
  go_wp2
  go_ret
  exact ⟨tf_, dr_⟩

/-! ### impl_Board_place: function 158 -/
def impl_Board_place.f (a0_0 : Int) (a0_1 : Int) (l0_2 : List Int) (a1 : Int) (a2 : Int) : Option (Bool) := (impl_within.f a1 0 (wrap64 (a0_0 - 1))).bind fun t388 => (if t388 = true then ((impl_within.f a2 0 (wrap64 (a0_1 - 1))).bind fun t389 => (some t389)) else (some false))
theorem impl_Board_place.calls (a0_0 : Int) (a0_1 : Int) (A0_2 : Option Addr) (c0_2 : Nat) (l0_2 : List Int) (a1 : Int) (a2 : Int) (r : Bool) (w : World) (hr0_2 : Kd.C (Kd.int .i64) w A0_2 l0_2.length l0_2) (hc0_2 : l0_2.length ≤ c0_2) (h : impl_Board_place.f a0_0 a0_1 l0_2 a1 a2 = some r) :
  Calls Try.prog 158 #[.agg #[.int .i64 a0_0, .int .i64 a0_1, .slice A0_2 l0_2.length c0_2], .int .i64 a1, .int .i64 a2] w fun e w' => e = .returned (.bool r) ∧ Below w.heap.size w w' := by
 have hu26 := Try.underlying26
 have HR0_2 := A_ hr0_2
 have HC0_2 := A_ hc0_2
 clear hr0_2 hc0_2
 have HB := A_ (Below.refl w.heap.size w)
 have H : ((impl_within.f a1 0 (wrap64 (a0_0 - 1))).bind fun t388 => (if t388 = true then ((impl_within.f a2 0 (wrap64 (a0_1 - 1))).bind fun t389 => (some t389)) else (some false))) = some r := h
 clear h
 replace H := Option.bind_eq_some_iff.mp H
 obtain ⟨t388, A40, H⟩ := H
 replace H : (if t388 = true then ((impl_within.f a2 0 (wrap64 (a0_1 - 1))).bind fun t389 => (some t389)) else (some false)) = some r := H
 have A4 := A_ A40
 clear A40
 by_cases c5 : t388 = true
 ·
  subst c5
  have H1 : ((impl_within.f a2 0 (wrap64 (a0_1 - 1))).bind fun t389 => (some t389)) = some r := by rw [if_pos rfl] at H; exact H
  clear H
  have H := H1
  clear H1
  replace H := Option.bind_eq_some_iff.mp H
  obtain ⟨t389, A60, H⟩ := H
  replace H : (some t389) = some r := H
  have A6 := A_ A60
  clear A60
  obtain rfl := Option.some.inj H
  go_enter Try.func158, Try.ntmps158
  go_wp2_with (first | (refine gd_ 3 ?_; refine bx_ 3 #[.int .i64 a0_0, .int .i64 a0_1, .slice A0_2 l0_2.length c0_2] 26 ?_; intro gb387 hg w7 hbox hb; have BK387 := A_ (hbox); have GW387 := A_ ((ts_ hg : w.heap.size ≤ gb387)); have GE387 := A_ ((ts_ hg : w.heap.size ≤ gb387)); replace HB := A_ (below_step tb_ hb); clear hb hbox hg; obtain ⟨hcz8_0, hcz8_1, hcz8_2, hfz8_0, hfz8_1, hfz8_2⟩ := cf3_ BK387.out) | (refine gc_ 113 ?_; refine goesT_ (some 11) Try.func113 #[.int .i64 a1, .int .i64 0, .int .i64 (wrap64 (a0_0 - 1))] ?_; (with_reducible refine (impl_within.calls a1 0 (wrap64 (a0_0 - 1)) true _ A4.out).mono ?_); rintro e w' ⟨rfl, ⟨nd, rfl⟩⟩; refine ⟨_, rfl, ?_⟩) | (go_at_call 113; (with_reducible refine (impl_within.calls a2 0 (wrap64 (a0_1 - 1)) t389 _ A6.out).mono ?_); rintro e w' ⟨rfl, ⟨nd, rfl⟩⟩))
  go_ret
  exact ⟨te_, tb_⟩
 ·
  replace c5 := Bool.eq_false_iff.mpr c5
  subst c5
  have H1 : (some false) = some r := by rw [if_neg (show ¬ (false = true) by decide)] at H; exact H
  clear H
  have H := H1
  clear H1
  obtain rfl := Option.some.inj H
  go_enter Try.func158, Try.ntmps158
  go_wp2_with (first | (refine gd_ 3 ?_; refine bx_ 3 #[.int .i64 a0_0, .int .i64 a0_1, .slice A0_2 l0_2.length c0_2] 26 ?_; intro gb387 hg w9 hbox hb; have BK387 := A_ (hbox); have GW387 := A_ ((ts_ hg : w.heap.size ≤ gb387)); have GE387 := A_ ((ts_ hg : w.heap.size ≤ gb387)); replace HB := A_ (below_step tb_ hb); clear hb hbox hg; obtain ⟨hcz10_0, hcz10_1, hcz10_2, hfz10_0, hfz10_1, hfz10_2⟩ := cf3_ BK387.out) | (refine gc_ 113 ?_; refine goesT_ (some 11) Try.func113 #[.int .i64 a1, .int .i64 0, .int .i64 (wrap64 (a0_0 - 1))] ?_; (with_reducible refine (impl_within.calls a1 0 (wrap64 (a0_0 - 1)) false _ A4.out).mono ?_); rintro e w' ⟨rfl, ⟨nd, rfl⟩⟩; refine ⟨_, rfl, ?_⟩))
  go_ret
  exact ⟨te_, tb_⟩

/-! ### impl_Board_crossing: function 166 -/
def impl_Board_crossing.f (a0_0 : Int) (a0_1 : Int) (l0_2 : List Int) (a1 : Int) (a2 : Int) : Option (Int × Int × Bool) := if (wrap64 ((wrap64 ((wrap64 (a1 + a2)) - a0_1)) + 1)) ≥ 0 then (if (Int.tmod (wrap64 ((wrap64 ((wrap64 (a1 + a2)) - a0_1)) + 1)) 2) = 0 then ((impl_Board_place.f a0_0 a0_1 l0_2 (wrap64 (Int.tdiv (wrap64 ((wrap64 ((wrap64 (a1 + a2)) - a0_1)) + 1)) 2)) (wrap64 (a1 - (wrap64 (Int.tdiv (wrap64 ((wrap64 ((wrap64 (a1 + a2)) - a0_1)) + 1)) 2))))).bind fun t391 => (some (wrap64 (Int.tdiv (wrap64 ((wrap64 ((wrap64 (a1 + a2)) - a0_1)) + 1)) 2), wrap64 (a1 - (wrap64 (Int.tdiv (wrap64 ((wrap64 ((wrap64 (a1 + a2)) - a0_1)) + 1)) 2))), t391))) else (some (wrap64 (Int.tdiv (wrap64 ((wrap64 ((wrap64 (a1 + a2)) - a0_1)) + 1)) 2), wrap64 (a1 - (wrap64 (Int.tdiv (wrap64 ((wrap64 ((wrap64 (a1 + a2)) - a0_1)) + 1)) 2))), false))) else (some (wrap64 (Int.tdiv (wrap64 ((wrap64 ((wrap64 (a1 + a2)) - a0_1)) + 1)) 2), wrap64 (a1 - (wrap64 (Int.tdiv (wrap64 ((wrap64 ((wrap64 (a1 + a2)) - a0_1)) + 1)) 2))), false))
theorem impl_Board_crossing.calls (a0_0 : Int) (a0_1 : Int) (A0_2 : Option Addr) (c0_2 : Nat) (l0_2 : List Int) (a1 : Int) (a2 : Int) (r1 : Int) (r2 : Int) (r3 : Bool) (w : World) (hr0_2 : Kd.C (Kd.int .i64) w A0_2 l0_2.length l0_2) (hc0_2 : l0_2.length ≤ c0_2) (h : impl_Board_crossing.f a0_0 a0_1 l0_2 a1 a2 = some (r1, r2, r3)) :
  Calls Try.prog 166 #[.agg #[.int .i64 a0_0, .int .i64 a0_1, .slice A0_2 l0_2.length c0_2], .int .i64 a1, .int .i64 a2] w fun e w' => e = .returned (.tuple #[.int .i64 r1, .int .i64 r2, .bool r3]) ∧ Below w.heap.size w w' := by
 have hu26 := Try.underlying26
 have HR0_2 := A_ hr0_2
 have HC0_2 := A_ hc0_2
 clear hr0_2 hc0_2
 have HB := A_ (Below.refl w.heap.size w)
 have H : (if (wrap64 ((wrap64 ((wrap64 (a1 + a2)) - a0_1)) + 1)) ≥ 0 then (if (Int.tmod (wrap64 ((wrap64 ((wrap64 (a1 + a2)) - a0_1)) + 1)) 2) = 0 then ((impl_Board_place.f a0_0 a0_1 l0_2 (wrap64 (Int.tdiv (wrap64 ((wrap64 ((wrap64 (a1 + a2)) - a0_1)) + 1)) 2)) (wrap64 (a1 - (wrap64 (Int.tdiv (wrap64 ((wrap64 ((wrap64 (a1 + a2)) - a0_1)) + 1)) 2))))).bind fun t391 => (some (wrap64 (Int.tdiv (wrap64 ((wrap64 ((wrap64 (a1 + a2)) - a0_1)) + 1)) 2), wrap64 (a1 - (wrap64 (Int.tdiv (wrap64 ((wrap64 ((wrap64 (a1 + a2)) - a0_1)) + 1)) 2))), t391))) else (some (wrap64 (Int.tdiv (wrap64 ((wrap64 ((wrap64 (a1 + a2)) - a0_1)) + 1)) 2), wrap64 (a1 - (wrap64 (Int.tdiv (wrap64 ((wrap64 ((wrap64 (a1 + a2)) - a0_1)) + 1)) 2))), false))) else (some (wrap64 (Int.tdiv (wrap64 ((wrap64 ((wrap64 (a1 + a2)) - a0_1)) + 1)) 2), wrap64 (a1 - (wrap64 (Int.tdiv (wrap64 ((wrap64 ((wrap64 (a1 + a2)) - a0_1)) + 1)) 2))), false))) = some (r1, r2, r3) := h
 clear h
 by_cases c4 : (wrap64 ((wrap64 ((wrap64 (a1 + a2)) - a0_1)) + 1)) ≥ 0
 ·
  rw [if_pos c4] at H
  have c4b0 := decide_eq_true c4
  clear c4
  by_cases c5 : (Int.tmod (wrap64 ((wrap64 ((wrap64 (a1 + a2)) - a0_1)) + 1)) 2) = 0
  ·
   rw [if_pos c5] at H
   have c5b0 : ((Int.tmod (wrap64 ((wrap64 ((wrap64 (a1 + a2)) - a0_1)) + 1)) 2) == 0) = true := beq_iff_eq.mpr c5
   have c5b1 : ((Int.tmod (wrap64 ((wrap64 ((wrap64 (a1 + a2)) - a0_1)) + 1)) 2) != 0) = false := bne_eq_false_iff_eq.mpr c5
   clear c5
   replace H := Option.bind_eq_some_iff.mp H
   obtain ⟨t391, A60, H⟩ := H
   replace H : (some (wrap64 (Int.tdiv (wrap64 ((wrap64 ((wrap64 (a1 + a2)) - a0_1)) + 1)) 2), wrap64 (a1 - (wrap64 (Int.tdiv (wrap64 ((wrap64 ((wrap64 (a1 + a2)) - a0_1)) + 1)) 2))), t391)) = some (r1, r2, r3) := H
   have A6 := A_ A60
   clear A60
   simp only [Option.some.injEq, Prod.mk.injEq] at H
   obtain ⟨rfl, rfl, rfl⟩ := H
   go_enter Try.func166, Try.ntmps166
   go_wp2_with (first | (refine gd_ 3 ?_; refine bx_ 3 #[.int .i64 a0_0, .int .i64 a0_1, .slice A0_2 l0_2.length c0_2] 26 ?_; intro gb390 hg w7 hbox hb; have BK390 := A_ (hbox); have GW390 := A_ ((ts_ hg : w.heap.size ≤ gb390)); have GE390 := A_ ((ts_ hg : w.heap.size ≤ gb390)); replace HB := A_ (below_step tb_ hb); clear hb hbox hg; obtain ⟨hcz8_0, hcz8_1, hcz8_2, hfz8_0, hfz8_1, hfz8_2⟩ := cf3_ BK390.out) | (go_at_call 158; (with_reducible refine (impl_Board_place.calls a0_0 a0_1 _ _ l0_2 (wrap64 (Int.tdiv (wrap64 ((wrap64 ((wrap64 (a1 + a2)) - a0_1)) + 1)) 2)) (wrap64 (a1 - (wrap64 (Int.tdiv (wrap64 ((wrap64 ((wrap64 (a1 + a2)) - a0_1)) + 1)) 2)))) t391 _ ?side1 ?side2 A6.out).mono ?_); (case side1 => exact tc_ HR0_2.out); (case side2 => exact HC0_2.out); rintro e w9 ⟨rfl, hb⟩; replace BK390 := A_ (blk_below (g := gb390) (o := .cells #[.int .i64 a0_0, .int .i64 a0_1, .slice A0_2 l0_2.length c0_2] 26 (0, 0)) (tk_ BK390) hb); replace HB := A_ (below_step tb_ hb); (try clear hb)))
   go_ret3
   exact ⟨te_, tb_⟩
  ·
   rw [if_neg c5] at H
   have c5b0 : ((Int.tmod (wrap64 ((wrap64 ((wrap64 (a1 + a2)) - a0_1)) + 1)) 2) == 0) = false := beq_eq_false_iff_ne.mpr c5
   have c5b1 : ((Int.tmod (wrap64 ((wrap64 ((wrap64 (a1 + a2)) - a0_1)) + 1)) 2) != 0) = true := bne_iff_ne.mpr c5
   simp only [Option.some.injEq, Prod.mk.injEq] at H
   obtain ⟨rfl, rfl, rfl⟩ := H
   go_enter Try.func166, Try.ntmps166
   go_wp2_with (first | (refine gd_ 3 ?_; refine bx_ 3 #[.int .i64 a0_0, .int .i64 a0_1, .slice A0_2 l0_2.length c0_2] 26 ?_; intro gb390 hg w10 hbox hb; have BK390 := A_ (hbox); have GW390 := A_ ((ts_ hg : w.heap.size ≤ gb390)); have GE390 := A_ ((ts_ hg : w.heap.size ≤ gb390)); replace HB := A_ (below_step tb_ hb); clear hb hbox hg; obtain ⟨hcz11_0, hcz11_1, hcz11_2, hfz11_0, hfz11_1, hfz11_2⟩ := cf3_ BK390.out))
   go_ret3
   exact ⟨te_, tb_⟩
 ·
  rw [if_neg c4] at H
  have c4b0 := decide_eq_false c4
  clear c4
  simp only [Option.some.injEq, Prod.mk.injEq] at H
  obtain ⟨rfl, rfl, rfl⟩ := H
  go_enter Try.func166, Try.ntmps166
  go_wp2_with (first | (refine gd_ 3 ?_; refine bx_ 3 #[.int .i64 a0_0, .int .i64 a0_1, .slice A0_2 l0_2.length c0_2] 26 ?_; intro gb390 hg w12 hbox hb; have BK390 := A_ (hbox); have GW390 := A_ ((ts_ hg : w.heap.size ≤ gb390)); have GE390 := A_ ((ts_ hg : w.heap.size ≤ gb390)); replace HB := A_ (below_step tb_ hb); clear hb hbox hg; obtain ⟨hcz13_0, hcz13_1, hcz13_2, hfz13_0, hfz13_1, hfz13_2⟩ := cf3_ BK390.out))
  go_ret3
  exact ⟨te_, tb_⟩

/-! ### impl_newBoard: function 174 -/
def impl_newBoard.f (a0 : Int) (a1 : Int) : Option (Int × Int × List Int) := if 0 ≤ a0 then (if (a0 : Int).toNat ≤ 35184372088832 then (some (a0, a1, (List.replicate (a0 : Int).toNat 0))) else (none)) else (none)
theorem impl_newBoard.calls (a0 : Int) (a1 : Int) (r1 : Int) (r2 : Int) (r3 : List Int) (w : World) (h : impl_newBoard.f a0 a1 = some (r1, r2, r3)) :
  Calls Try.prog 174 #[.int .i64 a0, .int .i64 a1] w fun e w' => ∃ v2_ : Value, e = .returned (.agg #[.int .i64 r1, .int .i64 r2, v2_]) ∧ Kd.R (Kd.int .i64) 3 w' w.heap.size (fun _ => True) v2_ r3 ∧ Below w.heap.size w w' := by
 have hu26 := Try.underlying26
 have HB := A_ (Below.refl w.heap.size w)
 have H : (if 0 ≤ a0 then (if (a0 : Int).toNat ≤ 35184372088832 then (some (a0, a1, (List.replicate (a0 : Int).toNat 0))) else (none)) else (none)) = some (r1, r2, r3) := h
 clear h
 by_cases c3 : 0 ≤ a0
 ·
  rw [if_pos c3] at H
  have c3b0 := eq_true c3
  have c3b1 := decide_eq_true c3
  clear c3
  by_cases c4 : (a0 : Int).toNat ≤ 35184372088832
  ·
   rw [if_pos c4] at H
   have c4b0 := eq_true c4
   have c4b1 := decide_eq_true c4
   clear c4
   obtain ⟨y393, hy393⟩ : ∃ y_ : List Int, y_ = (List.replicate (a0 : Int).toNat 0) := ⟨_, rfl⟩
   replace H : (some (a0, a1, y393)) = some (r1, r2, r3) := ty_ hy393 H
   have Ny393 := A_ hy393
   clear hy393
   simp only [Option.some.injEq, Prod.mk.injEq] at H
   obtain ⟨rfl, rfl, rfl⟩ := H
   go_enter Try.func174, Try.ntmps174
   go_wp2_with (first | (refine gd_ 4 ?_; refine bx_ 4 #[.int .i64 0, .int .i64 0, .slice none 0 0] 26 ?_; intro gb392 hg w5 hbox hb; have BK392 := A_ (hbox); have GW392 := A_ ((ts_ hg : w.heap.size ≤ gb392)); have GE392 := A_ ((ts_ hg : w.heap.size ≤ gb392)); replace HB := A_ (below_step tb_ hb); clear hb hbox hg) | (refine gd_ 8 ?_; refine Kd.R_make (Kd.int .i64) _ 3 rfl (N := 8) rfl 22 _ _ rfl a0 rfl rfl Try.underlying22 (.int .i64 0) 8 info3 rfl (by decide) (by omega) 0 (ok := fun _ => True) (okp := fun _ => True) rfl (fun _ hk => hk) trivial (od_) (Nat.le_trans (Nat.mul_le_mul_right _ (od_ : a0.toNat ≤ 35184372088832)) (by omega)) (Below.refl _ _) (Nat.le_refl _) ?_; intro v394 w6 ho7 hb hg_ hnew_; clear hg_ hnew_; (first | rw [← Ny393.out] at ho7 | (simp only [Int.reduceToNat] at ho7; rw [← Ny393.out] at ho7)); have HO395 := A_ (Kd.R_lower ho7 (below_size tb_)); replace BK392 := A_ (blk_below (g := gb392) (o := .cells #[.int .i64 0, .int .i64 0, .slice none 0 0] 26 (0, 0)) (tk_ BK392) hb); replace HB := A_ (below_step tb_ hb); clear hb ho7; obtain ⟨Ao8, co8, eo8⟩ := Kd.R_slice HO395.out; subst eo8; obtain ⟨hcz9_0, hcz9_1, hcz9_2, hfz9_0, hfz9_1, hfz9_2⟩ := cf3_ BK392.out))
   refine bodyPost_ret (results_cell_row rfl _ _ gb392 26 #[.int .i64 a0, .int .i64 a1, .slice Ao8 y393.length co8] (0, 0) _ rfl (by (with_reducible repeat (first | refine blk_drewN ?_ _ | refine blk_drew ?_ | refine blk_alloc ?_ _)); refine blk_put (cs := #[.int .i64 a0, .int .i64 a1, .slice none 0 0]) ?_ 2 _ rfl; (with_reducible repeat (first | refine blk_drewN ?_ _ | refine blk_drew ?_ | refine blk_alloc ?_ _)); refine blk_put (cs := #[.int .i64 a0, .int .i64 0, .slice none 0 0]) ?_ 1 _ rfl; (with_reducible repeat (first | refine blk_drewN ?_ _ | refine blk_drew ?_ | refine blk_alloc ?_ _)); refine blk_put (cs := #[.int .i64 0, .int .i64 0, .slice none 0 0]) ?_ 0 _ rfl; (with_reducible repeat (first | refine blk_drewN ?_ _ | refine blk_drew ?_ | refine blk_alloc ?_ _)); exact BK392.out) Try.underlying26 rfl (by kernel_rfl)) rfl ?_
   exact ⟨_, te_, by (with_reducible repeat (first | apply Kd.R_alloc | apply Kd.R_drewN | apply Kd.R_drew)); exact Kd.R_mono (Kd.R_far (p := ⟨gb392, 2, none⟩) (Kd.R_far (p := ⟨gb392, 1, none⟩) (Kd.R_far (p := ⟨gb392, 0, none⟩) (Kd.R_types HO395.out BK392.out (by decide)) (fun _ hk => hk.2) (.int .i64 a0)) (fun _ hk => hk.2) (.int .i64 a1)) (fun _ hk => hk.2) (.slice Ao8 y393.length co8)) (fun _ hk => trivial), tb_⟩
  ·
   rw [if_neg c4] at H
   exact absurd H (by simp)
 ·
  rw [if_neg c3] at H
  exact absurd H (by simp)

/-! ### impl_Board_has: function 175 -/
def impl_Board_has.f (a0_0 : Int) (a0_1 : Int) (l0_2 : List Int) (a1 : Int) (a2 : Int) : Option (Bool) := if 0 ≤ a1 then (if a1 < (l0_2.length : Int) then (if 0 ≤ a2 then (some ((Go.bits .and .i64 (shr .i64 (rd l0_2 a1) a2) 1) == 1)) else (none)) else (none)) else (none)
theorem impl_Board_has.calls (a0_0 : Int) (a0_1 : Int) (A0_2 : Option Addr) (c0_2 : Nat) (l0_2 : List Int) (a1 : Int) (a2 : Int) (r : Bool) (w : World) (hr0_2 : Kd.C (Kd.int .i64) w A0_2 l0_2.length l0_2) (hc0_2 : l0_2.length ≤ c0_2) (h : impl_Board_has.f a0_0 a0_1 l0_2 a1 a2 = some r) :
  Calls Try.prog 175 #[.agg #[.int .i64 a0_0, .int .i64 a0_1, .slice A0_2 l0_2.length c0_2], .int .i64 a1, .int .i64 a2] w fun e w' => e = .returned (.bool r) ∧ Below w.heap.size w w' := by
 have hu26 := Try.underlying26
 have HR0_2 := A_ hr0_2
 have HC0_2 := A_ hc0_2
 clear hr0_2 hc0_2
 have HB := A_ (Below.refl w.heap.size w)
 have H : (if 0 ≤ a1 then (if a1 < (l0_2.length : Int) then (if 0 ≤ a2 then (some ((Go.bits .and .i64 (shr .i64 (rd l0_2 a1) a2) 1) == 1)) else (none)) else (none)) else (none)) = some r := h
 clear h
 by_cases c4 : 0 ≤ a1
 ·
  rw [if_pos c4] at H
  have c4b0 := decide_eq_true c4
  clear c4
  by_cases c5 : a1 < (l0_2.length : Int)
  ·
   rw [if_pos c5] at H
   have c5b0 := decide_eq_true c5
   clear c5
   by_cases c6 : 0 ≤ a2
   ·
    rw [if_pos c6] at H
    have c6b0 := eq_true c6
    have c6b1 := decide_eq_true c6
    clear c6
    obtain ⟨ji7, hji7⟩ : ∃ j_ : Int, (shr .i64 (rd l0_2 a1) a2) = j_ := ⟨_, rfl⟩
    replace H : (some ((Go.bits .and .i64 (ji7) 1) == 1)) = some r := by first | (rw [hji7] at H; exact H) | (simp only [hji7] at H ⊢; exact H)
    have hji7_ : ((rd l0_2 a1) / 2 ^ min a2.toNat 64) = ji7 := hji7
    have hji7z : a2 ≤ 64 → ((rd l0_2 a1) / 2 ^ a2.toNat) = ji7 := shr_small hji7
    obtain rfl := Option.some.inj H
    go_enter Try.func175, Try.ntmps175
    go_wp2_with (first | (refine gd_ 3 ?_; refine bx_ 3 #[.int .i64 a0_0, .int .i64 a0_1, .slice A0_2 l0_2.length c0_2] 26 ?_; intro gb396 hg w8 hbox hb; have BK396 := A_ (hbox); have GW396 := A_ ((ts_ hg : w.heap.size ≤ gb396)); have GE396 := A_ ((ts_ hg : w.heap.size ≤ gb396)); replace HB := A_ (below_step tb_ hb); clear hb hbox hg; obtain ⟨hcz9_0, hcz9_1, hcz9_2, hfz9_0, hfz9_1, hfz9_2⟩ := cf3_ BK396.out; have p397 : 0 ≤ (a1 : Int) := od_; have q397 : a1 < (l0_2.length : Int) := od_; obtain ⟨ad397, e397, hx397_0⟩ := Kd.at_int HR0_2.out a1 p397 q397; cases e397; (try replace hx397_0 := (HB.out.cell (World.block_lt_of_cell? w _ hx397_0)).trans hx397_0); replace p397 := eq_true p397; replace q397 := eq_true q397))
    go_ret
    exact ⟨by first | rfl | (simp [errW_none, errW_some] <;> rfl) | (simp only [← hji7]; first | rfl | (simp [errW_none, errW_some] <;> rfl)) | (simp [*, errW_none, errW_some] <;> rfl), tb_⟩
   ·
    rw [if_neg c6] at H
    exact absurd H (by simp)
  ·
   rw [if_neg c5] at H
   exact absurd H (by simp)
 ·
  rw [if_neg c4] at H
  exact absurd H (by simp)

end
end Go.Proofs.Ythlcaikplebpmaa.P
