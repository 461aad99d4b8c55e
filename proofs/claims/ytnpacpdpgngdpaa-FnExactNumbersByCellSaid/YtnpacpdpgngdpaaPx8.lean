-- printed by wip/hprint.py of this session (the kit's print.py, patched in memory)
import Derived.Test.YtnpacpdpgngdpaaPx0
import Derived.Test.YtnpacpdpgngdpaaPx7
namespace Go.Proofs.Ytnpacpdpgngdpaa.P
noncomputable section
set_option maxHeartbeats 8000000
set_option maxRecDepth 100000
open Go.RowKit Go.Proofs.YtnpacpdpgngdpaaW.PrintWords Go.Proofs.YtnpacpdpgngdpaaW.PrintLast Go.Proofs.YtnpacpdpgngdpaaW.PrintMore
attribute [local go_sem] max2_int min2_int max_two min_two max_three min_three max_four min_four   -- for this text's walks alone
set_option linter.unusedVariables false
set_option linter.unusedSimpArgs false

/-! ### impl_PutCell: function 128 -/
def impl_PutCell.j0 : Nat → Int → Int → Bool → Bool → Int → Int → List Int → Option (Int × Int × List Int × Bool)
 | 0, _, _, _, _, _, _, _ => none
 | k + 1, x1, x2, x3, x20, x206000, x206001, x206002 => if x20 = true then (some (0, 0, ([] : List Int), false)) else ((impl_Board_copied.f x206000 x206001 x206002).bind fun bt209 => (if 0 ≤ x1 then (if x1 < (bt209.2.2.length : Int) then (if 0 ≤ x2 then ((some (bt209.2.2.set (x1 : Int).toNat (Go.bits .andNot .i64 (rd bt209.2.2 x1) (shl .i64 1 x2)) : List Int)).bind fun y216 => (if x3 = true then (some (bt209.1, bt209.2.1, (y216.set (x1 : Int).toNat (Go.bits .or .i64 (rd y216 x1) (shl .i64 1 x2))), true)) else (some (bt209.1, bt209.2.1, y216, true)))) else (none)) else (none)) else (none)))
def impl_PutCell.f (k : Nat) (a0_0 : Int) (a0_1 : Int) (l0_2 : List Int) (a1 : Int) (a2 : Int) (a3 : Bool) : Option (Int × Int × List Int × Bool) := (impl_IsBoard.f a0_0 a0_1 l0_2).bind fun t207 => (if t207 = true then ((impl_Board_place.f a0_0 a0_1 l0_2 a1 a2).bind fun t208 => (impl_PutCell.j0 k a1 a2 a3 (!t208) a0_0 a0_1 l0_2)) else (impl_PutCell.j0 k a1 a2 a3 true a0_0 a0_1 l0_2))
theorem impl_PutCell.mono_l : ∀ k, (∀ y0 y1 y2 y3 y4 y5 y6, LeO (impl_PutCell.j0 k y0 y1 y2 y3 y4 y5 y6) (impl_PutCell.j0 (k + 1) y0 y1 y2 y3 y4 y5 y6))
 | 0 => fun _ _ _ _ _ _ _ r h => by simp [impl_PutCell.j0] at h
 | k + 1 => by
  have ih0 := impl_PutCell.mono_l k
  ·
   intro y0 y1 y2 y3 y4 y5 y6
   unfold impl_PutCell.j0
   repeat' first | (with_reducible first | exact ih0 _ _ _ _ _ _ _ | exact LeO.refl _ | exact LeO.none _ | refine LeO.ite ?_ ?_ | refine LeO.bind ?_ (fun _ => ?_)) | exact ih0 _ _ _ _ _ _ _ | exact LeO.none _ | refine LeO.ite ?_ ?_ | refine LeO.bind ?_ (fun _ => ?_)
theorem impl_PutCell.mono : ∀ a0 a1 a2 a3 a4 a5 k, LeO (impl_PutCell.f k a0 a1 a2 a3 a4 a5) (impl_PutCell.f (k + 1) a0 a1 a2 a3 a4 a5) := by
 intro a0 a1 a2 a3 a4 a5 k
 have ih0 := impl_PutCell.mono_l k
 unfold impl_PutCell.f
 repeat' first | (with_reducible first | exact ih0 _ _ _ _ _ _ _ | exact LeO.refl _ | exact LeO.none _ | refine LeO.ite ?_ ?_ | refine LeO.bind ?_ (fun _ => ?_)) | exact ih0 _ _ _ _ _ _ _ | exact LeO.none _ | refine LeO.ite ?_ ?_ | refine LeO.bind ?_ (fun _ => ?_)
def impl_PutCell.T4 : Bool × List (List Nat × List Nat) := (true, [([], []), ([0], [0]), ([], []), ([1, 2], [1, 2]), ([3], [3]), ([], []), ([5], [5]), ([4, 6], [4, 6]), ([1, 2, 0, 1, 2, 3, 4, 5, 6, 7], [1, 2]), ([8, 7, 0, 1, 2, 3, 4, 5, 6, 7], [7, 8])])
def impl_PutCell.B4 : List Nat := [0, 1, 0, 7, 15, 0, 32, 127, 255, 511]
theorem impl_PutCell.tab4 : rtab .any (opsOf Try.f128 4) = impl_PutCell.T4 := by kernel_rfl
theorem impl_PutCell.bits4 : waitsOk impl_PutCell.T4.2 impl_PutCell.B4 = true := by kernel_rfl
def impl_PutCell.T6 : Bool × List (List Nat × List Nat) := (true, [([], []), ([0], [0]), ([], []), ([1, 2], [1, 2]), ([3], [3]), ([], []), ([5], [5]), ([4, 6], [4, 6]), ([1, 2, 0, 1, 2, 3, 4, 5, 6, 7], [1, 2]), ([8, 7, 0, 1, 2, 3, 4, 5, 6, 7], [7, 8])])
def impl_PutCell.B6 : List Nat := [0, 1, 0, 7, 15, 0, 32, 127, 255, 511]
theorem impl_PutCell.tab6 : rtab .any (opsOf Try.f128 6) = impl_PutCell.T6 := by kernel_rfl
theorem impl_PutCell.bits6 : waitsOk impl_PutCell.T6.2 impl_PutCell.B6 = true := by kernel_rfl
theorem impl_PutCell.calls (k : Nat) (a0_0 : Int) (a0_1 : Int) (A0_2 : Option Addr) (c0_2 : Nat) (l0_2 : List Int) (a1 : Int) (a2 : Int) (a3 : Bool) (r1 : Int) (r2 : Int) (r3 : List Int) (r4 : Bool) (w : World) (hr0_2 : Kd.C (Kd.int .i64) w A0_2 l0_2.length l0_2) (hc0_2 : l0_2.length ≤ c0_2) (h : impl_PutCell.f k a0_0 a0_1 l0_2 a1 a2 a3 = some (r1, r2, r3, r4)) :
  Calls Try.prog 128 #[.agg #[.int .i64 a0_0, .int .i64 a0_1, .slice A0_2 l0_2.length c0_2], .int .i64 a1, .int .i64 a2, .bool a3] w fun e w' => ∃ v2_ : Value, e = .returned (.tuple #[.agg #[.int .i64 r1, .int .i64 r2, v2_], .bool r4]) ∧ Kd.R (Kd.int .i64) 3 w' w.heap.size (fun _ => True) v2_ r3 ∧ Below w.heap.size w w' := by
 have hu28 := Try.underlying28
 have HR0_2 := A_ hr0_2
 have HC0_2 := A_ hc0_2
 clear hr0_2 hc0_2
 have HB := A_ (Below.refl w.heap.size w)
 have H : ((impl_IsBoard.f a0_0 a0_1 l0_2).bind fun t207 => (if t207 = true then ((impl_Board_place.f a0_0 a0_1 l0_2 a1 a2).bind fun t208 => (impl_PutCell.j0 k a1 a2 a3 (!t208) a0_0 a0_1 l0_2)) else (impl_PutCell.j0 k a1 a2 a3 true a0_0 a0_1 l0_2))) = some (r1, r2, r3, r4) := h
 clear h
 have HC5 := A_ H
 clear H
 go_enter Try.func128, Try.ntmps128
 go_upto_region 1 with (first | (refine gd_ 4 ?_; refine bx_ 4 #[.int .i64 a0_0, .int .i64 a0_1, .slice A0_2 l0_2.length c0_2] 28 ?_; intro gb205 hg w6 hbox hb; have BK205 := A_ (hbox); have GW205 := A_ ((ts_ hg : w.heap.size ≤ gb205)); have GE205 := A_ ((ts_ hg : w.heap.size ≤ gb205)); replace HB := A_ (below_step tb_ hb); clear hb hbox hg) | (refine gd_ 8 ?_; refine bx_ 8 #[.int .i64 0, .int .i64 0, .slice none 0 0] 28 ?_; intro gb206 hg w7 hbox hb; have BK206 := A_ (hbox); have GW206 := A_ ((ts_ hg : w.heap.size ≤ gb206)); have GE206 := A_ ((ts_ hg : w.heap.size ≤ gb206)); replace HB := A_ (below_step tb_ hb); have NB205_206 := A_ ((by rw [hg]; exact Nat.ne_of_lt (blk_lt (g := gb205) (o := .cells #[.int .i64 a0_0, .int .i64 a0_1, .slice A0_2 l0_2.length c0_2] 28 (0, 0)) (tk_ BK205)) : gb205 ≠ gb206)); have NB206_205 := A_ ((by rw [hg]; exact Nat.ne_of_gt (blk_lt (g := gb205) (o := .cells #[.int .i64 a0_0, .int .i64 a0_1, .slice A0_2 l0_2.length c0_2] 28 (0, 0)) (tk_ BK205)) : gb206 ≠ gb205)); replace BK205 := A_ (blk_below (g := gb205) (o := .cells #[.int .i64 a0_0, .int .i64 a0_1, .slice A0_2 l0_2.length c0_2] 28 (0, 0)) (tk_ BK205) hb); clear hb hbox hg))
 (try simp only [Act.put, List.setIfInBounds_toArray, List.set_cons_zero, List.set_cons_succ])
 go_cut [20] (fun v20 wc => ∃ (kq : Nat) (x20_4 : Bool), v20 = .bool x20_4 ∧ Aside0 (impl_PutCell.j0 kq a1 a2 a3 x20_4 a0_0 a0_1 l0_2 = some (r1, r2, r3, r4)) ∧ Aside0 (kq ≤ k) ∧ Aside0 (wc.heap[gb205]? = some (.cells #[.int .i64 a0_0, .int .i64 a0_1, (.slice A0_2 l0_2.length c0_2)] 28 (0, 0))) ∧ Aside0 (wc.heap[gb206]? = some (.cells #[.int .i64 0, .int .i64 0, (.slice none 0 0)] 28 (0, 0))) ∧ Aside0 (Below w.heap.size w wc))
 case first =>
  have H := HC5.out
  clear HC5
  replace H := Option.bind_eq_some_iff.mp H
  obtain ⟨t207, A80, H⟩ := H
  replace H : (if t207 = true then ((impl_Board_place.f a0_0 a0_1 l0_2 a1 a2).bind fun t208 => (impl_PutCell.j0 k a1 a2 a3 (!t208) a0_0 a0_1 l0_2)) else (impl_PutCell.j0 k a1 a2 a3 true a0_0 a0_1 l0_2)) = some (r1, r2, r3, r4) := H
  have A8 := A_ A80
  clear A80
  by_cases c9 : t207 = true
  ·
   subst c9
   have H1 : ((impl_Board_place.f a0_0 a0_1 l0_2 a1 a2).bind fun t208 => (impl_PutCell.j0 k a1 a2 a3 (!t208) a0_0 a0_1 l0_2)) = some (r1, r2, r3, r4) := by rw [if_pos rfl] at H; exact H
   clear H
   have H := H1
   clear H1
   replace H := Option.bind_eq_some_iff.mp H
   obtain ⟨t208, A100, H⟩ := H
   replace H : (impl_PutCell.j0 k a1 a2 a3 (!t208) a0_0 a0_1 l0_2) = some (r1, r2, r3, r4) := H
   have A10 := A_ A100
   clear A100
   have H' := A_ H
   clear H
   have hnb11 := NB205_206.out
   have hnc11 := NB206_205.out
   obtain ⟨hcz12_0, hcz12_1, hcz12_2, hfz12_0, hfz12_1, hfz12_2⟩ := cf3_ BK205.out
   go_wp2_with (first | (refine gc_ 125 ?_; refine goesT_ (some 12) Try.func125 #[.agg #[.int .i64 a0_0, .int .i64 a0_1, .slice A0_2 l0_2.length c0_2]] ?_; (with_reducible refine (impl_IsBoard.calls a0_0 a0_1 _ _ l0_2 true _ ?side1 ?side2 A8.out).mono ?_); (case side1 => exact tc_ HR0_2.out); (case side2 => exact HC0_2.out); rintro e w13 ⟨rfl, hb⟩; refine ⟨_, rfl, ?_⟩; replace BK205 := A_ (blk_below (g := gb205) (o := .cells #[.int .i64 a0_0, .int .i64 a0_1, .slice A0_2 l0_2.length c0_2] 28 (0, 0)) (tk_ BK205) hb); replace BK206 := A_ (blk_below (g := gb206) (o := .cells #[.int .i64 0, .int .i64 0, .slice none 0 0] 28 (0, 0)) (tk_ BK206) hb); replace HB := A_ (below_step tb_ hb); (try clear hb); obtain ⟨hcz14_0, hcz14_1, hcz14_2, hfz14_0, hfz14_1, hfz14_2⟩ := cf3_ BK205.out) | (go_at_call 126; (with_reducible refine (impl_Board_place.calls a0_0 a0_1 _ _ l0_2 a1 a2 t208 _ ?side1 ?side2 A10.out).mono ?_); (case side1 => exact tc_ HR0_2.out); (case side2 => exact HC0_2.out); rintro e w15 ⟨rfl, hb⟩; replace BK205 := A_ (blk_below (g := gb205) (o := .cells #[.int .i64 a0_0, .int .i64 a0_1, .slice A0_2 l0_2.length c0_2] 28 (0, 0)) (tk_ BK205) hb); replace BK206 := A_ (blk_below (g := gb206) (o := .cells #[.int .i64 0, .int .i64 0, .slice none 0 0] 28 (0, 0)) (tk_ BK206) hb); replace HB := A_ (below_step tb_ hb); (try clear hb)))
   go_meet
   case rel => exact ⟨_, (!t208), tf_, H', ⟨by first | omega | exact Nat.le_refl _⟩, ⟨tk_ BK205⟩, ⟨tk_ BK206⟩, ⟨tb_⟩⟩
  ·
   replace c9 := Bool.eq_false_iff.mpr c9
   subst c9
   have H1 : (impl_PutCell.j0 k a1 a2 a3 true a0_0 a0_1 l0_2) = some (r1, r2, r3, r4) := by rw [if_neg (show ¬ (false = true) by decide)] at H; exact H
   clear H
   have H := H1
   clear H1
   have H' := A_ H
   clear H
   have hnb16 := NB205_206.out
   have hnc16 := NB206_205.out
   obtain ⟨hcz17_0, hcz17_1, hcz17_2, hfz17_0, hfz17_1, hfz17_2⟩ := cf3_ BK205.out
   go_wp2_with (first | (refine gc_ 125 ?_; refine goesT_ (some 12) Try.func125 #[.agg #[.int .i64 a0_0, .int .i64 a0_1, .slice A0_2 l0_2.length c0_2]] ?_; (with_reducible refine (impl_IsBoard.calls a0_0 a0_1 _ _ l0_2 false _ ?side1 ?side2 A8.out).mono ?_); (case side1 => exact tc_ HR0_2.out); (case side2 => exact HC0_2.out); rintro e w18 ⟨rfl, hb⟩; refine ⟨_, rfl, ?_⟩; replace BK205 := A_ (blk_below (g := gb205) (o := .cells #[.int .i64 a0_0, .int .i64 a0_1, .slice A0_2 l0_2.length c0_2] 28 (0, 0)) (tk_ BK205) hb); replace BK206 := A_ (blk_below (g := gb206) (o := .cells #[.int .i64 0, .int .i64 0, .slice none 0 0] 28 (0, 0)) (tk_ BK206) hb); replace HB := A_ (below_step tb_ hb); (try clear hb)))
   go_meet
   case rel => exact ⟨_, (true), tf_, H', ⟨by first | omega | exact Nat.le_refl _⟩, ⟨tk_ BK205⟩, ⟨tk_ BK206⟩, ⟨tb_⟩⟩
 case rest =>
  clear HC5
  try clear c1
  try clear p2
  try clear c9
  try clear c11
  try clear c12
  try clear c16
  try clear hcz12_0
  try clear hcz12_1
  try clear hcz12_2
  try clear hcz14_0
  try clear hcz14_1
  try clear hcz14_2
  try clear hcz17_0
  try clear hcz17_1
  try clear hcz17_2
  try clear hfz12_0
  try clear hfz12_1
  try clear hfz12_2
  try clear hfz14_0
  try clear hfz14_1
  try clear hfz14_2
  try clear hfz17_0
  try clear hfz17_1
  try clear hfz17_2
  obtain ⟨kq, x20_4, rfl, HA, HJ4, BK205, BK206, HB⟩ := hcut
  cases kq with
  | zero => exact absurd HA.out (by simp [impl_PutCell.j0])
  | succ kj4 =>
   have H := HA.out
   clear HA
   simp only [impl_PutCell.j0] at H
   by_cases c19 : x20_4 = true
   ·
    subst c19
    have H1 : (some (0, 0, ([] : List Int), false)) = some (r1, r2, r3, r4) := by rw [if_pos rfl] at H; exact H
    clear H
    have H := H1
    clear H1
    simp only [Option.some.injEq, Prod.mk.injEq] at H
    obtain ⟨rfl, rfl, rfl, rfl⟩ := H
    have hnb20 := NB206_205.out
    have hnc20 := NB205_206.out
    obtain ⟨hcz21_0, hcz21_1, hcz21_2, hfz21_0, hfz21_1, hfz21_2⟩ := cf3_ BK206.out
    go_wp2
    refine bodyPost_ret (results_ct rfl _ _ gb206 28 #[.int .i64 0, .int .i64 0, .slice none 0 0] (0, 0) _ rfl (by (with_reducible repeat (first | refine blk_drewN ?_ _ | refine blk_drew ?_ | refine blk_alloc ?_ _)); refine blk_put (cs := #[.int .i64 0, .int .i64 0, .slice none 0 0]) ?_ 2 _ rfl; (with_reducible repeat (first | refine blk_drewN ?_ _ | refine blk_drew ?_ | refine blk_alloc ?_ _)); refine blk_put (cs := #[.int .i64 0, .int .i64 0, .slice none 0 0]) ?_ 1 _ rfl; (with_reducible repeat (first | refine blk_drewN ?_ _ | refine blk_drew ?_ | refine blk_alloc ?_ _)); refine blk_put (cs := #[.int .i64 0, .int .i64 0, .slice none 0 0]) ?_ 0 _ rfl; (with_reducible repeat (first | refine blk_drewN ?_ _ | refine blk_drew ?_ | refine blk_alloc ?_ _)); exact BK206.out) Try.underlying28 rfl (by kernel_rfl)) rfl ?_
    exact ⟨_, te_, by first | exact Kd.R_nil _ _ _ _ _ | exact Kd.N_nil _ _ _ _ _ | exact Kd.V_nil _ _ _ _ _ | exact Kd.Q_nil _ _ _ _ _ | exact Kd.S_nil _ _ _ _ _, tb_⟩
   ·
    replace c19 := Bool.eq_false_iff.mpr c19
    subst c19
    have H1 : ((impl_Board_copied.f a0_0 a0_1 l0_2).bind fun bt209 => (if 0 ≤ a1 then (if a1 < (bt209.2.2.length : Int) then (if 0 ≤ a2 then ((some (bt209.2.2.set (a1 : Int).toNat (Go.bits .andNot .i64 (rd bt209.2.2 a1) (shl .i64 1 a2)) : List Int)).bind fun y216 => (if a3 = true then (some (bt209.1, bt209.2.1, (y216.set (a1 : Int).toNat (Go.bits .or .i64 (rd y216 a1) (shl .i64 1 a2))), true)) else (some (bt209.1, bt209.2.1, y216, true)))) else (none)) else (none)) else (none))) = some (r1, r2, r3, r4) := by rw [if_neg (show ¬ (false = true) by decide)] at H; exact H
    clear H
    have H := H1
    clear H1
    replace H := Option.bind_eq_some_iff.mp H
    obtain ⟨⟨t209, t210, t211⟩, A220, H⟩ := H
    replace H : (if 0 ≤ a1 then (if a1 < (t211.length : Int) then (if 0 ≤ a2 then ((some (t211.set (a1 : Int).toNat (Go.bits .andNot .i64 (rd t211 a1) (shl .i64 1 a2)) : List Int)).bind fun y216 => (if a3 = true then (some (t209, t210, (y216.set (a1 : Int).toNat (Go.bits .or .i64 (rd y216 a1) (shl .i64 1 a2))), true)) else (some (t209, t210, y216, true)))) else (none)) else (none)) else (none)) = some (r1, r2, r3, r4) := H
    have A22 := A_ A220
    clear A220
    by_cases c23 : 0 ≤ a1
    ·
     rw [if_pos c23] at H
     have c23b0 := decide_eq_true c23
     clear c23
     by_cases c24 : a1 < (t211.length : Int)
     ·
      rw [if_pos c24] at H
      have c24b0 := decide_eq_true c24
      clear c24
      by_cases c25 : 0 ≤ a2
      ·
       rw [if_pos c25] at H
       have c25b0 := eq_true c25
       have c25b1 := decide_eq_true c25
       clear c25
       obtain ⟨ji26, hji26⟩ : ∃ j_ : Int, (shl .i64 1 a2) = j_ := ⟨_, rfl⟩
       replace H : ((some (t211.set (a1 : Int).toNat (Go.bits .andNot .i64 (rd t211 a1) (ji26)) : List Int)).bind fun y216 => (if a3 = true then (some (t209, t210, (y216.set (a1 : Int).toNat (Go.bits .or .i64 (rd y216 a1) (ji26))), true)) else (some (t209, t210, y216, true)))) = some (r1, r2, r3, r4) := by first | (rw [hji26] at H; exact H) | (simp only [hji26] at H ⊢; exact H)
       (try rw [hji26] at A22)
       have hji26_ : (IntKind.i64.wrap (1 * 2 ^ min a2.toNat 64)) = ji26 := hji26
       have hji26z : a2 ≤ 64 → (IntKind.i64.wrap (1 * 2 ^ a2.toNat)) = ji26 := shl_small hji26
       have hji26u : (IntKind.i64.wrap (2 ^ min a2.toNat 64)) = ji26 := by have h_ := hji26_; rw [Int.one_mul] at h_; exact h_
       have hji26v : a2 ≤ 64 → (IntKind.i64.wrap (2 ^ a2.toNat)) = ji26 := fun hle_ => by have h_ := hji26z hle_; rw [Int.one_mul] at h_; exact h_
       have hji26y : (wrap64 (1 * 2 ^ min a2.toNat 64)) = ji26 := (i64_w _).symm.trans hji26_
       have hji26x : a2 ≤ 64 → (wrap64 (1 * 2 ^ a2.toNat)) = ji26 := fun h_ => (i64_w _).symm.trans (hji26z h_)
       obtain ⟨y216, hy216⟩ : ∃ y_ : List Int, y_ = (t211.set (a1 : Int).toNat (Go.bits .andNot .i64 (rd t211 a1) (ji26))) := ⟨_, rfl⟩
       replace H : (if a3 = true then (some (t209, t210, (y216.set (a1 : Int).toNat (Go.bits .or .i64 (rd y216 a1) (ji26))), true)) else (some (t209, t210, y216, true))) = some (r1, r2, r3, r4) := ty_ hy216 H
       have Ny216 := A_ hy216
       clear hy216
       by_cases c28 : a3 = true
       ·
        subst c28
        have H1 : (some (t209, t210, (y216.set (a1 : Int).toNat (Go.bits .or .i64 (rd y216 a1) (ji26))), true)) = some (r1, r2, r3, r4) := by rw [if_pos rfl] at H; exact H
        clear H
        have H := H1
        clear H1
        have c29b0 := eq_true (od_ : 0 ≤ a2)
        obtain ⟨y218, hy218⟩ : ∃ y_ : List Int, y_ = (y216.set (a1 : Int).toNat (Go.bits .or .i64 (rd y216 a1) (ji26))) := ⟨_, rfl⟩
        replace H : (some (t209, t210, y218, true)) = some (r1, r2, r3, r4) := ty_ hy218 H
        have Ny218 := A_ hy218
        clear hy218
        simp only [Option.some.injEq, Prod.mk.injEq] at H
        obtain ⟨rfl, rfl, rfl, rfl⟩ := H
        have hnb31 := NB205_206.out
        have hnc31 := NB206_205.out
        obtain ⟨hcz32_0, hcz32_1, hcz32_2, hfz32_0, hfz32_1, hfz32_2⟩ := cf3_ BK205.out
        try go_wp2_with (first | (refine gc_ 220 ?_; refine goesT_ (some 23) Try.func220 #[.agg #[.int .i64 a0_0, .int .i64 a0_1, .slice A0_2 l0_2.length c0_2]] ?_; (with_reducible refine (impl_Board_copied.calls a0_0 a0_1 _ _ l0_2 t209 t210 t211 _ ?side1 ?side2 A22.out).mono ?_); (case side1 => exact tc_ HR0_2.out); (case side2 => exact HC0_2.out); rintro e w33 ⟨v212, rfl, ho0, hb⟩; refine ⟨_, rfl, ?_⟩; have HO213 := A_ (Kd.R_lower ho0 (below_size tb_)); replace BK205 := A_ (blk_below (g := gb205) (o := .cells #[.int .i64 a0_0, .int .i64 a0_1, .slice A0_2 l0_2.length c0_2] 28 (0, 0)) (tk_ BK205) hb); replace BK206 := A_ (blk_below (g := gb206) (o := .cells #[.int .i64 0, .int .i64 0, .slice none 0 0] 28 (0, 0)) (tk_ BK206) hb); replace HB := A_ (below_step tb_ hb); (try clear hb); (try clear ho0)) | (refine gd_ 10 ?_; refine bx_ 10 #[.int .i64 0, .int .i64 0, .slice none 0 0] 28 ?_; intro gb214 hg w34 hbox hb; replace HO213 := A_ (Kd.R_below (tr_x HO213.out) hb); have BK214 := A_ (hbox); have GW214 := A_ ((ts_ hg : w.heap.size ≤ gb214)); have GE214 := A_ ((ts_ hg : w.heap.size ≤ gb214)); replace HB := A_ (below_step tb_ hb); have NB205_214 := A_ ((by rw [hg]; exact Nat.ne_of_lt (blk_lt (g := gb205) (o := .cells #[.int .i64 a0_0, .int .i64 a0_1, .slice A0_2 l0_2.length c0_2] 28 (0, 0)) (tk_ BK205)) : gb205 ≠ gb214)); have NB214_205 := A_ ((by rw [hg]; exact Nat.ne_of_gt (blk_lt (g := gb205) (o := .cells #[.int .i64 a0_0, .int .i64 a0_1, .slice A0_2 l0_2.length c0_2] 28 (0, 0)) (tk_ BK205)) : gb214 ≠ gb205)); replace BK205 := A_ (blk_below (g := gb205) (o := .cells #[.int .i64 a0_0, .int .i64 a0_1, .slice A0_2 l0_2.length c0_2] 28 (0, 0)) (tk_ BK205) hb); have NB206_214 := A_ ((by rw [hg]; exact Nat.ne_of_lt (blk_lt (g := gb206) (o := .cells #[.int .i64 0, .int .i64 0, .slice none 0 0] 28 (0, 0)) (tk_ BK206)) : gb206 ≠ gb214)); have NB214_206 := A_ ((by rw [hg]; exact Nat.ne_of_gt (blk_lt (g := gb206) (o := .cells #[.int .i64 0, .int .i64 0, .slice none 0 0] 28 (0, 0)) (tk_ BK206)) : gb214 ≠ gb206)); replace BK206 := A_ (blk_below (g := gb206) (o := .cells #[.int .i64 0, .int .i64 0, .slice none 0 0] 28 (0, 0)) (tk_ BK206) hb); clear hb hbox hg; have hnb35 := NB214_205.out; have hnc35 := NB205_214.out; have hnb36 := NB214_206.out; have hnc36 := NB206_214.out; obtain ⟨hcz37_0, hcz37_1, hcz37_2, hfz37_0, hfz37_1, hfz37_2⟩ := cf3_ BK214.out; obtain ⟨Ao38, co38, eo38⟩ := Kd.R_slice HO213.out; subst eo38))
        have n0_ : Aside0 (Kd.R (Kd.int .i64) 3 (((w34.setCell ⟨gb214, 0, none⟩ (.int .i64 t209)).setCell ⟨gb214, 1, none⟩ (.int .i64 t210)).setCell ⟨gb214, 2, none⟩ (.slice Ao38 t211.length co38)) w.heap.size (fun _ => True) (.slice Ao38 t211.length co38) t211) := ⟨by (with_reducible repeat (first | apply Kd.R_alloc | apply Kd.R_drewN | apply Kd.R_drew)); exact Kd.R_mono (Kd.R_far (p := ⟨gb214, 2, none⟩) (Kd.R_far (p := ⟨gb214, 1, none⟩) (Kd.R_far (p := ⟨gb214, 0, none⟩) (Kd.R_types HO213.out BK214.out (by decide)) (fun _ hk => hk.2) (.int .i64 t209)) (fun _ hk => hk.2) (.int .i64 t210)) (fun _ hk => hk.2) (.slice Ao38 t211.length co38)) (fun _ hk => trivial)⟩
        have n1_ : Aside0 ((((w34.setCell ⟨gb214, 0, none⟩ (.int .i64 t209)).setCell ⟨gb214, 1, none⟩ (.int .i64 t210)).setCell ⟨gb214, 2, none⟩ (.slice Ao38 t211.length co38)).heap[gb205]? = some (.cells #[.int .i64 a0_0, .int .i64 a0_1, .slice A0_2 l0_2.length c0_2] 28 (0, 0))) := ⟨tk_ BK205⟩
        have n2_ : Aside0 ((((w34.setCell ⟨gb214, 0, none⟩ (.int .i64 t209)).setCell ⟨gb214, 1, none⟩ (.int .i64 t210)).setCell ⟨gb214, 2, none⟩ (.slice Ao38 t211.length co38)).heap[gb206]? = some (.cells #[.int .i64 0, .int .i64 0, .slice none 0 0] 28 (0, 0))) := ⟨tk_ BK206⟩
        have n3_ : Aside0 ((((w34.setCell ⟨gb214, 0, none⟩ (.int .i64 t209)).setCell ⟨gb214, 1, none⟩ (.int .i64 t210)).setCell ⟨gb214, 2, none⟩ (.slice Ao38 t211.length co38)).heap[gb214]? = some (.cells #[.int .i64 t209, .int .i64 t210, .slice Ao38 t211.length co38] 28 (0, 0))) := ⟨by (with_reducible repeat (first | refine blk_drewN ?_ _ | refine blk_drew ?_ | refine blk_alloc ?_ _)); refine blk_put (cs := #[.int .i64 t209, .int .i64 t210, .slice none 0 0]) ?_ 2 _ rfl; (with_reducible repeat (first | refine blk_drewN ?_ _ | refine blk_drew ?_ | refine blk_alloc ?_ _)); refine blk_put (cs := #[.int .i64 t209, .int .i64 0, .slice none 0 0]) ?_ 1 _ rfl; (with_reducible repeat (first | refine blk_drewN ?_ _ | refine blk_drew ?_ | refine blk_alloc ?_ _)); refine blk_put (cs := #[.int .i64 0, .int .i64 0, .slice none 0 0]) ?_ 0 _ rfl; (with_reducible repeat (first | refine blk_drewN ?_ _ | refine blk_drew ?_ | refine blk_alloc ?_ _)); exact BK214.out⟩
        have n4_ : Aside0 (Below w.heap.size w (((w34.setCell ⟨gb214, 0, none⟩ (.int .i64 t209)).setCell ⟨gb214, 1, none⟩ (.int .i64 t210)).setCell ⟨gb214, 2, none⟩ (.slice Ao38 t211.length co38))) := ⟨tb_⟩
        (try clear HO213)
        (try clear BK205)
        (try clear BK206)
        (try clear BK214)
        (try clear HB)
        generalize (((w34.setCell ⟨gb214, 0, none⟩ (.int .i64 t209)).setCell ⟨gb214, 1, none⟩ (.int .i64 t210)).setCell ⟨gb214, 2, none⟩ (.slice Ao38 t211.length co38)) = w39 at n0_ n1_ n2_ n3_ n4_ ⊢
        have HO213 := n0_
        have BK205 := n1_
        have BK206 := n2_
        have BK214 := n3_
        have HB := n4_
        clear n0_ n1_ n2_ n3_ n4_
        have n0_ := A_ (Kd.R_drew HO213.out)
        have n1_ := A_ (blk_drew BK205.out)
        have n2_ := A_ (blk_drew BK206.out)
        have n3_ := A_ (blk_drew BK214.out)
        have n4_ := A_ (below_drew1 HB.out)
        clear HO213
        clear BK205
        clear BK206
        clear BK214
        clear HB
        have HO213 := n0_
        have BK205 := n1_
        have BK206 := n2_
        have BK214 := n3_
        have HB := n4_
        clear n0_ n1_ n2_ n3_ n4_
        have p215 : 0 ≤ (a1 : Int) := od_
        have q215 : a1 < (t211.length : Int) := od_
        obtain ⟨ad215, e215, hx215_0⟩ := Kd.at_int (Kd.R_reads' HO213.out).2.2 a1 p215 q215
        cases e215
        replace p215 := eq_true p215
        replace q215 := eq_true q215
        have p27 : 0 ≤ (a1 : Int) := od_
        have q27 : (a1 : Int) < ((t211.length : Int) : Int) := od_
        obtain ⟨go27, co27, eo27, gb27, gl27, cl27, HG27⟩ := Kd.R_form HO213.out (by omega)
        (first | cases eo27 | (injection eo27 with ea_ en_ ec_; (first | subst ea_ | (injection ea_ with ea_; subst ea_)); subst ec_; clear en_))
        have GB27 := A_ gb27
        have GG27 := A_ HG27
        clear gb27 gl27 HG27
        (first | simp only [add_plain] at hx215_0 | skip)
        obtain ⟨hx27_0, hf27_0⟩ := Kd.R_celln 0 HO213.out (a1 : Int) p27 q27
        replace p27 := eq_true p27
        replace q27 := eq_true q27
        have HP41 := Kd.R_putn HO213.out (a1 : Int) (Go.bits .andNot .i64 (rd t211 a1) (ji26))
        rw [← Ny216.out] at HP41
        have HQ41 := A_ HP41
        clear HP41
        refine start_ (n := 10) (S := fun w' => w'.cell? ⟨gb214, 0, none⟩ = some (.int .i64 t209) ∧ w'.cell? ⟨gb214, 1, none⟩ = some (.int .i64 t210) ∧ w'.cell? ⟨gb214, 2, none⟩ = some (.slice (some ⟨go27, 0, none⟩) t211.length co38) ∧ w'.cell? ⟨go27, (a1).toNat, none⟩ = some (.int .i64 (rd t211 a1))) (ds := [9]) (Fn.bl 10 0) (by kernel_rfl) rfl rfl ⟨(blk_cell BK214.out 0).trans rfl, (blk_cell BK214.out 1).trans rfl, (blk_cell BK214.out 2).trans rfl, hx215_0⟩ (fun hHeld => ?_); refine with_tabW impl_PutCell.tab4 impl_PutCell.bits4 (fun HT_ HW_ => ?_)
        generalize w39.drew = w40 at HO213 BK205 BK206 BK214 HB GG27 HQ41 hf27_0 hx215_0 hx27_0 hHeld ⊢
        refine pq_ 0 (some 24) (Fn.bl 10 1) HT_.out ?_
        refine pq_ 2 (some 26) (Fn.bl 10 5) HT_.out ?_
        refine pq_ 5 (some 29) (Fn.bl 10 37) HT_.out ?_
        refine pq_ 6 (some 30) (Fn.bl 10 101) HT_.out ?_
        refine tq_ 1 (some 25) (Fn.bl 10 103) HT_.out HW_.out hHeld ?_ (hy0 := by rintro w' ⟨s0, s1, s2, s3⟩; go_simp; with_reducible rfl)
        refine pq_ 3 (some 27) (Fn.bl 10 111) HT_.out ?_
        refine tq_ 4 (some 28) (Fn.bl 10 127) HT_.out HW_.out hHeld ?_ (hy0 := by rintro w' ⟨s0, s1, s2, s3⟩; go_simp; with_reducible rfl)
        refine pq_ 7 (some 31) (Fn.bl 10 255) HT_.out ?_
        refine pq_ 8 (some 32) (Fn.bl 10 511) HT_.out ?_
        refine last_ (i := 9) (N := none) (Fn.bl 10 1023) rfl rfl (one_of HT_.out (by kernel_rfl)) (by decide) (fun K hK => ?_)
        refine skip_ (w1 := ?_) (by rfl) rfl ?_ ?_
        rotate_left
        ·
         go_simp
         rfl
        refine hK.out _ _ ?_
        clear hK K
        refine done_ (done_of HT_.out (by kernel_rfl)) ?_
        have n0_ : Aside0 (Kd.R (Kd.int .i64) 3 (w40.setCell ⟨go27, (a1 : Int).toNat, none⟩ (.int .i64 (Go.bits .andNot .i64 (rd t211 a1) (ji26)))) w.heap.size (fun _ => True) (.slice (some ⟨go27, 0, none⟩) t211.length co38) y216) := ⟨tr_x HQ41.out⟩
        have n1_ : Aside0 ((w40.setCell ⟨go27, (a1 : Int).toNat, none⟩ (.int .i64 (Go.bits .andNot .i64 (rd t211 a1) (ji26)))).heap[gb205]? = some (.cells #[.int .i64 a0_0, .int .i64 a0_1, .slice A0_2 l0_2.length c0_2] 28 (0, 0))) := ⟨by (with_reducible repeat (first | refine blk_drewN ?_ _ | refine blk_drew ?_ | refine blk_alloc ?_ _)); refine blk_far ?_ (by have h_ := Kd.R_ne HO213.out BK205.out (by decide); intro e_; exact h_ (by rw [e_]; rfl)) _; (with_reducible repeat (first | refine blk_drewN ?_ _ | refine blk_drew ?_ | refine blk_alloc ?_ _)); exact BK205.out⟩
        have n2_ : Aside0 ((w40.setCell ⟨go27, (a1 : Int).toNat, none⟩ (.int .i64 (Go.bits .andNot .i64 (rd t211 a1) (ji26)))).heap[gb206]? = some (.cells #[.int .i64 0, .int .i64 0, .slice none 0 0] 28 (0, 0))) := ⟨by (with_reducible repeat (first | refine blk_drewN ?_ _ | refine blk_drew ?_ | refine blk_alloc ?_ _)); refine blk_far ?_ (by have h_ := Kd.R_ne HO213.out BK206.out (by decide); intro e_; exact h_ (by rw [e_]; rfl)) _; (with_reducible repeat (first | refine blk_drewN ?_ _ | refine blk_drew ?_ | refine blk_alloc ?_ _)); exact BK206.out⟩
        have n3_ : Aside0 ((w40.setCell ⟨go27, (a1 : Int).toNat, none⟩ (.int .i64 (Go.bits .andNot .i64 (rd t211 a1) (ji26)))).heap[gb214]? = some (.cells #[.int .i64 t209, .int .i64 t210, .slice (some ⟨go27, 0, none⟩) t211.length co38] 28 (0, 0))) := ⟨by (with_reducible repeat (first | refine blk_drewN ?_ _ | refine blk_drew ?_ | refine blk_alloc ?_ _)); refine blk_far ?_ (by have h_ := Kd.R_ne HO213.out BK214.out (by decide); intro e_; exact h_ (by rw [e_]; rfl)) _; (with_reducible repeat (first | refine blk_drewN ?_ _ | refine blk_drew ?_ | refine blk_alloc ?_ _)); exact BK214.out⟩
        have n4_ : Aside0 (Below w.heap.size w (w40.setCell ⟨go27, (a1 : Int).toNat, none⟩ (.int .i64 (Go.bits .andNot .i64 (rd t211 a1) (ji26))))) := ⟨tb_⟩
        (try clear HO213)
        (try clear BK205)
        (try clear BK206)
        (try clear BK214)
        (try clear HB)
        generalize (w40.setCell ⟨go27, (a1 : Int).toNat, none⟩ (.int .i64 (Go.bits .andNot .i64 (rd t211 a1) (ji26)))) = w42 at n0_ n1_ n2_ n3_ n4_ ⊢
        have HO213 := n0_
        have BK205 := n1_
        have BK206 := n2_
        have BK214 := n3_
        have HB := n4_
        clear n0_ n1_ n2_ n3_ n4_
        try go_wp2
        have n0_ := A_ (Kd.R_drew HO213.out)
        have n1_ := A_ (blk_drew BK205.out)
        have n2_ := A_ (blk_drew BK206.out)
        have n3_ := A_ (blk_drew BK214.out)
        have n4_ := A_ (below_drew1 HB.out)
        clear HO213
        clear BK205
        clear BK206
        clear BK214
        clear HB
        have HO213 := n0_
        have BK205 := n1_
        have BK206 := n2_
        have BK214 := n3_
        have HB := n4_
        clear n0_ n1_ n2_ n3_ n4_
        have p217 : 0 ≤ (a1 : Int) := od_
        have q217 : a1 < (y216.length : Int) := (by have h_ : (a1 : Int) < ((t211.length : Int) : Int) := od_; first | (have e_ := (Kd.R_reads' HO213.out).1; omega) | simpa only [Ny216.out, List.length_set] using h_)
        have ql217 : ((a1 : Int) < ((t211.length : Int) : Int)) = True := eq_true (od_)
        obtain ⟨ad217, e217, hx217_0⟩ := Kd.at_int (Kd.R_reads' HO213.out).2.2 a1 p217 q217
        obtain rfl : (⟨go27, 0, none⟩ : Addr) = ad217 := (by injection e217)
        (first | simp only [add_plain] at hx217_0 | simp only [add_at] at hx217_0 | simp only [Addr.add, Nat.zero_add] at hx217_0 | skip)
        replace p217 := eq_true p217
        replace q217 := eq_true q217
        have p30 : 0 ≤ (a1 : Int) := od_
        have q30 : (a1 : Int) < ((t211.length : Int) : Int) := od_
        obtain ⟨hx30_0, hf30_0⟩ := Kd.R_celln 0 HO213.out (a1 : Int) p30 q30
        replace p30 := eq_true p30
        replace q30 := eq_true q30
        have HP44 := Kd.R_putn HO213.out (a1 : Int) (Go.bits .or .i64 (rd y216 a1) (ji26))
        rw [← Ny218.out] at HP44
        have HQ44 := A_ HP44
        clear HP44
        refine start_ (n := 10) (S := fun w' => w'.cell? ⟨gb214, 0, none⟩ = some (.int .i64 t209) ∧ w'.cell? ⟨gb214, 1, none⟩ = some (.int .i64 t210) ∧ w'.cell? ⟨gb214, 2, none⟩ = some (.slice (some ⟨go27, 0, none⟩) t211.length co38) ∧ w'.cell? ⟨go27, (a1).toNat, none⟩ = some (.int .i64 (rd y216 a1))) (ds := [9]) (Fn.bl 10 0) (by kernel_rfl) rfl rfl ⟨(blk_cell BK214.out 0).trans rfl, (blk_cell BK214.out 1).trans rfl, (blk_cell BK214.out 2).trans rfl, hx217_0⟩ (fun hHeld => ?_); refine with_tabW impl_PutCell.tab6 impl_PutCell.bits6 (fun HT_ HW_ => ?_)
        generalize w42.drew = w43 at HO213 BK205 BK206 BK214 HB HQ44 hf30_0 hx217_0 hx30_0 hHeld ⊢
        refine pq_ 0 (some 34) (Fn.bl 10 1) HT_.out ?_
        refine pq_ 2 (some 36) (Fn.bl 10 5) HT_.out ?_
        refine pq_ 5 (some 39) (Fn.bl 10 37) HT_.out ?_
        refine pq_ 6 (some 40) (Fn.bl 10 101) HT_.out ?_
        refine tq_ 1 (some 35) (Fn.bl 10 103) HT_.out HW_.out hHeld ?_ (hy0 := by rintro w' ⟨s0, s1, s2, s3⟩; go_simp; with_reducible rfl)
        refine pq_ 3 (some 37) (Fn.bl 10 111) HT_.out ?_
        refine tq_ 4 (some 38) (Fn.bl 10 127) HT_.out HW_.out hHeld ?_ (hy0 := by rintro w' ⟨s0, s1, s2, s3⟩; go_simp; with_reducible rfl)
        refine pq_ 7 (some 41) (Fn.bl 10 255) HT_.out ?_
        refine pq_ 8 (some 42) (Fn.bl 10 511) HT_.out ?_
        refine last_ (i := 9) (N := none) (Fn.bl 10 1023) rfl rfl (one_of HT_.out (by kernel_rfl)) (by decide) (fun K hK => ?_)
        refine skip_ (w1 := ?_) (by rfl) rfl ?_ ?_
        rotate_left
        ·
         go_simp
         rfl
        refine hK.out _ _ ?_
        clear hK K
        refine done_ (done_of HT_.out (by kernel_rfl)) ?_
        have n0_ : Aside0 (Kd.R (Kd.int .i64) 3 (w43.setCell ⟨go27, (a1 : Int).toNat, none⟩ (.int .i64 (Go.bits .or .i64 (rd y216 a1) (ji26)))) w.heap.size (fun _ => True) (.slice (some ⟨go27, 0, none⟩) t211.length co38) y218) := ⟨tr_x HQ44.out⟩
        have n1_ : Aside0 ((w43.setCell ⟨go27, (a1 : Int).toNat, none⟩ (.int .i64 (Go.bits .or .i64 (rd y216 a1) (ji26)))).heap[gb205]? = some (.cells #[.int .i64 a0_0, .int .i64 a0_1, .slice A0_2 l0_2.length c0_2] 28 (0, 0))) := ⟨by (with_reducible repeat (first | refine blk_drewN ?_ _ | refine blk_drew ?_ | refine blk_alloc ?_ _)); refine blk_far ?_ (by have h_ := Kd.R_ne HO213.out BK205.out (by decide); intro e_; exact h_ (by rw [e_]; rfl)) _; (with_reducible repeat (first | refine blk_drewN ?_ _ | refine blk_drew ?_ | refine blk_alloc ?_ _)); exact BK205.out⟩
        have n2_ : Aside0 ((w43.setCell ⟨go27, (a1 : Int).toNat, none⟩ (.int .i64 (Go.bits .or .i64 (rd y216 a1) (ji26)))).heap[gb206]? = some (.cells #[.int .i64 0, .int .i64 0, .slice none 0 0] 28 (0, 0))) := ⟨by (with_reducible repeat (first | refine blk_drewN ?_ _ | refine blk_drew ?_ | refine blk_alloc ?_ _)); refine blk_far ?_ (by have h_ := Kd.R_ne HO213.out BK206.out (by decide); intro e_; exact h_ (by rw [e_]; rfl)) _; (with_reducible repeat (first | refine blk_drewN ?_ _ | refine blk_drew ?_ | refine blk_alloc ?_ _)); exact BK206.out⟩
        have n3_ : Aside0 ((w43.setCell ⟨go27, (a1 : Int).toNat, none⟩ (.int .i64 (Go.bits .or .i64 (rd y216 a1) (ji26)))).heap[gb214]? = some (.cells #[.int .i64 t209, .int .i64 t210, .slice (some ⟨go27, 0, none⟩) t211.length co38] 28 (0, 0))) := ⟨by (with_reducible repeat (first | refine blk_drewN ?_ _ | refine blk_drew ?_ | refine blk_alloc ?_ _)); refine blk_far ?_ (by have h_ := Kd.R_ne HO213.out BK214.out (by decide); intro e_; exact h_ (by rw [e_]; rfl)) _; (with_reducible repeat (first | refine blk_drewN ?_ _ | refine blk_drew ?_ | refine blk_alloc ?_ _)); exact BK214.out⟩
        have n4_ : Aside0 (Below w.heap.size w (w43.setCell ⟨go27, (a1 : Int).toNat, none⟩ (.int .i64 (Go.bits .or .i64 (rd y216 a1) (ji26))))) := ⟨tb_⟩
        (try clear HO213)
        (try clear BK205)
        (try clear BK206)
        (try clear BK214)
        (try clear HB)
        generalize (w43.setCell ⟨go27, (a1 : Int).toNat, none⟩ (.int .i64 (Go.bits .or .i64 (rd y216 a1) (ji26)))) = w45 at n0_ n1_ n2_ n3_ n4_ ⊢
        have HO213 := n0_
        have BK205 := n1_
        have BK206 := n2_
        have BK214 := n3_
        have HB := n4_
        clear n0_ n1_ n2_ n3_ n4_
        obtain ⟨hcz46_0, hcz46_1, hcz46_2, hfz46_0, hfz46_1, hfz46_2⟩ := cf3_ BK214.out
        obtain ⟨hcz47_0, hcz47_1, hcz47_2, hfz47_0, hfz47_1, hfz47_2⟩ := cf3_ BK206.out
        try go_wp2
        refine bodyPost_ret (results_ct rfl _ _ gb206 28 #[.int .i64 t209, .int .i64 t210, .slice (some ⟨go27, 0, none⟩) t211.length co38] (0, 0) _ rfl (by (with_reducible repeat (first | refine blk_drewN ?_ _ | refine blk_drew ?_ | refine blk_alloc ?_ _)); refine blk_put (cs := #[.int .i64 t209, .int .i64 t210, .slice none 0 0]) ?_ 2 _ rfl; (with_reducible repeat (first | refine blk_drewN ?_ _ | refine blk_drew ?_ | refine blk_alloc ?_ _)); refine blk_put (cs := #[.int .i64 t209, .int .i64 0, .slice none 0 0]) ?_ 1 _ rfl; (with_reducible repeat (first | refine blk_drewN ?_ _ | refine blk_drew ?_ | refine blk_alloc ?_ _)); refine blk_put (cs := #[.int .i64 0, .int .i64 0, .slice none 0 0]) ?_ 0 _ rfl; (with_reducible repeat (first | refine blk_drewN ?_ _ | refine blk_drew ?_ | refine blk_alloc ?_ _)); exact BK206.out) Try.underlying28 rfl (by kernel_rfl)) rfl ?_
        exact ⟨_, by first | rfl | (simp [errW_none, errW_some] <;> rfl) | (simp only [← hji26]; first | rfl | (simp [errW_none, errW_some] <;> rfl)) | (simp [*, errW_none, errW_some] <;> rfl), by (with_reducible repeat (first | apply Kd.R_alloc | apply Kd.R_drewN | apply Kd.R_drew)); exact Kd.R_mono (Kd.R_far (p := ⟨gb206, 2, none⟩) (Kd.R_far (p := ⟨gb206, 1, none⟩) (Kd.R_far (p := ⟨gb206, 0, none⟩) (Kd.R_types HO213.out BK206.out (by decide)) (fun _ hk => hk.2) (.int .i64 t209)) (fun _ hk => hk.2) (.int .i64 t210)) (fun _ hk => hk.2) (.slice (some ⟨go27, 0, none⟩) t211.length co38)) (fun _ hk => trivial), tb_⟩
       ·
        replace c28 := Bool.eq_false_iff.mpr c28
        subst c28
        have H1 : (some (t209, t210, y216, true)) = some (r1, r2, r3, r4) := by rw [if_neg (show ¬ (false = true) by decide)] at H; exact H
        clear H
        have H := H1
        clear H1
        simp only [Option.some.injEq, Prod.mk.injEq] at H
        obtain ⟨rfl, rfl, rfl, rfl⟩ := H
        have hnb48 := NB205_206.out
        have hnc48 := NB206_205.out
        obtain ⟨hcz49_0, hcz49_1, hcz49_2, hfz49_0, hfz49_1, hfz49_2⟩ := cf3_ BK205.out
        try go_wp2_with (first | (refine gc_ 220 ?_; refine goesT_ (some 23) Try.func220 #[.agg #[.int .i64 a0_0, .int .i64 a0_1, .slice A0_2 l0_2.length c0_2]] ?_; (with_reducible refine (impl_Board_copied.calls a0_0 a0_1 _ _ l0_2 t209 t210 t211 _ ?side1 ?side2 A22.out).mono ?_); (case side1 => exact tc_ HR0_2.out); (case side2 => exact HC0_2.out); rintro e w50 ⟨v212, rfl, ho0, hb⟩; refine ⟨_, rfl, ?_⟩; have HO213 := A_ (Kd.R_lower ho0 (below_size tb_)); replace BK205 := A_ (blk_below (g := gb205) (o := .cells #[.int .i64 a0_0, .int .i64 a0_1, .slice A0_2 l0_2.length c0_2] 28 (0, 0)) (tk_ BK205) hb); replace BK206 := A_ (blk_below (g := gb206) (o := .cells #[.int .i64 0, .int .i64 0, .slice none 0 0] 28 (0, 0)) (tk_ BK206) hb); replace HB := A_ (below_step tb_ hb); (try clear hb); (try clear ho0)) | (refine gd_ 10 ?_; refine bx_ 10 #[.int .i64 0, .int .i64 0, .slice none 0 0] 28 ?_; intro gb214 hg w51 hbox hb; replace HO213 := A_ (Kd.R_below (tr_x HO213.out) hb); have BK214 := A_ (hbox); have GW214 := A_ ((ts_ hg : w.heap.size ≤ gb214)); have GE214 := A_ ((ts_ hg : w.heap.size ≤ gb214)); replace HB := A_ (below_step tb_ hb); have NB205_214 := A_ ((by rw [hg]; exact Nat.ne_of_lt (blk_lt (g := gb205) (o := .cells #[.int .i64 a0_0, .int .i64 a0_1, .slice A0_2 l0_2.length c0_2] 28 (0, 0)) (tk_ BK205)) : gb205 ≠ gb214)); have NB214_205 := A_ ((by rw [hg]; exact Nat.ne_of_gt (blk_lt (g := gb205) (o := .cells #[.int .i64 a0_0, .int .i64 a0_1, .slice A0_2 l0_2.length c0_2] 28 (0, 0)) (tk_ BK205)) : gb214 ≠ gb205)); replace BK205 := A_ (blk_below (g := gb205) (o := .cells #[.int .i64 a0_0, .int .i64 a0_1, .slice A0_2 l0_2.length c0_2] 28 (0, 0)) (tk_ BK205) hb); have NB206_214 := A_ ((by rw [hg]; exact Nat.ne_of_lt (blk_lt (g := gb206) (o := .cells #[.int .i64 0, .int .i64 0, .slice none 0 0] 28 (0, 0)) (tk_ BK206)) : gb206 ≠ gb214)); have NB214_206 := A_ ((by rw [hg]; exact Nat.ne_of_gt (blk_lt (g := gb206) (o := .cells #[.int .i64 0, .int .i64 0, .slice none 0 0] 28 (0, 0)) (tk_ BK206)) : gb214 ≠ gb206)); replace BK206 := A_ (blk_below (g := gb206) (o := .cells #[.int .i64 0, .int .i64 0, .slice none 0 0] 28 (0, 0)) (tk_ BK206) hb); clear hb hbox hg; have hnb52 := NB214_205.out; have hnc52 := NB205_214.out; have hnb53 := NB214_206.out; have hnc53 := NB206_214.out; obtain ⟨hcz54_0, hcz54_1, hcz54_2, hfz54_0, hfz54_1, hfz54_2⟩ := cf3_ BK214.out; obtain ⟨Ao55, co55, eo55⟩ := Kd.R_slice HO213.out; subst eo55))
        have n0_ : Aside0 (Kd.R (Kd.int .i64) 3 (((w51.setCell ⟨gb214, 0, none⟩ (.int .i64 t209)).setCell ⟨gb214, 1, none⟩ (.int .i64 t210)).setCell ⟨gb214, 2, none⟩ (.slice Ao55 t211.length co55)) w.heap.size (fun _ => True) (.slice Ao55 t211.length co55) t211) := ⟨by (with_reducible repeat (first | apply Kd.R_alloc | apply Kd.R_drewN | apply Kd.R_drew)); exact Kd.R_mono (Kd.R_far (p := ⟨gb214, 2, none⟩) (Kd.R_far (p := ⟨gb214, 1, none⟩) (Kd.R_far (p := ⟨gb214, 0, none⟩) (Kd.R_types HO213.out BK214.out (by decide)) (fun _ hk => hk.2) (.int .i64 t209)) (fun _ hk => hk.2) (.int .i64 t210)) (fun _ hk => hk.2) (.slice Ao55 t211.length co55)) (fun _ hk => trivial)⟩
        have n1_ : Aside0 ((((w51.setCell ⟨gb214, 0, none⟩ (.int .i64 t209)).setCell ⟨gb214, 1, none⟩ (.int .i64 t210)).setCell ⟨gb214, 2, none⟩ (.slice Ao55 t211.length co55)).heap[gb205]? = some (.cells #[.int .i64 a0_0, .int .i64 a0_1, .slice A0_2 l0_2.length c0_2] 28 (0, 0))) := ⟨tk_ BK205⟩
        have n2_ : Aside0 ((((w51.setCell ⟨gb214, 0, none⟩ (.int .i64 t209)).setCell ⟨gb214, 1, none⟩ (.int .i64 t210)).setCell ⟨gb214, 2, none⟩ (.slice Ao55 t211.length co55)).heap[gb206]? = some (.cells #[.int .i64 0, .int .i64 0, .slice none 0 0] 28 (0, 0))) := ⟨tk_ BK206⟩
        have n3_ : Aside0 ((((w51.setCell ⟨gb214, 0, none⟩ (.int .i64 t209)).setCell ⟨gb214, 1, none⟩ (.int .i64 t210)).setCell ⟨gb214, 2, none⟩ (.slice Ao55 t211.length co55)).heap[gb214]? = some (.cells #[.int .i64 t209, .int .i64 t210, .slice Ao55 t211.length co55] 28 (0, 0))) := ⟨by (with_reducible repeat (first | refine blk_drewN ?_ _ | refine blk_drew ?_ | refine blk_alloc ?_ _)); refine blk_put (cs := #[.int .i64 t209, .int .i64 t210, .slice none 0 0]) ?_ 2 _ rfl; (with_reducible repeat (first | refine blk_drewN ?_ _ | refine blk_drew ?_ | refine blk_alloc ?_ _)); refine blk_put (cs := #[.int .i64 t209, .int .i64 0, .slice none 0 0]) ?_ 1 _ rfl; (with_reducible repeat (first | refine blk_drewN ?_ _ | refine blk_drew ?_ | refine blk_alloc ?_ _)); refine blk_put (cs := #[.int .i64 0, .int .i64 0, .slice none 0 0]) ?_ 0 _ rfl; (with_reducible repeat (first | refine blk_drewN ?_ _ | refine blk_drew ?_ | refine blk_alloc ?_ _)); exact BK214.out⟩
        have n4_ : Aside0 (Below w.heap.size w (((w51.setCell ⟨gb214, 0, none⟩ (.int .i64 t209)).setCell ⟨gb214, 1, none⟩ (.int .i64 t210)).setCell ⟨gb214, 2, none⟩ (.slice Ao55 t211.length co55))) := ⟨tb_⟩
        (try clear HO213)
        (try clear BK205)
        (try clear BK206)
        (try clear BK214)
        (try clear HB)
        generalize (((w51.setCell ⟨gb214, 0, none⟩ (.int .i64 t209)).setCell ⟨gb214, 1, none⟩ (.int .i64 t210)).setCell ⟨gb214, 2, none⟩ (.slice Ao55 t211.length co55)) = w56 at n0_ n1_ n2_ n3_ n4_ ⊢
        have HO213 := n0_
        have BK205 := n1_
        have BK206 := n2_
        have BK214 := n3_
        have HB := n4_
        clear n0_ n1_ n2_ n3_ n4_
        have n0_ := A_ (Kd.R_drew HO213.out)
        have n1_ := A_ (blk_drew BK205.out)
        have n2_ := A_ (blk_drew BK206.out)
        have n3_ := A_ (blk_drew BK214.out)
        have n4_ := A_ (below_drew1 HB.out)
        clear HO213
        clear BK205
        clear BK206
        clear BK214
        clear HB
        have HO213 := n0_
        have BK205 := n1_
        have BK206 := n2_
        have BK214 := n3_
        have HB := n4_
        clear n0_ n1_ n2_ n3_ n4_
        have p215 : 0 ≤ (a1 : Int) := od_
        have q215 : a1 < (t211.length : Int) := od_
        obtain ⟨ad215, e215, hx215_0⟩ := Kd.at_int (Kd.R_reads' HO213.out).2.2 a1 p215 q215
        cases e215
        replace p215 := eq_true p215
        replace q215 := eq_true q215
        have p27 : 0 ≤ (a1 : Int) := od_
        have q27 : (a1 : Int) < ((t211.length : Int) : Int) := od_
        obtain ⟨go27, co27, eo27, gb27, gl27, cl27, HG27⟩ := Kd.R_form HO213.out (by omega)
        (first | cases eo27 | (injection eo27 with ea_ en_ ec_; (first | subst ea_ | (injection ea_ with ea_; subst ea_)); subst ec_; clear en_))
        have GB27 := A_ gb27
        have GG27 := A_ HG27
        clear gb27 gl27 HG27
        (first | simp only [add_plain] at hx215_0 | skip)
        obtain ⟨hx27_0, hf27_0⟩ := Kd.R_celln 0 HO213.out (a1 : Int) p27 q27
        replace p27 := eq_true p27
        replace q27 := eq_true q27
        have HP58 := Kd.R_putn HO213.out (a1 : Int) (Go.bits .andNot .i64 (rd t211 a1) (ji26))
        rw [← Ny216.out] at HP58
        have HQ58 := A_ HP58
        clear HP58
        refine start_ (n := 10) (S := fun w' => w'.cell? ⟨gb214, 0, none⟩ = some (.int .i64 t209) ∧ w'.cell? ⟨gb214, 1, none⟩ = some (.int .i64 t210) ∧ w'.cell? ⟨gb214, 2, none⟩ = some (.slice (some ⟨go27, 0, none⟩) t211.length co55) ∧ w'.cell? ⟨go27, (a1).toNat, none⟩ = some (.int .i64 (rd t211 a1))) (ds := [9]) (Fn.bl 10 0) (by kernel_rfl) rfl rfl ⟨(blk_cell BK214.out 0).trans rfl, (blk_cell BK214.out 1).trans rfl, (blk_cell BK214.out 2).trans rfl, hx215_0⟩ (fun hHeld => ?_); refine with_tabW impl_PutCell.tab4 impl_PutCell.bits4 (fun HT_ HW_ => ?_)
        generalize w56.drew = w57 at HO213 BK205 BK206 BK214 HB GG27 HQ58 hf27_0 hx215_0 hx27_0 hHeld ⊢
        refine pq_ 0 (some 24) (Fn.bl 10 1) HT_.out ?_
        refine pq_ 2 (some 26) (Fn.bl 10 5) HT_.out ?_
        refine pq_ 5 (some 29) (Fn.bl 10 37) HT_.out ?_
        refine pq_ 6 (some 30) (Fn.bl 10 101) HT_.out ?_
        refine tq_ 1 (some 25) (Fn.bl 10 103) HT_.out HW_.out hHeld ?_ (hy0 := by rintro w' ⟨s0, s1, s2, s3⟩; go_simp; with_reducible rfl)
        refine pq_ 3 (some 27) (Fn.bl 10 111) HT_.out ?_
        refine tq_ 4 (some 28) (Fn.bl 10 127) HT_.out HW_.out hHeld ?_ (hy0 := by rintro w' ⟨s0, s1, s2, s3⟩; go_simp; with_reducible rfl)
        refine pq_ 7 (some 31) (Fn.bl 10 255) HT_.out ?_
        refine pq_ 8 (some 32) (Fn.bl 10 511) HT_.out ?_
        refine last_ (i := 9) (N := none) (Fn.bl 10 1023) rfl rfl (one_of HT_.out (by kernel_rfl)) (by decide) (fun K hK => ?_)
        refine skip_ (w1 := ?_) (by rfl) rfl ?_ ?_
        rotate_left
        ·
         go_simp
         rfl
        refine hK.out _ _ ?_
        clear hK K
        refine done_ (done_of HT_.out (by kernel_rfl)) ?_
        have n0_ : Aside0 (Kd.R (Kd.int .i64) 3 (w57.setCell ⟨go27, (a1 : Int).toNat, none⟩ (.int .i64 (Go.bits .andNot .i64 (rd t211 a1) (ji26)))) w.heap.size (fun _ => True) (.slice (some ⟨go27, 0, none⟩) t211.length co55) y216) := ⟨tr_x HQ58.out⟩
        have n1_ : Aside0 ((w57.setCell ⟨go27, (a1 : Int).toNat, none⟩ (.int .i64 (Go.bits .andNot .i64 (rd t211 a1) (ji26)))).heap[gb205]? = some (.cells #[.int .i64 a0_0, .int .i64 a0_1, .slice A0_2 l0_2.length c0_2] 28 (0, 0))) := ⟨by (with_reducible repeat (first | refine blk_drewN ?_ _ | refine blk_drew ?_ | refine blk_alloc ?_ _)); refine blk_far ?_ (by have h_ := Kd.R_ne HO213.out BK205.out (by decide); intro e_; exact h_ (by rw [e_]; rfl)) _; (with_reducible repeat (first | refine blk_drewN ?_ _ | refine blk_drew ?_ | refine blk_alloc ?_ _)); exact BK205.out⟩
        have n2_ : Aside0 ((w57.setCell ⟨go27, (a1 : Int).toNat, none⟩ (.int .i64 (Go.bits .andNot .i64 (rd t211 a1) (ji26)))).heap[gb206]? = some (.cells #[.int .i64 0, .int .i64 0, .slice none 0 0] 28 (0, 0))) := ⟨by (with_reducible repeat (first | refine blk_drewN ?_ _ | refine blk_drew ?_ | refine blk_alloc ?_ _)); refine blk_far ?_ (by have h_ := Kd.R_ne HO213.out BK206.out (by decide); intro e_; exact h_ (by rw [e_]; rfl)) _; (with_reducible repeat (first | refine blk_drewN ?_ _ | refine blk_drew ?_ | refine blk_alloc ?_ _)); exact BK206.out⟩
        have n3_ : Aside0 ((w57.setCell ⟨go27, (a1 : Int).toNat, none⟩ (.int .i64 (Go.bits .andNot .i64 (rd t211 a1) (ji26)))).heap[gb214]? = some (.cells #[.int .i64 t209, .int .i64 t210, .slice (some ⟨go27, 0, none⟩) t211.length co55] 28 (0, 0))) := ⟨by (with_reducible repeat (first | refine blk_drewN ?_ _ | refine blk_drew ?_ | refine blk_alloc ?_ _)); refine blk_far ?_ (by have h_ := Kd.R_ne HO213.out BK214.out (by decide); intro e_; exact h_ (by rw [e_]; rfl)) _; (with_reducible repeat (first | refine blk_drewN ?_ _ | refine blk_drew ?_ | refine blk_alloc ?_ _)); exact BK214.out⟩
        have n4_ : Aside0 (Below w.heap.size w (w57.setCell ⟨go27, (a1 : Int).toNat, none⟩ (.int .i64 (Go.bits .andNot .i64 (rd t211 a1) (ji26))))) := ⟨tb_⟩
        (try clear HO213)
        (try clear BK205)
        (try clear BK206)
        (try clear BK214)
        (try clear HB)
        generalize (w57.setCell ⟨go27, (a1 : Int).toNat, none⟩ (.int .i64 (Go.bits .andNot .i64 (rd t211 a1) (ji26)))) = w59 at n0_ n1_ n2_ n3_ n4_ ⊢
        have HO213 := n0_
        have BK205 := n1_
        have BK206 := n2_
        have BK214 := n3_
        have HB := n4_
        clear n0_ n1_ n2_ n3_ n4_
        obtain ⟨hcz60_0, hcz60_1, hcz60_2, hfz60_0, hfz60_1, hfz60_2⟩ := cf3_ BK214.out
        obtain ⟨hcz61_0, hcz61_1, hcz61_2, hfz61_0, hfz61_1, hfz61_2⟩ := cf3_ BK206.out
        try go_wp2
        refine bodyPost_ret (results_ct rfl _ _ gb206 28 #[.int .i64 t209, .int .i64 t210, .slice (some ⟨go27, 0, none⟩) t211.length co55] (0, 0) _ rfl (by (with_reducible repeat (first | refine blk_drewN ?_ _ | refine blk_drew ?_ | refine blk_alloc ?_ _)); refine blk_put (cs := #[.int .i64 t209, .int .i64 t210, .slice none 0 0]) ?_ 2 _ rfl; (with_reducible repeat (first | refine blk_drewN ?_ _ | refine blk_drew ?_ | refine blk_alloc ?_ _)); refine blk_put (cs := #[.int .i64 t209, .int .i64 0, .slice none 0 0]) ?_ 1 _ rfl; (with_reducible repeat (first | refine blk_drewN ?_ _ | refine blk_drew ?_ | refine blk_alloc ?_ _)); refine blk_put (cs := #[.int .i64 0, .int .i64 0, .slice none 0 0]) ?_ 0 _ rfl; (with_reducible repeat (first | refine blk_drewN ?_ _ | refine blk_drew ?_ | refine blk_alloc ?_ _)); exact BK206.out) Try.underlying28 rfl (by kernel_rfl)) rfl ?_
        exact ⟨_, by first | rfl | (simp [errW_none, errW_some] <;> rfl) | (simp only [← hji26]; first | rfl | (simp [errW_none, errW_some] <;> rfl)) | (simp [*, errW_none, errW_some] <;> rfl), by (with_reducible repeat (first | apply Kd.R_alloc | apply Kd.R_drewN | apply Kd.R_drew)); exact Kd.R_mono (Kd.R_far (p := ⟨gb206, 2, none⟩) (Kd.R_far (p := ⟨gb206, 1, none⟩) (Kd.R_far (p := ⟨gb206, 0, none⟩) (Kd.R_types HO213.out BK206.out (by decide)) (fun _ hk => hk.2) (.int .i64 t209)) (fun _ hk => hk.2) (.int .i64 t210)) (fun _ hk => hk.2) (.slice (some ⟨go27, 0, none⟩) t211.length co55)) (fun _ hk => trivial), tb_⟩
      ·
       rw [if_neg c25] at H
       exact absurd H (by simp)
     ·
      rw [if_neg c24] at H
      exact absurd H (by simp)
    ·
     rw [if_neg c23] at H
     exact absurd H (by simp)

end
end Go.Proofs.Ytnpacpdpgngdpaa.P
