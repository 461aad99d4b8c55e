-- printed functions (wip/slim.py)
import Derived.Test.YthlcaikplebpmaaPx0
import Derived.Test.YthlcaikplebpmaaLn
import Derived.Test.YthlcaikplebpmaaLo
import Derived.Test.YthlcaikplebpmaaQ44e93a7025
import Derived.Test.YthlcaikplebpmaaQ9e06a928a8
namespace Go.Proofs.Ythlcaikplebpmaa.P
noncomputable section
set_option maxHeartbeats 8000000
set_option maxRecDepth 100000
open Go.RowKit Go.Proofs.YthlcaikplebpmaaW.PrintWords Go.Proofs.YthlcaikplebpmaaW.PrintLast Go.Proofs.YthlcaikplebpmaaW.PrintMore
attribute [local go_sem] max2_int min2_int max_two min_two max_three min_three max_four min_four   -- for this text's walks alone
set_option linter.unusedVariables false
set_option linter.unusedSimpArgs false

/-! ### impl_FullBoard: function 114 -/
mutual
def impl_FullBoard.j0 : Nat → Int → Int → Bool → Option (Int × Int × List Int × Bool)
 | 0, _, _, _ => none
 | k + 1, x0, x1, x15 => if x15 = true then (some (0, 0, ([] : List Int), false)) else ((impl_newBoard.f x0 x1).bind fun bt804 => (impl_FullBoard.l0 k x1 (bt804.2.2.length : Int) 0 bt804.1 bt804.2.1 bt804.2.2))
def impl_FullBoard.l0 : Nat → Int → Int → Int → Int → Int → List Int → Option (Int × Int × List Int × Bool)
 | 0, _, _, _, _, _, _ => none
 | k + 1, x1, x22, x23, x810000, x810001, x810002 => if x23 < x22 then (if 0 ≤ x1 then (if 0 ≤ x23 then (if x23 < (x810002.length : Int) then (impl_FullBoard.l0 k x1 x22 (wrap64 (x23 + 1)) x810000 x810001 (x810002.set (x23 : Int).toNat (wrap64 ((shl .i64 1 x1) - 1)))) else (none)) else (none)) else (none)) else (some (x810000, x810001, x810002, true))
end
def impl_FullBoard.f (k : Nat) (a0 : Int) (a1 : Int) : Option (Int × Int × List Int × Bool) := (impl_isSide.f a0).bind fun t802 => (if t802 = true then ((impl_isSide.f a1).bind fun t803 => (impl_FullBoard.j0 k a0 a1 (!t803))) else (impl_FullBoard.j0 k a0 a1 true))
theorem impl_FullBoard.mono_l : ∀ k, (∀ y0 y1 y2, LeO (impl_FullBoard.j0 k y0 y1 y2) (impl_FullBoard.j0 (k + 1) y0 y1 y2)) ∧ (∀ y0 y1 y2 y3 y4 y5, LeO (impl_FullBoard.l0 k y0 y1 y2 y3 y4 y5) (impl_FullBoard.l0 (k + 1) y0 y1 y2 y3 y4 y5))
 | 0 => ⟨fun _ _ _ r h => by simp [impl_FullBoard.j0] at h, fun _ _ _ _ _ _ r h => by simp [impl_FullBoard.l0] at h⟩
 | k + 1 => by
  obtain ⟨ih0, ih1⟩ := impl_FullBoard.mono_l k
  refine ⟨?_, ?_⟩
  ·
   intro y0 y1 y2
   unfold impl_FullBoard.j0
   repeat' first | (with_reducible first | exact ih0 _ _ _ | exact ih1 _ _ _ _ _ _ | exact LeO.refl _ | exact LeO.none _ | refine LeO.ite ?_ ?_ | refine LeO.bind ?_ (fun _ => ?_)) | exact ih0 _ _ _ | exact ih1 _ _ _ _ _ _ | exact LeO.none _ | refine LeO.ite ?_ ?_ | refine LeO.bind ?_ (fun _ => ?_)
  ·
   intro y0 y1 y2 y3 y4 y5
   unfold impl_FullBoard.l0
   repeat' first | (with_reducible first | exact ih0 _ _ _ | exact ih1 _ _ _ _ _ _ | exact LeO.refl _ | exact LeO.none _ | refine LeO.ite ?_ ?_ | refine LeO.bind ?_ (fun _ => ?_)) | exact ih0 _ _ _ | exact ih1 _ _ _ _ _ _ | exact LeO.none _ | refine LeO.ite ?_ ?_ | refine LeO.bind ?_ (fun _ => ?_)
theorem impl_FullBoard.mono : ∀ a0 a1 k, LeO (impl_FullBoard.f k a0 a1) (impl_FullBoard.f (k + 1) a0 a1) := by
 intro a0 a1 k
 obtain ⟨ih0, ih1⟩ := impl_FullBoard.mono_l k
 unfold impl_FullBoard.f
 repeat' first | (with_reducible first | exact ih0 _ _ _ | exact ih1 _ _ _ _ _ _ | exact LeO.refl _ | exact LeO.none _ | refine LeO.ite ?_ ?_ | refine LeO.bind ?_ (fun _ => ?_)) | exact ih0 _ _ _ | exact ih1 _ _ _ _ _ _ | exact LeO.none _ | refine LeO.ite ?_ ?_ | refine LeO.bind ?_ (fun _ => ?_)
def impl_FullBoard.T7 : Bool × List (List Nat × List Nat) := (true, [([], []), ([0], [0]), ([], []), ([], []), ([3], [3]), ([4], [4]), ([1, 2, 0, 1, 2, 3, 4, 5], [1, 2]), ([6, 5, 0, 1, 2, 3, 4, 5], [5, 6])])
def impl_FullBoard.B7 : List Nat := [0, 1, 0, 0, 8, 24, 63, 127]
theorem impl_FullBoard.tab7 : rtab .any (opsOf Try.f114 7) = impl_FullBoard.T7 := by kernel_rfl
theorem impl_FullBoard.bits7 : waitsOk impl_FullBoard.T7.2 impl_FullBoard.B7 = true := by kernel_rfl
theorem impl_FullBoard.calls (k : Nat) (a0 : Int) (a1 : Int) (r1 : Int) (r2 : Int) (r3 : List Int) (r4 : Bool) (w : World) (h : impl_FullBoard.f k a0 a1 = some (r1, r2, r3, r4)) :
  Calls Try.prog 114 #[.int .i64 a0, .int .i64 a1] w fun e w' => ∃ v2_ : Value, e = .returned (.tuple #[.agg #[.int .i64 r1, .int .i64 r2, v2_], .bool r4]) ∧ Kd.R (Kd.int .i64) 3 w' w.heap.size (fun _ => True) v2_ r3 ∧ Below w.heap.size w w' := by
 have hu26 := Try.underlying26
 have HB := A_ (Below.refl w.heap.size w)
 have H : ((impl_isSide.f a0).bind fun t802 => (if t802 = true then ((impl_isSide.f a1).bind fun t803 => (impl_FullBoard.j0 k a0 a1 (!t803))) else (impl_FullBoard.j0 k a0 a1 true))) = some (r1, r2, r3, r4) := h
 clear h
 have HC3 := A_ H
 clear H
 go_enter Try.func114, Try.ntmps114
 go_upto_region 1 with (first | (refine gd_ 4 ?_; refine bx_ 4 #[.int .i64 0, .int .i64 0, .slice none 0 0] 26 ?_; intro gb801 hg w4 hbox hb; have BK801 := A_ (hbox); have GW801 := A_ ((ts_ hg : w.heap.size ≤ gb801)); have GE801 := A_ ((ts_ hg : w.heap.size ≤ gb801)); replace HB := A_ (below_step tb_ hb); clear hb hbox hg))
 (try simp only [Act.put, List.setIfInBounds_toArray, List.set_cons_zero, List.set_cons_succ])
 go_cut [15] (fun v15 wc => ∃ (kq : Nat) (x15_2 : Bool), v15 = .bool x15_2 ∧ Aside0 (impl_FullBoard.j0 kq a0 a1 x15_2 = some (r1, r2, r3, r4)) ∧ Aside0 (kq ≤ k) ∧ Aside0 (wc.heap[gb801]? = some (.cells #[.int .i64 0, .int .i64 0, (.slice none 0 0)] 26 (0, 0))) ∧ Aside0 (Below w.heap.size w wc))
 case first =>
  have H := HC3.out
  clear HC3
  replace H := Option.bind_eq_some_iff.mp H
  obtain ⟨t802, A50, H⟩ := H
  replace H : (if t802 = true then ((impl_isSide.f a1).bind fun t803 => (impl_FullBoard.j0 k a0 a1 (!t803))) else (impl_FullBoard.j0 k a0 a1 true)) = some (r1, r2, r3, r4) := H
  have A5 := A_ A50
  clear A50
  by_cases c6 : t802 = true
  ·
   subst c6
   have H1 : ((impl_isSide.f a1).bind fun t803 => (impl_FullBoard.j0 k a0 a1 (!t803))) = some (r1, r2, r3, r4) := by rw [if_pos rfl] at H; exact H
   clear H
   have H := H1
   clear H1
   replace H := Option.bind_eq_some_iff.mp H
   obtain ⟨t803, A70, H⟩ := H
   replace H : (impl_FullBoard.j0 k a0 a1 (!t803)) = some (r1, r2, r3, r4) := H
   have A7 := A_ A70
   clear A70
   have H' := A_ H
   clear H
   go_wp2_with (first | (refine gc_ 172 ?_; refine goesT_ (some 9) Try.func172 #[.int .i64 a0] ?_; (with_reducible refine (impl_isSide.calls a0 true _ A5.out).mono ?_); rintro e w' ⟨rfl, ⟨nd, rfl⟩⟩; refine ⟨_, rfl, ?_⟩) | (go_at_call 172; (with_reducible refine (impl_isSide.calls a1 t803 _ A7.out).mono ?_); rintro e w' ⟨rfl, ⟨nd, rfl⟩⟩))
   go_meet
   case rel => exact ⟨_, (!t803), tf_, H', ⟨by first | omega | exact Nat.le_refl _⟩, ⟨tk_ BK801⟩, ⟨tb_⟩⟩
  ·
   replace c6 := Bool.eq_false_iff.mpr c6
   subst c6
   have H1 : (impl_FullBoard.j0 k a0 a1 true) = some (r1, r2, r3, r4) := by rw [if_neg (show ¬ (false = true) by decide)] at H; exact H
   clear H
   have H := H1
   clear H1
   have H' := A_ H
   clear H
   go_wp2_with (first | (refine gc_ 172 ?_; refine goesT_ (some 9) Try.func172 #[.int .i64 a0] ?_; (with_reducible refine (impl_isSide.calls a0 false _ A5.out).mono ?_); rintro e w' ⟨rfl, ⟨nd, rfl⟩⟩; refine ⟨_, rfl, ?_⟩))
   go_meet
   case rel => exact ⟨_, (true), tf_, H', ⟨by first | omega | exact Nat.le_refl _⟩, ⟨tk_ BK801⟩, ⟨tb_⟩⟩
 case rest =>
  clear HC3
  try clear c1
  try clear p2
  try clear c6
  obtain ⟨kq, x15_2, rfl, HA, HJ2, BK801, HB⟩ := hcut
  cases kq with
  | zero => exact absurd HA.out (by simp [impl_FullBoard.j0])
  | succ kj2 =>
   have H := HA.out
   clear HA
   simp only [impl_FullBoard.j0] at H
   by_cases c8 : x15_2 = true
   ·
    subst c8
    have H1 : (some (0, 0, ([] : List Int), false)) = some (r1, r2, r3, r4) := by rw [if_pos rfl] at H; exact H
    clear H
    have H := H1
    clear H1
    simp only [Option.some.injEq, Prod.mk.injEq] at H
    obtain ⟨rfl, rfl, rfl, rfl⟩ := H
    obtain ⟨hcz9_0, hcz9_1, hcz9_2, hfz9_0, hfz9_1, hfz9_2⟩ := cf3_ BK801.out
    go_wp2
    refine bodyPost_ret (results_ct rfl _ _ gb801 26 #[.int .i64 0, .int .i64 0, .slice none 0 0] (0, 0) _ rfl (by (with_reducible repeat (first | refine blk_drewN ?_ _ | refine blk_drew ?_ | refine blk_alloc ?_ _)); refine blk_put (cs := #[.int .i64 0, .int .i64 0, .slice none 0 0]) ?_ 2 _ rfl; (with_reducible repeat (first | refine blk_drewN ?_ _ | refine blk_drew ?_ | refine blk_alloc ?_ _)); refine blk_put (cs := #[.int .i64 0, .int .i64 0, .slice none 0 0]) ?_ 1 _ rfl; (with_reducible repeat (first | refine blk_drewN ?_ _ | refine blk_drew ?_ | refine blk_alloc ?_ _)); refine blk_put (cs := #[.int .i64 0, .int .i64 0, .slice none 0 0]) ?_ 0 _ rfl; (with_reducible repeat (first | refine blk_drewN ?_ _ | refine blk_drew ?_ | refine blk_alloc ?_ _)); exact BK801.out) Try.underlying26 rfl (by kernel_rfl)) rfl ?_
    exact ⟨_, te_, by first | exact Kd.R_nil _ _ _ _ _ | exact Kd.N_nil _ _ _ _ _ | exact Kd.V_nil _ _ _ _ _ | exact Kd.Q_nil _ _ _ _ _ | exact Kd.S_nil _ _ _ _ _, tb_⟩
   ·
    replace c8 := Bool.eq_false_iff.mpr c8
    subst c8
    have H1 : ((impl_newBoard.f a0 a1).bind fun bt804 => (impl_FullBoard.l0 kj2 a1 (bt804.2.2.length : Int) 0 bt804.1 bt804.2.1 bt804.2.2)) = some (r1, r2, r3, r4) := by rw [if_neg (show ¬ (false = true) by decide)] at H; exact H
    clear H
    have H := H1
    clear H1
    replace H := Option.bind_eq_some_iff.mp H
    obtain ⟨⟨t804, t805, t806⟩, A100, H⟩ := H
    replace H : (impl_FullBoard.l0 kj2 a1 (t806.length : Int) 0 t804 t805 t806) = some (r1, r2, r3, r4) := H
    have A10 := A_ A100
    clear A100
    have H' := A_ H
    clear H
    go_wp2_with (first | (refine gc_ 174 ?_; refine goesT_ (some 19) Try.func174 #[.int .i64 a0, .int .i64 a1] ?_; (with_reducible refine (impl_newBoard.calls a0 a1 t804 t805 t806 _ A10.out).mono ?_); rintro e w11 ⟨v807, rfl, ho0, hb⟩; refine ⟨_, rfl, ?_⟩; have HO808 := A_ (Kd.R_lower ho0 (below_size tb_)); replace BK801 := A_ (blk_below (g := gb801) (o := .cells #[.int .i64 0, .int .i64 0, .slice none 0 0] 26 (0, 0)) (tk_ BK801) hb); replace HB := A_ (below_step tb_ hb); (try clear hb); (try clear ho0)) | (refine gd_ 6 ?_; refine bx_ 6 #[.int .i64 0, .int .i64 0, .slice none 0 0] 26 ?_; intro gb809 hg w12 hbox hb; replace HO808 := A_ (Kd.R_below (tr_x HO808.out) hb); have BK809 := A_ (hbox); have GW809 := A_ ((ts_ hg : w.heap.size ≤ gb809)); have GE809 := A_ ((ts_ hg : w.heap.size ≤ gb809)); replace HB := A_ (below_step tb_ hb); have NB801_809 := A_ ((by rw [hg]; exact Nat.ne_of_lt (blk_lt (g := gb801) (o := .cells #[.int .i64 0, .int .i64 0, .slice none 0 0] 26 (0, 0)) (tk_ BK801)) : gb801 ≠ gb809)); have NB809_801 := A_ ((by rw [hg]; exact Nat.ne_of_gt (blk_lt (g := gb801) (o := .cells #[.int .i64 0, .int .i64 0, .slice none 0 0] 26 (0, 0)) (tk_ BK801)) : gb809 ≠ gb801)); replace BK801 := A_ (blk_below (g := gb801) (o := .cells #[.int .i64 0, .int .i64 0, .slice none 0 0] 26 (0, 0)) (tk_ BK801) hb); clear hb hbox hg; have hnb13 := NB809_801.out; have hnc13 := NB801_809.out; obtain ⟨hcz14_0, hcz14_1, hcz14_2, hfz14_0, hfz14_1, hfz14_2⟩ := cf3_ BK809.out; obtain ⟨Ao15, co15, eo15⟩ := Kd.R_slice HO808.out; subst eo15))
    go_loopg [23] kj2 (fun kq v23 w' => ∃ (x23_2 : Int) (x810002_2 : List Int) (u810002 : Value), v23 = .int .i64 x23_2 ∧ Aside0 (impl_FullBoard.l0 kq a1 (t806.length : Int) x23_2 t804 t805 x810002_2 = some (r1, r2, r3, r4)) ∧ Aside0 (kq ≤ kj2) ∧ Aside0 (Kd.R (Kd.int .i64) 3 w' w.heap.size (fun _ => True) u810002 x810002_2) ∧ Aside0 (w'.heap[gb801]? = some (.cells #[.int .i64 0, .int .i64 0, (.slice none 0 0)] 26 (0, 0))) ∧ Aside0 (w'.heap[gb809]? = some (.cells #[.int .i64 t804, .int .i64 t805, u810002] 26 (0, 0))) ∧ Aside0 (Below w.heap.size w w'))
    case atStart => exact ⟨(0), (t806), (.slice Ao15 t806.length co15), tf_, H', ⟨Nat.le_refl _⟩, ⟨by (with_reducible repeat (first | apply Kd.R_alloc | apply Kd.R_drewN | apply Kd.R_drew)); exact Kd.R_mono (Kd.R_far (p := ⟨gb809, 2, none⟩) (Kd.R_far (p := ⟨gb809, 1, none⟩) (Kd.R_far (p := ⟨gb809, 0, none⟩) (Kd.R_types HO808.out BK809.out (by decide)) (fun _ hk => hk.2) (.int .i64 t804)) (fun _ hk => hk.2) (.int .i64 t805)) (fun _ hk => hk.2) (.slice Ao15 t806.length co15)) (fun _ hk => trivial)⟩, ⟨tk_ BK801⟩, ⟨by (with_reducible repeat (first | refine blk_drewN ?_ _ | refine blk_drew ?_ | refine blk_alloc ?_ _)); refine blk_put (cs := #[.int .i64 t804, .int .i64 t805, .slice none 0 0]) ?_ 2 _ rfl; (with_reducible repeat (first | refine blk_drewN ?_ _ | refine blk_drew ?_ | refine blk_alloc ?_ _)); refine blk_put (cs := #[.int .i64 t804, .int .i64 0, .slice none 0 0]) ?_ 1 _ rfl; (with_reducible repeat (first | refine blk_drewN ?_ _ | refine blk_drew ?_ | refine blk_alloc ?_ _)); refine blk_put (cs := #[.int .i64 0, .int .i64 0, .slice none 0 0]) ?_ 0 _ rfl; (with_reducible repeat (first | refine blk_drewN ?_ _ | refine blk_drew ?_ | refine blk_alloc ?_ _)); exact BK809.out⟩, ⟨tb_⟩⟩
    case round =>
     clear H'
     try clear c1
     try clear p2
     try clear c6
     try clear c8
     try clear c11
     try clear c13
     try clear hcz14_0
     try clear hcz14_1
     try clear hcz14_2
     try clear hcz9_0
     try clear hcz9_1
     try clear hcz9_2
     try clear hfz14_0
     try clear hfz14_1
     try clear hfz14_2
     try clear hfz9_0
     try clear hfz9_1
     try clear hfz9_2
     try clear p2
     obtain ⟨x23_2, x810002_2, u810002, rfl, HA, HK2, HO_810002, BK801, BK809, HB⟩ := hrel
     cases gk with
     | zero => exact absurd HA.out (by simp [impl_FullBoard.l0])
     | succ k2 =>
      have H := HA.out
      clear HA
      simp only [impl_FullBoard.l0] at H
      by_cases c16 : x23_2 < (t806.length : Int)
      ·
       rw [if_pos c16] at H
       have c16b0 := decide_eq_true c16
       clear c16
       by_cases c17 : 0 ≤ a1
       ·
        rw [if_pos c17] at H
        have c17b0 := eq_true c17
        have c17b1 := decide_eq_true c17
        clear c17
        obtain ⟨ji18, hji18⟩ : ∃ j_ : Int, (shl .i64 1 a1) = j_ := ⟨_, rfl⟩
        replace H : (if 0 ≤ x23_2 then (if x23_2 < (x810002_2.length : Int) then (impl_FullBoard.l0 k2 a1 (t806.length : Int) (wrap64 (x23_2 + 1)) t804 t805 (x810002_2.set (x23_2 : Int).toNat (wrap64 ((ji18) - 1)))) else (none)) else (none)) = some (r1, r2, r3, r4) := by first | (rw [hji18] at H; exact H) | (simp only [hji18] at H ⊢; exact H)
        have hji18_ : (IntKind.i64.wrap (1 * 2 ^ min a1.toNat 64)) = ji18 := hji18
        have hji18z : a1 ≤ 64 → (IntKind.i64.wrap (1 * 2 ^ a1.toNat)) = ji18 := shl_small hji18
        have hji18u : (IntKind.i64.wrap (2 ^ min a1.toNat 64)) = ji18 := by have h_ := hji18_; rw [Int.one_mul] at h_; exact h_
        have hji18v : a1 ≤ 64 → (IntKind.i64.wrap (2 ^ a1.toNat)) = ji18 := fun hle_ => by have h_ := hji18z hle_; rw [Int.one_mul] at h_; exact h_
        have hji18y : (wrap64 (1 * 2 ^ min a1.toNat 64)) = ji18 := (i64_w _).symm.trans hji18_
        have hji18x : a1 ≤ 64 → (wrap64 (1 * 2 ^ a1.toNat)) = ji18 := fun h_ => (i64_w _).symm.trans (hji18z h_)
        by_cases c19 : 0 ≤ x23_2
        ·
         rw [if_pos c19] at H
         have c19b0 := decide_eq_true c19
         clear c19
         by_cases c20 : x23_2 < (x810002_2.length : Int)
         ·
          rw [if_pos c20] at H
          have c20b0 := decide_eq_true c20
          clear c20
          obtain ⟨y810, hy810⟩ : ∃ y_ : List Int, y_ = (x810002_2.set (x23_2 : Int).toNat (wrap64 ((ji18) - 1))) := ⟨_, rfl⟩
          replace H : (impl_FullBoard.l0 k2 a1 (t806.length : Int) (wrap64 (x23_2 + 1)) t804 t805 y810) = some (r1, r2, r3, r4) := ty_ hy810 H
          have Ny810 := A_ hy810
          clear hy810
          have H' := A_ H
          clear H
          try go_wp2
          have n0_ := A_ (Kd.R_drew HO_810002.out)
          have n1_ := A_ (blk_drew BK801.out)
          have n2_ := A_ (blk_drew BK809.out)
          have n3_ := A_ (below_drew1 HB.out)
          clear HO_810002
          clear BK801
          clear BK809
          clear HB
          have HO_810002 := n0_
          have BK801 := n1_
          have BK809 := n2_
          have HB := n3_
          clear n0_ n1_ n2_ n3_
          have p21 : 0 ≤ (x23_2 : Int) := od_
          have q21 : (x23_2 : Int) < ((x810002_2.length : Int) : Int) := od_
          obtain ⟨go21, co21, eo21, gb21, gl21, cl21, HG21⟩ := Kd.R_form HO_810002.out (by omega)
          (first | cases eo21 | (injection eo21 with ea_ en_ ec_; (first | subst ea_ | (injection ea_ with ea_; subst ea_)); subst ec_; clear en_))
          have GB21 := A_ gb21
          have GG21 := A_ HG21
          clear gb21 gl21 HG21
          obtain ⟨hx21_0, hf21_0⟩ := Kd.R_celln 0 HO_810002.out (x23_2 : Int) p21 q21
          replace p21 := eq_true p21
          replace q21 := eq_true q21
          have HP23 := Kd.R_putn HO_810002.out (x23_2 : Int) (wrap64 ((ji18) - 1))
          rw [← Ny810.out] at HP23
          have HQ23 := A_ HP23
          clear HP23
          refine start_ (n := 8) (S := fun w' => w'.cell? ⟨gb809, 0, none⟩ = some (.int .i64 t804) ∧ w'.cell? ⟨gb809, 1, none⟩ = some (.int .i64 t805) ∧ w'.cell? ⟨gb809, 2, none⟩ = some (.slice (some ⟨go21, 0, none⟩) x810002_2.length co21)) (ds := [7]) (Fn.bl 8 0) (by kernel_rfl) rfl rfl ⟨(blk_cell BK809.out 0).trans rfl, (blk_cell BK809.out 1).trans rfl, (blk_cell BK809.out 2).trans rfl⟩ (fun hHeld => ?_); refine with_tabW impl_FullBoard.tab7 impl_FullBoard.bits7 (fun HT_ HW_ => ?_)
          generalize wr.drew = w22 at HO_810002 BK801 BK809 HB GG21 HQ23 hf21_0 hx21_0 hHeld ⊢
          refine pq_ 0 (some 26) (Fn.bl 8 1) HT_.out ?_
          refine pq_ 2 (some 28) (Fn.bl 8 5) HT_.out ?_
          refine pq_ 3 (some 29) (Fn.bl 8 13) HT_.out ?_
          refine pq_ 4 (some 30) (Fn.bl 8 29) HT_.out ?_
          refine pq_ 5 (some 31) (Fn.bl 8 61) HT_.out ?_
          refine tq_ 1 (some 27) (Fn.bl 8 63) HT_.out HW_.out hHeld ?_ (hy0 := by rintro w' ⟨s0, s1, s2⟩; go_simp; with_reducible rfl)
          refine pq_ 6 (some 32) (Fn.bl 8 127) HT_.out ?_
          refine last_ (i := 7) (N := none) (Fn.bl 8 255) rfl rfl (one_of HT_.out (by kernel_rfl)) (by decide) (fun K hK => ?_)
          refine skip_ (w1 := ?_) (by rfl) rfl ?_ ?_
          rotate_left
          ·
           go_simp
           rfl
          refine hK.out _ _ ?_
          clear hK K
          refine done_ (done_of HT_.out (by kernel_rfl)) ?_
          try go_wp2
          go_roundg k2
          case measure => have := HJ2.out; have := HK2.out; omega
          case rel => exact ⟨(wrap64 (x23_2 + 1)), (y810), (.slice (some ⟨go21, 0, none⟩) x810002_2.length co21), tf_, H', ⟨by have := HJ2.out; have := HK2.out; omega⟩, ⟨tr_x HQ23.out⟩, ⟨by (with_reducible repeat (first | refine blk_drewN ?_ _ | refine blk_drew ?_ | refine blk_alloc ?_ _)); refine blk_far ?_ (by have h_ := Kd.R_ne HO_810002.out BK801.out (by decide); intro e_; exact h_ (by rw [e_]; rfl)) _; (with_reducible repeat (first | refine blk_drewN ?_ _ | refine blk_drew ?_ | refine blk_alloc ?_ _)); exact BK801.out⟩, ⟨by (with_reducible repeat (first | refine blk_drewN ?_ _ | refine blk_drew ?_ | refine blk_alloc ?_ _)); refine blk_far ?_ (by have h_ := Kd.R_ne HO_810002.out BK809.out (by decide); intro e_; exact h_ (by rw [e_]; rfl)) _; (with_reducible repeat (first | refine blk_drewN ?_ _ | refine blk_drew ?_ | refine blk_alloc ?_ _)); exact BK809.out⟩, ⟨tb_⟩⟩
         ·
          rw [if_neg c20] at H
          exact absurd H (by simp)
        ·
         rw [if_neg c19] at H
         exact absurd H (by simp)
       ·
        rw [if_neg c17] at H
        exact absurd H (by simp)
      ·
       rw [if_neg c16] at H
       have c16b0 := decide_eq_false c16
       clear c16
       simp only [Option.some.injEq, Prod.mk.injEq] at H
       obtain ⟨rfl, rfl, rfl, rfl⟩ := H
       have hnb24 := NB809_801.out
       have hnc24 := NB801_809.out
       obtain ⟨hcz25_0, hcz25_1, hcz25_2, hfz25_0, hfz25_1, hfz25_2⟩ := cf3_ BK809.out
       obtain ⟨hcz26_0, hcz26_1, hcz26_2, hfz26_0, hfz26_1, hfz26_2⟩ := cf3_ BK801.out
       obtain ⟨Ao27, co27, eo27⟩ := Kd.R_slice HO_810002.out
       subst eo27
       go_wp2
       refine bodyPost_ret (results_ct rfl _ _ gb801 26 #[.int .i64 t804, .int .i64 t805, .slice Ao27 x810002_2.length co27] (0, 0) _ rfl (by (with_reducible repeat (first | refine blk_drewN ?_ _ | refine blk_drew ?_ | refine blk_alloc ?_ _)); refine blk_put (cs := #[.int .i64 t804, .int .i64 t805, .slice none 0 0]) ?_ 2 _ rfl; (with_reducible repeat (first | refine blk_drewN ?_ _ | refine blk_drew ?_ | refine blk_alloc ?_ _)); refine blk_put (cs := #[.int .i64 t804, .int .i64 0, .slice none 0 0]) ?_ 1 _ rfl; (with_reducible repeat (first | refine blk_drewN ?_ _ | refine blk_drew ?_ | refine blk_alloc ?_ _)); refine blk_put (cs := #[.int .i64 0, .int .i64 0, .slice none 0 0]) ?_ 0 _ rfl; (with_reducible repeat (first | refine blk_drewN ?_ _ | refine blk_drew ?_ | refine blk_alloc ?_ _)); exact BK801.out) Try.underlying26 rfl (by kernel_rfl)) rfl ?_
       exact ⟨_, te_, by (with_reducible repeat (first | apply Kd.R_alloc | apply Kd.R_drewN | apply Kd.R_drew)); exact Kd.R_mono (Kd.R_far (p := ⟨gb801, 2, none⟩) (Kd.R_far (p := ⟨gb801, 1, none⟩) (Kd.R_far (p := ⟨gb801, 0, none⟩) (Kd.R_types HO_810002.out BK801.out (by decide)) (fun _ hk => hk.2) (.int .i64 t804)) (fun _ hk => hk.2) (.int .i64 t805)) (fun _ hk => hk.2) (.slice Ao27 x810002_2.length co27)) (fun _ hk => trivial), tb_⟩

/-! ### impl_LeastWatch: function 41 -/
def impl_LeastWatch.l0 (n : Int) (all : List (List Int)) : Nat → Int → Option (List (List Int) × Bool)
 | 0, _ => none
 | k + 1, kk => (impl_LeastWatch_1.f n kk all k 0 []).bind fun r => if r.1 = true then (if r.2.Nodup ∧ ∀ x ∈ r.2, x.length = 2 then some (r.2, true) else none) else impl_LeastWatch.l0 n all k (wrap64 (kk + 1))
def impl_LeastWatch.f (k : Nat) (n : Int) : Option (List (List Int) × Bool) := (impl_within.f n 1 6).bind fun t => if t = true then ((impl_FullBoard.f k n n).bind fun b => (impl_CellsOf.f k b.1 b.2.1 b.2.2.1).bind fun c => impl_LeastWatch.l0 n c.1 k 1) else some ([], false)
theorem impl_LeastWatch.mono_l (n : Int) (all : List (List Int)) : ∀ k, (∀ kk, LeO (impl_LeastWatch.l0 n all k kk) (impl_LeastWatch.l0 n all (k + 1) kk))
 | 0 => fun _ r h => by simp [impl_LeastWatch.l0] at h
 | k + 1 => by
  intro kk
  unfold impl_LeastWatch.l0
  refine LeO.bind (impl_LeastWatch_1.mono _ _ _ _ _ _) (fun r => ?_)
  exact LeO.ite (LeO.refl _) (impl_LeastWatch.mono_l n all k _)
theorem impl_LeastWatch.mono : ∀ n k, LeO (impl_LeastWatch.f k n) (impl_LeastWatch.f (k + 1) n) := by
 intro n k
 unfold impl_LeastWatch.f
 refine LeO.bind (LeO.refl _) (fun t => ?_)
 refine LeO.ite ?_ (LeO.refl _)
 refine LeO.bind (impl_FullBoard.mono _ _ _) (fun b => ?_)
 exact LeO.bind (impl_CellsOf.mono _ _ _ _) (fun c => impl_LeastWatch.mono_l _ _ _ _)
theorem impl_LeastWatch.calls (k : Nat) (a0 : Int) (r1 : List (List Int)) (r2 : Bool) (w : World) (h : impl_LeastWatch.f k a0 = some (r1, r2)) :
  Calls Try.prog 41 #[.int .i64 a0] w fun e w' => ∃ v0_ : Value, e = .returned (.tuple #[v0_, .bool r2]) ∧ Kd.S (Kd.slice 3 (Kd.int .i64)) 22 w' w.heap.size (fun _ => True) v0_ r1 ∧ Below w.heap.size w w' := by
 unfold impl_LeastWatch.f at h
 have hu26 := Try.underlying26
 have hmf_ : ∀ (fn : Go.Fn) (first cap : Array Value) (w : World), (Instr.makeFunc fn first cap).run Try.prog w = .ok (.func fn first cap) w := fun _ _ _ _ => rfl
 have hb1 := A_ (below_alloc (Below.refl w.heap.size w) (.cells #[.int .i64 a0] 3))
 have fN := A_ (blk_new w (.cells #[.int .i64 a0] 3))
 obtain ⟨t, A2, H⟩ := Option.bind_eq_some_iff.mp h
 have A2' := A_ A2
 clear A2 h
 cases t with
 | false =>
  simp only [Bool.false_eq_true, if_false, Option.some.injEq, Prod.mk.injEq] at H
  obtain ⟨rfl, rfl⟩ := H
  go_enter Try.func41, Try.ntmps41
  go_wp2_with (first | (go_at_call 113; (with_reducible refine (impl_within.calls a0 1 6 false _ A2'.out).mono ?_); rintro e w2 ⟨rfl, hb⟩; have HB2 := A_ (below_then hb1.out hb1.out.size hb.below); clear hb))
  go_ret2
  exact ⟨_, rfl, Kd.S_nil _ _ _ _ _, HB2.out⟩
 | true =>
  simp only [if_true] at H
  obtain ⟨⟨b1, b2, bl, b4⟩, A3, H⟩ := Option.bind_eq_some_iff.mp H
  obtain ⟨⟨all, ok⟩, A4, H⟩ := Option.bind_eq_some_iff.mp H
  replace A3 := A_ A3
  replace A4 := A_ A4
  replace H := A_ H
  go_enter Try.func41, Try.ntmps41
  go_wp2_with (first | (go_at_call 113; (with_reducible refine (impl_within.calls a0 1 6 true _ A2'.out).mono ?_); rintro e w2 ⟨rfl, hb⟩; have HB2 := A_ (below_then hb1.out hb1.out.size hb.below); have fN2 := A_ (blk_below fN.out hb.below); have hn2 := cell_of_one fN2.out; clear hb) | (refine gc_ 114 ?_; refine goesL_ (some 17) rfl rfl Try.func114 (by kernel_rfl) rfl #[.int .i64 a0, .int .i64 a0] rfl (by (try simp only [List.map_toArray, List.map_cons, List.map_nil]); first | done | rfl) ?_; (with_reducible refine (impl_FullBoard.calls k a0 a0 b1 b2 bl b4 _ A3.out).mono ?_); rintro e w3 ⟨vb, rfl, hR, hb⟩; refine ⟨_, rfl, ?_⟩; obtain ⟨Ab, cb, eb⟩ := Kd.R_slice hR; subst eb; have HR3 := A_ (Kd.R_reads' hR); have HB3 := A_ (below_then HB2.out HB2.out.size hb); have fN3 := A_ (blk_below fN2.out hb); clear hR hb) | (refine gc_ 115 ?_; refine goesL_ (some 22) rfl rfl Try.func115 (by kernel_rfl) rfl #[.agg #[.int .i64 b1, .int .i64 b2, .slice Ab bl.length cb]] rfl (by (try simp only [List.map_toArray, List.map_cons, List.map_nil]); first | done | rfl) ?_; (with_reducible refine (impl_CellsOf.calls k b1 b2 Ab cb bl all ok _ ?q1 HR3.out.2.1 A4.out).mono ?_); (case q1 => exact Kd.C_below HR3.out.2.2 (below_alloc (Below.refl _ _) _)); rintro e w5 ⟨va, rfl, hs, hb⟩; refine ⟨_, rfl, ?_⟩; obtain ⟨Aa, ca, ea⟩ := Kd.S_slice hs; subst ea; have HS5 := A_ (Kd.S_R hs); have HB5 := A_ hb; clear hs hb))
  have e4 : (w3.alloc (.cells #[.int .i64 b1, .int .i64 b2, .slice Ab bl.length cb] 26)).heap.size = w3.heap.size + 1 := by simp
  have hb4 : Below w3.heap.size w3 (w3.alloc (.cells #[.int .i64 b1, .int .i64 b2, .slice Ab bl.length cb] 26)) := below_alloc (Below.refl _ _) _
  have hs5 := HB5.out.size
  rw [e4] at hs5
  have hw3 := HB3.out.size
  have hnl : w.heap.size < w3.heap.size := blk_lt fN3.out
  have hb5 : Below w.heap.size w w5 := below_then HB3.out hw3 (below_then hb4 hb4.size HB5.out)
  have fN5 := blk_below (blk_alloc fN3.out (.cells #[.int .i64 b1, .int .i64 b2, .slice Ab bl.length cb] 26)) HB5.out
  have hle0 := HS5.out
  rw [e4] at hle0
  have HLE := A_ (Cap.lent_of hle0)
  have HCA := A_ (Kd.R_reads' hle0).2.1
  have hbI : Aside0 (w.heap.size ≤ w3.heap.size + 1) := ⟨by omega⟩
  clear hle0
  go_loopg [8] k (fun kq v8 W' => ∃ (gm : Nat) (kk : Int), v8 = .pointer (some ⟨gm, 0, none⟩) ∧ Aside0 (impl_LeastWatch.l0 a0 all kq kk = some (r1, r2)) ∧ Aside0 (kq ≤ k) ∧ Aside0 (Below w.heap.size w W' ∧ (∀ j, (fun j => w3.heap.size + 1 ≤ j ∧ j < w5.heap.size) j → W'.heap[j]? = w5.heap[j]?) ∧ (∀ j, (fun j => w3.heap.size + 1 ≤ j ∧ j < w5.heap.size) j → j < W'.heap.size) ∧ Cap.Fix W' [(gm, 3, .int .i64 kk), (w.heap.size, 3, .int .i64 a0), (w5.heap.size, 41, .slice Aa all.length ca)] ∧ (∀ j, (fun j => w3.heap.size + 1 ≤ j ∧ j < w5.heap.size) j → Cap.Off [(gm, 3, .int .i64 kk), (w.heap.size, 3, .int .i64 a0), (w5.heap.size, 41, .slice Aa all.length ca)] j)))
  case atStart =>
   have b6 : Below w5.heap.size w5 ((w5.alloc (.cells #[.slice Aa all.length ca] 41)).alloc (.cells #[.int .i64 1] 3)) := below_alloc (below_alloc (Below.refl _ _) _) _
   refine ⟨w5.heap.size + 1, 1, rfl, H, ⟨Nat.le_refl _⟩, ⟨below_then hb5 hb5.size b6, fun j hj => b6.block j hj.2, fun j hj => Nat.lt_of_lt_of_le hj.2 b6.size, ?_, ?_⟩⟩
   ·
    intro x hx
    simp only [List.mem_cons, List.not_mem_nil, or_false] at hx
    rcases hx with rfl | rfl | rfl
    ·
     have := blk_new (w5.alloc (.cells #[.slice Aa all.length ca] 41)) (.cells #[.int .i64 1] 3)
     simpa using this
    ·
     exact blk_below fN5 b6
    ·
     exact blk_alloc (blk_new _ _) _
   ·
    intro j hj x hx
    simp only [List.mem_cons, List.not_mem_nil, or_false] at hx
    rcases hx with rfl | rfl | rfl <;> (have := hj.1; have := hj.2; dsimp only at *; omega)
  case round =>
   clear H hb5 fN5 hs5 e4 hb4 hw3
   obtain ⟨gm, kk, rfl, HA, HK1, HW⟩ := hrel
   obtain ⟨k1_, k2_, k3_, k4_, k5_⟩ := HW.out
   have S0 := Cap.Lw.start (eI := 3) (bI := w3.heap.size + 1) (tL := 22) (tV := 41) k1_ k2_ k3_ k4_ k5_
   have S1 := S0.boxn 47 (impl_LeastWatch_1.self (wr.heap.size + 1) gm w.heap.size w5.heap.size (wr.heap.size + 1 + 1)) (wr.heap.size + 1 + 1) (by simp)
   have S2 := A_ (S1.sub (L' := impl_LeastWatch_1.vars (wr.heap.size + 1) gm w.heap.size w5.heap.size (wr.heap.size + 1 + 1) a0 kk Aa all.length ca) (fun x hx => by
    simp only [impl_LeastWatch_1.vars, List.mem_cons, List.not_mem_nil, or_false] at hx
    simp only [List.mem_cons, List.not_mem_nil, or_false]
    rcases hx with rfl | rfl | rfl | rfl <;> simp))
   clear k1_ k2_ k3_ k4_ k5_ S0 S1 HW
   cases gk with
   | zero => exact absurd HA.out (by simp [impl_LeastWatch.l0])
   | succ k1 =>
    have H := HA.out
    clear HA
    simp only [impl_LeastWatch.l0] at H
    obtain ⟨⟨b3, q3⟩, A5, H⟩ := Option.bind_eq_some_iff.mp H
    replace A5 := A_ A5
    replace H := A_ H
    replace H := H.out
    cases b3 with
    | true =>
     rw [if_pos rfl] at H
     by_cases c7 : q3.Nodup ∧ ∀ x ∈ q3, x.length = 2
     case neg =>
      simp only [if_neg c7] at H
      exact absurd H (by simp)
     simp only [if_pos c7] at H
     obtain ⟨rfl, rfl⟩ := Prod.mk.inj (Option.some.inj H)
     clear H
     have C7 := A_ c7
     clear c7
     go_wp2_with (first | ((with_reducible refine Fn.gate_value rfl ?_); refine Fn.goesVw_ (some 30) rfl (by first | rfl | (simp [Region.wanted, yielded]; done)) (impl_LeastWatch_1.self (wr.heap.size + 1) gm w.heap.size w5.heap.size (wr.heap.size + 1 + 1)) rfl #[.int .i64 0] rfl (by (try simp only [List.map_toArray, List.map_cons, List.map_nil]); first | done | rfl) ?_; refine impl_LeastWatch_1.enters _ _ _ _ _ ?_; refine (impl_LeastWatch_1.calls w w5 (fun j => w3.heap.size + 1 ≤ j ∧ j < w5.heap.size) (w3.heap.size + 1) (wr.heap.size + 1) gm w.heap.size w5.heap.size (wr.heap.size + 1 + 1) Aa ca all a0 kk HLE.out.1 HLE.out.2 HCA.out k1 _ _ [] 0 (true, q3) S2.out A5.out).mono ?_; rintro e w8 ⟨rfl, vl8, hs⟩; refine ⟨_, rfl, ?_⟩; have hcl8 := hs.celll; have HS8 := A_ hs; clear hs))
     go_ret2
     exact ⟨_, rfl, Cap.lent_S HS8.out.hl HS8.out.keep (fun k e => (HS8.out.nl k e).2.2) hbI.out C7.out.1 C7.out.2, HS8.out.bel⟩
    | false =>
     simp only [Bool.false_eq_true, if_false] at H
     replace H := A_ H
     go_wp2_with (first | ((with_reducible refine Fn.gate_value rfl ?_); refine Fn.goesVw_ (some 30) rfl (by first | rfl | (simp [Region.wanted, yielded]; done)) (impl_LeastWatch_1.self (wr.heap.size + 1) gm w.heap.size w5.heap.size (wr.heap.size + 1 + 1)) rfl #[.int .i64 0] rfl (by (try simp only [List.map_toArray, List.map_cons, List.map_nil]); first | done | rfl) ?_; refine impl_LeastWatch_1.enters _ _ _ _ _ ?_; refine (impl_LeastWatch_1.calls w w5 (fun j => w3.heap.size + 1 ≤ j ∧ j < w5.heap.size) (w3.heap.size + 1) (wr.heap.size + 1) gm w.heap.size w5.heap.size (wr.heap.size + 1 + 1) Aa ca all a0 kk HLE.out.1 HLE.out.2 HCA.out k1 _ _ [] 0 (false, q3) S2.out A5.out).mono ?_; rintro e w8 ⟨rfl, vl8, hs⟩; refine ⟨_, rfl, ?_⟩; have hcm8 := hs.fix.cell (g := gm) (.head _); have HS8 := A_ hs; clear hs))
     have b9 : Below w8.heap.size w8 (w8.alloc (.cells #[.int .i64 (wrap64 (kk + 1))] 3)) := below_alloc (Below.refl _ _) _
     have HW9 : Aside0 (Below w.heap.size w (w8.alloc (.cells #[.int .i64 (wrap64 (kk + 1))] 3)) ∧ (∀ j, (fun j => w3.heap.size + 1 ≤ j ∧ j < w5.heap.size) j → (w8.alloc (.cells #[.int .i64 (wrap64 (kk + 1))] 3)).heap[j]? = w5.heap[j]?) ∧ (∀ j, (fun j => w3.heap.size + 1 ≤ j ∧ j < w5.heap.size) j → j < (w8.alloc (.cells #[.int .i64 (wrap64 (kk + 1))] 3)).heap.size) ∧ Cap.Fix (w8.alloc (.cells #[.int .i64 (wrap64 (kk + 1))] 3)) [(w8.heap.size, 3, .int .i64 (wrap64 (kk + 1))), (w.heap.size, 3, .int .i64 a0), (w5.heap.size, 41, .slice Aa all.length ca)] ∧ (∀ j, (fun j => w3.heap.size + 1 ≤ j ∧ j < w5.heap.size) j → Cap.Off [(w8.heap.size, 3, .int .i64 (wrap64 (kk + 1))), (w.heap.size, 3, .int .i64 a0), (w5.heap.size, 41, .slice Aa all.length ca)] j)) := by
      refine ⟨below_then HS8.out.bel HS8.out.bel.size b9, fun j hj => (b9.block j (HS8.out.ul j hj)).trans (HS8.out.keep j hj), fun j hj => Nat.lt_of_lt_of_le (HS8.out.ul j hj) b9.size, fun x hx => ?_, fun j hj x hx => ?_⟩
      ·
       simp only [List.mem_cons, List.not_mem_nil, or_false] at hx
       rcases hx with rfl | rfl | rfl
       ·
        exact blk_new _ _
       ·
        exact blk_alloc (HS8.out.fix _ (.tail _ (.head _))) _
       ·
        exact blk_alloc (HS8.out.fix _ (.tail _ (.tail _ (.head _)))) _
      ·
       simp only [List.mem_cons, List.not_mem_nil, or_false] at hx
       rcases hx with rfl | rfl | rfl
       ·
        have := HS8.out.ul j hj; dsimp only; omega
       ·
        exact HS8.out.ux j hj _ (.tail _ (.head _))
       ·
        exact HS8.out.ux j hj _ (.tail _ (.tail _ (.head _)))
     go_roundg k1
     case measure => have := HK1.out; omega
     case rel => exact ⟨_, wrap64 (kk + 1), rfl, H, ⟨by have := HK1.out; omega⟩, HW9⟩

/-! ### laws_big: function 46 -/
def laws_big.f (l0 : List Int) (l1 : List Int) : Option (Bool) := if (l0.length : Int) > 1048576 then (some true) else (some (decide ((l1.length : Int) > (wrap64 (1048576 - (l0.length : Int))))))
theorem laws_big.calls (A0 : Option Addr) (c0 : Nat) (l0 : List Int) (A1 : Option Addr) (c1 : Nat) (l1 : List Int) (r : Bool) (w : World) (hr0 : Kd.C (Kd.int .u8) w A0 l0.length l0) (hc0 : l0.length ≤ c0) (hr1 : Kd.C (Kd.int .u8) w A1 l1.length l1) (hc1 : l1.length ≤ c1) (h : laws_big.f l0 l1 = some r) :
  Calls Try.prog 46 #[.slice A0 l0.length c0, .slice A1 l1.length c1] w fun e w' => e = .returned (.bool r) ∧ Drawn0 w w' := by
 have HR0 := A_ hr0
 have HC0 := A_ hc0
 clear hr0 hc0
 have HR1 := A_ hr1
 have HC1 := A_ hc1
 clear hr1 hc1
 have H : (if (l0.length : Int) > 1048576 then (some true) else (some (decide ((l1.length : Int) > (wrap64 (1048576 - (l0.length : Int))))))) = some r := h
 clear h
 by_cases c3 : (l0.length : Int) > 1048576
 ·
  rw [if_pos c3] at H
  have c3b0 := decide_eq_true c3
  have c3b1 : decide (1048576 < l0.length) = true := decide_eq_true (by omega)
  clear c3
  obtain rfl := Option.some.inj H
  go_enter Try.func46, Try.ntmps46
  go_wp2
  go_ret
  exact ⟨tf_, dr_⟩
 ·
  rw [if_neg c3] at H
  have c3b0 := decide_eq_false c3
  have c3b1 : decide (1048576 < l0.length) = false := decide_eq_false (by omega)
  clear c3
  obtain rfl := Option.some.inj H
  go_enter Try.func46, Try.ntmps46
  go_wp2
  go_ret
  exact ⟨tf_, dr_⟩

/-! ### spec_l1Cur_next: function 192 -/

/-- A state of type 100 at block g of W; what its slices lead to came in by w0. -/
def IsS100 (w0 W : World) (g : Nat) (f0 : List Int) (f1 : Int) (f2 : Int) : Prop := ∃ A0 c0, W.heap[g]? = some (.cells #[.slice A0 f0.length c0, .int .i64 f1, .int .u64 f2] 100 (0, 0)) ∧ w0.heap.size ≤ g ∧ Kd.C (Kd.int .u8) w0 A0 f0.length f0
theorem IsS100.grown {w0 W : World} {g : Nat} {f0 : List Int} {f1 : Int} {f2 : Int} {W1 : World} {row : Option Nat} (h : IsS100 w0 W g f0 f1 f2) (hw : W.grownBy W1 row) (hne : some g ≠ row) : IsS100 w0 W1 g f0 f1 f2 := by
 obtain ⟨A0, c0, hb, hg, hr0⟩ := h
 exact ⟨A0, c0, blk_grown hb hw hne, hg, hr0⟩
theorem IsS100.own_neN {w0 W : World} {g : Nat} {f0 : List Int} {f1 : Int} {f2 : Int} {α : Type} {d : Kd α} {e : Nat} {base : Nat} {ok : Nat → Prop} {v : Value} {xs : List α} (h : IsS100 w0 W g f0 f1 f2) (ho : Kd.N d e W base ok v xs) (ht : e ≠ 100) : some g ≠ v.ownBlock := by
 obtain ⟨A0, c0, hb, hg, hr0⟩ := h
 exact Kd.N_ne ho hb ht
theorem IsS100.fresh {w0 W : World} {g : Nat} {f0 : List Int} {f1 : Int} {f2 : Int} (h : IsS100 w0 W g f0 f1 f2) : ∀ k, W.heap.size ≤ k → k ≠ g := by
 obtain ⟨A0, c0, hb, hg, hr0⟩ := h
 exact Kd.freshB hb
theorem IsS100.kept {w0 W : World} {g : Nat} {f0 : List Int} {f1 : Int} {f2 : Int} {W1 : World} {S : Nat → Prop} (h : IsS100 w0 W g f0 f1 f2) (hk : Kept W W1 S) (hne : ¬ S g) : IsS100 w0 W1 g f0 f1 f2 := by
 obtain ⟨A0, c0, hb, hg, hr0⟩ := h
 exact ⟨A0, c0, blk_kept hb hk hne, hg, hr0⟩
theorem IsS100.below {w0 W : World} {g : Nat} {f0 : List Int} {f1 : Int} {f2 : Int} {W1 : World} (h : IsS100 w0 W g f0 f1 f2) (hw : Below W.heap.size W W1) : IsS100 w0 W1 g f0 f1 f2 := h.grown (grown_of_below hw none) (by simp)
theorem IsS100.alloc {w0 W : World} {g : Nat} {f0 : List Int} {f1 : Int} {f2 : Int} (h : IsS100 w0 W g f0 f1 f2) (o : Obj) : IsS100 w0 (W.alloc o) g f0 f1 f2 := h.below (below_alloc (Below.refl _ _) o)
theorem IsS100.drewN {w0 W : World} {g : Nat} {f0 : List Int} {f1 : Int} {f2 : Int} (h : IsS100 w0 W g f0 f1 f2) (m : Nat) : IsS100 w0 (W.drewN m) g f0 f1 f2 := h
theorem IsS100.drew {w0 W : World} {g : Nat} {f0 : List Int} {f1 : Int} {f2 : Int} (h : IsS100 w0 W g f0 f1 f2) : IsS100 w0 W.drew g f0 f1 f2 := h
theorem IsS100.at_ {w0 W : World} {g : Nat} {f0 : List Int} {f1 : Int} {f2 : Int} {w' : World} {m : Nat} (hq : W.drewN m = w') (h : IsS100 w0 W g f0 f1 f2) : IsS100 w0 w' g f0 f1 f2 := by subst hq; exact IsS100.drewN h m
theorem IsS100.apart {w0 W : World} {g : Nat} {f0 : List Int} {f1 : Int} {f2 : Int} {α : Type} {d : Kd α} {e : Nat} {base : Nat} {ok : Nat → Prop} {v : Value} {xs : List α} (h : IsS100 w0 W g f0 f1 f2) (ho : d.R e W base ok v xs) (ht : ∀ q, q ∈ e :: d.E → q ≠ 100) : d.R e W base (fun k => ok k ∧ k ≠ g) v xs := by
 obtain ⟨A0, c0, hb, hg, hr0⟩ := h
 exact Kd.R_types ho hb ht
theorem IsS100.own_ne {w0 W : World} {g : Nat} {f0 : List Int} {f1 : Int} {f2 : Int} {α : Type} {d : Kd α} {e : Nat} {base : Nat} {ok : Nat → Prop} {v : Value} {xs : List α} (h : IsS100 w0 W g f0 f1 f2) (ho : d.R e W base ok v xs) (ht : e ≠ 100) : some g ≠ v.ownBlock := by
 obtain ⟨A0, c0, hb, hg, hr0⟩ := h
 exact Kd.R_ne ho hb ht
theorem IsS100.apartQ {w0 W : World} {g : Nat} {f0 : List Int} {f1 : Int} {f2 : Int} {α : Type} {d : Kd α} {e : Nat} {base : Nat} {ok : Nat → Prop} {v : Value} {xs : List α} (h : IsS100 w0 W g f0 f1 f2) (ho : d.Q e W base ok v xs) (ht : ∀ q, q ∈ e :: d.E → q ≠ 100) : d.Q e W base (fun k => ok k ∧ k ≠ g) v xs := by
 obtain ⟨A0, c0, hb, hg, hr0⟩ := h
 exact Kd.Q_types ho hb ht
theorem IsS100.own_neQ {w0 W : World} {g : Nat} {f0 : List Int} {f1 : Int} {f2 : Int} {α : Type} {d : Kd α} {e : Nat} {base : Nat} {ok : Nat → Prop} {v : Value} {xs : List α} (h : IsS100 w0 W g f0 f1 f2) (ho : d.Q e W base ok v xs) (ht : e ≠ 100) : some g ≠ v.ownBlock := by
 obtain ⟨A0, c0, hb, hg, hr0⟩ := h
 exact Kd.Q_ne ho hb ht
theorem IsS100.apartS {w0 W : World} {g : Nat} {f0 : List Int} {f1 : Int} {f2 : Int} {α : Type} {d : Kd α} {e : Nat} {base : Nat} {ok : Nat → Prop} {v : Value} {xs : List α} (h : IsS100 w0 W g f0 f1 f2) (ho : d.S e W base ok v xs) (ht : ∀ q, q ∈ e :: d.E → q ≠ 100) : d.S e W base (fun k => ok k ∧ k ≠ g) v xs := by
 obtain ⟨A0, c0, hb, hg, hr0⟩ := h
 exact Kd.S_types ho hb ht
theorem IsS100.own_neS {w0 W : World} {g : Nat} {f0 : List Int} {f1 : Int} {f2 : Int} {α : Type} {d : Kd α} {e : Nat} {base : Nat} {ok : Nat → Prop} {v : Value} {xs : List α} (h : IsS100 w0 W g f0 f1 f2) (ho : d.S e W base ok v xs) (ht : e ≠ 100) : some g ≠ v.ownBlock := by
 obtain ⟨A0, c0, hb, hg, hr0⟩ := h
 exact Kd.S_ne ho hb ht
theorem IsS100.lt {w0 W : World} {g : Nat} {f0 : List Int} {f1 : Int} {f2 : Int} (h : IsS100 w0 W g f0 f1 f2) : g < W.heap.size := by
 obtain ⟨A0, c0, hb, hg, hr0⟩ := h
 exact blk_lt hb
theorem IsS100.ge {w0 W : World} {g : Nat} {f0 : List Int} {f1 : Int} {f2 : Int} (h : IsS100 w0 W g f0 f1 f2) : w0.heap.size ≤ g := by
 obtain ⟨A0, c0, hb, hg, hr0⟩ := h
 exact hg
theorem IsS100.ne_blk {w0 W : World} {g : Nat} {f0 : List Int} {f1 : Int} {f2 : Int} {a : Nat} {cs : Array Value} {t : TypeId} {fr : Nat × Nat} (h : IsS100 w0 W g f0 f1 f2) (hb2 : W.heap[a]? = some (.cells cs t fr)) (ht : t ≠ 100) : g ≠ a := by
 obtain ⟨A0, c0, hb, hg, hr0⟩ := h
 rintro rfl
 rw [hb] at hb2
 injection hb2 with hb2
 injection hb2 with _ ht2
 exact ht ht2.symm
theorem IsS100.far {w0 W : World} {g : Nat} {f0 : List Int} {f1 : Int} {f2 : Int} {p : Addr} (h : IsS100 w0 W g f0 f1 f2) (hne : g ≠ p.block) (u : Value) : IsS100 w0 (W.setCell p u) g f0 f1 f2 := by
 obtain ⟨A0, c0, hb, hg, hr0⟩ := h
 exact ⟨A0, c0, blk_far hb hne u, hg, hr0⟩
theorem cellS100_0 {W : World} {g : Nat} {A0 : Option Addr} {c0 : Nat} {f0 : List Int} {f1 : Int} {f2 : Int} (h : W.heap[g]? = some (.cells #[.slice A0 f0.length c0, .int .i64 f1, .int .u64 f2] 100 (0, 0))) : W.cell? ⟨g, 0, none⟩ = some (.slice A0 f0.length c0) := (blk_cell h 0).trans rfl
theorem cellS100_1 {W : World} {g : Nat} {A0 : Option Addr} {c0 : Nat} {f0 : List Int} {f1 : Int} {f2 : Int} (h : W.heap[g]? = some (.cells #[.slice A0 f0.length c0, .int .i64 f1, .int .u64 f2] 100 (0, 0))) : W.cell? ⟨g, 1, none⟩ = some (.int .i64 f1) := (blk_cell h 1).trans rfl
theorem IsS100.set_1 {w0 W : World} {g : Nat} {f0 : List Int} {f1 : Int} {f2 : Int} (h : IsS100 w0 W g f0 f1 f2) (x : Int) : IsS100 w0 (W.setCell ⟨g, 1, none⟩ (.int .i64 x)) g f0 x f2 := by
 obtain ⟨A0, c0, hb, hg, hr0⟩ := h
 exact ⟨A0, c0, by simpa using blk_set hb 1 (.int .i64 x), hg, hr0⟩
theorem cellS100_2 {W : World} {g : Nat} {A0 : Option Addr} {c0 : Nat} {f0 : List Int} {f1 : Int} {f2 : Int} (h : W.heap[g]? = some (.cells #[.slice A0 f0.length c0, .int .i64 f1, .int .u64 f2] 100 (0, 0))) : W.cell? ⟨g, 2, none⟩ = some (.int .u64 f2) := (blk_cell h 2).trans rfl
theorem IsS100.set_2 {w0 W : World} {g : Nat} {f0 : List Int} {f1 : Int} {f2 : Int} (h : IsS100 w0 W g f0 f1 f2) (x : Int) : IsS100 w0 (W.setCell ⟨g, 2, none⟩ (.int .u64 x)) g f0 f1 x := by
 obtain ⟨A0, c0, hb, hg, hr0⟩ := h
 exact ⟨A0, c0, by simpa using blk_set hb 2 (.int .u64 x), hg, hr0⟩
theorem IsS100.new (w0 W : World) (A0 : Option Addr) (c0 : Nat) (f0 : List Int) (f1 : Int) (f2 : Int) (hB : Below w0.heap.size w0 W) (hr0 : Kd.C (Kd.int .u8) w0 A0 f0.length f0) : IsS100 w0 (W.alloc (.cells #[.slice A0 f0.length c0, .int .i64 f1, .int .u64 f2] 100)) W.heap.size f0 f1 f2 := ⟨A0, c0, by simpa using heap_alloc_new W _, hB.size, hr0⟩

def spec_l1Cur_next.f (s0_0 : List Int) (s0_1 : Int) (s0_2 : Int) : Option (Int × Int × Int) := if s0_1 < (s0_0.length : Int) then (if 0 ≤ s0_1 then (if (wrap64 (s0_1 + 1)) ≤ (s0_0.length : Int) then (some (wrap64 (rd s0_0 s0_1), wrap64 (s0_1 + 1), IntKind.u64.wrap ((IntKind.u64.wrap ((IntKind.u64.wrap (s0_2 * 6364136223846793005)) + (IntKind.u64.wrap (wrap64 (rd s0_0 s0_1))))) + 1442695040888963407))) else (some (wrap64 (Go.bits .and .u64 ((IntKind.u64.wrap ((IntKind.u64.wrap ((IntKind.u64.wrap (s0_2 * 6364136223846793005)) + (IntKind.u64.wrap (wrap64 (rd s0_0 s0_1))))) + 1442695040888963407)) / 1099511627776) 255), wrap64 (s0_1 + 1), IntKind.u64.wrap ((IntKind.u64.wrap ((IntKind.u64.wrap (s0_2 * 6364136223846793005)) + (IntKind.u64.wrap (wrap64 (rd s0_0 s0_1))))) + 1442695040888963407)))) else (none)) else (if (wrap64 (s0_1 + 1)) ≤ (s0_0.length : Int) then (some (0, wrap64 (s0_1 + 1), IntKind.u64.wrap ((IntKind.u64.wrap ((IntKind.u64.wrap (s0_2 * 6364136223846793005)))) + 1442695040888963407))) else (some (wrap64 (Go.bits .and .u64 ((IntKind.u64.wrap ((IntKind.u64.wrap ((IntKind.u64.wrap (s0_2 * 6364136223846793005)))) + 1442695040888963407)) / 1099511627776) 255), wrap64 (s0_1 + 1), IntKind.u64.wrap ((IntKind.u64.wrap ((IntKind.u64.wrap (s0_2 * 6364136223846793005)))) + 1442695040888963407))))
theorem spec_l1Cur_next.calls (g : Nat) (s0_0 : List Int) (s0_1 : Int) (s0_2 : Int) (r1 : Int) (r2 : Int) (r3 : Int) (w0 w : World) (hI : IsS100 w0 w g s0_0 s0_1 s0_2) (hB : Below w0.heap.size w0 w) (h : spec_l1Cur_next.f s0_0 s0_1 s0_2 = some (r1, r2, r3)) :
  Calls Try.prog 192 #[.pointer (some ⟨g, 0, none⟩)] w fun e w' => e = .returned (.int .i64 r1) ∧ IsS100 w0 w' g s0_0 r2 r3 ∧ Below w0.heap.size w0 w' ∧ KeepBut w w' g none := by
 have HI0 := A_ hI
 have HK := A_ (KeepBut.refl w g none)
 have HL := A_ hB.size
 clear hI
 have HW0 := A_ hB.size
 have HB := A_ hB
 clear hB
 have H : (if s0_1 < (s0_0.length : Int) then (if 0 ≤ s0_1 then (if (wrap64 (s0_1 + 1)) ≤ (s0_0.length : Int) then (some (wrap64 (rd s0_0 s0_1), wrap64 (s0_1 + 1), IntKind.u64.wrap ((IntKind.u64.wrap ((IntKind.u64.wrap (s0_2 * 6364136223846793005)) + (IntKind.u64.wrap (wrap64 (rd s0_0 s0_1))))) + 1442695040888963407))) else (some (wrap64 (Go.bits .and .u64 ((IntKind.u64.wrap ((IntKind.u64.wrap ((IntKind.u64.wrap (s0_2 * 6364136223846793005)) + (IntKind.u64.wrap (wrap64 (rd s0_0 s0_1))))) + 1442695040888963407)) / 1099511627776) 255), wrap64 (s0_1 + 1), IntKind.u64.wrap ((IntKind.u64.wrap ((IntKind.u64.wrap (s0_2 * 6364136223846793005)) + (IntKind.u64.wrap (wrap64 (rd s0_0 s0_1))))) + 1442695040888963407)))) else (none)) else (if (wrap64 (s0_1 + 1)) ≤ (s0_0.length : Int) then (some (0, wrap64 (s0_1 + 1), IntKind.u64.wrap ((IntKind.u64.wrap ((IntKind.u64.wrap (s0_2 * 6364136223846793005)))) + 1442695040888963407))) else (some (wrap64 (Go.bits .and .u64 ((IntKind.u64.wrap ((IntKind.u64.wrap ((IntKind.u64.wrap (s0_2 * 6364136223846793005)))) + 1442695040888963407)) / 1099511627776) 255), wrap64 (s0_1 + 1), IntKind.u64.wrap ((IntKind.u64.wrap ((IntKind.u64.wrap (s0_2 * 6364136223846793005)))) + 1442695040888963407))))) = some (r1, r2, r3) := h
 clear h
 by_cases c2 : s0_1 < (s0_0.length : Int)
 ·
  rw [if_pos c2] at H
  have c2b0 := decide_eq_true c2
  clear c2
  by_cases c3 : 0 ≤ s0_1
  ·
   rw [if_pos c3] at H
   have c3b0 := decide_eq_true c3
   clear c3
   by_cases c4 : (wrap64 (s0_1 + 1)) ≤ (s0_0.length : Int)
   ·
    rw [if_pos c4] at H
    have c4b0 := decide_eq_true c4
    clear c4
    simp only [Option.some.injEq, Prod.mk.injEq] at H
    obtain ⟨rfl, rfl, rfl⟩ := H
    obtain ⟨ASz5_0, cSz5_0, HGz5, hgz5, HSz5_0⟩ := HI0.out
    have hcz5_0 := cellS100_0 HGz5
    have hcz5_1 := cellS100_1 HGz5
    have hcz5_2 := cellS100_2 HGz5
    have hfz5_1 := blk_frozen HGz5 1
    have hfz5_2 := blk_frozen HGz5 2
    clear HGz5 hgz5
    have p899 : 0 ≤ (s0_1 : Int) := od_
    have q899 : s0_1 < (s0_0.length : Int) := od_
    obtain ⟨ad899, e899, hx899_0⟩ := Kd.at_int HSz5_0 s0_1 p899 q899
    cases e899
    replace hx899_0 := pw_cell_below HB.out hx899_0
    replace p899 := eq_true p899
    replace q899 := eq_true q899
    go_enter Try.func192, Try.ntmps192
    go_wp2
    repeat (go_quiet (fail); try go_wp2)
    go_ret
    exact ⟨te_, by repeat (first | (with_reducible first | exact HI0.out | apply IsS100.alloc | apply IsS100.drewN | apply IsS100.drew | apply IsS100.set_1 | apply IsS100.set_2) | exact HI0.out), by repeat (first | (with_reducible first | exact HB.out | apply below_alloc | apply pw_below_drewN | apply below_drew1 | refine below_set ?_ (IsS100.ge HI0.out)) | exact HB.out), by repeat (first | (with_reducible first | exact HK.out | apply KeepBut.set_ | apply keep_drewN | apply keep_drew | apply keep_alloc) | exact HK.out)⟩
   ·
    rw [if_neg c4] at H
    have c4b0 := decide_eq_false c4
    clear c4
    simp only [Option.some.injEq, Prod.mk.injEq] at H
    obtain ⟨rfl, rfl, rfl⟩ := H
    obtain ⟨ASz6_0, cSz6_0, HGz6, hgz6, HSz6_0⟩ := HI0.out
    have hcz6_0 := cellS100_0 HGz6
    have hcz6_1 := cellS100_1 HGz6
    have hcz6_2 := cellS100_2 HGz6
    have hfz6_1 := blk_frozen HGz6 1
    have hfz6_2 := blk_frozen HGz6 2
    clear HGz6 hgz6
    have p899 : 0 ≤ (s0_1 : Int) := od_
    have q899 : s0_1 < (s0_0.length : Int) := od_
    obtain ⟨ad899, e899, hx899_0⟩ := Kd.at_int HSz6_0 s0_1 p899 q899
    cases e899
    replace hx899_0 := pw_cell_below HB.out hx899_0
    replace p899 := eq_true p899
    replace q899 := eq_true q899
    go_enter Try.func192, Try.ntmps192
    go_wp2
    repeat (go_quiet (fail); try go_wp2)
    go_ret
    exact ⟨te_, by repeat (first | (with_reducible first | exact HI0.out | apply IsS100.alloc | apply IsS100.drewN | apply IsS100.drew | apply IsS100.set_1 | apply IsS100.set_2) | exact HI0.out), by repeat (first | (with_reducible first | exact HB.out | apply below_alloc | apply pw_below_drewN | apply below_drew1 | refine below_set ?_ (IsS100.ge HI0.out)) | exact HB.out), by repeat (first | (with_reducible first | exact HK.out | apply KeepBut.set_ | apply keep_drewN | apply keep_drew | apply keep_alloc) | exact HK.out)⟩
  ·
   rw [if_neg c3] at H
   exact absurd H (by simp)
 ·
  rw [if_neg c2] at H
  have c2b0 := decide_eq_false c2
  clear c2
  by_cases c7 : (wrap64 (s0_1 + 1)) ≤ (s0_0.length : Int)
  ·
   rw [if_pos c7] at H
   have c7b0 := decide_eq_true c7
   clear c7
   simp only [Option.some.injEq, Prod.mk.injEq] at H
   obtain ⟨rfl, rfl, rfl⟩ := H
   obtain ⟨ASz8_0, cSz8_0, HGz8, hgz8, HSz8_0⟩ := HI0.out
   have hcz8_0 := cellS100_0 HGz8
   have hcz8_1 := cellS100_1 HGz8
   have hcz8_2 := cellS100_2 HGz8
   have hfz8_1 := blk_frozen HGz8 1
   have hfz8_2 := blk_frozen HGz8 2
   clear HGz8 hgz8
   go_enter Try.func192, Try.ntmps192
   go_wp2
   repeat (go_quiet (fail); try go_wp2)
   go_ret
   exact ⟨te_, by repeat (first | (with_reducible first | exact HI0.out | apply IsS100.alloc | apply IsS100.drewN | apply IsS100.drew | apply IsS100.set_1 | apply IsS100.set_2) | exact HI0.out), by repeat (first | (with_reducible first | exact HB.out | apply below_alloc | apply pw_below_drewN | apply below_drew1 | refine below_set ?_ (IsS100.ge HI0.out)) | exact HB.out), by repeat (first | (with_reducible first | exact HK.out | apply KeepBut.set_ | apply keep_drewN | apply keep_drew | apply keep_alloc) | exact HK.out)⟩
  ·
   rw [if_neg c7] at H
   have c7b0 := decide_eq_false c7
   clear c7
   simp only [Option.some.injEq, Prod.mk.injEq] at H
   obtain ⟨rfl, rfl, rfl⟩ := H
   obtain ⟨ASz9_0, cSz9_0, HGz9, hgz9, HSz9_0⟩ := HI0.out
   have hcz9_0 := cellS100_0 HGz9
   have hcz9_1 := cellS100_1 HGz9
   have hcz9_2 := cellS100_2 HGz9
   have hfz9_1 := blk_frozen HGz9 1
   have hfz9_2 := blk_frozen HGz9 2
   clear HGz9 hgz9
   go_enter Try.func192, Try.ntmps192
   go_wp2
   repeat (go_quiet (fail); try go_wp2)
   go_ret
   exact ⟨te_, by repeat (first | (with_reducible first | exact HI0.out | apply IsS100.alloc | apply IsS100.drewN | apply IsS100.drew | apply IsS100.set_1 | apply IsS100.set_2) | exact HI0.out), by repeat (first | (with_reducible first | exact HB.out | apply below_alloc | apply pw_below_drewN | apply below_drew1 | refine below_set ?_ (IsS100.ge HI0.out)) | exact HB.out), by repeat (first | (with_reducible first | exact HK.out | apply KeepBut.set_ | apply keep_drewN | apply keep_drew | apply keep_alloc) | exact HK.out)⟩

/-! ### spec_l1Cur_pick: function 122 -/
def spec_l1Cur_pick.f (s0_0 : List Int) (s0_1 : Int) (s0_2 : Int) (a1 : Int) : Option (Int × Int × Int) := if a1 ≤ 1 then (some (0, s0_1, s0_2)) else ((spec_l1Cur_next.f s0_0 s0_1 s0_2).bind fun bt900 => (if a1 > 200 then ((spec_l1Cur_next.f s0_0 bt900.2.1 bt900.2.2).bind fun bt903 => (if a1 = 0 then (none) else (some (Int.tmod (wrap64 ((wrap64 (bt900.1 * 256)) + bt903.1)) a1, bt903.2.1, bt903.2.2)))) else (if a1 = 0 then (none) else (some (Int.tmod bt900.1 a1, bt900.2.1, bt900.2.2)))))
theorem spec_l1Cur_pick.calls (g : Nat) (s0_0 : List Int) (s0_1 : Int) (s0_2 : Int) (a1 : Int) (r1 : Int) (r2 : Int) (r3 : Int) (w0 w : World) (hI : IsS100 w0 w g s0_0 s0_1 s0_2) (hB : Below w0.heap.size w0 w) (h : spec_l1Cur_pick.f s0_0 s0_1 s0_2 a1 = some (r1, r2, r3)) :
  Calls Try.prog 122 #[.pointer (some ⟨g, 0, none⟩), .int .i64 a1] w fun e w' => e = .returned (.int .i64 r1) ∧ IsS100 w0 w' g s0_0 r2 r3 ∧ Below w0.heap.size w0 w' ∧ KeepBut w w' g none := by
 have HI0 := A_ hI
 have HK := A_ (KeepBut.refl w g none)
 have HL := A_ hB.size
 clear hI
 have HW0 := A_ hB.size
 have HB := A_ hB
 clear hB
 have H : (if a1 ≤ 1 then (some (0, s0_1, s0_2)) else ((spec_l1Cur_next.f s0_0 s0_1 s0_2).bind fun bt900 => (if a1 > 200 then ((spec_l1Cur_next.f s0_0 bt900.2.1 bt900.2.2).bind fun bt903 => (if a1 = 0 then (none) else (some (Int.tmod (wrap64 ((wrap64 (bt900.1 * 256)) + bt903.1)) a1, bt903.2.1, bt903.2.2)))) else (if a1 = 0 then (none) else (some (Int.tmod bt900.1 a1, bt900.2.1, bt900.2.2)))))) = some (r1, r2, r3) := h
 clear h
 by_cases c3 : a1 ≤ 1
 ·
  rw [if_pos c3] at H
  have c3b0 := decide_eq_true c3
  clear c3
  simp only [Option.some.injEq, Prod.mk.injEq] at H
  obtain ⟨rfl, rfl, rfl⟩ := H
  go_enter Try.func122, Try.ntmps122
  go_wp2
  go_ret
  exact ⟨te_, by repeat (first | (with_reducible first | exact HI0.out | apply IsS100.alloc | apply IsS100.drewN | apply IsS100.drew | apply IsS100.set_1 | apply IsS100.set_2) | exact HI0.out), by repeat (first | (with_reducible first | exact HB.out | apply below_alloc | apply pw_below_drewN | apply below_drew1 | refine below_set ?_ (IsS100.ge HI0.out)) | exact HB.out), by repeat (first | (with_reducible first | exact HK.out | apply KeepBut.set_ | apply keep_drewN | apply keep_drew | apply keep_alloc) | exact HK.out)⟩
 ·
  rw [if_neg c3] at H
  have c3b0 := decide_eq_false c3
  clear c3
  replace H := Option.bind_eq_some_iff.mp H
  obtain ⟨⟨t900, t901, t902⟩, A40, H⟩ := H
  replace H : (if a1 > 200 then ((spec_l1Cur_next.f s0_0 t901 t902).bind fun bt903 => (if a1 = 0 then (none) else (some (Int.tmod (wrap64 ((wrap64 (t900 * 256)) + bt903.1)) a1, bt903.2.1, bt903.2.2)))) else (if a1 = 0 then (none) else (some (Int.tmod t900 a1, t901, t902)))) = some (r1, r2, r3) := H
  have A4 := A_ A40
  clear A40
  by_cases c5 : a1 > 200
  ·
   rw [if_pos c5] at H
   have c5b0 := decide_eq_true c5
   clear c5
   replace H := Option.bind_eq_some_iff.mp H
   obtain ⟨⟨t903, t904, t905⟩, A60, H⟩ := H
   replace H : (if a1 = 0 then (none) else (some (Int.tmod (wrap64 ((wrap64 (t900 * 256)) + t903)) a1, t904, t905))) = some (r1, r2, r3) := H
   have A6 := A_ A60
   clear A60
   by_cases c7 : a1 = 0
   ·
    rw [if_pos c7] at H
    exact absurd H (by simp)
   ·
    rw [if_neg c7] at H
    have c7b0 : (a1 == 0) = false := beq_eq_false_iff_ne.mpr c7
    have c7b1 : (a1 != 0) = true := bne_iff_ne.mpr c7
    simp only [Option.some.injEq, Prod.mk.injEq] at H
    obtain ⟨rfl, rfl, rfl⟩ := H
    go_enter Try.func122, Try.ntmps122
    go_wp2_with (first | (refine gc_ 192 ?_; refine goesT_ (some 9) Try.func192 #[.pointer (some ⟨g, 0, none⟩)] ?_; (with_reducible refine (spec_l1Cur_next.calls g s0_0 s0_1 s0_2 t900 t901 t902 w0 _ ?side1 ?side2 A4.out).mono ?_); (case side1 => repeat (first | (with_reducible first | exact HI0.out | apply IsS100.alloc | apply IsS100.drewN | apply IsS100.drew | apply IsS100.set_1 | apply IsS100.set_2) | exact HI0.out)); (case side2 => repeat (first | (with_reducible first | exact HB.out | apply below_alloc | apply pw_below_drewN | apply below_drew1 | refine below_set ?_ (IsS100.ge HI0.out)) | exact HB.out)); rintro e w8 ⟨rfl, hi, hb, hk⟩; refine ⟨_, rfl, ?_⟩; replace HK := A_ (KeepBut.trans (by repeat (first | (with_reducible first | exact HK.out | apply KeepBut.set_ | apply keep_drewN | apply keep_drew | apply keep_alloc) | exact HK.out)) hk (.inl rfl)); replace HB := A_ (hb); replace HI0 := A_ (hi); (try clear hb); (try clear hb2); (try clear hk); (try clear hi)) | (refine gc_ 192 ?_; refine goesT_ (some 15) Try.func192 #[.pointer (some ⟨g, 0, none⟩)] ?_; (with_reducible refine (spec_l1Cur_next.calls g s0_0 t901 t902 t903 t904 t905 w0 _ ?side1 ?side2 A6.out).mono ?_); (case side1 => repeat (first | (with_reducible first | exact HI0.out | apply IsS100.alloc | apply IsS100.drewN | apply IsS100.drew | apply IsS100.set_1 | apply IsS100.set_2) | exact HI0.out)); (case side2 => repeat (first | (with_reducible first | exact HB.out | apply below_alloc | apply pw_below_drewN | apply below_drew1 | refine below_set ?_ (IsS100.ge HI0.out)) | exact HB.out)); rintro e w9 ⟨rfl, hi, hb, hk⟩; refine ⟨_, rfl, ?_⟩; replace HK := A_ (KeepBut.trans (by repeat (first | (with_reducible first | exact HK.out | apply KeepBut.set_ | apply keep_drewN | apply keep_drew | apply keep_alloc) | exact HK.out)) hk (.inl rfl)); replace HB := A_ (hb); replace HI0 := A_ (hi); (try clear hb); (try clear hb2); (try clear hk); (try clear hi)))
    go_ret
    exact ⟨te_, by repeat (first | (with_reducible first | exact HI0.out | apply IsS100.alloc | apply IsS100.drewN | apply IsS100.drew | apply IsS100.set_1 | apply IsS100.set_2) | exact HI0.out), by repeat (first | (with_reducible first | exact HB.out | apply below_alloc | apply pw_below_drewN | apply below_drew1 | refine below_set ?_ (IsS100.ge HI0.out)) | exact HB.out), by repeat (first | (with_reducible first | exact HK.out | apply KeepBut.set_ | apply keep_drewN | apply keep_drew | apply keep_alloc) | exact HK.out)⟩
  ·
   rw [if_neg c5] at H
   have c5b0 := decide_eq_false c5
   clear c5
   by_cases c10 : a1 = 0
   ·
    rw [if_pos c10] at H
    exact absurd H (by simp)
   ·
    rw [if_neg c10] at H
    have c10b0 : (a1 == 0) = false := beq_eq_false_iff_ne.mpr c10
    have c10b1 : (a1 != 0) = true := bne_iff_ne.mpr c10
    simp only [Option.some.injEq, Prod.mk.injEq] at H
    obtain ⟨rfl, rfl, rfl⟩ := H
    go_enter Try.func122, Try.ntmps122
    go_wp2_with (first | (refine gc_ 192 ?_; refine goesT_ (some 9) Try.func192 #[.pointer (some ⟨g, 0, none⟩)] ?_; (with_reducible refine (spec_l1Cur_next.calls g s0_0 s0_1 s0_2 t900 t901 t902 w0 _ ?side1 ?side2 A4.out).mono ?_); (case side1 => repeat (first | (with_reducible first | exact HI0.out | apply IsS100.alloc | apply IsS100.drewN | apply IsS100.drew | apply IsS100.set_1 | apply IsS100.set_2) | exact HI0.out)); (case side2 => repeat (first | (with_reducible first | exact HB.out | apply below_alloc | apply pw_below_drewN | apply below_drew1 | refine below_set ?_ (IsS100.ge HI0.out)) | exact HB.out)); rintro e w11 ⟨rfl, hi, hb, hk⟩; refine ⟨_, rfl, ?_⟩; replace HK := A_ (KeepBut.trans (by repeat (first | (with_reducible first | exact HK.out | apply KeepBut.set_ | apply keep_drewN | apply keep_drew | apply keep_alloc) | exact HK.out)) hk (.inl rfl)); replace HB := A_ (hb); replace HI0 := A_ (hi); (try clear hb); (try clear hb2); (try clear hk); (try clear hi)))
    go_ret
    exact ⟨te_, by repeat (first | (with_reducible first | exact HI0.out | apply IsS100.alloc | apply IsS100.drewN | apply IsS100.drew | apply IsS100.set_1 | apply IsS100.set_2) | exact HI0.out), by repeat (first | (with_reducible first | exact HB.out | apply below_alloc | apply pw_below_drewN | apply below_drew1 | refine below_set ?_ (IsS100.ge HI0.out)) | exact HB.out), by repeat (first | (with_reducible first | exact HK.out | apply KeepBut.set_ | apply keep_drewN | apply keep_drew | apply keep_alloc) | exact HK.out)⟩

/-! ### spec_l1Cur_among: function 118 -/
def spec_l1Cur_among.f (s0_0 : List Int) (s0_1 : Int) (s0_2 : Int) (l1 : List Int) : Option (Int × Int × Int) := (spec_l1Cur_pick.f s0_0 s0_1 s0_2 (l1.length : Int)).bind fun bt906 => (if 0 ≤ bt906.1 then (if bt906.1 < (l1.length : Int) then (some (rd l1 bt906.1, bt906.2.1, bt906.2.2)) else (none)) else (none))
theorem spec_l1Cur_among.calls (g : Nat) (s0_0 : List Int) (s0_1 : Int) (s0_2 : Int) (A1 : Option Addr) (c1 : Nat) (l1 : List Int) (r1 : Int) (r2 : Int) (r3 : Int) (w0 w : World) (hI : IsS100 w0 w g s0_0 s0_1 s0_2) (hB : Below w0.heap.size w0 w) (hr1 : Kd.C (Kd.int .i64) w A1 l1.length l1) (hc1 : l1.length ≤ c1) (hf1 : ∀ ad, A1 = some ad → 0 < l1.length → ad.block ≠ g) (h : spec_l1Cur_among.f s0_0 s0_1 s0_2 l1 = some (r1, r2, r3)) :
  Calls Try.prog 118 #[.pointer (some ⟨g, 0, none⟩), .slice A1 l1.length c1] w fun e w' => e = .returned (.int .i64 r1) ∧ IsS100 w0 w' g s0_0 r2 r3 ∧ Below w0.heap.size w0 w' ∧ KeepBut w w' g none := by
 have HR1 := A_ hr1
 have HC1 := A_ hc1
 clear hr1 hc1
 have HI0 := A_ hI
 have HK := A_ (KeepBut.refl w g none)
 have HL := A_ hB.size
 clear hI
 have HW0 := A_ hB.size
 have HB := A_ hB
 clear hB
 have H : ((spec_l1Cur_pick.f s0_0 s0_1 s0_2 (l1.length : Int)).bind fun bt906 => (if 0 ≤ bt906.1 then (if bt906.1 < (l1.length : Int) then (some (rd l1 bt906.1, bt906.2.1, bt906.2.2)) else (none)) else (none))) = some (r1, r2, r3) := h
 clear h
 replace H := Option.bind_eq_some_iff.mp H
 obtain ⟨⟨t906, t907, t908⟩, A30, H⟩ := H
 replace H : (if 0 ≤ t906 then (if t906 < (l1.length : Int) then (some (rd l1 t906, t907, t908)) else (none)) else (none)) = some (r1, r2, r3) := H
 have A3 := A_ A30
 clear A30
 by_cases c4 : 0 ≤ t906
 ·
  rw [if_pos c4] at H
  have c4b0 := decide_eq_true c4
  clear c4
  by_cases c5 : t906 < (l1.length : Int)
  ·
   rw [if_pos c5] at H
   have c5b0 := decide_eq_true c5
   clear c5
   simp only [Option.some.injEq, Prod.mk.injEq] at H
   obtain ⟨rfl, rfl, rfl⟩ := H
   go_enter Try.func118, Try.ntmps118
   go_wp2_with (first | (refine gc_ 122 ?_; refine goesT_ (some 9) Try.func122 #[.pointer (some ⟨g, 0, none⟩), .int .i64 (l1.length : Int)] ?_; (with_reducible refine (spec_l1Cur_pick.calls g s0_0 s0_1 s0_2 (l1.length : Int) t906 t907 t908 w0 _ ?side1 ?side2 A3.out).mono ?_); (case side1 => repeat (first | (with_reducible first | exact HI0.out | apply IsS100.alloc | apply IsS100.drewN | apply IsS100.drew | apply IsS100.set_1 | apply IsS100.set_2) | exact HI0.out)); (case side2 => repeat (first | (with_reducible first | exact HB.out | apply below_alloc | apply pw_below_drewN | apply below_drew1 | refine below_set ?_ (IsS100.ge HI0.out)) | exact HB.out)); rintro e w6 ⟨rfl, hi, hb, hk⟩; refine ⟨_, rfl, ?_⟩; replace HK := A_ (KeepBut.trans (by repeat (first | (with_reducible first | exact HK.out | apply KeepBut.set_ | apply keep_drewN | apply keep_drew | apply keep_alloc) | exact HK.out)) hk (.inl rfl)); replace HB := A_ (hb); replace HI0 := A_ (hi); (try clear hb); (try clear hb2); (try clear hk); (try clear hi); have p909 : 0 ≤ (t906 : Int) := od_; have q909 : t906 < (l1.length : Int) := od_; obtain ⟨ad909, e909, hx909_0⟩ := Kd.at_int HR1.out t906 p909 q909; cases e909; replace hx909_0 := keep_cell HK.out hx909_0 (by first | (rw [add_block]; exact hf1 _ rfl (by omega)) | exact hf1 _ rfl (by omega) | exact hf1 ad909 rfl (by omega)); replace p909 := eq_true p909; replace q909 := eq_true q909))
   go_ret
   exact ⟨te_, by repeat (first | (with_reducible first | exact HI0.out | apply IsS100.alloc | apply IsS100.drewN | apply IsS100.drew | apply IsS100.set_1 | apply IsS100.set_2) | exact HI0.out), by repeat (first | (with_reducible first | exact HB.out | apply below_alloc | apply pw_below_drewN | apply below_drew1 | refine below_set ?_ (IsS100.ge HI0.out)) | exact HB.out), by repeat (first | (with_reducible first | exact HK.out | apply KeepBut.set_ | apply keep_drewN | apply keep_drew | apply keep_alloc) | exact HK.out)⟩
  ·
   rw [if_neg c5] at H
   exact absurd H (by simp)
 ·
  rw [if_neg c4] at H
  exact absurd H (by simp)

/-! ### spec_DrawLeastWatch: function 47 -/
def spec_DrawLeastWatch.f (l0 : List Int) : Option (Int) := (spec_l1Cur_among.f l0 0 0 (([1, 2, 3, 4, 5, 6, 7, 0] : List Int))).bind fun bt914 => (some bt914.1)
theorem spec_DrawLeastWatch.calls (A0 : Option Addr) (c0 : Nat) (l0 : List Int) (r : Int) (w : World) (hr0 : Kd.C (Kd.int .u8) w A0 l0.length l0) (hc0 : l0.length ≤ c0) (h : spec_DrawLeastWatch.f l0 = some r) :
  Calls Try.prog 47 #[.slice A0 l0.length c0] w fun e w' => e = .returned (.int .i64 r) ∧ Below w.heap.size w w' := by
 have hu100 := Try.underlying100
 have HR0 := A_ hr0
 have HC0 := A_ hc0
 clear hr0 hc0
 have HB := A_ (Below.refl w.heap.size w)
 have H : ((spec_l1Cur_among.f l0 0 0 (([1, 2, 3, 4, 5, 6, 7, 0] : List Int))).bind fun bt914 => (some bt914.1)) = some r := h
 clear h
 obtain ⟨y911, hy911⟩ : ∃ y_ : List Int, y_ = (([1, 2, 3, 4, 5, 6, 7, 0] : List Int)) := ⟨_, rfl⟩
 replace H : ((spec_l1Cur_among.f l0 0 0 y911).bind fun bt914 => (some bt914.1)) = some r := ty_ hy911 H
 have Ny911 := A_ hy911
 clear hy911
 replace H := Option.bind_eq_some_iff.mp H
 obtain ⟨⟨t914, t915, t916⟩, A20, H⟩ := H
 replace H : (some t914) = some r := H
 have A2 := A_ A20
 clear A20
 obtain rfl := Option.some.inj H
 go_enter Try.func47, Try.ntmps47
 go_wp2_with (first | (refine gd_ 6 ?_; refine bx_ 6 #[.slice A0 l0.length c0, .int .i64 0, .int .u64 0] 100 ?_; intro gb910 hg w3 hbox hb; have HI910 := A_ ((⟨_, _, hbox, (by rw [hg]; exact (below_size tb_)), HR0.out⟩ : IsS100 w w3 gb910 l0 0 0)); replace HB := A_ (below_step tb_ hb); clear hb hbox hg) | (refine gd_ 8 ?_; refine Kd.R_lit (Kd.int .i64) _ 3 ?hg (N := 8) ?hd (xs := ([1, 2, 3, 4, 5, 6, 7, 0] : List Int)) (inner := [.int .i64 1, .int .i64 2, .int .i64 3, .int .i64 4, .int .i64 5, .int .i64 6, .int .i64 7, .int .i64 0]) (ok := fun _ => True) (okp := fun _ => True) ?hr ?hp (fun _ hk => hk) trivial (Below.refl _ _) (Nat.le_refl _) (by simp) ?_; (case hd => rfl); (case hg => rfl); (case hr => first | (go_simp; done) | (go_simp; rfl)); (case hp => exact (Reps.one (show Kd.M (Kd.int .i64) _ _ _ 1 [.int .i64 1] from rfl) (Reps.one (show Kd.M (Kd.int .i64) _ _ _ 2 [.int .i64 2] from rfl) (Reps.one (show Kd.M (Kd.int .i64) _ _ _ 3 [.int .i64 3] from rfl) (Reps.one (show Kd.M (Kd.int .i64) _ _ _ 4 [.int .i64 4] from rfl) (Reps.one (show Kd.M (Kd.int .i64) _ _ _ 5 [.int .i64 5] from rfl) (Reps.one (show Kd.M (Kd.int .i64) _ _ _ 6 [.int .i64 6] from rfl) (Reps.one (show Kd.M (Kd.int .i64) _ _ _ 7 [.int .i64 7] from rfl) (Reps.one (show Kd.M (Kd.int .i64) _ _ _ 0 [.int .i64 0] from rfl) (Reps.none _ _)))))))))); intro v912 w4 ho5 hb hg_ hnew_; clear hg_ hnew_; (first | rw [← Ny911.out] at ho5 | (simp only [Int.reduceToNat] at ho5; rw [← Ny911.out] at ho5)); have HO913 := A_ (Kd.R_lower ho5 (below_size (by repeat (first | (with_reducible first | exact HB.out | apply below_alloc | apply pw_below_drewN | apply below_drew1 | refine below_set ?_ (IsS100.ge HI910.out)) | exact HB.out)))); replace HB := A_ (below_step (by repeat (first | (with_reducible first | exact HB.out | apply below_alloc | apply pw_below_drewN | apply below_drew1 | refine below_set ?_ (IsS100.ge HI910.out)) | exact HB.out)) hb); replace HI910 := A_ (IsS100.below (by repeat (first | (with_reducible first | exact HI910.out | apply IsS100.alloc | apply IsS100.drewN | apply IsS100.drew | apply IsS100.set_1 | apply IsS100.set_2) | exact HI910.out)) hb); clear hb ho5; obtain ⟨Ao6, co6, eo6⟩ := Kd.R_slice HO913.out; subst eo6) | (refine gc_ 118 ?_; refine goesT_ (some 9) Try.func118 #[.pointer (some ⟨gb910, 0, none⟩), .slice Ao6 y911.length co6] ?_; (with_reducible refine (spec_l1Cur_among.calls gb910 l0 0 0 _ _ y911 t914 t915 t916 w _ ?side1 ?side2 ?side3 ?side4 ?side5 A2.out).mono ?_); (case side1 => repeat (first | (with_reducible first | exact HI910.out | apply IsS100.alloc | apply IsS100.drewN | apply IsS100.drew | apply IsS100.set_1 | apply IsS100.set_2) | exact HI910.out)); (case side2 => repeat (first | (with_reducible first | exact HB.out | apply below_alloc | apply pw_below_drewN | apply below_drew1 | refine below_set ?_ (IsS100.ge HI910.out)) | exact HB.out)); (case side3 => exact tc0_ (Kd.R_reads' HO913.out).2.2); (case side4 => exact (Kd.R_reads' HO913.out).2.1); (case side5 => exact far_slice (IsS100.own_ne HI910.out HO913.out (by decide))); rintro e w7 ⟨rfl, hi, hb, hk⟩; refine ⟨_, rfl, ?_⟩; replace HO913 := A_ (Kd.R_mono (Kd.R_keep (IsS100.apart (show IsS100 w _ gb910 l0 0 0 from by repeat (first | (with_reducible first | exact HI910.out | apply IsS100.alloc | apply IsS100.drewN | apply IsS100.drew | apply IsS100.set_1 | apply IsS100.set_2) | exact HI910.out)) (tr_x HO913.out) (by decide)) hk (fun _ h => h.2)) (fun _ h => h.1)); replace HB := A_ (hb); replace HI910 := A_ (hi); (try clear hb); (try clear hb2); (try clear hk); (try clear hi)))
 go_ret
 exact ⟨te_, by repeat (first | (with_reducible first | exact HB.out | apply below_alloc | apply pw_below_drewN | apply below_drew1 | refine below_set ?_ (IsS100.ge HI910.out)) | exact HB.out)⟩

/-! ### laws_kSame: function 73 -/
def laws_kSame.l0 : Nat → List Int → List Int → Int → Int → Option (Bool)
 | 0, _, _, _, _ => none
 | k + 1, x0, x1, x12, x13 => if x13 < x12 then (if 0 ≤ x13 then (if x13 < (x0.length : Int) then (if x13 < (x1.length : Int) then (if (rd x0 x13) = (rd x1 x13) then (laws_kSame.l0 k x0 x1 x12 (wrap64 (x13 + 1))) else (some false)) else (none)) else (none)) else (none)) else (some true)
def laws_kSame.f (k : Nat) (l0 : List Int) (l1 : List Int) : Option (Bool) := if (l0.length : Int) = (l1.length : Int) then (laws_kSame.l0 k l0 l1 (l0.length : Int) 0) else (some false)
theorem laws_kSame.mono_l : ∀ k, (∀ y0 y1 y2 y3, LeO (laws_kSame.l0 k y0 y1 y2 y3) (laws_kSame.l0 (k + 1) y0 y1 y2 y3))
 | 0 => fun _ _ _ _ r h => by simp [laws_kSame.l0] at h
 | k + 1 => by
  have ih0 := laws_kSame.mono_l k
  ·
   intro y0 y1 y2 y3
   unfold laws_kSame.l0
   repeat' first | (with_reducible first | exact ih0 _ _ _ _ | exact LeO.refl _ | exact LeO.none _ | refine LeO.ite ?_ ?_ | refine LeO.bind ?_ (fun _ => ?_)) | exact ih0 _ _ _ _ | exact LeO.none _ | refine LeO.ite ?_ ?_ | refine LeO.bind ?_ (fun _ => ?_)
theorem laws_kSame.mono : ∀ a0 a1 k, LeO (laws_kSame.f k a0 a1) (laws_kSame.f (k + 1) a0 a1) := by
 intro a0 a1 k
 have ih0 := laws_kSame.mono_l k
 unfold laws_kSame.f
 repeat' first | (with_reducible first | exact ih0 _ _ _ _ | exact LeO.refl _ | exact LeO.none _ | refine LeO.ite ?_ ?_ | refine LeO.bind ?_ (fun _ => ?_)) | exact ih0 _ _ _ _ | exact LeO.none _ | refine LeO.ite ?_ ?_ | refine LeO.bind ?_ (fun _ => ?_)
theorem laws_kSame.calls (k : Nat) (A0 : Option Addr) (c0 : Nat) (l0 : List Int) (A1 : Option Addr) (c1 : Nat) (l1 : List Int) (r : Bool) (w : World) (hr0 : Kd.C (Kd.int .i64) w A0 l0.length l0) (hc0 : l0.length ≤ c0) (hr1 : Kd.C (Kd.int .i64) w A1 l1.length l1) (hc1 : l1.length ≤ c1) (h : laws_kSame.f k l0 l1 = some r) :
  Calls Try.prog 73 #[.slice A0 l0.length c0, .slice A1 l1.length c1] w fun e w' => e = .returned (.bool r) ∧ Drawn0 w w' := by
 have HR0 := A_ hr0
 have HC0 := A_ hc0
 clear hr0 hc0
 have HR1 := A_ hr1
 have HC1 := A_ hc1
 clear hr1 hc1
 have H : (if (l0.length : Int) = (l1.length : Int) then (laws_kSame.l0 k l0 l1 (l0.length : Int) 0) else (some false)) = some r := h
 clear h
 by_cases c3 : (l0.length : Int) = (l1.length : Int)
 ·
  rw [if_pos c3] at H
  have c3b0 : ((l0.length : Int) == (l1.length : Int)) = true := beq_iff_eq.mpr c3
  have c3b1 : ((l0.length : Int) != (l1.length : Int)) = false := bne_eq_false_iff_eq.mpr c3
  have c3b2 : (l0.length == l1.length) = true := by first | simpa using c3 | (simp at c3 ⊢; omega)
  clear c3
  have H' := A_ H
  clear H
  go_enter Try.func73, Try.ntmps73
  go_wp2
  repeat (go_quiet (fail); try go_wp2)
  go_loopg [13] k (fun kq v13 w' => ∃ (x13_1 : Int), v13 = .int .i64 x13_1 ∧ Aside0 (laws_kSame.l0 kq l0 l1 (l0.length : Int) x13_1 = some r) ∧ Aside0 (kq ≤ k) ∧ Drawn0 w w')
  case atStart => exact ⟨(0), tf_, H', ⟨Nat.le_refl _⟩, dr_⟩
  case round =>
   clear H'
   try clear c1
   try clear p2
   try clear c3
   try clear c3b0
   try clear c3b1
   try clear c3b2
   obtain ⟨x13_1, rfl, HA, HK1, ⟨m1, rfl⟩⟩ := hrel
   cases gk with
   | zero => exact absurd HA.out (by simp [laws_kSame.l0])
   | succ k1 =>
    have H := HA.out
    clear HA
    simp only [laws_kSame.l0] at H
    by_cases c4 : x13_1 < (l0.length : Int)
    ·
     rw [if_pos c4] at H
     have c4b0 := decide_eq_true c4
     clear c4
     by_cases c5 : 0 ≤ x13_1
     ·
      rw [if_pos c5] at H
      have c5b0 := decide_eq_true c5
      clear c5
      by_cases c6 : x13_1 < (l0.length : Int)
      ·
       rw [if_pos c6] at H
       have c6b0 := decide_eq_true c6
       clear c6
       by_cases c7 : x13_1 < (l1.length : Int)
       ·
        rw [if_pos c7] at H
        have c7b0 := decide_eq_true c7
        clear c7
        by_cases c8 : (rd l0 x13_1) = (rd l1 x13_1)
        ·
         rw [if_pos c8] at H
         have c8b0 : ((rd l0 x13_1) == (rd l1 x13_1)) = true := beq_iff_eq.mpr c8
         have c8b1 : ((rd l0 x13_1) != (rd l1 x13_1)) = false := bne_eq_false_iff_eq.mpr c8
         clear c8
         have H' := A_ H
         clear H
         have p917 : 0 ≤ (x13_1 : Int) := od_
         have q917 : x13_1 < (l0.length : Int) := od_
         obtain ⟨ad917, e917, hx917_0⟩ := Kd.at_int HR0.out x13_1 p917 q917
         cases e917
         replace p917 := eq_true p917
         replace q917 := eq_true q917
         have p918 : 0 ≤ (x13_1 : Int) := od_
         have q918 : x13_1 < (l1.length : Int) := od_
         obtain ⟨ad918, e918, hx918_0⟩ := Kd.at_int HR1.out x13_1 p918 q918
         cases e918
         replace p918 := eq_true p918
         replace q918 := eq_true q918
         go_wp2
         repeat (go_quiet (fail); try go_wp2)
         go_roundg k1
         case measure => have := HK1.out; omega
         case rel => exact ⟨(wrap64 (x13_1 + 1)), tf_, H', ⟨by have := HK1.out; omega⟩, dr_⟩
        ·
         rw [if_neg c8] at H
         have c8b0 : ((rd l0 x13_1) == (rd l1 x13_1)) = false := beq_eq_false_iff_ne.mpr c8
         have c8b1 : ((rd l0 x13_1) != (rd l1 x13_1)) = true := bne_iff_ne.mpr c8
         obtain rfl := Option.some.inj H
         have p917 : 0 ≤ (x13_1 : Int) := od_
         have q917 : x13_1 < (l0.length : Int) := od_
         obtain ⟨ad917, e917, hx917_0⟩ := Kd.at_int HR0.out x13_1 p917 q917
         cases e917
         replace p917 := eq_true p917
         replace q917 := eq_true q917
         have p918 : 0 ≤ (x13_1 : Int) := od_
         have q918 : x13_1 < (l1.length : Int) := od_
         obtain ⟨ad918, e918, hx918_0⟩ := Kd.at_int HR1.out x13_1 p918 q918
         cases e918
         replace p918 := eq_true p918
         replace q918 := eq_true q918
         go_wp2
         repeat (go_quiet (fail); try go_wp2)
         go_ret
         exact ⟨tf_, dr_⟩
       ·
        rw [if_neg c7] at H
        exact absurd H (by simp)
      ·
       rw [if_neg c6] at H
       exact absurd H (by simp)
     ·
      rw [if_neg c5] at H
      exact absurd H (by simp)
    ·
     rw [if_neg c4] at H
     have c4b0 := decide_eq_false c4
     clear c4
     obtain rfl := Option.some.inj H
     go_wp2
     repeat (go_quiet (fail); try go_wp2)
     go_ret
     exact ⟨tf_, dr_⟩
 ·
  rw [if_neg c3] at H
  have c3b0 : ((l0.length : Int) == (l1.length : Int)) = false := beq_eq_false_iff_ne.mpr c3
  have c3b1 : ((l0.length : Int) != (l1.length : Int)) = true := bne_iff_ne.mpr c3
  have c3b2 : (l0.length == l1.length) = false := by first | simpa using c3 | (simp at c3 ⊢; omega)
  obtain rfl := Option.some.inj H
  go_enter Try.func73, Try.ntmps73
  go_wp2
  repeat (go_quiet (fail); try go_wp2)
  go_ret
  exact ⟨tf_, dr_⟩

/-! ### laws_kRows: function 48 -/
def laws_kRows.l0 : Nat → List (List Int) → List (List Int) → Int → Int → Option (Bool)
 | 0, _, _, _, _ => none
 | k + 1, x0, x1, x12, x13 => if x13 < x12 then (if 0 ≤ x13 then (if x13 < (x0.length : Int) then (if x13 < (x1.length : Int) then ((laws_kSame.f k (rd_L1 x0 x13) (rd_L1 x1 x13)).bind fun t921 => (if t921 = true then (laws_kRows.l0 k x0 x1 x12 (wrap64 (x13 + 1))) else (some false))) else (none)) else (none)) else (none)) else (some true)
def laws_kRows.f (k : Nat) (l0 : List (List Int)) (l1 : List (List Int)) : Option (Bool) := if (l0.length : Int) = (l1.length : Int) then (laws_kRows.l0 k l0 l1 (l0.length : Int) 0) else (some false)
theorem laws_kRows.mono_l : ∀ k, (∀ y0 y1 y2 y3, LeO (laws_kRows.l0 k y0 y1 y2 y3) (laws_kRows.l0 (k + 1) y0 y1 y2 y3))
 | 0 => fun _ _ _ _ r h => by simp [laws_kRows.l0] at h
 | k + 1 => by
  have ih0 := laws_kRows.mono_l k
  ·
   intro y0 y1 y2 y3
   unfold laws_kRows.l0
   repeat' first | (with_reducible first | exact ih0 _ _ _ _ | exact laws_kSame.mono _ _ _ | exact LeO.refl _ | exact LeO.none _ | refine LeO.ite ?_ ?_ | refine LeO.bind ?_ (fun _ => ?_)) | exact ih0 _ _ _ _ | exact laws_kSame.mono _ _ _ | exact LeO.none _ | refine LeO.ite ?_ ?_ | refine LeO.bind ?_ (fun _ => ?_)
theorem laws_kRows.mono : ∀ a0 a1 k, LeO (laws_kRows.f k a0 a1) (laws_kRows.f (k + 1) a0 a1) := by
 intro a0 a1 k
 have ih0 := laws_kRows.mono_l k
 unfold laws_kRows.f
 repeat' first | (with_reducible first | exact ih0 _ _ _ _ | exact laws_kSame.mono _ _ _ | exact LeO.refl _ | exact LeO.none _ | refine LeO.ite ?_ ?_ | refine LeO.bind ?_ (fun _ => ?_)) | exact ih0 _ _ _ _ | exact laws_kSame.mono _ _ _ | exact LeO.none _ | refine LeO.ite ?_ ?_ | refine LeO.bind ?_ (fun _ => ?_)
theorem laws_kRows.calls (k : Nat) (A0 : Option Addr) (c0 : Nat) (l0 : List (List Int)) (A1 : Option Addr) (c1 : Nat) (l1 : List (List Int)) (r : Bool) (w : World) (hr0 : Kd.C (Kd.slice 3 (Kd.int .i64)) w A0 l0.length l0) (hc0 : l0.length ≤ c0) (hr1 : Kd.C (Kd.slice 3 (Kd.int .i64)) w A1 l1.length l1) (hc1 : l1.length ≤ c1) (h : laws_kRows.f k l0 l1 = some r) :
  Calls Try.prog 48 #[.slice A0 l0.length c0, .slice A1 l1.length c1] w fun e w' => e = .returned (.bool r) ∧ Drawn0 w w' := by
 have HR0 := A_ hr0
 have HC0 := A_ hc0
 clear hr0 hc0
 have HR1 := A_ hr1
 have HC1 := A_ hc1
 clear hr1 hc1
 have H : (if (l0.length : Int) = (l1.length : Int) then (laws_kRows.l0 k l0 l1 (l0.length : Int) 0) else (some false)) = some r := h
 clear h
 by_cases c3 : (l0.length : Int) = (l1.length : Int)
 ·
  rw [if_pos c3] at H
  have c3b0 : ((l0.length : Int) == (l1.length : Int)) = true := beq_iff_eq.mpr c3
  have c3b1 : ((l0.length : Int) != (l1.length : Int)) = false := bne_eq_false_iff_eq.mpr c3
  have c3b2 : (l0.length == l1.length) = true := by first | simpa using c3 | (simp at c3 ⊢; omega)
  clear c3
  have H' := A_ H
  clear H
  go_enter Try.func48, Try.ntmps48
  go_wp2
  repeat (go_quiet (fail); try go_wp2)
  go_loopg [13] k (fun kq v13 w' => ∃ (x13_1 : Int), v13 = .int .i64 x13_1 ∧ Aside0 (laws_kRows.l0 kq l0 l1 (l0.length : Int) x13_1 = some r) ∧ Aside0 (kq ≤ k) ∧ Drawn0 w w')
  case atStart => exact ⟨(0), tf_, H', ⟨Nat.le_refl _⟩, dr_⟩
  case round =>
   clear H'
   try clear c1
   try clear p2
   try clear c3
   try clear c3b0
   try clear c3b1
   try clear c3b2
   obtain ⟨x13_1, rfl, HA, HK1, ⟨m1, rfl⟩⟩ := hrel
   cases gk with
   | zero => exact absurd HA.out (by simp [laws_kRows.l0])
   | succ k1 =>
    have H := HA.out
    clear HA
    simp only [laws_kRows.l0] at H
    by_cases c4 : x13_1 < (l0.length : Int)
    ·
     rw [if_pos c4] at H
     have c4b0 := decide_eq_true c4
     clear c4
     by_cases c5 : 0 ≤ x13_1
     ·
      rw [if_pos c5] at H
      have c5b0 := decide_eq_true c5
      clear c5
      by_cases c6 : x13_1 < (l0.length : Int)
      ·
       rw [if_pos c6] at H
       have c6b0 := decide_eq_true c6
       clear c6
       by_cases c7 : x13_1 < (l1.length : Int)
       ·
        rw [if_pos c7] at H
        have c7b0 := decide_eq_true c7
        clear c7
        replace H := Option.bind_eq_some_iff.mp H
        obtain ⟨t921, A80, H⟩ := H
        replace H : (if t921 = true then (laws_kRows.l0 k1 l0 l1 (l0.length : Int) (wrap64 (x13_1 + 1))) else (some false)) = some r := H
        have A8 := A_ A80
        clear A80
        by_cases c9 : t921 = true
        ·
         subst c9
         have H1 : (laws_kRows.l0 k1 l0 l1 (l0.length : Int) (wrap64 (x13_1 + 1))) = some r := by rw [if_pos rfl] at H; exact H
         clear H
         have H := H1
         clear H1
         have H' := A_ H
         clear H
         have p919 : 0 ≤ (x13_1 : Int) := od_
         have q919 : x13_1 < (l0.length : Int) := od_
         obtain ⟨ad919, A919_0, c919_0, e919, hx919_0, hl919_0, hi919_0⟩ := at_L1 HR0.out x13_1 p919 q919
         cases e919
         have HR919_0 := A_ hi919_0
         have HC919_0 := A_ hl919_0
         clear hi919_0 hl919_0
         replace p919 := eq_true p919
         replace q919 := eq_true q919
         have p920 : 0 ≤ (x13_1 : Int) := od_
         have q920 : x13_1 < (l1.length : Int) := od_
         obtain ⟨ad920, A920_0, c920_0, e920, hx920_0, hl920_0, hi920_0⟩ := at_L1 HR1.out x13_1 p920 q920
         cases e920
         have HR920_0 := A_ hi920_0
         have HC920_0 := A_ hl920_0
         clear hi920_0 hl920_0
         replace p920 := eq_true p920
         replace q920 := eq_true q920
         go_wp2_with (first | (go_at_call 73; (with_reducible refine (laws_kSame.calls k1 _ _ (rd_L1 l0 x13_1) _ _ (rd_L1 l1 x13_1) true _ ?side1 ?side2 ?side3 ?side4 A8.out).mono ?_); (case side1 => exact tc0_ HR919_0.out); (case side2 => exact HC919_0.out); (case side3 => exact tc0_ HR920_0.out); (case side4 => exact HC920_0.out); rintro e w' ⟨rfl, ⟨nd, rfl⟩⟩; (try exact dn_)))
         repeat (go_quiet (first | (go_at_call 73; (with_reducible refine (laws_kSame.calls k1 _ _ (rd_L1 l0 x13_1) _ _ (rd_L1 l1 x13_1) true _ ?side1 ?side2 ?side3 ?side4 A8.out).mono ?_); (case side1 => exact tc0_ HR919_0.out); (case side2 => exact HC919_0.out); (case side3 => exact tc0_ HR920_0.out); (case side4 => exact HC920_0.out); rintro e w' ⟨rfl, ⟨nd, rfl⟩⟩; (try exact dn_))); try go_wp2_with (first | (go_at_call 73; (with_reducible refine (laws_kSame.calls k1 _ _ (rd_L1 l0 x13_1) _ _ (rd_L1 l1 x13_1) true _ ?side1 ?side2 ?side3 ?side4 A8.out).mono ?_); (case side1 => exact tc0_ HR919_0.out); (case side2 => exact HC919_0.out); (case side3 => exact tc0_ HR920_0.out); (case side4 => exact HC920_0.out); rintro e w' ⟨rfl, ⟨nd, rfl⟩⟩; (try exact dn_))))
         go_roundg k1
         case measure => have := HK1.out; omega
         case rel => exact ⟨(wrap64 (x13_1 + 1)), tf_, H', ⟨by have := HK1.out; omega⟩, dr_⟩
        ·
         replace c9 := Bool.eq_false_iff.mpr c9
         subst c9
         have H1 : (some false) = some r := by rw [if_neg (show ¬ (false = true) by decide)] at H; exact H
         clear H
         have H := H1
         clear H1
         obtain rfl := Option.some.inj H
         have p919 : 0 ≤ (x13_1 : Int) := od_
         have q919 : x13_1 < (l0.length : Int) := od_
         obtain ⟨ad919, A919_0, c919_0, e919, hx919_0, hl919_0, hi919_0⟩ := at_L1 HR0.out x13_1 p919 q919
         cases e919
         have HR919_0 := A_ hi919_0
         have HC919_0 := A_ hl919_0
         clear hi919_0 hl919_0
         replace p919 := eq_true p919
         replace q919 := eq_true q919
         have p920 : 0 ≤ (x13_1 : Int) := od_
         have q920 : x13_1 < (l1.length : Int) := od_
         obtain ⟨ad920, A920_0, c920_0, e920, hx920_0, hl920_0, hi920_0⟩ := at_L1 HR1.out x13_1 p920 q920
         cases e920
         have HR920_0 := A_ hi920_0
         have HC920_0 := A_ hl920_0
         clear hi920_0 hl920_0
         replace p920 := eq_true p920
         replace q920 := eq_true q920
         go_wp2_with (first | (go_at_call 73; (with_reducible refine (laws_kSame.calls k1 _ _ (rd_L1 l0 x13_1) _ _ (rd_L1 l1 x13_1) false _ ?side1 ?side2 ?side3 ?side4 A8.out).mono ?_); (case side1 => exact tc0_ HR919_0.out); (case side2 => exact HC919_0.out); (case side3 => exact tc0_ HR920_0.out); (case side4 => exact HC920_0.out); rintro e w' ⟨rfl, ⟨nd, rfl⟩⟩; (try exact dn_)))
         repeat (go_quiet (first | (go_at_call 73; (with_reducible refine (laws_kSame.calls k1 _ _ (rd_L1 l0 x13_1) _ _ (rd_L1 l1 x13_1) false _ ?side1 ?side2 ?side3 ?side4 A8.out).mono ?_); (case side1 => exact tc0_ HR919_0.out); (case side2 => exact HC919_0.out); (case side3 => exact tc0_ HR920_0.out); (case side4 => exact HC920_0.out); rintro e w' ⟨rfl, ⟨nd, rfl⟩⟩; (try exact dn_))); try go_wp2_with (first | (go_at_call 73; (with_reducible refine (laws_kSame.calls k1 _ _ (rd_L1 l0 x13_1) _ _ (rd_L1 l1 x13_1) false _ ?side1 ?side2 ?side3 ?side4 A8.out).mono ?_); (case side1 => exact tc0_ HR919_0.out); (case side2 => exact HC919_0.out); (case side3 => exact tc0_ HR920_0.out); (case side4 => exact HC920_0.out); rintro e w' ⟨rfl, ⟨nd, rfl⟩⟩; (try exact dn_))))
         go_ret
         exact ⟨tf_, dr_⟩
       ·
        rw [if_neg c7] at H
        exact absurd H (by simp)
      ·
       rw [if_neg c6] at H
       exact absurd H (by simp)
     ·
      rw [if_neg c5] at H
      exact absurd H (by simp)
    ·
     rw [if_neg c4] at H
     have c4b0 := decide_eq_false c4
     clear c4
     obtain rfl := Option.some.inj H
     go_wp2
     repeat (go_quiet (fail); try go_wp2)
     go_ret
     exact ⟨tf_, dr_⟩
 ·
  rw [if_neg c3] at H
  have c3b0 : ((l0.length : Int) == (l1.length : Int)) = false := beq_eq_false_iff_ne.mpr c3
  have c3b1 : ((l0.length : Int) != (l1.length : Int)) = true := bne_iff_ne.mpr c3
  have c3b2 : (l0.length == l1.length) = false := by first | simpa using c3 | (simp at c3 ⊢; omega)
  obtain rfl := Option.some.inj H
  go_enter Try.func48, Try.ntmps48
  go_wp2
  repeat (go_quiet (fail); try go_wp2)
  go_ret
  exact ⟨tf_, dr_⟩

/-! ### impl_isMany: function 119 -/
def impl_isMany.f (a0 : Int) : Option (Bool) := (impl_within.f a0 1 8).bind fun t922 => (some t922)
theorem impl_isMany.calls (a0 : Int) (r : Bool) (w : World) (h : impl_isMany.f a0 = some r) :
  Calls Try.prog 119 #[.int .i64 a0] w fun e w' => e = .returned (.bool r) ∧ Drawn0 w w' := by
 have H : ((impl_within.f a0 1 8).bind fun t922 => (some t922)) = some r := h
 clear h
 replace H := Option.bind_eq_some_iff.mp H
 obtain ⟨t922, A20, H⟩ := H
 replace H : (some t922) = some r := H
 have A2 := A_ A20
 clear A20
 obtain rfl := Option.some.inj H
 go_enter Try.func119, Try.ntmps119
 go_wp2_with (first | (refine gc_ 113 ?_; refine goesT_ (some 4) Try.func113 #[.int .i64 a0, .int .i64 1, .int .i64 8] ?_; (with_reducible refine (impl_within.calls a0 1 8 t922 _ A2.out).mono ?_); rintro e w' ⟨rfl, ⟨nd, rfl⟩⟩; refine ⟨_, rfl, ?_⟩))
 go_ret
 exact ⟨tf_, dr_⟩

/-! ### impl_AreWatching_1: function 121 -/
def impl_AreWatching_1.f (l0 : List Int) (a1 : Int) : Option (Bool) := if (l0.length : Int) = 2 then (if 0 < (l0.length : Int) then ((impl_within.f (rd l0 0) 0 (wrap64 (a1 - 1))).bind fun t924 => (if t924 = true then (if 1 < (l0.length : Int) then ((impl_within.f (rd l0 1) 0 (wrap64 (a1 - 1))).bind fun t926 => (some (!t926))) else (none)) else (some true))) else (none)) else (some true)
theorem impl_AreWatching_1.calls (A0 : Option Addr) (c0 : Nat) (l0 : List Int) (g1 : Nat) (a1 : Int) (r : Bool) (w : World) (hr0 : Kd.C (Kd.int .i64) w A0 l0.length l0) (hc0 : l0.length ≤ c0) (hq1 : w.cell? ⟨g1, 0, none⟩ = some (.int .i64 a1)) (h : impl_AreWatching_1.f l0 a1 = some r) :
  Calls Try.prog 121 #[.slice A0 l0.length c0, .pointer (some ⟨g1, 0, none⟩)] w fun e w' => e = .returned (.bool r) ∧ Below w.heap.size w w' := by
 have HR0 := A_ hr0
 have HC0 := A_ hc0
 clear hr0 hc0
 have HQ1 := A_ hq1
 clear hq1
 have HB := A_ (Below.refl w.heap.size w)
 have H : (if (l0.length : Int) = 2 then (if 0 < (l0.length : Int) then ((impl_within.f (rd l0 0) 0 (wrap64 (a1 - 1))).bind fun t924 => (if t924 = true then (if 1 < (l0.length : Int) then ((impl_within.f (rd l0 1) 0 (wrap64 (a1 - 1))).bind fun t926 => (some (!t926))) else (none)) else (some true))) else (none)) else (some true)) = some r := h
 clear h
 by_cases c3 : (l0.length : Int) = 2
 ·
  rw [if_pos c3] at H
  have c3b0 : ((l0.length : Int) == 2) = true := beq_iff_eq.mpr c3
  have c3b1 : ((l0.length : Int) != 2) = false := bne_eq_false_iff_eq.mpr c3
  clear c3
  by_cases c4 : 0 < (l0.length : Int)
  ·
   rw [if_pos c4] at H
   have c4b0 := decide_eq_true c4
   have c4b1 : decide (0 < l0.length) = true := decide_eq_true (by omega)
   clear c4
   replace H := Option.bind_eq_some_iff.mp H
   obtain ⟨t924, A50, H⟩ := H
   replace H : (if t924 = true then (if 1 < (l0.length : Int) then ((impl_within.f (rd l0 1) 0 (wrap64 (a1 - 1))).bind fun t926 => (some (!t926))) else (none)) else (some true)) = some r := H
   have A5 := A_ A50
   clear A50
   by_cases c6 : t924 = true
   ·
    subst c6
    have H1 : (if 1 < (l0.length : Int) then ((impl_within.f (rd l0 1) 0 (wrap64 (a1 - 1))).bind fun t926 => (some (!t926))) else (none)) = some r := by rw [if_pos rfl] at H; exact H
    clear H
    have H := H1
    clear H1
    by_cases c7 : 1 < (l0.length : Int)
    ·
     rw [if_pos c7] at H
     have c7b0 := decide_eq_true c7
     have c7b1 : decide (1 < l0.length) = true := decide_eq_true (by omega)
     clear c7
     replace H := Option.bind_eq_some_iff.mp H
     obtain ⟨t926, A80, H⟩ := H
     replace H : (some (!t926)) = some r := H
     have A8 := A_ A80
     clear A80
     obtain rfl := Option.some.inj H
     have p923 : 0 ≤ (0 : Int) := (by omega)
     have q923 : 0 < (l0.length : Int) := od_
     obtain ⟨ad923, e923, hx923_0⟩ := Kd.at_int HR0.out 0 p923 q923
     cases e923
     have qi923 : (0 < l0.length) = True := eq_true (by omega)
     (try rw [show ((0 : Int)).toNat = 0 from rfl] at hx923_0)
     (try rw [Addr.add_zero'] at hx923_0)
     replace p923 := eq_true p923
     replace q923 := eq_true q923
     go_enter Try.func121, Try.ntmps121
     have hqc1 := (HB.out.cell (World.block_lt_of_cell? w _ HQ1.out)).trans HQ1.out
     have p925 : 0 ≤ (1 : Int) := (by omega)
     have q925 : 1 < (l0.length : Int) := od_
     obtain ⟨ad925, e925, hx925_0⟩ := Kd.at_int HR0.out 1 p925 q925
     obtain rfl : ad923 = ad925 := (by injection e925)
     (try simp only [show (1 : Int).toNat = 1 from rfl, Nat.reduceMul, Nat.reduceEqDiff, Go.Addr.add, ↓reduceIte] at hx925_0)
     have qi925 : (1 < l0.length) = True := eq_true (by omega)
     (try rw [show ((1 : Int)).toNat = 1 from rfl] at hx925_0)
     replace p925 := eq_true p925
     replace q925 := eq_true q925
     go_wp2_with (first | (go_at_call 113; (with_reducible refine (impl_within.calls (rd l0 0) 0 (wrap64 (a1 - 1)) true _ A5.out).mono ?_); rintro e w' ⟨rfl, ⟨nd, rfl⟩⟩; (try exact dn_)) | (go_at_call 113; (with_reducible refine (impl_within.calls (rd l0 1) 0 (wrap64 (a1 - 1)) t926 _ A8.out).mono ?_); rintro e w' ⟨rfl, ⟨nd, rfl⟩⟩; (try exact dn_)))
     repeat (go_quiet (first | (go_at_call 113; (with_reducible refine (impl_within.calls (rd l0 0) 0 (wrap64 (a1 - 1)) true _ A5.out).mono ?_); rintro e w' ⟨rfl, ⟨nd, rfl⟩⟩; (try exact dn_)) | (go_at_call 113; (with_reducible refine (impl_within.calls (rd l0 1) 0 (wrap64 (a1 - 1)) t926 _ A8.out).mono ?_); rintro e w' ⟨rfl, ⟨nd, rfl⟩⟩; (try exact dn_))); try go_wp2_with (first | (go_at_call 113; (with_reducible refine (impl_within.calls (rd l0 0) 0 (wrap64 (a1 - 1)) true _ A5.out).mono ?_); rintro e w' ⟨rfl, ⟨nd, rfl⟩⟩; (try exact dn_)) | (go_at_call 113; (with_reducible refine (impl_within.calls (rd l0 1) 0 (wrap64 (a1 - 1)) t926 _ A8.out).mono ?_); rintro e w' ⟨rfl, ⟨nd, rfl⟩⟩; (try exact dn_))))
     go_ret
     exact ⟨te_, tb_⟩
    ·
     rw [if_neg c7] at H
     exact absurd H (by simp)
   ·
    replace c6 := Bool.eq_false_iff.mpr c6
    subst c6
    have H1 : (some true) = some r := by rw [if_neg (show ¬ (false = true) by decide)] at H; exact H
    clear H
    have H := H1
    clear H1
    obtain rfl := Option.some.inj H
    have p923 : 0 ≤ (0 : Int) := (by omega)
    have q923 : 0 < (l0.length : Int) := od_
    obtain ⟨ad923, e923, hx923_0⟩ := Kd.at_int HR0.out 0 p923 q923
    cases e923
    have qi923 : (0 < l0.length) = True := eq_true (by omega)
    (try rw [show ((0 : Int)).toNat = 0 from rfl] at hx923_0)
    (try rw [Addr.add_zero'] at hx923_0)
    replace p923 := eq_true p923
    replace q923 := eq_true q923
    go_enter Try.func121, Try.ntmps121
    have hqc1 := (HB.out.cell (World.block_lt_of_cell? w _ HQ1.out)).trans HQ1.out
    go_wp2_with (first | (go_at_call 113; (with_reducible refine (impl_within.calls (rd l0 0) 0 (wrap64 (a1 - 1)) false _ A5.out).mono ?_); rintro e w' ⟨rfl, ⟨nd, rfl⟩⟩; (try exact dn_)))
    repeat (go_quiet (first | (go_at_call 113; (with_reducible refine (impl_within.calls (rd l0 0) 0 (wrap64 (a1 - 1)) false _ A5.out).mono ?_); rintro e w' ⟨rfl, ⟨nd, rfl⟩⟩; (try exact dn_))); try go_wp2_with (first | (go_at_call 113; (with_reducible refine (impl_within.calls (rd l0 0) 0 (wrap64 (a1 - 1)) false _ A5.out).mono ?_); rintro e w' ⟨rfl, ⟨nd, rfl⟩⟩; (try exact dn_))))
    go_ret
    exact ⟨te_, tb_⟩
  ·
   rw [if_neg c4] at H
   exact absurd H (by simp)
 ·
  rw [if_neg c3] at H
  have c3b0 : ((l0.length : Int) == 2) = false := beq_eq_false_iff_ne.mpr c3
  have c3b1 : ((l0.length : Int) != 2) = true := bne_iff_ne.mpr c3
  obtain rfl := Option.some.inj H
  go_enter Try.func121, Try.ntmps121
  have hqc1 := (HB.out.cell (World.block_lt_of_cell? w _ HQ1.out)).trans HQ1.out
  go_wp2
  repeat (go_quiet (fail); try go_wp2)
  go_ret
  exact ⟨te_, tb_⟩

def impl_AreWatching_1.fc (a1 : Int) : FnT57 := fun l0 => impl_AreWatching_1.f l0 a1
theorem impl_AreWatching_1.fcok (w : World) (g1 : Nat) (a1 : Int) (hq1 : w.cell? ⟨g1, 0, none⟩ = some (.int .i64 a1)) : FnOk57 w (.func (.func 121) #[] #[.pointer (some ⟨g1, 0, none⟩)]) (impl_AreWatching_1.fc a1) := fun A0 c0 l0 r W hr0 hc0 h hB => ⟨121, _, _, rfl, Try.func121, by kernel_rfl, rfl, (impl_AreWatching_1.calls A0 c0 l0 g1 a1 r W hr0 hc0 ((hB.cell (World.block_lt_of_cell? w _ hq1)).trans hq1) h).mono fun e w' ⟨he, hd⟩ => ⟨he, hd⟩⟩

/-! ### impl_AreWatching: function 49 -/
def impl_AreWatching.f (k : Nat) (a0 : Int) (l1 : List (List Int)) : Option (Bool × Bool) := (impl_isMany.f a0).bind fun t928 => (if t928 = true then (if (l1.length : Int) > a0 then (some (false, false)) else ((slices_ContainsFunc_int_int_120.f k l1 (impl_AreWatching_1.fc a0)).bind fun t929 => (if t929 = true then (some (false, false)) else ((impl_watching.f k a0 l1).bind fun t930 => (some (t930, true)))))) else (some (false, false)))
theorem impl_AreWatching.mono : ∀ a0 a1 k, LeO (impl_AreWatching.f k a0 a1) (impl_AreWatching.f (k + 1) a0 a1) := by
 intro a0 a1 k
 unfold impl_AreWatching.f
 repeat' first | (with_reducible first | exact impl_watching.mono _ _ _ | exact slices_ContainsFunc_int_int_120.mono _ _ _ | exact LeO.refl _ | exact LeO.none _ | refine LeO.ite ?_ ?_ | refine LeO.bind ?_ (fun _ => ?_)) | exact impl_watching.mono _ _ _ | exact slices_ContainsFunc_int_int_120.mono _ _ _ | exact LeO.none _ | refine LeO.ite ?_ ?_ | refine LeO.bind ?_ (fun _ => ?_)
theorem impl_AreWatching.calls (k : Nat) (a0 : Int) (A1 : Option Addr) (c1 : Nat) (l1 : List (List Int)) (r1 : Bool) (r2 : Bool) (w : World) (hr1 : Kd.C (Kd.slice 3 (Kd.int .i64)) w A1 l1.length l1) (hc1 : l1.length ≤ c1) (h : impl_AreWatching.f k a0 l1 = some (r1, r2)) :
  Calls Try.prog 49 #[.int .i64 a0, .slice A1 l1.length c1] w fun e w' => e = .returned (.tuple #[.bool r1, .bool r2]) ∧ Below w.heap.size w w' := by
 have HR1 := A_ hr1
 have HC1 := A_ hc1
 clear hr1 hc1
 have HB := A_ (Below.refl w.heap.size w)
 have H : ((impl_isMany.f a0).bind fun t928 => (if t928 = true then (if (l1.length : Int) > a0 then (some (false, false)) else ((slices_ContainsFunc_int_int_120.f k l1 (impl_AreWatching_1.fc a0)).bind fun t929 => (if t929 = true then (some (false, false)) else ((impl_watching.f k a0 l1).bind fun t930 => (some (t930, true)))))) else (some (false, false)))) = some (r1, r2) := h
 clear h
 replace H := Option.bind_eq_some_iff.mp H
 obtain ⟨t928, A30, H⟩ := H
 replace H : (if t928 = true then (if (l1.length : Int) > a0 then (some (false, false)) else ((slices_ContainsFunc_int_int_120.f k l1 (impl_AreWatching_1.fc a0)).bind fun t929 => (if t929 = true then (some (false, false)) else ((impl_watching.f k a0 l1).bind fun t930 => (some (t930, true)))))) else (some (false, false))) = some (r1, r2) := H
 have A3 := A_ A30
 clear A30
 by_cases c4 : t928 = true
 ·
  subst c4
  have H1 : (if (l1.length : Int) > a0 then (some (false, false)) else ((slices_ContainsFunc_int_int_120.f k l1 (impl_AreWatching_1.fc a0)).bind fun t929 => (if t929 = true then (some (false, false)) else ((impl_watching.f k a0 l1).bind fun t930 => (some (t930, true)))))) = some (r1, r2) := by rw [if_pos rfl] at H; exact H
  clear H
  have H := H1
  clear H1
  by_cases c5 : (l1.length : Int) > a0
  ·
   rw [if_pos c5] at H
   have c5b0 := decide_eq_true c5
   clear c5
   simp only [Option.some.injEq, Prod.mk.injEq] at H
   obtain ⟨rfl, rfl⟩ := H
   have hmf_ : ∀ (fn : Go.Fn) (first cap : Array Value) (w : World), (Instr.makeFunc fn first cap).run Try.prog w = .ok (.func fn first cap) w := fun _ _ _ _ => rfl
   go_enter Try.func49, Try.ntmps49
   go_wp2_with (first | (refine gd_ 2 ?_; (try (refine gate_guard (by rfl) ?_; dsimp only)); refine bx_ 2 #[.int .i64 a0] 3 ?_; intro gb927 hg w6 hbox hb; have BK927 := A_ (hbox); have GW927 := A_ ((ts_ hg : w.heap.size ≤ gb927)); have GE927 := A_ ((ts_ hg : w.heap.size ≤ gb927)); replace HB := A_ (below_step tb_ hb); clear hb hbox hg; obtain ⟨hcz7_0, hfz7_0⟩ := cf1_ BK927.out) | (refine gc_ 119 ?_; refine goesT_ (some 7) Try.func119 #[.int .i64 a0] ?_; (with_reducible refine (impl_isMany.calls a0 true _ A3.out).mono ?_); rintro e w' ⟨rfl, ⟨nd, rfl⟩⟩; refine ⟨_, rfl, ?_⟩))
   go_ret2
   exact ⟨te_, tb_⟩
  ·
   rw [if_neg c5] at H
   have c5b0 := decide_eq_false c5
   clear c5
   replace H := Option.bind_eq_some_iff.mp H
   obtain ⟨t929, A80, H⟩ := H
   replace H : (if t929 = true then (some (false, false)) else ((impl_watching.f k a0 l1).bind fun t930 => (some (t930, true)))) = some (r1, r2) := H
   have A8 := A_ A80
   clear A80
   by_cases c9 : t929 = true
   ·
    subst c9
    have H1 : (some (false, false)) = some (r1, r2) := by rw [if_pos rfl] at H; exact H
    clear H
    have H := H1
    clear H1
    simp only [Option.some.injEq, Prod.mk.injEq] at H
    obtain ⟨rfl, rfl⟩ := H
    have hmf_ : ∀ (fn : Go.Fn) (first cap : Array Value) (w : World), (Instr.makeFunc fn first cap).run Try.prog w = .ok (.func fn first cap) w := fun _ _ _ _ => rfl
    go_enter Try.func49, Try.ntmps49
    go_wp2_with (first | (refine gd_ 2 ?_; (try (refine gate_guard (by rfl) ?_; dsimp only)); refine bx_ 2 #[.int .i64 a0] 3 ?_; intro gb927 hg w10 hbox hb; have BK927 := A_ (hbox); have GW927 := A_ ((ts_ hg : w.heap.size ≤ gb927)); have GE927 := A_ ((ts_ hg : w.heap.size ≤ gb927)); replace HB := A_ (below_step tb_ hb); clear hb hbox hg; obtain ⟨hcz11_0, hfz11_0⟩ := cf1_ BK927.out) | (refine gc_ 119 ?_; refine goesT_ (some 7) Try.func119 #[.int .i64 a0] ?_; (with_reducible refine (impl_isMany.calls a0 true _ A3.out).mono ?_); rintro e w' ⟨rfl, ⟨nd, rfl⟩⟩; refine ⟨_, rfl, ?_⟩) | (go_at_call 120; (with_reducible refine (slices_ContainsFunc_int_int_120.calls k _ _ l1 (.func (.func 121) #[] #[.pointer (some ⟨gb927, 0, none⟩)]) (impl_AreWatching_1.fc a0) true _ ?side1 ?side2 ?side3 A8.out).mono ?_); (case side1 => repeat (first | exact (Kd.C_below HR1.out tb_) | (with_reducible refine Kd.C_alloc ?_ _) | (with_reducible refine Kd.C_drewN ?_ _) | (with_reducible refine Kd.C_drew ?_))); (case side2 => exact HC1.out); (case side3 => exact impl_AreWatching_1.fcok _ _ _  ((blk_cell (g := gb927) (cs := #[.int .i64 a0]) (t := 3) (tk_ BK927) 0).trans rfl)); rintro e w12 ⟨rfl, hb⟩; replace BK927 := A_ (blk_below (g := gb927) (o := .cells #[.int .i64 a0] 3 (0, 0)) (tk_ BK927) hb); replace HB := A_ (below_step tb_ hb); (try clear hb)))
    go_ret2
    exact ⟨te_, tb_⟩
   ·
    replace c9 := Bool.eq_false_iff.mpr c9
    subst c9
    have H1 : ((impl_watching.f k a0 l1).bind fun t930 => (some (t930, true))) = some (r1, r2) := by rw [if_neg (show ¬ (false = true) by decide)] at H; exact H
    clear H
    have H := H1
    clear H1
    replace H := Option.bind_eq_some_iff.mp H
    obtain ⟨t930, A130, H⟩ := H
    replace H : (some (t930, true)) = some (r1, r2) := H
    have A13 := A_ A130
    clear A130
    simp only [Option.some.injEq, Prod.mk.injEq] at H
    obtain ⟨rfl, rfl⟩ := H
    have hmf_ : ∀ (fn : Go.Fn) (first cap : Array Value) (w : World), (Instr.makeFunc fn first cap).run Try.prog w = .ok (.func fn first cap) w := fun _ _ _ _ => rfl
    go_enter Try.func49, Try.ntmps49
    go_wp2_with (first | (refine gd_ 2 ?_; (try (refine gate_guard (by rfl) ?_; dsimp only)); refine bx_ 2 #[.int .i64 a0] 3 ?_; intro gb927 hg w14 hbox hb; have BK927 := A_ (hbox); have GW927 := A_ ((ts_ hg : w.heap.size ≤ gb927)); have GE927 := A_ ((ts_ hg : w.heap.size ≤ gb927)); replace HB := A_ (below_step tb_ hb); clear hb hbox hg; obtain ⟨hcz15_0, hfz15_0⟩ := cf1_ BK927.out) | (refine gc_ 119 ?_; refine goesT_ (some 7) Try.func119 #[.int .i64 a0] ?_; (with_reducible refine (impl_isMany.calls a0 true _ A3.out).mono ?_); rintro e w' ⟨rfl, ⟨nd, rfl⟩⟩; refine ⟨_, rfl, ?_⟩) | (go_at_call 120; (with_reducible refine (slices_ContainsFunc_int_int_120.calls k _ _ l1 (.func (.func 121) #[] #[.pointer (some ⟨gb927, 0, none⟩)]) (impl_AreWatching_1.fc a0) false _ ?side1 ?side2 ?side3 A8.out).mono ?_); (case side1 => repeat (first | exact (Kd.C_below HR1.out tb_) | (with_reducible refine Kd.C_alloc ?_ _) | (with_reducible refine Kd.C_drewN ?_ _) | (with_reducible refine Kd.C_drew ?_))); (case side2 => exact HC1.out); (case side3 => exact impl_AreWatching_1.fcok _ _ _  ((blk_cell (g := gb927) (cs := #[.int .i64 a0]) (t := 3) (tk_ BK927) 0).trans rfl)); rintro e w16 ⟨rfl, hb⟩; replace BK927 := A_ (blk_below (g := gb927) (o := .cells #[.int .i64 a0] 3 (0, 0)) (tk_ BK927) hb); replace HB := A_ (below_step tb_ hb); (try clear hb); obtain ⟨hcz17_0, hfz17_0⟩ := cf1_ BK927.out) | (refine gc_ 117 ?_; refine goesT_ (some 22) Try.func117 #[.int .i64 a0, .slice A1 l1.length c1] ?_; (with_reducible refine (impl_watching.calls k a0 _ _ l1 t930 _ ?side1 ?side2 A13.out).mono ?_); (case side1 => exact tc_ HR1.out); (case side2 => exact HC1.out); rintro e w18 ⟨rfl, hb⟩; refine ⟨_, rfl, ?_⟩; replace BK927 := A_ (blk_below (g := gb927) (o := .cells #[.int .i64 a0] 3 (0, 0)) (tk_ BK927) hb); replace HB := A_ (below_step tb_ hb); (try clear hb)))
    go_ret2
    exact ⟨te_, tb_⟩
 ·
  replace c4 := Bool.eq_false_iff.mpr c4
  subst c4
  have H1 : (some (false, false)) = some (r1, r2) := by rw [if_neg (show ¬ (false = true) by decide)] at H; exact H
  clear H
  have H := H1
  clear H1
  simp only [Option.some.injEq, Prod.mk.injEq] at H
  obtain ⟨rfl, rfl⟩ := H
  have hmf_ : ∀ (fn : Go.Fn) (first cap : Array Value) (w : World), (Instr.makeFunc fn first cap).run Try.prog w = .ok (.func fn first cap) w := fun _ _ _ _ => rfl
  go_enter Try.func49, Try.ntmps49
  go_wp2_with (first | (refine gd_ 2 ?_; (try (refine gate_guard (by rfl) ?_; dsimp only)); refine bx_ 2 #[.int .i64 a0] 3 ?_; intro gb927 hg w19 hbox hb; have BK927 := A_ (hbox); have GW927 := A_ ((ts_ hg : w.heap.size ≤ gb927)); have GE927 := A_ ((ts_ hg : w.heap.size ≤ gb927)); replace HB := A_ (below_step tb_ hb); clear hb hbox hg; obtain ⟨hcz20_0, hfz20_0⟩ := cf1_ BK927.out) | (refine gc_ 119 ?_; refine goesT_ (some 7) Try.func119 #[.int .i64 a0] ?_; (with_reducible refine (impl_isMany.calls a0 false _ A3.out).mono ?_); rintro e w' ⟨rfl, ⟨nd, rfl⟩⟩; refine ⟨_, rfl, ?_⟩))
  go_ret2
  exact ⟨te_, tb_⟩

/-! ### spec_l1Cur_one: function 124 -/
def spec_l1Cur_one.f (s0_0 : List Int) (s0_1 : Int) (s0_2 : Int) (a1 : Int) : Option (Bool × Int × Int) := (spec_l1Cur_pick.f s0_0 s0_1 s0_2 a1).bind fun bt931 => (some ((bt931.1 == 0), bt931.2.1, bt931.2.2))
theorem spec_l1Cur_one.calls (g : Nat) (s0_0 : List Int) (s0_1 : Int) (s0_2 : Int) (a1 : Int) (r1 : Bool) (r2 : Int) (r3 : Int) (w0 w : World) (hI : IsS100 w0 w g s0_0 s0_1 s0_2) (hB : Below w0.heap.size w0 w) (h : spec_l1Cur_one.f s0_0 s0_1 s0_2 a1 = some (r1, r2, r3)) :
  Calls Try.prog 124 #[.pointer (some ⟨g, 0, none⟩), .int .i64 a1] w fun e w' => e = .returned (.bool r1) ∧ IsS100 w0 w' g s0_0 r2 r3 ∧ Below w0.heap.size w0 w' ∧ KeepBut w w' g none := by
 have HI0 := A_ hI
 have HK := A_ (KeepBut.refl w g none)
 have HL := A_ hB.size
 clear hI
 have HW0 := A_ hB.size
 have HB := A_ hB
 clear hB
 have H : ((spec_l1Cur_pick.f s0_0 s0_1 s0_2 a1).bind fun bt931 => (some ((bt931.1 == 0), bt931.2.1, bt931.2.2))) = some (r1, r2, r3) := h
 clear h
 replace H := Option.bind_eq_some_iff.mp H
 obtain ⟨⟨t931, t932, t933⟩, A30, H⟩ := H
 replace H : (some ((t931 == 0), t932, t933)) = some (r1, r2, r3) := H
 have A3 := A_ A30
 clear A30
 simp only [Option.some.injEq, Prod.mk.injEq] at H
 obtain ⟨rfl, rfl, rfl⟩ := H
 go_enter Try.func124, Try.ntmps124
 go_wp2_with (first | (refine gc_ 122 ?_; refine goesT_ (some 7) Try.func122 #[.pointer (some ⟨g, 0, none⟩), .int .i64 a1] ?_; (with_reducible refine (spec_l1Cur_pick.calls g s0_0 s0_1 s0_2 a1 t931 t932 t933 w0 _ ?side1 ?side2 A3.out).mono ?_); (case side1 => repeat (first | (with_reducible first | exact HI0.out | apply IsS100.alloc | apply IsS100.drewN | apply IsS100.drew | apply IsS100.set_1 | apply IsS100.set_2) | exact HI0.out)); (case side2 => repeat (first | (with_reducible first | exact HB.out | apply below_alloc | apply pw_below_drewN | apply below_drew1 | refine below_set ?_ (IsS100.ge HI0.out)) | exact HB.out)); rintro e w4 ⟨rfl, hi, hb, hk⟩; refine ⟨_, rfl, ?_⟩; replace HK := A_ (KeepBut.trans (by repeat (first | (with_reducible first | exact HK.out | apply KeepBut.set_ | apply keep_drewN | apply keep_drew | apply keep_alloc) | exact HK.out)) hk (.inl rfl)); replace HB := A_ (hb); replace HI0 := A_ (hi); (try clear hb); (try clear hb2); (try clear hk); (try clear hi)))
 go_ret
 exact ⟨te_, by repeat (first | (with_reducible first | exact HI0.out | apply IsS100.alloc | apply IsS100.drewN | apply IsS100.drew | apply IsS100.set_1 | apply IsS100.set_2) | exact HI0.out), by repeat (first | (with_reducible first | exact HB.out | apply below_alloc | apply pw_below_drewN | apply below_drew1 | refine below_set ?_ (IsS100.ge HI0.out)) | exact HB.out), by repeat (first | (with_reducible first | exact HK.out | apply KeepBut.set_ | apply keep_drewN | apply keep_drew | apply keep_alloc) | exact HK.out)⟩

end
end Go.Proofs.Ythlcaikplebpmaa.P
