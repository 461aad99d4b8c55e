-- printed by wip/hprint.py of this session (the kit's print.py, patched in memory)
import Derived.Test.YtnpacpdpgngdpaaPx0
import Derived.Test.YtnpacpdpgngdpaaPx1
import Derived.Test.YtnpacpdpgngdpaaPx2
import Derived.Test.YtnpacpdpgngdpaaPx4
namespace Go.Proofs.Ytnpacpdpgngdpaa.P
noncomputable section
set_option maxHeartbeats 8000000
set_option maxRecDepth 100000
open Go.RowKit Go.Proofs.YtnpacpdpgngdpaaW.PrintWords Go.Proofs.YtnpacpdpgngdpaaW.PrintLast Go.Proofs.YtnpacpdpgngdpaaW.PrintMore
attribute [local go_sem] max2_int min2_int max_two min_two max_three min_three max_four min_four   -- for this text's walks alone
set_option linter.unusedVariables false
set_option linter.unusedSimpArgs false

/-! ### spec_NumbersByCell: function 18 -/
def spec_NumbersByCell.j0 : Nat → Int → Int → Bool → Int → Int → List Int → Option (List Int × List Int × Bool)
 | 0, _, _, _, _, _, _ => none
 | k + 1, x1, x2, x21, x158000, x158001, x158002 => if x21 = true then (some (([] : List Int), ([] : List Int), false)) else ((spec_boOwn.f x158000 x158001 x158002).bind fun bt160 => (if 0 ≤ x1 then (if x1 < (bt160.2.2.length : Int) then (if 0 ≤ x2 then ((spec_roNumbers.f k bt160.1 bt160.2.1 (bt160.2.2.set (x1 : Int).toNat (wrap64 ((rd bt160.2.2 x1) - (shl .i64 1 x2))))).bind fun t168 => ((spec_boStrike.f k x158000 x158001 x158002 x1 x2).bind fun bt171 => ((spec_roNumbers.f k bt171.1 bt171.2.1 bt171.2.2).bind fun t176 => (some (t168, t176, true))))) else (none)) else (none)) else (none)))
def spec_NumbersByCell.f (k : Nat) (a0_0 : Int) (a0_1 : Int) (l0_2 : List Int) (a1 : Int) (a2 : Int) : Option (List Int × List Int × Bool) := (spec_boPlace.f k a0_0 a0_1 l0_2 a1 a2).bind fun t158 => (if t158 = true then ((spec_boHas.f a0_0 a0_1 l0_2 a1 a2).bind fun t159 => (spec_NumbersByCell.j0 k a1 a2 (!t159) a0_0 a0_1 l0_2)) else (spec_NumbersByCell.j0 k a1 a2 true a0_0 a0_1 l0_2))
theorem spec_NumbersByCell.mono_l : ∀ k, (∀ y0 y1 y2 y3 y4 y5, LeO (spec_NumbersByCell.j0 k y0 y1 y2 y3 y4 y5) (spec_NumbersByCell.j0 (k + 1) y0 y1 y2 y3 y4 y5))
 | 0 => fun _ _ _ _ _ _ r h => by simp [spec_NumbersByCell.j0] at h
 | k + 1 => by
  have ih0 := spec_NumbersByCell.mono_l k
  ·
   intro y0 y1 y2 y3 y4 y5
   unfold spec_NumbersByCell.j0
   repeat' first | (with_reducible first | exact ih0 _ _ _ _ _ _ | exact spec_boPlace.mono _ _ _ _ _ _ | exact spec_boStrike.mono _ _ _ _ _ _ | exact spec_roNumbers.mono _ _ _ _ | exact LeO.refl _ | exact LeO.none _ | refine LeO.ite ?_ ?_ | refine LeO.bind ?_ (fun _ => ?_)) | exact ih0 _ _ _ _ _ _ | exact spec_boPlace.mono _ _ _ _ _ _ | exact spec_boStrike.mono _ _ _ _ _ _ | exact spec_roNumbers.mono _ _ _ _ | exact LeO.none _ | refine LeO.ite ?_ ?_ | refine LeO.bind ?_ (fun _ => ?_)
theorem spec_NumbersByCell.mono : ∀ a0 a1 a2 a3 a4 k, LeO (spec_NumbersByCell.f k a0 a1 a2 a3 a4) (spec_NumbersByCell.f (k + 1) a0 a1 a2 a3 a4) := by
 intro a0 a1 a2 a3 a4 k
 have ih0 := spec_NumbersByCell.mono_l k
 unfold spec_NumbersByCell.f
 repeat' first | (with_reducible first | exact ih0 _ _ _ _ _ _ | exact spec_boPlace.mono _ _ _ _ _ _ | exact spec_boStrike.mono _ _ _ _ _ _ | exact spec_roNumbers.mono _ _ _ _ | exact LeO.refl _ | exact LeO.none _ | refine LeO.ite ?_ ?_ | refine LeO.bind ?_ (fun _ => ?_)) | exact ih0 _ _ _ _ _ _ | exact spec_boPlace.mono _ _ _ _ _ _ | exact spec_boStrike.mono _ _ _ _ _ _ | exact spec_roNumbers.mono _ _ _ _ | exact LeO.none _ | refine LeO.ite ?_ ?_ | refine LeO.bind ?_ (fun _ => ?_)
def spec_NumbersByCell.T4 : Bool × List (List Nat × List Nat) := (true, [([], []), ([0], [0]), ([], []), ([1, 2], [1, 2]), ([3], [3]), ([], []), ([5], [5]), ([4, 6], [4, 6]), ([1, 2, 0, 1, 2, 3, 4, 5, 6, 7], [1, 2]), ([8, 7, 0, 1, 2, 3, 4, 5, 6, 7], [7, 8])])
def spec_NumbersByCell.B4 : List Nat := [0, 1, 0, 7, 15, 0, 32, 127, 255, 511]
theorem spec_NumbersByCell.tab4 : rtab .any (opsOf Try.f18 4) = spec_NumbersByCell.T4 := by kernel_rfl
theorem spec_NumbersByCell.bits4 : waitsOk spec_NumbersByCell.T4.2 spec_NumbersByCell.B4 = true := by kernel_rfl
def spec_NumbersByCell.T5 : Bool × List (List Nat × List Nat) := (true, [([], []), ([0], [0]), ([], []), ([], []), ([], []), ([2, 3, 4, 1], [2, 3, 4]), ([5, 5], [5]), ([1, 6, 0, 1], [1]), ([6, 7, 0, 1, 2, 3, 4, 5, 6, 7], [6]), ([8, 0, 1, 2, 3, 4, 5, 6, 7, 8], [])])
def spec_NumbersByCell.B5 : List Nat := [0, 1, 0, 0, 0, 31, 63, 127, 255, 511]
theorem spec_NumbersByCell.tab5 : rtab .any (opsOf Try.f18 5) = spec_NumbersByCell.T5 := by kernel_rfl
theorem spec_NumbersByCell.bits5 : waitsOk spec_NumbersByCell.T5.2 spec_NumbersByCell.B5 = true := by kernel_rfl
theorem spec_NumbersByCell.calls (k : Nat) (a0_0 : Int) (a0_1 : Int) (A0_2 : Option Addr) (c0_2 : Nat) (l0_2 : List Int) (a1 : Int) (a2 : Int) (r1 : List Int) (r2 : List Int) (r3 : Bool) (w : World) (hr0_2 : Kd.C (Kd.int .i64) w A0_2 l0_2.length l0_2) (hc0_2 : l0_2.length ≤ c0_2) (h : spec_NumbersByCell.f k a0_0 a0_1 l0_2 a1 a2 = some (r1, r2, r3)) :
  Calls Try.prog 18 #[.agg #[.int .i64 a0_0, .int .i64 a0_1, .slice A0_2 l0_2.length c0_2], .int .i64 a1, .int .i64 a2] w fun e w' => ∃ v0_ v1_ : Value, e = .returned (.tuple #[v0_, v1_, .bool r3]) ∧ Kd.R (Kd.int .i64) 3 w' w.heap.size (fun k_ => some k_ ≠ (v1_ : Value).ownBlock) v0_ r1 ∧ Kd.R (Kd.int .i64) 3 w' w.heap.size (fun k_ => some k_ ≠ (v0_ : Value).ownBlock) v1_ r2 ∧ Below w.heap.size w w' := by
 have hu28 := Try.underlying28
 have HR0_2 := A_ hr0_2
 have HC0_2 := A_ hc0_2
 clear hr0_2 hc0_2
 have HB := A_ (Below.refl w.heap.size w)
 have H : ((spec_boPlace.f k a0_0 a0_1 l0_2 a1 a2).bind fun t158 => (if t158 = true then ((spec_boHas.f a0_0 a0_1 l0_2 a1 a2).bind fun t159 => (spec_NumbersByCell.j0 k a1 a2 (!t159) a0_0 a0_1 l0_2)) else (spec_NumbersByCell.j0 k a1 a2 true a0_0 a0_1 l0_2))) = some (r1, r2, r3) := h
 clear h
 have HC4 := A_ H
 clear H
 go_enter Try.func18, Try.ntmps18
 go_upto_region 1 with (first | (refine gd_ 3 ?_; refine bx_ 3 #[.int .i64 a0_0, .int .i64 a0_1, .slice A0_2 l0_2.length c0_2] 28 ?_; intro gb157 hg w5 hbox hb; have BK157 := A_ (hbox); have GW157 := A_ ((ts_ hg : w.heap.size ≤ gb157)); have GE157 := A_ ((ts_ hg : w.heap.size ≤ gb157)); replace HB := A_ (below_step tb_ hb); clear hb hbox hg))
 (try simp only [Act.put, List.setIfInBounds_toArray, List.set_cons_zero, List.set_cons_succ])
 go_cut [21] (fun v21 wc => ∃ (kq : Nat) (x21_3 : Bool), v21 = .bool x21_3 ∧ Aside0 (spec_NumbersByCell.j0 kq a1 a2 x21_3 a0_0 a0_1 l0_2 = some (r1, r2, r3)) ∧ Aside0 (kq ≤ k) ∧ Aside0 (wc.heap[gb157]? = some (.cells #[.int .i64 a0_0, .int .i64 a0_1, (.slice A0_2 l0_2.length c0_2)] 28 (0, 0))) ∧ Aside0 (Below w.heap.size w wc))
 case first =>
  have H := HC4.out
  clear HC4
  replace H := Option.bind_eq_some_iff.mp H
  obtain ⟨t158, A60, H⟩ := H
  replace H : (if t158 = true then ((spec_boHas.f a0_0 a0_1 l0_2 a1 a2).bind fun t159 => (spec_NumbersByCell.j0 k a1 a2 (!t159) a0_0 a0_1 l0_2)) else (spec_NumbersByCell.j0 k a1 a2 true a0_0 a0_1 l0_2)) = some (r1, r2, r3) := H
  have A6 := A_ A60
  clear A60
  by_cases c7 : t158 = true
  ·
   subst c7
   have H1 : ((spec_boHas.f a0_0 a0_1 l0_2 a1 a2).bind fun t159 => (spec_NumbersByCell.j0 k a1 a2 (!t159) a0_0 a0_1 l0_2)) = some (r1, r2, r3) := by rw [if_pos rfl] at H; exact H
   clear H
   have H := H1
   clear H1
   replace H := Option.bind_eq_some_iff.mp H
   obtain ⟨t159, A80, H⟩ := H
   replace H : (spec_NumbersByCell.j0 k a1 a2 (!t159) a0_0 a0_1 l0_2) = some (r1, r2, r3) := H
   have A8 := A_ A80
   clear A80
   have H' := A_ H
   clear H
   obtain ⟨hcz9_0, hcz9_1, hcz9_2, hfz9_0, hfz9_1, hfz9_2⟩ := cf3_ BK157.out
   go_wp2_with (first | (refine gc_ 120 ?_; refine goesT_ (some 13) Try.func120 #[.agg #[.int .i64 a0_0, .int .i64 a0_1, .slice A0_2 l0_2.length c0_2], .int .i64 a1, .int .i64 a2] ?_; (with_reducible refine (spec_boPlace.calls k a0_0 a0_1 _ _ l0_2 a1 a2 true _ ?side1 ?side2 A6.out).mono ?_); (case side1 => exact tc_ HR0_2.out); (case side2 => exact HC0_2.out); rintro e w10 ⟨rfl, hb⟩; refine ⟨_, rfl, ?_⟩; replace BK157 := A_ (blk_below (g := gb157) (o := .cells #[.int .i64 a0_0, .int .i64 a0_1, .slice A0_2 l0_2.length c0_2] 28 (0, 0)) (tk_ BK157) hb); replace HB := A_ (below_step tb_ hb); (try clear hb); obtain ⟨hcz11_0, hcz11_1, hcz11_2, hfz11_0, hfz11_1, hfz11_2⟩ := cf3_ BK157.out) | (go_at_call 121; (with_reducible refine (spec_boHas.calls a0_0 a0_1 _ _ l0_2 a1 a2 t159 _ ?side1 ?side2 A8.out).mono ?_); (case side1 => exact tc_ HR0_2.out); (case side2 => exact HC0_2.out); rintro e w12 ⟨rfl, hb⟩; replace BK157 := A_ (blk_below (g := gb157) (o := .cells #[.int .i64 a0_0, .int .i64 a0_1, .slice A0_2 l0_2.length c0_2] 28 (0, 0)) (tk_ BK157) hb); replace HB := A_ (below_step tb_ hb); (try clear hb)))
   go_meet
   case rel => exact ⟨_, (!t159), tf_, H', ⟨by first | omega | exact Nat.le_refl _⟩, ⟨tk_ BK157⟩, ⟨tb_⟩⟩
  ·
   replace c7 := Bool.eq_false_iff.mpr c7
   subst c7
   have H1 : (spec_NumbersByCell.j0 k a1 a2 true a0_0 a0_1 l0_2) = some (r1, r2, r3) := by rw [if_neg (show ¬ (false = true) by decide)] at H; exact H
   clear H
   have H := H1
   clear H1
   have H' := A_ H
   clear H
   obtain ⟨hcz13_0, hcz13_1, hcz13_2, hfz13_0, hfz13_1, hfz13_2⟩ := cf3_ BK157.out
   go_wp2_with (first | (refine gc_ 120 ?_; refine goesT_ (some 13) Try.func120 #[.agg #[.int .i64 a0_0, .int .i64 a0_1, .slice A0_2 l0_2.length c0_2], .int .i64 a1, .int .i64 a2] ?_; (with_reducible refine (spec_boPlace.calls k a0_0 a0_1 _ _ l0_2 a1 a2 false _ ?side1 ?side2 A6.out).mono ?_); (case side1 => exact tc_ HR0_2.out); (case side2 => exact HC0_2.out); rintro e w14 ⟨rfl, hb⟩; refine ⟨_, rfl, ?_⟩; replace BK157 := A_ (blk_below (g := gb157) (o := .cells #[.int .i64 a0_0, .int .i64 a0_1, .slice A0_2 l0_2.length c0_2] 28 (0, 0)) (tk_ BK157) hb); replace HB := A_ (below_step tb_ hb); (try clear hb)))
   go_meet
   case rel => exact ⟨_, (true), tf_, H', ⟨by first | omega | exact Nat.le_refl _⟩, ⟨tk_ BK157⟩, ⟨tb_⟩⟩
 case rest =>
  clear HC4
  try clear c1
  try clear p2
  try clear c7
  try clear c12
  try clear hcz11_0
  try clear hcz11_1
  try clear hcz11_2
  try clear hcz13_0
  try clear hcz13_1
  try clear hcz13_2
  try clear hcz9_0
  try clear hcz9_1
  try clear hcz9_2
  try clear hfz11_0
  try clear hfz11_1
  try clear hfz11_2
  try clear hfz13_0
  try clear hfz13_1
  try clear hfz13_2
  try clear hfz9_0
  try clear hfz9_1
  try clear hfz9_2
  obtain ⟨kq, x21_3, rfl, HA, HJ3, BK157, HB⟩ := hcut
  cases kq with
  | zero => exact absurd HA.out (by simp [spec_NumbersByCell.j0])
  | succ kj3 =>
   have H := HA.out
   clear HA
   simp only [spec_NumbersByCell.j0] at H
   by_cases c15 : x21_3 = true
   ·
    subst c15
    have H1 : (some (([] : List Int), ([] : List Int), false)) = some (r1, r2, r3) := by rw [if_pos rfl] at H; exact H
    clear H
    have H := H1
    clear H1
    simp only [Option.some.injEq, Prod.mk.injEq] at H
    obtain ⟨rfl, rfl, rfl⟩ := H
    go_wp2
    go_ret3
    exact ⟨_, _, te_, by first | exact Kd.R_nil _ _ _ _ _ | exact Kd.N_nil _ _ _ _ _ | exact Kd.V_nil _ _ _ _ _ | exact Kd.Q_nil _ _ _ _ _ | exact Kd.S_nil _ _ _ _ _, by first | exact Kd.R_nil _ _ _ _ _ | exact Kd.N_nil _ _ _ _ _ | exact Kd.V_nil _ _ _ _ _ | exact Kd.Q_nil _ _ _ _ _ | exact Kd.S_nil _ _ _ _ _, tb_⟩
   ·
    replace c15 := Bool.eq_false_iff.mpr c15
    subst c15
    have H1 : ((spec_boOwn.f a0_0 a0_1 l0_2).bind fun bt160 => (if 0 ≤ a1 then (if a1 < (bt160.2.2.length : Int) then (if 0 ≤ a2 then ((spec_roNumbers.f kj3 bt160.1 bt160.2.1 (bt160.2.2.set (a1 : Int).toNat (wrap64 ((rd bt160.2.2 a1) - (shl .i64 1 a2))))).bind fun t168 => ((spec_boStrike.f kj3 a0_0 a0_1 l0_2 a1 a2).bind fun bt171 => ((spec_roNumbers.f kj3 bt171.1 bt171.2.1 bt171.2.2).bind fun t176 => (some (t168, t176, true))))) else (none)) else (none)) else (none))) = some (r1, r2, r3) := by rw [if_neg (show ¬ (false = true) by decide)] at H; exact H
    clear H
    have H := H1
    clear H1
    replace H := Option.bind_eq_some_iff.mp H
    obtain ⟨⟨t160, t161, t162⟩, A160, H⟩ := H
    replace H : (if 0 ≤ a1 then (if a1 < (t162.length : Int) then (if 0 ≤ a2 then ((spec_roNumbers.f kj3 t160 t161 (t162.set (a1 : Int).toNat (wrap64 ((rd t162 a1) - (shl .i64 1 a2))))).bind fun t168 => ((spec_boStrike.f kj3 a0_0 a0_1 l0_2 a1 a2).bind fun bt171 => ((spec_roNumbers.f kj3 bt171.1 bt171.2.1 bt171.2.2).bind fun t176 => (some (t168, t176, true))))) else (none)) else (none)) else (none)) = some (r1, r2, r3) := H
    have A16 := A_ A160
    clear A160
    by_cases c17 : 0 ≤ a1
    ·
     rw [if_pos c17] at H
     have c17b0 := decide_eq_true c17
     clear c17
     by_cases c18 : a1 < (t162.length : Int)
     ·
      rw [if_pos c18] at H
      have c18b0 := decide_eq_true c18
      clear c18
      by_cases c19 : 0 ≤ a2
      ·
       rw [if_pos c19] at H
       have c19b0 := eq_true c19
       have c19b1 := decide_eq_true c19
       clear c19
       obtain ⟨ji20, hji20⟩ : ∃ j_ : Int, (shl .i64 1 a2) = j_ := ⟨_, rfl⟩
       replace H : ((spec_roNumbers.f kj3 t160 t161 (t162.set (a1 : Int).toNat (wrap64 ((rd t162 a1) - (ji20))))).bind fun t168 => ((spec_boStrike.f kj3 a0_0 a0_1 l0_2 a1 a2).bind fun bt171 => ((spec_roNumbers.f kj3 bt171.1 bt171.2.1 bt171.2.2).bind fun t176 => (some (t168, t176, true))))) = some (r1, r2, r3) := by first | (rw [hji20] at H; exact H) | (simp only [hji20] at H ⊢; exact H)
       (try rw [hji20] at A16)
       have hji20_ : (IntKind.i64.wrap (1 * 2 ^ min a2.toNat 64)) = ji20 := hji20
       have hji20z : a2 ≤ 64 → (IntKind.i64.wrap (1 * 2 ^ a2.toNat)) = ji20 := shl_small hji20
       have hji20u : (IntKind.i64.wrap (2 ^ min a2.toNat 64)) = ji20 := by have h_ := hji20_; rw [Int.one_mul] at h_; exact h_
       have hji20v : a2 ≤ 64 → (IntKind.i64.wrap (2 ^ a2.toNat)) = ji20 := fun hle_ => by have h_ := hji20z hle_; rw [Int.one_mul] at h_; exact h_
       have hji20y : (wrap64 (1 * 2 ^ min a2.toNat 64)) = ji20 := (i64_w _).symm.trans hji20_
       have hji20x : a2 ≤ 64 → (wrap64 (1 * 2 ^ a2.toNat)) = ji20 := fun h_ => (i64_w _).symm.trans (hji20z h_)
       obtain ⟨y167, hy167⟩ : ∃ y_ : List Int, y_ = (t162.set (a1 : Int).toNat (wrap64 ((rd t162 a1) - (ji20)))) := ⟨_, rfl⟩
       replace H : ((spec_roNumbers.f kj3 t160 t161 y167).bind fun t168 => ((spec_boStrike.f kj3 a0_0 a0_1 l0_2 a1 a2).bind fun bt171 => ((spec_roNumbers.f kj3 bt171.1 bt171.2.1 bt171.2.2).bind fun t176 => (some (t168, t176, true))))) = some (r1, r2, r3) := ty_ hy167 H
       have Ny167 := A_ hy167
       clear hy167
       replace H := Option.bind_eq_some_iff.mp H
       obtain ⟨t168, A220, H⟩ := H
       replace H : ((spec_boStrike.f kj3 a0_0 a0_1 l0_2 a1 a2).bind fun bt171 => ((spec_roNumbers.f kj3 bt171.1 bt171.2.1 bt171.2.2).bind fun t176 => (some (t168, t176, true)))) = some (r1, r2, r3) := H
       have A22 := A_ A220
       clear A220
       replace H := Option.bind_eq_some_iff.mp H
       obtain ⟨⟨t171, t172, t173⟩, A230, H⟩ := H
       replace H : ((spec_roNumbers.f kj3 t171 t172 t173).bind fun t176 => (some (t168, t176, true))) = some (r1, r2, r3) := H
       have A23 := A_ A230
       clear A230
       replace H := Option.bind_eq_some_iff.mp H
       obtain ⟨t176, A240, H⟩ := H
       replace H : (some (t168, t176, true)) = some (r1, r2, r3) := H
       have A24 := A_ A240
       clear A240
       simp only [Option.some.injEq, Prod.mk.injEq] at H
       obtain ⟨rfl, rfl, rfl⟩ := H
       obtain ⟨hcz25_0, hcz25_1, hcz25_2, hfz25_0, hfz25_1, hfz25_2⟩ := cf3_ BK157.out
       try go_wp2_with (first | (refine gc_ 122 ?_; refine goesT_ (some 23) Try.func122 #[.agg #[.int .i64 a0_0, .int .i64 a0_1, .slice A0_2 l0_2.length c0_2]] ?_; (with_reducible refine (spec_boOwn.calls a0_0 a0_1 _ _ l0_2 t160 t161 t162 _ ?side1 ?side2 A16.out).mono ?_); (case side1 => exact tc_ HR0_2.out); (case side2 => exact HC0_2.out); rintro e w26 ⟨v163, rfl, ho0, hb⟩; refine ⟨_, rfl, ?_⟩; have HO164 := A_ (Kd.R_lower ho0 (below_size tb_)); replace BK157 := A_ (blk_below (g := gb157) (o := .cells #[.int .i64 a0_0, .int .i64 a0_1, .slice A0_2 l0_2.length c0_2] 28 (0, 0)) (tk_ BK157) hb); replace HB := A_ (below_step tb_ hb); (try clear hb); (try clear ho0)) | (refine gd_ 9 ?_; refine bx_ 9 #[.int .i64 0, .int .i64 0, .slice none 0 0] 28 ?_; intro gb165 hg w27 hbox hb; replace HO164 := A_ (Kd.R_below (tr_x HO164.out) hb); have BK165 := A_ (hbox); have GW165 := A_ ((ts_ hg : w.heap.size ≤ gb165)); have GE165 := A_ ((ts_ hg : w.heap.size ≤ gb165)); replace HB := A_ (below_step tb_ hb); have NB157_165 := A_ ((by rw [hg]; exact Nat.ne_of_lt (blk_lt (g := gb157) (o := .cells #[.int .i64 a0_0, .int .i64 a0_1, .slice A0_2 l0_2.length c0_2] 28 (0, 0)) (tk_ BK157)) : gb157 ≠ gb165)); have NB165_157 := A_ ((by rw [hg]; exact Nat.ne_of_gt (blk_lt (g := gb157) (o := .cells #[.int .i64 a0_0, .int .i64 a0_1, .slice A0_2 l0_2.length c0_2] 28 (0, 0)) (tk_ BK157)) : gb165 ≠ gb157)); replace BK157 := A_ (blk_below (g := gb157) (o := .cells #[.int .i64 a0_0, .int .i64 a0_1, .slice A0_2 l0_2.length c0_2] 28 (0, 0)) (tk_ BK157) hb); clear hb hbox hg; have hnb28 := NB165_157.out; have hnc28 := NB157_165.out; obtain ⟨hcz29_0, hcz29_1, hcz29_2, hfz29_0, hfz29_1, hfz29_2⟩ := cf3_ BK165.out; obtain ⟨Ao30, co30, eo30⟩ := Kd.R_slice HO164.out; subst eo30))
       have n0_ : Aside0 (Kd.R (Kd.int .i64) 3 (((w27.setCell ⟨gb165, 0, none⟩ (.int .i64 t160)).setCell ⟨gb165, 1, none⟩ (.int .i64 t161)).setCell ⟨gb165, 2, none⟩ (.slice Ao30 t162.length co30)) w.heap.size (fun _ => True) (.slice Ao30 t162.length co30) t162) := ⟨by (with_reducible repeat (first | apply Kd.R_alloc | apply Kd.R_drewN | apply Kd.R_drew)); exact Kd.R_mono (Kd.R_far (p := ⟨gb165, 2, none⟩) (Kd.R_far (p := ⟨gb165, 1, none⟩) (Kd.R_far (p := ⟨gb165, 0, none⟩) (Kd.R_types HO164.out BK165.out (by decide)) (fun _ hk => hk.2) (.int .i64 t160)) (fun _ hk => hk.2) (.int .i64 t161)) (fun _ hk => hk.2) (.slice Ao30 t162.length co30)) (fun _ hk => trivial)⟩
       have n1_ : Aside0 ((((w27.setCell ⟨gb165, 0, none⟩ (.int .i64 t160)).setCell ⟨gb165, 1, none⟩ (.int .i64 t161)).setCell ⟨gb165, 2, none⟩ (.slice Ao30 t162.length co30)).heap[gb157]? = some (.cells #[.int .i64 a0_0, .int .i64 a0_1, .slice A0_2 l0_2.length c0_2] 28 (0, 0))) := ⟨tk_ BK157⟩
       have n2_ : Aside0 ((((w27.setCell ⟨gb165, 0, none⟩ (.int .i64 t160)).setCell ⟨gb165, 1, none⟩ (.int .i64 t161)).setCell ⟨gb165, 2, none⟩ (.slice Ao30 t162.length co30)).heap[gb165]? = some (.cells #[.int .i64 t160, .int .i64 t161, .slice Ao30 t162.length co30] 28 (0, 0))) := ⟨by (with_reducible repeat (first | refine blk_drewN ?_ _ | refine blk_drew ?_ | refine blk_alloc ?_ _)); refine blk_put (cs := #[.int .i64 t160, .int .i64 t161, .slice none 0 0]) ?_ 2 _ rfl; (with_reducible repeat (first | refine blk_drewN ?_ _ | refine blk_drew ?_ | refine blk_alloc ?_ _)); refine blk_put (cs := #[.int .i64 t160, .int .i64 0, .slice none 0 0]) ?_ 1 _ rfl; (with_reducible repeat (first | refine blk_drewN ?_ _ | refine blk_drew ?_ | refine blk_alloc ?_ _)); refine blk_put (cs := #[.int .i64 0, .int .i64 0, .slice none 0 0]) ?_ 0 _ rfl; (with_reducible repeat (first | refine blk_drewN ?_ _ | refine blk_drew ?_ | refine blk_alloc ?_ _)); exact BK165.out⟩
       have n3_ : Aside0 (Below w.heap.size w (((w27.setCell ⟨gb165, 0, none⟩ (.int .i64 t160)).setCell ⟨gb165, 1, none⟩ (.int .i64 t161)).setCell ⟨gb165, 2, none⟩ (.slice Ao30 t162.length co30))) := ⟨tb_⟩
       (try clear HO164)
       (try clear BK157)
       (try clear BK165)
       (try clear HB)
       generalize (((w27.setCell ⟨gb165, 0, none⟩ (.int .i64 t160)).setCell ⟨gb165, 1, none⟩ (.int .i64 t161)).setCell ⟨gb165, 2, none⟩ (.slice Ao30 t162.length co30)) = w31 at n0_ n1_ n2_ n3_ ⊢
       have HO164 := n0_
       have BK157 := n1_
       have BK165 := n2_
       have HB := n3_
       clear n0_ n1_ n2_ n3_
       have n0_ := A_ (Kd.R_drew HO164.out)
       have n1_ := A_ (blk_drew BK157.out)
       have n2_ := A_ (blk_drew BK165.out)
       have n3_ := A_ (below_drew1 HB.out)
       clear HO164
       clear BK157
       clear BK165
       clear HB
       have HO164 := n0_
       have BK157 := n1_
       have BK165 := n2_
       have HB := n3_
       clear n0_ n1_ n2_ n3_
       have p166 : 0 ≤ (a1 : Int) := od_
       have q166 : a1 < (t162.length : Int) := od_
       obtain ⟨ad166, e166, hx166_0⟩ := Kd.at_int (Kd.R_reads' HO164.out).2.2 a1 p166 q166
       cases e166
       replace p166 := eq_true p166
       replace q166 := eq_true q166
       have p21 : 0 ≤ (a1 : Int) := od_
       have q21 : (a1 : Int) < ((t162.length : Int) : Int) := od_
       obtain ⟨go21, co21, eo21, gb21, gl21, cl21, HG21⟩ := Kd.R_form HO164.out (by omega)
       (first | cases eo21 | (injection eo21 with ea_ en_ ec_; (first | subst ea_ | (injection ea_ with ea_; subst ea_)); subst ec_; clear en_))
       have GB21 := A_ gb21
       have GG21 := A_ HG21
       clear gb21 gl21 HG21
       (first | simp only [add_plain] at hx166_0 | skip)
       obtain ⟨hx21_0, hf21_0⟩ := Kd.R_celln 0 HO164.out (a1 : Int) p21 q21
       replace p21 := eq_true p21
       replace q21 := eq_true q21
       have HP33 := Kd.R_putn HO164.out (a1 : Int) (wrap64 ((rd t162 a1) - (ji20)))
       rw [← Ny167.out] at HP33
       have HQ33 := A_ HP33
       clear HP33
       refine start_ (n := 10) (S := fun w' => w'.cell? ⟨gb165, 0, none⟩ = some (.int .i64 t160) ∧ w'.cell? ⟨gb165, 1, none⟩ = some (.int .i64 t161) ∧ w'.cell? ⟨gb165, 2, none⟩ = some (.slice (some ⟨go21, 0, none⟩) t162.length co30) ∧ w'.cell? ⟨go21, (a1).toNat, none⟩ = some (.int .i64 (rd t162 a1))) (ds := [9]) (Fn.bl 10 0) (by kernel_rfl) rfl rfl ⟨(blk_cell BK165.out 0).trans rfl, (blk_cell BK165.out 1).trans rfl, (blk_cell BK165.out 2).trans rfl, hx166_0⟩ (fun hHeld => ?_); refine with_tabW spec_NumbersByCell.tab4 spec_NumbersByCell.bits4 (fun HT_ HW_ => ?_)
       generalize w31.drew = w32 at HO164 BK157 BK165 HB GG21 HQ33 hf21_0 hx166_0 hx21_0 hHeld ⊢
       refine pq_ 0 (some 24) (Fn.bl 10 1) HT_.out ?_
       refine pq_ 2 (some 26) (Fn.bl 10 5) HT_.out ?_
       refine pq_ 5 (some 29) (Fn.bl 10 37) HT_.out ?_
       refine pq_ 6 (some 30) (Fn.bl 10 101) HT_.out ?_
       refine tq_ 1 (some 25) (Fn.bl 10 103) HT_.out HW_.out hHeld ?_ (hy0 := by rintro w' ⟨s0, s1, s2, s3⟩; go_simp; with_reducible rfl)
       refine pq_ 3 (some 27) (Fn.bl 10 111) HT_.out ?_
       refine tq_ 4 (some 28) (Fn.bl 10 127) HT_.out HW_.out hHeld ?_ (hy0 := by rintro w' ⟨s0, s1, s2, s3⟩; go_simp; with_reducible rfl)
       refine pq_ 7 (some 31) (Fn.bl 10 255) HT_.out ?_
       refine pq_ 8 (some 32) (Fn.bl 10 511) HT_.out ?_
       refine last_ (i := 9) (N := none) (Fn.bl 10 1023) rfl rfl (one_of HT_.out (by kernel_rfl)) (by decide) (fun K hK => ?_)
       refine skip_ (w1 := ?_) (by rfl) rfl ?_ ?_
       rotate_left
       ·
        go_simp
        rfl
       refine hK.out _ _ ?_
       clear hK K
       refine done_ (done_of HT_.out (by kernel_rfl)) ?_
       try go_wp2
       have n0_ : Aside0 (Kd.R (Kd.int .i64) 3 (w32.setCell ⟨go21, (a1 : Int).toNat, none⟩ (.int .i64 (wrap64 ((rd t162 a1) - (ji20))))) w.heap.size (fun _ => True) (.slice (some ⟨go21, 0, none⟩) t162.length co30) y167) := ⟨tr_x HQ33.out⟩
       have n1_ : Aside0 ((w32.setCell ⟨go21, (a1 : Int).toNat, none⟩ (.int .i64 (wrap64 ((rd t162 a1) - (ji20))))).heap[gb157]? = some (.cells #[.int .i64 a0_0, .int .i64 a0_1, .slice A0_2 l0_2.length c0_2] 28 (0, 0))) := ⟨by (with_reducible repeat (first | refine blk_drewN ?_ _ | refine blk_drew ?_ | refine blk_alloc ?_ _)); refine blk_far ?_ (by have h_ := Kd.R_ne HO164.out BK157.out (by decide); intro e_; exact h_ (by rw [e_]; rfl)) _; (with_reducible repeat (first | refine blk_drewN ?_ _ | refine blk_drew ?_ | refine blk_alloc ?_ _)); exact BK157.out⟩
       have n2_ : Aside0 ((w32.setCell ⟨go21, (a1 : Int).toNat, none⟩ (.int .i64 (wrap64 ((rd t162 a1) - (ji20))))).heap[gb165]? = some (.cells #[.int .i64 t160, .int .i64 t161, .slice (some ⟨go21, 0, none⟩) t162.length co30] 28 (0, 0))) := ⟨by (with_reducible repeat (first | refine blk_drewN ?_ _ | refine blk_drew ?_ | refine blk_alloc ?_ _)); refine blk_far ?_ (by have h_ := Kd.R_ne HO164.out BK165.out (by decide); intro e_; exact h_ (by rw [e_]; rfl)) _; (with_reducible repeat (first | refine blk_drewN ?_ _ | refine blk_drew ?_ | refine blk_alloc ?_ _)); exact BK165.out⟩
       have n3_ : Aside0 (Below w.heap.size w (w32.setCell ⟨go21, (a1 : Int).toNat, none⟩ (.int .i64 (wrap64 ((rd t162 a1) - (ji20)))))) := ⟨tb_⟩
       (try clear HO164)
       (try clear BK157)
       (try clear BK165)
       (try clear HB)
       generalize (w32.setCell ⟨go21, (a1 : Int).toNat, none⟩ (.int .i64 (wrap64 ((rd t162 a1) - (ji20))))) = w34 at n0_ n1_ n2_ n3_ ⊢
       have HO164 := n0_
       have BK157 := n1_
       have BK165 := n2_
       have HB := n3_
       clear n0_ n1_ n2_ n3_
       have n0_ := A_ (Kd.R_drew HO164.out)
       have n1_ := A_ (blk_drew BK157.out)
       have n2_ := A_ (blk_drew BK165.out)
       have n3_ := A_ (below_drew1 HB.out)
       clear HO164
       clear BK157
       clear BK165
       clear HB
       have HO164 := n0_
       have BK157 := n1_
       have BK165 := n2_
       have HB := n3_
       clear n0_ n1_ n2_ n3_
       refine start_ (n := 10) (S := fun w' => w'.cell? ⟨gb165, 0, none⟩ = some (.int .i64 t160) ∧ w'.cell? ⟨gb165, 1, none⟩ = some (.int .i64 t161) ∧ w'.cell? ⟨gb165, 2, none⟩ = some (.slice (some ⟨go21, 0, none⟩) t162.length co30) ∧ w'.cell? ⟨gb157, 0, none⟩ = some (.int .i64 a0_0) ∧ w'.cell? ⟨gb157, 1, none⟩ = some (.int .i64 a0_1) ∧ w'.cell? ⟨gb157, 2, none⟩ = some (.slice A0_2 l0_2.length c0_2)) (ds := []) (Fn.bl 10 0) (by kernel_rfl) rfl rfl ⟨(blk_cell BK165.out 0).trans rfl, (blk_cell BK165.out 1).trans rfl, (blk_cell BK165.out 2).trans rfl, (blk_cell BK157.out 0).trans rfl, (blk_cell BK157.out 1).trans rfl, (blk_cell BK157.out 2).trans rfl⟩ (fun hHeld => ?_); refine with_tabW spec_NumbersByCell.tab5 spec_NumbersByCell.bits5 (fun HT_ HW_ => ?_)
       generalize w34.drew = w35 at HO164 BK157 BK165 HB HQ33 hHeld ⊢
       refine pq_ 3 (some 36) (Fn.bl 10 8) HT_.out ?_
       refine pq_ 4 (some 37) (Fn.bl 10 24) HT_.out ?_
       refine tq_ 0 (some 33) (Fn.bl 10 25) HT_.out HW_.out hHeld ?_ (hy0 := by rintro w' ⟨s0, s1, s2, s3, s4, s5⟩; go_simp; with_reducible rfl)
       refine tq_ 2 (some 35) (Fn.bl 10 29) HT_.out HW_.out hHeld ?_ (hy0 := by rintro w' ⟨s0, s1, s2, s3, s4, s5⟩; go_simp; with_reducible rfl)
       refine one_ (i := 1) (N := some 34) (Fn.bl 10 31) rfl rfl (one_of HT_.out (by kernel_rfl)) (by decide) (fun K hK => ?_)
       refine goes_ Try.func123 (by kernel_rfl) rfl #[.agg #[.int .i64 t160, .int .i64 t161, .slice (some ⟨go21, 0, none⟩) y167.length co30]] (by rfl) rfl rfl (by (try simp only [List.map_toArray, List.map_cons, List.map_nil]); first | done | (rw [show y167.length = t162.length from (Kd.R_reads' HO164.out).1.symm] <;> rfl) | rfl | (simp only [List.length_drop, List.length_take]; rfl)) ?_
       with_reducible refine (spec_roNumbers.calls kj3 t160 t161 _ _ y167 t168 _ ?side1 ?side2 A22.out).mono ?_
       (case side1 => exact tc0_ (Kd.R_reads' HO164.out).2.2)
       (case side2 => rw [show y167.length = t162.length from (Kd.R_reads' HO164.out).1.symm]; exact (Kd.R_reads' HO164.out).2.1)
       rintro e w36 ⟨v169, rfl, ho0, hb⟩
       refine ⟨_, rfl, ?_⟩
       have n0_ := A_ (Kd.R_elder' (tr_x HO164.out) (Kd.R_base ho0) hb)
       have n1_ := A_ (Kd.R_lower (Kd.R_new' ho0 (Kd.R_lt (tr_x HO164.out))) (below_size tb_))
       have n2_ := A_ (blk_below (g := gb157) (o := .cells #[.int .i64 a0_0, .int .i64 a0_1, .slice A0_2 l0_2.length c0_2] 28 (0, 0)) (tk_ BK157) hb)
       have n3_ := A_ (blk_below (g := gb165) (o := .cells #[.int .i64 t160, .int .i64 t161, .slice (some ⟨go21, 0, none⟩) t162.length co30] 28 (0, 0)) (tk_ BK165) hb)
       have n4_ := A_ (below_step tb_ hb)
       clear HO164
       clear BK157
       clear BK165
       clear HB
       have HO164 := n0_
       have HO170 := n1_
       have BK157 := n2_
       have BK165 := n3_
       have HB := n4_
       clear n0_ n1_ n2_ n3_ n4_
       (try clear hb)
       (try clear hb2)
       (try clear hk)
       (try clear hi)
       (try clear ho0)
       refine hK.out _ _ ⟨(blk_cell BK165.out 0).trans rfl, (blk_cell BK165.out 1).trans rfl, (blk_cell BK165.out 2).trans rfl, (blk_cell BK157.out 0).trans rfl, (blk_cell BK157.out 1).trans rfl, (blk_cell BK157.out 2).trans rfl⟩ (fun hHeld => ?_)
       clear hK K
       refine norm_ (a' := ?_) ?_ ?_
       rotate_left
       ·
        show Act.put _ (some 34) _ = _
        simp only [Act.put, List.setIfInBounds_toArray, List.set_cons_zero, List.set_cons_succ, i64_w, i32_w]
        rfl
       refine one_ (i := 5) (N := some 38) (Fn.bl 10 63) rfl rfl (one_of HT_.out (by kernel_rfl)) (by decide) (fun K hK => ?_)
       refine goes_ Try.func124 (by kernel_rfl) rfl #[.agg #[.int .i64 a0_0, .int .i64 a0_1, .slice A0_2 l0_2.length c0_2], .int .i64 a1, .int .i64 a2] (by rfl) rfl rfl ta_ ?_
       with_reducible refine (spec_boStrike.calls kj3 a0_0 a0_1 _ _ l0_2 a1 a2 t171 t172 t173 _ ?side1 ?side2 A23.out).mono ?_
       (case side1 => exact tc_ HR0_2.out)
       (case side2 => exact HC0_2.out)
       rintro e w37 ⟨v174, rfl, ho0, hb⟩
       refine ⟨_, rfl, ?_⟩
       have n0_ := A_ (Kd.R_elder' (tr_x HO164.out) (Kd.R_base ho0) hb)
       have n1_ := A_ (Kd.R_elder' (tr_x HO170.out) (Kd.R_base ho0) hb)
       have n2_ := A_ (Kd.R_lower (Kd.R_new' (Kd.R_new' ho0 (Kd.R_lt (tr_x HO164.out))) (Kd.R_lt (tr_x HO170.out))) (below_size tb_))
       have n3_ := A_ (blk_below (g := gb157) (o := .cells #[.int .i64 a0_0, .int .i64 a0_1, .slice A0_2 l0_2.length c0_2] 28 (0, 0)) (tk_ BK157) hb)
       have n4_ := A_ (blk_below (g := gb165) (o := .cells #[.int .i64 t160, .int .i64 t161, .slice (some ⟨go21, 0, none⟩) t162.length co30] 28 (0, 0)) (tk_ BK165) hb)
       have n5_ := A_ (below_step tb_ hb)
       clear HO164
       clear HO170
       clear BK157
       clear BK165
       clear HB
       have HO164 := n0_
       have HO170 := n1_
       have HO175 := n2_
       have BK157 := n3_
       have BK165 := n4_
       have HB := n5_
       clear n0_ n1_ n2_ n3_ n4_ n5_
       (try clear hb)
       (try clear hb2)
       (try clear hk)
       (try clear hi)
       (try clear ho0)
       obtain ⟨Ao38, co38, eo38⟩ := Kd.R_slice HO175.out
       (first | subst eo38 | (injection eo38 with f1_ f2_ f3_; have f4_ := f1_.symm; have f5_ := f3_.symm; clear f1_ f2_ f3_; subst f4_; subst f5_))
       refine hK.out _ _ ⟨(blk_cell BK165.out 0).trans rfl, (blk_cell BK165.out 1).trans rfl, (blk_cell BK165.out 2).trans rfl, (blk_cell BK157.out 0).trans rfl, (blk_cell BK157.out 1).trans rfl, (blk_cell BK157.out 2).trans rfl⟩ (fun hHeld => ?_)
       clear hK K
       refine norm_ (a' := ?_) ?_ ?_
       rotate_left
       ·
        show Act.put _ (some 38) _ = _
        simp only [Act.put, List.setIfInBounds_toArray, List.set_cons_zero, List.set_cons_succ, i64_w, i32_w]
        rfl
       refine one_ (i := 6) (N := some 39) (Fn.bl 10 127) rfl rfl (one_of HT_.out (by kernel_rfl)) (by decide) (fun K hK => ?_)
       refine goes_ Try.func123 (by kernel_rfl) rfl #[.agg #[.int .i64 t171, .int .i64 t172, .slice Ao38 t173.length co38]] (by rfl) rfl rfl ta_ ?_
       with_reducible refine (spec_roNumbers.calls kj3 t171 t172 _ _ t173 t176 _ ?side1 ?side2 A24.out).mono ?_
       (case side1 => exact tc0_ (Kd.R_reads' HO175.out).2.2)
       (case side2 => exact (Kd.R_reads' HO175.out).2.1)
       rintro e w39 ⟨v177, rfl, ho0, hb⟩
       refine ⟨_, rfl, ?_⟩
       have n0_ := A_ (Kd.R_elder' (tr_x HO164.out) (Kd.R_base ho0) hb)
       have n1_ := A_ (Kd.R_elder' (tr_x HO170.out) (Kd.R_base ho0) hb)
       have n2_ := A_ (Kd.R_elder' (tr_x HO175.out) (Kd.R_base ho0) hb)
       have n3_ := A_ (Kd.R_lower (Kd.R_new' (Kd.R_new' (Kd.R_new' ho0 (Kd.R_lt (tr_x HO164.out))) (Kd.R_lt (tr_x HO170.out))) (Kd.R_lt (tr_x HO175.out))) (below_size tb_))
       have n4_ := A_ (blk_below (g := gb157) (o := .cells #[.int .i64 a0_0, .int .i64 a0_1, .slice A0_2 l0_2.length c0_2] 28 (0, 0)) (tk_ BK157) hb)
       have n5_ := A_ (blk_below (g := gb165) (o := .cells #[.int .i64 t160, .int .i64 t161, .slice (some ⟨go21, 0, none⟩) t162.length co30] 28 (0, 0)) (tk_ BK165) hb)
       have n6_ := A_ (below_step tb_ hb)
       clear HO164
       clear HO170
       clear HO175
       clear BK157
       clear BK165
       clear HB
       have HO164 := n0_
       have HO170 := n1_
       have HO175 := n2_
       have HO178 := n3_
       have BK157 := n4_
       have BK165 := n5_
       have HB := n6_
       clear n0_ n1_ n2_ n3_ n4_ n5_ n6_
       (try clear hb)
       (try clear hb2)
       (try clear hk)
       (try clear hi)
       (try clear ho0)
       refine hK.out _ _ ⟨(blk_cell BK165.out 0).trans rfl, (blk_cell BK165.out 1).trans rfl, (blk_cell BK165.out 2).trans rfl, (blk_cell BK157.out 0).trans rfl, (blk_cell BK157.out 1).trans rfl, (blk_cell BK157.out 2).trans rfl⟩ (fun hHeld => ?_)
       clear hK K
       refine norm_ (a' := ?_) ?_ ?_
       rotate_left
       ·
        show Act.put _ (some 39) _ = _
        simp only [Act.put, List.setIfInBounds_toArray, List.set_cons_zero, List.set_cons_succ, i64_w, i32_w]
        rfl
       refine pq_ 7 (some 6) (Fn.bl 10 255) HT_.out ?_
       refine pq_ 8 (some 7) (Fn.bl 10 511) HT_.out ?_
       refine pq_ 9 (some 8) (Fn.bl 10 1023) HT_.out ?_
       refine done_ (done_of HT_.out (by kernel_rfl)) ?_
       try go_wp2
       go_ret3
       exact ⟨_, _, by first | rfl | (simp [errW_none, errW_some] <;> rfl) | (simp only [← hji20]; first | rfl | (simp [errW_none, errW_some] <;> rfl)) | (simp [*, errW_none, errW_some] <;> rfl), by (with_reducible repeat (first | apply Kd.R_alloc | apply Kd.R_drewN | apply Kd.R_drew)); exact Kd.R_mono HO170.out (fun _ hk => hk.2), by (with_reducible repeat (first | apply Kd.R_alloc | apply Kd.R_drewN | apply Kd.R_drew)); exact Kd.R_mono HO178.out (fun _ hk => hk.1.2), tb_⟩
      ·
       rw [if_neg c19] at H
       exact absurd H (by simp)
     ·
      rw [if_neg c18] at H
      exact absurd H (by simp)
    ·
     rw [if_neg c17] at H
     exact absurd H (by simp)

end
end Go.Proofs.Ytnpacpdpgngdpaa.P
