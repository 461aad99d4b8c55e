-- printed functions (wip/slim.py)
import Derived.Test.YtdoflpghemgbdaaPx0
import Derived.Test.YtdoflpghemgbdaaQ06f4a11cba
import Derived.Test.YtdoflpghemgbdaaQ8dbf48421f
namespace Go.Proofs.Ytdoflpghemgbdaa.P
noncomputable section
set_option maxHeartbeats 8000000
set_option maxRecDepth 100000
open Go.RowKit Go.Proofs.YtdoflpghemgbdaaW.PrintWords Go.Proofs.YtdoflpghemgbdaaW.PrintLast Go.Proofs.YtdoflpghemgbdaaW.PrintMore
attribute [local go_sem] max2_int min2_int max_two min_two max_three min_three max_four min_four   -- for this text's walks alone
set_option linter.unusedVariables false
set_option linter.unusedSimpArgs false

/-! ### spec_boEmpty: function 174 -/
def spec_boEmpty.f (a0 : Int) (a1 : Int) : Option (Int × Int × List Int) := if 0 ≤ a0 then (if (a0 : Int).toNat ≤ 35184372088832 then (some (a0, a1, (List.replicate (a0 : Int).toNat 0))) else (none)) else (none)
theorem spec_boEmpty.calls (a0 : Int) (a1 : Int) (r1 : Int) (r2 : Int) (r3 : List Int) (w : World) (h : spec_boEmpty.f a0 a1 = some (r1, r2, r3)) :
  Calls Try.prog 174 #[.int .i64 a0, .int .i64 a1] w fun e w' => ∃ v2_ : Value, e = .returned (.agg #[.int .i64 r1, .int .i64 r2, v2_]) ∧ Kd.R (Kd.int .i64) 3 w' w.heap.size (fun _ => True) v2_ r3 ∧ Below w.heap.size w w' := by
 have hu26 := Try.underlying26
 have HB := A_ (Below.refl w.heap.size w)
 have H : (if 0 ≤ a0 then (if (a0 : Int).toNat ≤ 35184372088832 then (some (a0, a1, (List.replicate (a0 : Int).toNat 0))) else (none)) else (none)) = some (r1, r2, r3) := h
 clear h
 by_cases c3 : 0 ≤ a0
 ·
  rw [if_pos c3] at H
  have c3b0 := eq_true c3
  have c3b1 := decide_eq_true c3
  clear c3
  by_cases c4 : (a0 : Int).toNat ≤ 35184372088832
  ·
   rw [if_pos c4] at H
   have c4b0 := eq_true c4
   have c4b1 := decide_eq_true c4
   clear c4
   obtain ⟨y136, hy136⟩ : ∃ y_ : List Int, y_ = (List.replicate (a0 : Int).toNat 0) := ⟨_, rfl⟩
   replace H : (some (a0, a1, y136)) = some (r1, r2, r3) := ty_ hy136 H
   have Ny136 := A_ hy136
   clear hy136
   simp only [Option.some.injEq, Prod.mk.injEq] at H
   obtain ⟨rfl, rfl, rfl⟩ := H
   go_enter Try.func174, Try.ntmps174
   go_wp2_with (first | (refine gd_ 4 ?_; refine bx_ 4 #[.int .i64 0, .int .i64 0, .slice none 0 0] 26 ?_; intro gb135 hg w5 hbox hb; have BK135 := A_ (hbox); have GW135 := A_ ((ts_ hg : w.heap.size ≤ gb135)); have GE135 := A_ ((ts_ hg : w.heap.size ≤ gb135)); replace HB := A_ (below_step tb_ hb); clear hb hbox hg) | (refine gd_ 8 ?_; refine Kd.R_make (Kd.int .i64) _ 3 rfl (N := 8) rfl 24 _ _ rfl a0 rfl rfl Try.underlying24 (.int .i64 0) 8 info3 rfl (by decide) (by omega) 0 (ok := fun _ => True) (okp := fun _ => True) rfl (fun _ hk => hk) trivial (od_) (Nat.le_trans (Nat.mul_le_mul_right _ (od_ : a0.toNat ≤ 35184372088832)) (by omega)) (Below.refl _ _) (Nat.le_refl _) ?_; intro v137 w6 ho7 hb hg_ hnew_; clear hg_ hnew_; (first | rw [← Ny136.out] at ho7 | (simp only [Int.reduceToNat] at ho7; rw [← Ny136.out] at ho7)); have HO138 := A_ (Kd.R_lower ho7 (below_size tb_)); replace BK135 := A_ (blk_below (g := gb135) (o := .cells #[.int .i64 0, .int .i64 0, .slice none 0 0] 26 (0, 0)) (tk_ BK135) hb); replace HB := A_ (below_step tb_ hb); clear hb ho7; obtain ⟨Ao8, co8, eo8⟩ := Kd.R_slice HO138.out; subst eo8; obtain ⟨hcz9_0, hcz9_1, hcz9_2, hfz9_0, hfz9_1, hfz9_2⟩ := cf3_ BK135.out))
   refine bodyPost_ret (results_cell_row rfl _ _ gb135 26 #[.int .i64 a0, .int .i64 a1, .slice Ao8 y136.length co8] (0, 0) _ rfl (by (with_reducible repeat (first | refine blk_drewN ?_ _ | refine blk_drew ?_ | refine blk_alloc ?_ _)); refine blk_put (cs := #[.int .i64 a0, .int .i64 a1, .slice none 0 0]) ?_ 2 _ rfl; (with_reducible repeat (first | refine blk_drewN ?_ _ | refine blk_drew ?_ | refine blk_alloc ?_ _)); refine blk_put (cs := #[.int .i64 a0, .int .i64 0, .slice none 0 0]) ?_ 1 _ rfl; (with_reducible repeat (first | refine blk_drewN ?_ _ | refine blk_drew ?_ | refine blk_alloc ?_ _)); refine blk_put (cs := #[.int .i64 0, .int .i64 0, .slice none 0 0]) ?_ 0 _ rfl; (with_reducible repeat (first | refine blk_drewN ?_ _ | refine blk_drew ?_ | refine blk_alloc ?_ _)); exact BK135.out) Try.underlying26 rfl (by kernel_rfl)) rfl ?_
   exact ⟨_, te_, by (with_reducible repeat (first | apply Kd.R_alloc | apply Kd.R_drewN | apply Kd.R_drew)); exact Kd.R_mono (Kd.R_far (p := ⟨gb135, 2, none⟩) (Kd.R_far (p := ⟨gb135, 1, none⟩) (Kd.R_far (p := ⟨gb135, 0, none⟩) (Kd.R_types HO138.out BK135.out (by decide)) (fun _ hk => hk.2) (.int .i64 a0)) (fun _ hk => hk.2) (.int .i64 a1)) (fun _ hk => hk.2) (.slice Ao8 y136.length co8)) (fun _ hk => trivial), tb_⟩
  ·
   rw [if_neg c4] at H
   exact absurd H (by simp)
 ·
  rw [if_neg c3] at H
  exact absurd H (by simp)

/-! ### spec_l1In: function 105 -/
def spec_l1In.f (a0 : Int) (a1 : Int) (a2 : Int) : Option (Bool) := if a0 ≥ a1 then (some (decide (a0 ≤ a2))) else (some false)
theorem spec_l1In.calls (a0 : Int) (a1 : Int) (a2 : Int) (r : Bool) (w : World) (h : spec_l1In.f a0 a1 a2 = some r) :
  Calls Try.prog 105 #[.int .i64 a0, .int .i64 a1, .int .i64 a2] w fun e w' => e = .returned (.bool r) ∧ Drawn0 w w' := by
 have H : (if a0 ≥ a1 then (some (decide (a0 ≤ a2))) else (some false)) = some r := h
 clear h
 by_cases c4 : a0 ≥ a1
 ·
  rw [if_pos c4] at H
  have c4b0 := decide_eq_true c4
  clear c4
  obtain rfl := Option.some.inj H
  go_enter Try.func105, Try.ntmps105
  go_wp2
  go_ret
  exact ⟨tf_, dr_⟩
 ·
  rw [if_neg c4] at H
  have c4b0 := decide_eq_false c4
  clear c4
  obtain rfl := Option.some.inj H
  go_enter Try.func105, Try.ntmps105
  go_wp2
  go_ret
  exact ⟨tf_, dr_⟩

/-! ### spec_boSide: function 149 -/
def spec_boSide.f (a0 : Int) : Option (Bool) := (spec_l1In.f a0 1 6).bind fun t206 => (some t206)
theorem spec_boSide.calls (a0 : Int) (r : Bool) (w : World) (h : spec_boSide.f a0 = some r) :
  Calls Try.prog 149 #[.int .i64 a0] w fun e w' => e = .returned (.bool r) ∧ Drawn0 w w' := by
 have H : ((spec_l1In.f a0 1 6).bind fun t206 => (some t206)) = some r := h
 clear h
 replace H := Option.bind_eq_some_iff.mp H
 obtain ⟨t206, A20, H⟩ := H
 replace H : (some t206) = some r := H
 have A2 := A_ A20
 clear A20
 obtain rfl := Option.some.inj H
 go_enter Try.func149, Try.ntmps149
 go_wp2_with (first | (refine gc_ 105 ?_; refine goesT_ (some 4) Try.func105 #[.int .i64 a0, .int .i64 1, .int .i64 6] ?_; (with_reducible refine (spec_l1In.calls a0 1 6 t206 _ A2.out).mono ?_); rintro e w' ⟨rfl, ⟨nd, rfl⟩⟩; refine ⟨_, rfl, ?_⟩))
 go_ret
 exact ⟨tf_, dr_⟩

/-! ### spec_l1All: function 150 -/
def spec_l1All.l0 : Nat → Int → Int → List Int → Int → Int → Option (Bool)
 | 0, _, _, _, _, _ => none
 | k + 1, x1, x2, x9, x10, x11 => if x11 < x10 then (if 0 ≤ x11 then (if x11 < (x9.length : Int) then ((spec_l1In.f (rd x9 x11) x1 x2).bind fun t208 => (if t208 = true then (spec_l1All.l0 k x1 x2 x9 x10 (wrap64 (x11 + 1))) else (some false))) else (none)) else (none)) else (some true)
def spec_l1All.f (k : Nat) (l0 : List Int) (a1 : Int) (a2 : Int) : Option (Bool) := spec_l1All.l0 k a1 a2 l0 (l0.length : Int) 0
theorem spec_l1All.mono_l : ∀ k, (∀ y0 y1 y2 y3 y4, LeO (spec_l1All.l0 k y0 y1 y2 y3 y4) (spec_l1All.l0 (k + 1) y0 y1 y2 y3 y4))
 | 0 => fun _ _ _ _ _ r h => by simp [spec_l1All.l0] at h
 | k + 1 => by
  have ih0 := spec_l1All.mono_l k
  ·
   intro y0 y1 y2 y3 y4
   unfold spec_l1All.l0
   repeat' first | (with_reducible first | exact ih0 _ _ _ _ _ | exact LeO.refl _ | exact LeO.none _ | refine LeO.ite ?_ ?_ | refine LeO.bind ?_ (fun _ => ?_)) | exact ih0 _ _ _ _ _ | exact LeO.none _ | refine LeO.ite ?_ ?_ | refine LeO.bind ?_ (fun _ => ?_)
theorem spec_l1All.mono : ∀ a0 a1 a2 k, LeO (spec_l1All.f k a0 a1 a2) (spec_l1All.f (k + 1) a0 a1 a2) := by
 intro a0 a1 a2 k
 have ih0 := spec_l1All.mono_l k
 unfold spec_l1All.f
 repeat' first | (with_reducible first | exact ih0 _ _ _ _ _ | exact LeO.refl _ | exact LeO.none _ | refine LeO.ite ?_ ?_ | refine LeO.bind ?_ (fun _ => ?_)) | exact ih0 _ _ _ _ _ | exact LeO.none _ | refine LeO.ite ?_ ?_ | refine LeO.bind ?_ (fun _ => ?_)
theorem spec_l1All.calls (k : Nat) (A0 : Option Addr) (c0 : Nat) (l0 : List Int) (a1 : Int) (a2 : Int) (r : Bool) (w : World) (hr0 : Kd.C (Kd.int .i64) w A0 l0.length l0) (hc0 : l0.length ≤ c0) (h : spec_l1All.f k l0 a1 a2 = some r) :
  Calls Try.prog 150 #[.slice A0 l0.length c0, .int .i64 a1, .int .i64 a2] w fun e w' => e = .returned (.bool r) ∧ Drawn0 w w' := by
 have HR0 := A_ hr0
 have HC0 := A_ hc0
 clear hr0 hc0
 have H : (spec_l1All.l0 k a1 a2 l0 (l0.length : Int) 0) = some r := h
 clear h
 have H' := A_ H
 clear H
 go_enter Try.func150, Try.ntmps150
 go_wp2
 go_loopg [11] k (fun kq v11 w' => ∃ (x11_1 : Int), v11 = .int .i64 x11_1 ∧ Aside0 (spec_l1All.l0 kq a1 a2 l0 (l0.length : Int) x11_1 = some r) ∧ Aside0 (kq ≤ k) ∧ Drawn0 w w')
 case atStart => exact ⟨(0), tf_, H', ⟨Nat.le_refl _⟩, dr_⟩
 case round =>
  clear H'
  try clear c1
  try clear p2
  obtain ⟨x11_1, rfl, HA, HK1, ⟨m1, rfl⟩⟩ := hrel
  cases gk with
  | zero => exact absurd HA.out (by simp [spec_l1All.l0])
  | succ k1 =>
   have H := HA.out
   clear HA
   simp only [spec_l1All.l0] at H
   by_cases c4 : x11_1 < (l0.length : Int)
   ·
    rw [if_pos c4] at H
    have c4b0 := decide_eq_true c4
    clear c4
    by_cases c5 : 0 ≤ x11_1
    ·
     rw [if_pos c5] at H
     have c5b0 := decide_eq_true c5
     clear c5
     by_cases c6 : x11_1 < (l0.length : Int)
     ·
      rw [if_pos c6] at H
      have c6b0 := decide_eq_true c6
      clear c6
      replace H := Option.bind_eq_some_iff.mp H
      obtain ⟨t208, A70, H⟩ := H
      replace H : (if t208 = true then (spec_l1All.l0 k1 a1 a2 l0 (l0.length : Int) (wrap64 (x11_1 + 1))) else (some false)) = some r := H
      have A7 := A_ A70
      clear A70
      by_cases c8 : t208 = true
      ·
       subst c8
       have H1 : (spec_l1All.l0 k1 a1 a2 l0 (l0.length : Int) (wrap64 (x11_1 + 1))) = some r := by rw [if_pos rfl] at H; exact H
       clear H
       have H := H1
       clear H1
       have H' := A_ H
       clear H
       have p207 : 0 ≤ (x11_1 : Int) := od_
       have q207 : x11_1 < (l0.length : Int) := od_
       obtain ⟨ad207, e207, hx207_0⟩ := Kd.at_int HR0.out x11_1 p207 q207
       cases e207
       replace p207 := eq_true p207
       replace q207 := eq_true q207
       go_wp2_with (first | (refine gc_ 105 ?_; refine goesT_ (some 18) Try.func105 #[.int .i64 (rd l0 x11_1), .int .i64 a1, .int .i64 a2] ?_; (with_reducible refine (spec_l1In.calls (rd l0 x11_1) a1 a2 true _ A7.out).mono ?_); rintro e w' ⟨rfl, ⟨nd, rfl⟩⟩; refine ⟨_, rfl, ?_⟩))
       go_roundg k1
       case measure => have := HK1.out; omega
       case rel => exact ⟨(wrap64 (x11_1 + 1)), tf_, H', ⟨by have := HK1.out; omega⟩, dr_⟩
      ·
       replace c8 := Bool.eq_false_iff.mpr c8
       subst c8
       have H1 : (some false) = some r := by rw [if_neg (show ¬ (false = true) by decide)] at H; exact H
       clear H
       have H := H1
       clear H1
       obtain rfl := Option.some.inj H
       have p207 : 0 ≤ (x11_1 : Int) := od_
       have q207 : x11_1 < (l0.length : Int) := od_
       obtain ⟨ad207, e207, hx207_0⟩ := Kd.at_int HR0.out x11_1 p207 q207
       cases e207
       replace p207 := eq_true p207
       replace q207 := eq_true q207
       go_wp2_with (first | (refine gc_ 105 ?_; refine goesT_ (some 18) Try.func105 #[.int .i64 (rd l0 x11_1), .int .i64 a1, .int .i64 a2] ?_; (with_reducible refine (spec_l1In.calls (rd l0 x11_1) a1 a2 false _ A7.out).mono ?_); rintro e w' ⟨rfl, ⟨nd, rfl⟩⟩; refine ⟨_, rfl, ?_⟩))
       go_ret
       exact ⟨tf_, dr_⟩
     ·
      rw [if_neg c6] at H
      exact absurd H (by simp)
    ·
     rw [if_neg c5] at H
     exact absurd H (by simp)
   ·
    rw [if_neg c4] at H
    have c4b0 := decide_eq_false c4
    clear c4
    obtain rfl := Option.some.inj H
    go_wp2
    go_ret
    exact ⟨tf_, dr_⟩

/-! ### spec_boGood: function 79 -/
def spec_boGood.f (k : Nat) (a0_0 : Int) (a0_1 : Int) (l0_2 : List Int) : Option (Bool) := (spec_boSide.f a0_0).bind fun t210 => (if t210 = true then ((spec_boSide.f a0_1).bind fun t211 => (if t211 = true then (if (l0_2.length : Int) = a0_0 then (if 0 ≤ a0_1 then ((spec_l1All.f k l0_2 0 (wrap64 ((shl .i64 1 a0_1) - 1))).bind fun t212 => (some t212)) else (none)) else (some false)) else (some false))) else (some false))
theorem spec_boGood.mono : ∀ a0 a1 a2 k, LeO (spec_boGood.f k a0 a1 a2) (spec_boGood.f (k + 1) a0 a1 a2) := by
 intro a0 a1 a2 k
 unfold spec_boGood.f
 repeat' first | (with_reducible first | exact spec_l1All.mono _ _ _ _ | exact LeO.refl _ | exact LeO.none _ | refine LeO.ite ?_ ?_ | refine LeO.bind ?_ (fun _ => ?_)) | exact spec_l1All.mono _ _ _ _ | exact LeO.none _ | refine LeO.ite ?_ ?_ | refine LeO.bind ?_ (fun _ => ?_)
theorem spec_boGood.calls (k : Nat) (a0_0 : Int) (a0_1 : Int) (A0_2 : Option Addr) (c0_2 : Nat) (l0_2 : List Int) (r : Bool) (w : World) (hr0_2 : Kd.C (Kd.int .i64) w A0_2 l0_2.length l0_2) (hc0_2 : l0_2.length ≤ c0_2) (h : spec_boGood.f k a0_0 a0_1 l0_2 = some r) :
  Calls Try.prog 79 #[.agg #[.int .i64 a0_0, .int .i64 a0_1, .slice A0_2 l0_2.length c0_2]] w fun e w' => e = .returned (.bool r) ∧ Below w.heap.size w w' := by
 have hu26 := Try.underlying26
 have HR0_2 := A_ hr0_2
 have HC0_2 := A_ hc0_2
 clear hr0_2 hc0_2
 have HB := A_ (Below.refl w.heap.size w)
 have H : ((spec_boSide.f a0_0).bind fun t210 => (if t210 = true then ((spec_boSide.f a0_1).bind fun t211 => (if t211 = true then (if (l0_2.length : Int) = a0_0 then (if 0 ≤ a0_1 then ((spec_l1All.f k l0_2 0 (wrap64 ((shl .i64 1 a0_1) - 1))).bind fun t212 => (some t212)) else (none)) else (some false)) else (some false))) else (some false))) = some r := h
 clear h
 replace H := Option.bind_eq_some_iff.mp H
 obtain ⟨t210, A20, H⟩ := H
 replace H : (if t210 = true then ((spec_boSide.f a0_1).bind fun t211 => (if t211 = true then (if (l0_2.length : Int) = a0_0 then (if 0 ≤ a0_1 then ((spec_l1All.f k l0_2 0 (wrap64 ((shl .i64 1 a0_1) - 1))).bind fun t212 => (some t212)) else (none)) else (some false)) else (some false))) else (some false)) = some r := H
 have A2 := A_ A20
 clear A20
 by_cases c3 : t210 = true
 ·
  subst c3
  have H1 : ((spec_boSide.f a0_1).bind fun t211 => (if t211 = true then (if (l0_2.length : Int) = a0_0 then (if 0 ≤ a0_1 then ((spec_l1All.f k l0_2 0 (wrap64 ((shl .i64 1 a0_1) - 1))).bind fun t212 => (some t212)) else (none)) else (some false)) else (some false))) = some r := by rw [if_pos rfl] at H; exact H
  clear H
  have H := H1
  clear H1
  replace H := Option.bind_eq_some_iff.mp H
  obtain ⟨t211, A40, H⟩ := H
  replace H : (if t211 = true then (if (l0_2.length : Int) = a0_0 then (if 0 ≤ a0_1 then ((spec_l1All.f k l0_2 0 (wrap64 ((shl .i64 1 a0_1) - 1))).bind fun t212 => (some t212)) else (none)) else (some false)) else (some false)) = some r := H
  have A4 := A_ A40
  clear A40
  by_cases c5 : t211 = true
  ·
   subst c5
   have H1 : (if (l0_2.length : Int) = a0_0 then (if 0 ≤ a0_1 then ((spec_l1All.f k l0_2 0 (wrap64 ((shl .i64 1 a0_1) - 1))).bind fun t212 => (some t212)) else (none)) else (some false)) = some r := by rw [if_pos rfl] at H; exact H
   clear H
   have H := H1
   clear H1
   by_cases c6 : (l0_2.length : Int) = a0_0
   ·
    rw [if_pos c6] at H
    have c6b0 : ((l0_2.length : Int) == a0_0) = true := beq_iff_eq.mpr c6
    have c6b1 : ((l0_2.length : Int) != a0_0) = false := bne_eq_false_iff_eq.mpr c6
    clear c6
    by_cases c7 : 0 ≤ a0_1
    ·
     rw [if_pos c7] at H
     have c7b0 := eq_true c7
     have c7b1 := decide_eq_true c7
     clear c7
     obtain ⟨ji8, hji8⟩ : ∃ j_ : Int, (shl .i64 1 a0_1) = j_ := ⟨_, rfl⟩
     replace H : ((spec_l1All.f k l0_2 0 (wrap64 ((ji8) - 1))).bind fun t212 => (some t212)) = some r := by first | (rw [hji8] at H; exact H) | (simp only [hji8] at H ⊢; exact H)
     (try rw [hji8] at A2)
     (try rw [hji8] at A4)
     have hji8_ : (IntKind.i64.wrap (1 * 2 ^ min a0_1.toNat 64)) = ji8 := hji8
     have hji8z : a0_1 ≤ 64 → (IntKind.i64.wrap (1 * 2 ^ a0_1.toNat)) = ji8 := shl_small hji8
     have hji8u : (IntKind.i64.wrap (2 ^ min a0_1.toNat 64)) = ji8 := by have h_ := hji8_; rw [Int.one_mul] at h_; exact h_
     have hji8v : a0_1 ≤ 64 → (IntKind.i64.wrap (2 ^ a0_1.toNat)) = ji8 := fun hle_ => by have h_ := hji8z hle_; rw [Int.one_mul] at h_; exact h_
     have hji8y : (wrap64 (1 * 2 ^ min a0_1.toNat 64)) = ji8 := (i64_w _).symm.trans hji8_
     have hji8x : a0_1 ≤ 64 → (wrap64 (1 * 2 ^ a0_1.toNat)) = ji8 := fun h_ => (i64_w _).symm.trans (hji8z h_)
     replace H := Option.bind_eq_some_iff.mp H
     obtain ⟨t212, A90, H⟩ := H
     replace H : (some t212) = some r := H
     have A9 := A_ A90
     clear A90
     obtain rfl := Option.some.inj H
     go_enter Try.func79, Try.ntmps79
     go_wp2_with (first | (refine gd_ 1 ?_; (try (refine gate_guard (by rfl) ?_; dsimp only)); refine bx_ 1 #[.int .i64 a0_0, .int .i64 a0_1, .slice A0_2 l0_2.length c0_2] 26 ?_; intro gb209 hg w10 hbox hb; have BK209 := A_ (hbox); have GW209 := A_ ((ts_ hg : w.heap.size ≤ gb209)); have GE209 := A_ ((ts_ hg : w.heap.size ≤ gb209)); replace HB := A_ (below_step tb_ hb); clear hb hbox hg; obtain ⟨hcz11_0, hcz11_1, hcz11_2, hfz11_0, hfz11_1, hfz11_2⟩ := cf3_ BK209.out) | (go_at_call 149; (with_reducible refine (spec_boSide.calls a0_0 true _ A2.out).mono ?_); rintro e w' ⟨rfl, ⟨nd, rfl⟩⟩; (try exact dn_)) | (go_at_call 149; (with_reducible refine (spec_boSide.calls a0_1 true _ A4.out).mono ?_); rintro e w' ⟨rfl, ⟨nd, rfl⟩⟩; (try exact dn_)) | (go_at_call 150; (with_reducible refine (spec_l1All.calls k _ _ l0_2 0 (wrap64 ((ji8) - 1)) t212 _ ?side1 ?side2 A9.out).mono ?_); (case side1 => repeat (first | exact (Kd.C_below HR0_2.out tb_) | (with_reducible refine Kd.C_alloc ?_ _) | (with_reducible refine Kd.C_drewN ?_ _) | (with_reducible refine Kd.C_drew ?_))); (case side2 => exact HC0_2.out); rintro e w' ⟨rfl, ⟨nd, rfl⟩⟩; (try exact dn_)))
     repeat (go_quiet (first | (refine gd_ 1 ?_; (try (refine gate_guard (by rfl) ?_; dsimp only)); refine bx_ 1 #[.int .i64 a0_0, .int .i64 a0_1, .slice A0_2 l0_2.length c0_2] 26 ?_; intro gb209 hg w10 hbox hb; have BK209 := A_ (hbox); have GW209 := A_ ((ts_ hg : w.heap.size ≤ gb209)); have GE209 := A_ ((ts_ hg : w.heap.size ≤ gb209)); replace HB := A_ (below_step tb_ hb); clear hb hbox hg; obtain ⟨hcz11_0, hcz11_1, hcz11_2, hfz11_0, hfz11_1, hfz11_2⟩ := cf3_ BK209.out) | (go_at_call 149; (with_reducible refine (spec_boSide.calls a0_0 true _ A2.out).mono ?_); rintro e w' ⟨rfl, ⟨nd, rfl⟩⟩; (try exact dn_)) | (go_at_call 149; (with_reducible refine (spec_boSide.calls a0_1 true _ A4.out).mono ?_); rintro e w' ⟨rfl, ⟨nd, rfl⟩⟩; (try exact dn_)) | (go_at_call 150; (with_reducible refine (spec_l1All.calls k _ _ l0_2 0 (wrap64 ((ji8) - 1)) t212 _ ?side1 ?side2 A9.out).mono ?_); (case side1 => repeat (first | exact (Kd.C_below HR0_2.out tb_) | (with_reducible refine Kd.C_alloc ?_ _) | (with_reducible refine Kd.C_drewN ?_ _) | (with_reducible refine Kd.C_drew ?_))); (case side2 => exact HC0_2.out); rintro e w' ⟨rfl, ⟨nd, rfl⟩⟩; (try exact dn_))); try go_wp2_with (first | (refine gd_ 1 ?_; (try (refine gate_guard (by rfl) ?_; dsimp only)); refine bx_ 1 #[.int .i64 a0_0, .int .i64 a0_1, .slice A0_2 l0_2.length c0_2] 26 ?_; intro gb209 hg w10 hbox hb; have BK209 := A_ (hbox); have GW209 := A_ ((ts_ hg : w.heap.size ≤ gb209)); have GE209 := A_ ((ts_ hg : w.heap.size ≤ gb209)); replace HB := A_ (below_step tb_ hb); clear hb hbox hg; obtain ⟨hcz11_0, hcz11_1, hcz11_2, hfz11_0, hfz11_1, hfz11_2⟩ := cf3_ BK209.out) | (go_at_call 149; (with_reducible refine (spec_boSide.calls a0_0 true _ A2.out).mono ?_); rintro e w' ⟨rfl, ⟨nd, rfl⟩⟩; (try exact dn_)) | (go_at_call 149; (with_reducible refine (spec_boSide.calls a0_1 true _ A4.out).mono ?_); rintro e w' ⟨rfl, ⟨nd, rfl⟩⟩; (try exact dn_)) | (go_at_call 150; (with_reducible refine (spec_l1All.calls k _ _ l0_2 0 (wrap64 ((ji8) - 1)) t212 _ ?side1 ?side2 A9.out).mono ?_); (case side1 => repeat (first | exact (Kd.C_below HR0_2.out tb_) | (with_reducible refine Kd.C_alloc ?_ _) | (with_reducible refine Kd.C_drewN ?_ _) | (with_reducible refine Kd.C_drew ?_))); (case side2 => exact HC0_2.out); rintro e w' ⟨rfl, ⟨nd, rfl⟩⟩; (try exact dn_))))
     go_ret
     exact ⟨by first | rfl | (simp [errW_none, errW_some] <;> rfl) | (simp only [← hji8]; first | rfl | (simp [errW_none, errW_some] <;> rfl)) | (simp [*, errW_none, errW_some] <;> rfl), tb_⟩
    ·
     rw [if_neg c7] at H
     exact absurd H (by simp)
   ·
    rw [if_neg c6] at H
    have c6b0 : ((l0_2.length : Int) == a0_0) = false := beq_eq_false_iff_ne.mpr c6
    have c6b1 : ((l0_2.length : Int) != a0_0) = true := bne_iff_ne.mpr c6
    obtain rfl := Option.some.inj H
    go_enter Try.func79, Try.ntmps79
    go_wp2_with (first | (refine gd_ 1 ?_; (try (refine gate_guard (by rfl) ?_; dsimp only)); refine bx_ 1 #[.int .i64 a0_0, .int .i64 a0_1, .slice A0_2 l0_2.length c0_2] 26 ?_; intro gb209 hg w12 hbox hb; have BK209 := A_ (hbox); have GW209 := A_ ((ts_ hg : w.heap.size ≤ gb209)); have GE209 := A_ ((ts_ hg : w.heap.size ≤ gb209)); replace HB := A_ (below_step tb_ hb); clear hb hbox hg; obtain ⟨hcz13_0, hcz13_1, hcz13_2, hfz13_0, hfz13_1, hfz13_2⟩ := cf3_ BK209.out) | (go_at_call 149; (with_reducible refine (spec_boSide.calls a0_0 true _ A2.out).mono ?_); rintro e w' ⟨rfl, ⟨nd, rfl⟩⟩; (try exact dn_)) | (go_at_call 149; (with_reducible refine (spec_boSide.calls a0_1 true _ A4.out).mono ?_); rintro e w' ⟨rfl, ⟨nd, rfl⟩⟩; (try exact dn_)))
    repeat (go_quiet (first | (refine gd_ 1 ?_; (try (refine gate_guard (by rfl) ?_; dsimp only)); refine bx_ 1 #[.int .i64 a0_0, .int .i64 a0_1, .slice A0_2 l0_2.length c0_2] 26 ?_; intro gb209 hg w12 hbox hb; have BK209 := A_ (hbox); have GW209 := A_ ((ts_ hg : w.heap.size ≤ gb209)); have GE209 := A_ ((ts_ hg : w.heap.size ≤ gb209)); replace HB := A_ (below_step tb_ hb); clear hb hbox hg; obtain ⟨hcz13_0, hcz13_1, hcz13_2, hfz13_0, hfz13_1, hfz13_2⟩ := cf3_ BK209.out) | (go_at_call 149; (with_reducible refine (spec_boSide.calls a0_0 true _ A2.out).mono ?_); rintro e w' ⟨rfl, ⟨nd, rfl⟩⟩; (try exact dn_)) | (go_at_call 149; (with_reducible refine (spec_boSide.calls a0_1 true _ A4.out).mono ?_); rintro e w' ⟨rfl, ⟨nd, rfl⟩⟩; (try exact dn_))); try go_wp2_with (first | (refine gd_ 1 ?_; (try (refine gate_guard (by rfl) ?_; dsimp only)); refine bx_ 1 #[.int .i64 a0_0, .int .i64 a0_1, .slice A0_2 l0_2.length c0_2] 26 ?_; intro gb209 hg w12 hbox hb; have BK209 := A_ (hbox); have GW209 := A_ ((ts_ hg : w.heap.size ≤ gb209)); have GE209 := A_ ((ts_ hg : w.heap.size ≤ gb209)); replace HB := A_ (below_step tb_ hb); clear hb hbox hg; obtain ⟨hcz13_0, hcz13_1, hcz13_2, hfz13_0, hfz13_1, hfz13_2⟩ := cf3_ BK209.out) | (go_at_call 149; (with_reducible refine (spec_boSide.calls a0_0 true _ A2.out).mono ?_); rintro e w' ⟨rfl, ⟨nd, rfl⟩⟩; (try exact dn_)) | (go_at_call 149; (with_reducible refine (spec_boSide.calls a0_1 true _ A4.out).mono ?_); rintro e w' ⟨rfl, ⟨nd, rfl⟩⟩; (try exact dn_))))
    go_ret
    exact ⟨te_, tb_⟩
  ·
   replace c5 := Bool.eq_false_iff.mpr c5
   subst c5
   have H1 : (some false) = some r := by rw [if_neg (show ¬ (false = true) by decide)] at H; exact H
   clear H
   have H := H1
   clear H1
   obtain rfl := Option.some.inj H
   go_enter Try.func79, Try.ntmps79
   go_wp2_with (first | (refine gd_ 1 ?_; (try (refine gate_guard (by rfl) ?_; dsimp only)); refine bx_ 1 #[.int .i64 a0_0, .int .i64 a0_1, .slice A0_2 l0_2.length c0_2] 26 ?_; intro gb209 hg w14 hbox hb; have BK209 := A_ (hbox); have GW209 := A_ ((ts_ hg : w.heap.size ≤ gb209)); have GE209 := A_ ((ts_ hg : w.heap.size ≤ gb209)); replace HB := A_ (below_step tb_ hb); clear hb hbox hg; obtain ⟨hcz15_0, hcz15_1, hcz15_2, hfz15_0, hfz15_1, hfz15_2⟩ := cf3_ BK209.out) | (go_at_call 149; (with_reducible refine (spec_boSide.calls a0_0 true _ A2.out).mono ?_); rintro e w' ⟨rfl, ⟨nd, rfl⟩⟩; (try exact dn_)) | (go_at_call 149; (with_reducible refine (spec_boSide.calls a0_1 false _ A4.out).mono ?_); rintro e w' ⟨rfl, ⟨nd, rfl⟩⟩; (try exact dn_)))
   repeat (go_quiet (first | (refine gd_ 1 ?_; (try (refine gate_guard (by rfl) ?_; dsimp only)); refine bx_ 1 #[.int .i64 a0_0, .int .i64 a0_1, .slice A0_2 l0_2.length c0_2] 26 ?_; intro gb209 hg w14 hbox hb; have BK209 := A_ (hbox); have GW209 := A_ ((ts_ hg : w.heap.size ≤ gb209)); have GE209 := A_ ((ts_ hg : w.heap.size ≤ gb209)); replace HB := A_ (below_step tb_ hb); clear hb hbox hg; obtain ⟨hcz15_0, hcz15_1, hcz15_2, hfz15_0, hfz15_1, hfz15_2⟩ := cf3_ BK209.out) | (go_at_call 149; (with_reducible refine (spec_boSide.calls a0_0 true _ A2.out).mono ?_); rintro e w' ⟨rfl, ⟨nd, rfl⟩⟩; (try exact dn_)) | (go_at_call 149; (with_reducible refine (spec_boSide.calls a0_1 false _ A4.out).mono ?_); rintro e w' ⟨rfl, ⟨nd, rfl⟩⟩; (try exact dn_))); try go_wp2_with (first | (refine gd_ 1 ?_; (try (refine gate_guard (by rfl) ?_; dsimp only)); refine bx_ 1 #[.int .i64 a0_0, .int .i64 a0_1, .slice A0_2 l0_2.length c0_2] 26 ?_; intro gb209 hg w14 hbox hb; have BK209 := A_ (hbox); have GW209 := A_ ((ts_ hg : w.heap.size ≤ gb209)); have GE209 := A_ ((ts_ hg : w.heap.size ≤ gb209)); replace HB := A_ (below_step tb_ hb); clear hb hbox hg; obtain ⟨hcz15_0, hcz15_1, hcz15_2, hfz15_0, hfz15_1, hfz15_2⟩ := cf3_ BK209.out) | (go_at_call 149; (with_reducible refine (spec_boSide.calls a0_0 true _ A2.out).mono ?_); rintro e w' ⟨rfl, ⟨nd, rfl⟩⟩; (try exact dn_)) | (go_at_call 149; (with_reducible refine (spec_boSide.calls a0_1 false _ A4.out).mono ?_); rintro e w' ⟨rfl, ⟨nd, rfl⟩⟩; (try exact dn_))))
   go_ret
   exact ⟨te_, tb_⟩
 ·
  replace c3 := Bool.eq_false_iff.mpr c3
  subst c3
  have H1 : (some false) = some r := by rw [if_neg (show ¬ (false = true) by decide)] at H; exact H
  clear H
  have H := H1
  clear H1
  obtain rfl := Option.some.inj H
  go_enter Try.func79, Try.ntmps79
  go_wp2_with (first | (refine gd_ 1 ?_; (try (refine gate_guard (by rfl) ?_; dsimp only)); refine bx_ 1 #[.int .i64 a0_0, .int .i64 a0_1, .slice A0_2 l0_2.length c0_2] 26 ?_; intro gb209 hg w16 hbox hb; have BK209 := A_ (hbox); have GW209 := A_ ((ts_ hg : w.heap.size ≤ gb209)); have GE209 := A_ ((ts_ hg : w.heap.size ≤ gb209)); replace HB := A_ (below_step tb_ hb); clear hb hbox hg; obtain ⟨hcz17_0, hcz17_1, hcz17_2, hfz17_0, hfz17_1, hfz17_2⟩ := cf3_ BK209.out) | (go_at_call 149; (with_reducible refine (spec_boSide.calls a0_0 false _ A2.out).mono ?_); rintro e w' ⟨rfl, ⟨nd, rfl⟩⟩; (try exact dn_)))
  repeat (go_quiet (first | (refine gd_ 1 ?_; (try (refine gate_guard (by rfl) ?_; dsimp only)); refine bx_ 1 #[.int .i64 a0_0, .int .i64 a0_1, .slice A0_2 l0_2.length c0_2] 26 ?_; intro gb209 hg w16 hbox hb; have BK209 := A_ (hbox); have GW209 := A_ ((ts_ hg : w.heap.size ≤ gb209)); have GE209 := A_ ((ts_ hg : w.heap.size ≤ gb209)); replace HB := A_ (below_step tb_ hb); clear hb hbox hg; obtain ⟨hcz17_0, hcz17_1, hcz17_2, hfz17_0, hfz17_1, hfz17_2⟩ := cf3_ BK209.out) | (go_at_call 149; (with_reducible refine (spec_boSide.calls a0_0 false _ A2.out).mono ?_); rintro e w' ⟨rfl, ⟨nd, rfl⟩⟩; (try exact dn_))); try go_wp2_with (first | (refine gd_ 1 ?_; (try (refine gate_guard (by rfl) ?_; dsimp only)); refine bx_ 1 #[.int .i64 a0_0, .int .i64 a0_1, .slice A0_2 l0_2.length c0_2] 26 ?_; intro gb209 hg w16 hbox hb; have BK209 := A_ (hbox); have GW209 := A_ ((ts_ hg : w.heap.size ≤ gb209)); have GE209 := A_ ((ts_ hg : w.heap.size ≤ gb209)); replace HB := A_ (below_step tb_ hb); clear hb hbox hg; obtain ⟨hcz17_0, hcz17_1, hcz17_2, hfz17_0, hfz17_1, hfz17_2⟩ := cf3_ BK209.out) | (go_at_call 149; (with_reducible refine (spec_boSide.calls a0_0 false _ A2.out).mono ?_); rintro e w' ⟨rfl, ⟨nd, rfl⟩⟩; (try exact dn_))))
  go_ret
  exact ⟨te_, tb_⟩

/-! ### spec_boHas: function 121 -/
def spec_boHas.f (a0_0 : Int) (a0_1 : Int) (l0_2 : List Int) (a1 : Int) (a2 : Int) : Option (Bool) := if 0 ≤ a1 then (if a1 < (l0_2.length : Int) then (if 0 ≤ a2 then (some ((Int.tmod (shr .i64 (rd l0_2 a1) a2) 2) == 1)) else (none)) else (none)) else (none)
theorem spec_boHas.calls (a0_0 : Int) (a0_1 : Int) (A0_2 : Option Addr) (c0_2 : Nat) (l0_2 : List Int) (a1 : Int) (a2 : Int) (r : Bool) (w : World) (hr0_2 : Kd.C (Kd.int .i64) w A0_2 l0_2.length l0_2) (hc0_2 : l0_2.length ≤ c0_2) (h : spec_boHas.f a0_0 a0_1 l0_2 a1 a2 = some r) :
  Calls Try.prog 121 #[.agg #[.int .i64 a0_0, .int .i64 a0_1, .slice A0_2 l0_2.length c0_2], .int .i64 a1, .int .i64 a2] w fun e w' => e = .returned (.bool r) ∧ Below w.heap.size w w' := by
 have hu26 := Try.underlying26
 have HR0_2 := A_ hr0_2
 have HC0_2 := A_ hc0_2
 clear hr0_2 hc0_2
 have HB := A_ (Below.refl w.heap.size w)
 have H : (if 0 ≤ a1 then (if a1 < (l0_2.length : Int) then (if 0 ≤ a2 then (some ((Int.tmod (shr .i64 (rd l0_2 a1) a2) 2) == 1)) else (none)) else (none)) else (none)) = some r := h
 clear h
 by_cases c4 : 0 ≤ a1
 ·
  rw [if_pos c4] at H
  have c4b0 := decide_eq_true c4
  clear c4
  by_cases c5 : a1 < (l0_2.length : Int)
  ·
   rw [if_pos c5] at H
   have c5b0 := decide_eq_true c5
   clear c5
   by_cases c6 : 0 ≤ a2
   ·
    rw [if_pos c6] at H
    have c6b0 := eq_true c6
    have c6b1 := decide_eq_true c6
    clear c6
    obtain ⟨ji7, hji7⟩ : ∃ j_ : Int, (shr .i64 (rd l0_2 a1) a2) = j_ := ⟨_, rfl⟩
    replace H : (some ((Int.tmod (ji7) 2) == 1)) = some r := by first | (rw [hji7] at H; exact H) | (simp only [hji7] at H ⊢; exact H)
    have hji7_ : ((rd l0_2 a1) / 2 ^ min a2.toNat 64) = ji7 := hji7
    have hji7z : a2 ≤ 64 → ((rd l0_2 a1) / 2 ^ a2.toNat) = ji7 := shr_small hji7
    obtain rfl := Option.some.inj H
    go_enter Try.func121, Try.ntmps121
    go_wp2_with (first | (refine gd_ 3 ?_; refine bx_ 3 #[.int .i64 a0_0, .int .i64 a0_1, .slice A0_2 l0_2.length c0_2] 26 ?_; intro gb213 hg w8 hbox hb; have BK213 := A_ (hbox); have GW213 := A_ ((ts_ hg : w.heap.size ≤ gb213)); have GE213 := A_ ((ts_ hg : w.heap.size ≤ gb213)); replace HB := A_ (below_step tb_ hb); clear hb hbox hg; obtain ⟨hcz9_0, hcz9_1, hcz9_2, hfz9_0, hfz9_1, hfz9_2⟩ := cf3_ BK213.out; have p214 : 0 ≤ (a1 : Int) := od_; have q214 : a1 < (l0_2.length : Int) := od_; obtain ⟨ad214, e214, hx214_0⟩ := Kd.at_int HR0_2.out a1 p214 q214; cases e214; (try replace hx214_0 := (HB.out.cell (World.block_lt_of_cell? w _ hx214_0)).trans hx214_0); replace p214 := eq_true p214; replace q214 := eq_true q214))
    go_ret
    exact ⟨by first | rfl | (simp [errW_none, errW_some] <;> rfl) | (simp only [← hji7]; first | rfl | (simp [errW_none, errW_some] <;> rfl)) | (simp [*, errW_none, errW_some] <;> rfl), tb_⟩
   ·
    rw [if_neg c6] at H
    exact absurd H (by simp)
  ·
   rw [if_neg c5] at H
   exact absurd H (by simp)
 ·
  rw [if_neg c4] at H
  exact absurd H (by simp)

/-! ### spec_boCells: function 117 -/
mutual
def spec_boCells.l0 : Nat → List (List Int) → Int → Int → Int → List Int → Option ((List (List Int)))
 | 0, _, _, _, _, _ => none
 | k + 1, x3, x4, x216000, x216001, x216002 => if x4 < x216000 then (spec_boCells.l1 k x3 x4 0 x216000 x216001 x216002) else (some x3)
def spec_boCells.l1 : Nat → List (List Int) → Int → Int → Int → Int → List Int → Option ((List (List Int)))
 | 0, _, _, _, _, _, _ => none
 | k + 1, x3, x4, x5, x216000, x216001, x216002 => if x5 < x216001 then ((spec_boHas.f x216000 x216001 x216002 x4 x5).bind fun t216 => (if t216 = true then (if x3.length < 5864062014805 then (spec_boCells.l1 k (x3 ++ [(([x4, x5] : List Int))]) x4 (wrap64 (x5 + 1)) x216000 x216001 x216002) else (none)) else (spec_boCells.l1 k x3 x4 (wrap64 (x5 + 1)) x216000 x216001 x216002))) else (spec_boCells.l0 k x3 (wrap64 (x4 + 1)) x216000 x216001 x216002)
end
def spec_boCells.f (k : Nat) (a0_0 : Int) (a0_1 : Int) (l0_2 : List Int) : Option ((List (List Int))) := spec_boCells.l0 k ([] : List (List Int)) 0 a0_0 a0_1 l0_2
theorem spec_boCells.mono_l : ∀ k, (∀ y0 y1 y2 y3 y4, LeO (spec_boCells.l0 k y0 y1 y2 y3 y4) (spec_boCells.l0 (k + 1) y0 y1 y2 y3 y4)) ∧ (∀ y0 y1 y2 y3 y4 y5, LeO (spec_boCells.l1 k y0 y1 y2 y3 y4 y5) (spec_boCells.l1 (k + 1) y0 y1 y2 y3 y4 y5))
 | 0 => ⟨fun _ _ _ _ _ r h => by simp [spec_boCells.l0] at h, fun _ _ _ _ _ _ r h => by simp [spec_boCells.l1] at h⟩
 | k + 1 => by
  obtain ⟨ih0, ih1⟩ := spec_boCells.mono_l k
  refine ⟨?_, ?_⟩
  ·
   intro y0 y1 y2 y3 y4
   unfold spec_boCells.l0
   repeat' first | (with_reducible first | exact ih0 _ _ _ _ _ | exact ih1 _ _ _ _ _ _ | exact LeO.refl _ | exact LeO.none _ | refine LeO.ite ?_ ?_ | refine LeO.bind ?_ (fun _ => ?_)) | exact ih0 _ _ _ _ _ | exact ih1 _ _ _ _ _ _ | exact LeO.none _ | refine LeO.ite ?_ ?_ | refine LeO.bind ?_ (fun _ => ?_)
  ·
   intro y0 y1 y2 y3 y4 y5
   unfold spec_boCells.l1
   repeat' first | (with_reducible first | exact ih0 _ _ _ _ _ | exact ih1 _ _ _ _ _ _ | exact LeO.refl _ | exact LeO.none _ | refine LeO.ite ?_ ?_ | refine LeO.bind ?_ (fun _ => ?_)) | exact ih0 _ _ _ _ _ | exact ih1 _ _ _ _ _ _ | exact LeO.none _ | refine LeO.ite ?_ ?_ | refine LeO.bind ?_ (fun _ => ?_)
theorem spec_boCells.mono : ∀ a0 a1 a2 k, LeO (spec_boCells.f k a0 a1 a2) (spec_boCells.f (k + 1) a0 a1 a2) := by
 intro a0 a1 a2 k
 obtain ⟨ih0, ih1⟩ := spec_boCells.mono_l k
 unfold spec_boCells.f
 repeat' first | (with_reducible first | exact ih0 _ _ _ _ _ | exact ih1 _ _ _ _ _ _ | exact LeO.refl _ | exact LeO.none _ | refine LeO.ite ?_ ?_ | refine LeO.bind ?_ (fun _ => ?_)) | exact ih0 _ _ _ _ _ | exact ih1 _ _ _ _ _ _ | exact LeO.none _ | refine LeO.ite ?_ ?_ | refine LeO.bind ?_ (fun _ => ?_)
theorem spec_boCells.calls (k : Nat) (a0_0 : Int) (a0_1 : Int) (A0_2 : Option Addr) (c0_2 : Nat) (l0_2 : List Int) (r : List (List Int)) (w : World) (hr0_2 : Kd.C (Kd.int .i64) w A0_2 l0_2.length l0_2) (hc0_2 : l0_2.length ≤ c0_2) (h : spec_boCells.f k a0_0 a0_1 l0_2 = some r) :
  Calls Try.prog 117 #[.agg #[.int .i64 a0_0, .int .i64 a0_1, .slice A0_2 l0_2.length c0_2]] w fun e w' => ∃ v0_ : Value, e = .returned (v0_) ∧ Kd.S (Kd.slice 3 (Kd.int .i64)) 24 w' w.heap.size (fun _ => True) v0_ r ∧ Below w.heap.size w w' := by
 have hu26 := Try.underlying26
 have HR0_2 := A_ hr0_2
 have HC0_2 := A_ hc0_2
 clear hr0_2 hc0_2
 have HB := A_ (Below.refl w.heap.size w)
 have H : (spec_boCells.l0 k ([] : List (List Int)) 0 a0_0 a0_1 l0_2) = some r := h
 clear h
 have H' := A_ H
 clear H
 go_enter Try.func117, Try.ntmps117
 go_wp2_with (first | (refine gd_ 1 ?_; refine bx_ 1 #[.int .i64 a0_0, .int .i64 a0_1, .slice A0_2 l0_2.length c0_2] 26 ?_; intro gb215 hg w2 hbox hb; have BK215 := A_ (hbox); have GW215 := A_ ((ts_ hg : w.heap.size ≤ gb215)); have GE215 := A_ ((ts_ hg : w.heap.size ≤ gb215)); replace HB := A_ (below_step tb_ hb); clear hb hbox hg))
 go_loopg [3, 4] k (fun kq v3 v4 w' => ∃ (x3_1 : List (List Int)) (x4_1 : Int), v4 = .int .i64 x4_1 ∧ Aside0 (spec_boCells.l0 kq x3_1 x4_1 a0_0 a0_1 l0_2 = some r) ∧ Aside0 (kq ≤ k) ∧ Aside0 (Kd.S (Kd.slice 3 (Kd.int .i64)) 24 w' w.heap.size (fun _ => True) v3 x3_1) ∧ Aside0 (w'.heap[gb215]? = some (.cells #[.int .i64 a0_0, .int .i64 a0_1, (.slice A0_2 l0_2.length c0_2)] 26 (0, 0))) ∧ Aside0 (Below w.heap.size w w'))
 case atStart => exact ⟨(([] : List (List Int))), (0), tf_, H', ⟨Nat.le_refl _⟩, ⟨by first | exact Kd.S_nil _ _ _ _ _ | exact Kd.N_nil _ _ _ _ _ | exact Kd.V_nil _ _ _ _ _ | exact Kd.Q_nil _ _ _ _ _ | exact Kd.R_nil _ _ _ _ _⟩, ⟨tk_ BK215⟩, ⟨tb_⟩⟩
 case round =>
  clear H'
  try clear c1
  try clear p2
  obtain ⟨x3_1, x4_1, rfl, HA, HK1, HO_3, BK215, HB⟩ := hrel
  cases gk with
  | zero => exact absurd HA.out (by simp [spec_boCells.l0])
  | succ k1 =>
   have H := HA.out
   clear HA
   simp only [spec_boCells.l0] at H
   by_cases c3 : x4_1 < a0_0
   ·
    rw [if_pos c3] at H
    have c3b0 := decide_eq_true c3
    clear c3
    have H' := A_ H
    clear H
    obtain ⟨hcz4_0, hcz4_1, hcz4_2, hfz4_0, hfz4_1, hfz4_2⟩ := cf3_ BK215.out
    go_wp2
    go_loopg [3, 5] k1 (fun kq v3 v5 w' => ∃ (x3_2 : List (List Int)) (x5_2 : Int), v5 = .int .i64 x5_2 ∧ Aside0 (spec_boCells.l1 kq x3_2 x4_1 x5_2 a0_0 a0_1 l0_2 = some r) ∧ Aside0 (kq ≤ k1) ∧ Aside0 (Kd.S (Kd.slice 3 (Kd.int .i64)) 24 w' w.heap.size (fun _ => True) v3 x3_2) ∧ Aside0 (w'.heap[gb215]? = some (.cells #[.int .i64 a0_0, .int .i64 a0_1, (.slice A0_2 l0_2.length c0_2)] 26 (0, 0))) ∧ Aside0 (Below w.heap.size w w'))
    case atStart => exact ⟨(x3_1), (0), tf_, H', ⟨Nat.le_refl _⟩, ⟨ts1_x HO_3.out⟩, ⟨tk_ BK215⟩, ⟨tb_⟩⟩
    case round =>
     clear H'
     try clear c1
     try clear p2
     try clear c3
     try clear c3b0
     try clear hcz4_0
     try clear hcz4_1
     try clear hcz4_2
     try clear hfz4_0
     try clear hfz4_1
     try clear hfz4_2
     try clear p2
     obtain ⟨x3_2, x5_2, rfl, HA, HK2, HO_3, BK215, HB⟩ := hrel
     cases gk with
     | zero => exact absurd HA.out (by simp [spec_boCells.l1])
     | succ k2 =>
      have H := HA.out
      clear HA
      simp only [spec_boCells.l1] at H
      by_cases c5 : x5_2 < a0_1
      ·
       rw [if_pos c5] at H
       have c5b0 := decide_eq_true c5
       clear c5
       replace H := Option.bind_eq_some_iff.mp H
       obtain ⟨t216, A60, H⟩ := H
       replace H : (if t216 = true then (if x3_2.length < 5864062014805 then (spec_boCells.l1 k2 (x3_2 ++ [(([x4_1, x5_2] : List Int))]) x4_1 (wrap64 (x5_2 + 1)) a0_0 a0_1 l0_2) else (none)) else (spec_boCells.l1 k2 x3_2 x4_1 (wrap64 (x5_2 + 1)) a0_0 a0_1 l0_2)) = some r := H
       have A6 := A_ A60
       clear A60
       by_cases c7 : t216 = true
       ·
        subst c7
        have H1 : (if x3_2.length < 5864062014805 then (spec_boCells.l1 k2 (x3_2 ++ [(([x4_1, x5_2] : List Int))]) x4_1 (wrap64 (x5_2 + 1)) a0_0 a0_1 l0_2) else (none)) = some r := by rw [if_pos rfl] at H; exact H
        clear H
        have H := H1
        clear H1
        obtain ⟨y217, hy217⟩ : ∃ y_ : List Int, y_ = (([x4_1, x5_2] : List Int)) := ⟨_, rfl⟩
        replace H : (if x3_2.length < 5864062014805 then (spec_boCells.l1 k2 (x3_2 ++ [y217]) x4_1 (wrap64 (x5_2 + 1)) a0_0 a0_1 l0_2) else (none)) = some r := ty_ hy217 H
        have Ny217 := A_ hy217
        clear hy217
        by_cases c8 : x3_2.length < 5864062014805
        ·
         rw [if_pos c8] at H
         have LMc8 := A_ c8
         clear c8
         obtain ⟨y220, hy220⟩ : ∃ y_ : List (List Int), y_ = (x3_2 ++ [y217]) := ⟨_, rfl⟩
         replace H : (spec_boCells.l1 k2 y220 x4_1 (wrap64 (x5_2 + 1)) a0_0 a0_1 l0_2) = some r := ty_ hy220 H
         have Ny220 := A_ hy220
         clear hy220
         have H' := A_ H
         clear H
         obtain ⟨hcz9_0, hcz9_1, hcz9_2, hfz9_0, hfz9_1, hfz9_2⟩ := cf3_ BK215.out
         go_wp2_with (first | (refine gc_ 121 ?_; refine goesT_ (some 21) Try.func121 #[.agg #[.int .i64 a0_0, .int .i64 a0_1, .slice A0_2 l0_2.length c0_2], .int .i64 x4_1, .int .i64 x5_2] ?_; (with_reducible refine (spec_boHas.calls a0_0 a0_1 _ _ l0_2 x4_1 x5_2 true _ ?side1 ?side2 A6.out).mono ?_); (case side1 => exact tc_ HR0_2.out); (case side2 => exact HC0_2.out); rintro e w10 ⟨rfl, hb⟩; refine ⟨_, rfl, ?_⟩; replace HO_3 := A_ (Kd.S_below (ts1_x HO_3.out) hb); replace BK215 := A_ (blk_below (g := gb215) (o := .cells #[.int .i64 a0_0, .int .i64 a0_1, .slice A0_2 l0_2.length c0_2] 26 (0, 0)) (tk_ BK215) hb); replace HB := A_ (below_step tb_ hb); (try clear hb)) | (refine gd_ 25 ?_; refine Kd.R_lit (Kd.int .i64) _ 3 ?hg (N := 25) ?hd (xs := ([x4_1, x5_2] : List Int)) (inner := [.int .i64 x4_1, .int .i64 x5_2]) (ok := fun _ => True) (okp := fun _ => True) ?hr ?hp (fun _ hk => hk) trivial (Below.refl _ _) (Nat.le_refl _) (by simp) ?_; (case hd => rfl); (case hg => rfl); (case hr => first | (go_simp; done) | (go_simp; rfl)); (case hp => exact (Reps.one (show Kd.M (Kd.int .i64) _ _ _ x4_1 [.int .i64 x4_1] from rfl) (Reps.one (show Kd.M (Kd.int .i64) _ _ _ x5_2 [.int .i64 x5_2] from rfl) (Reps.none _ _)))); intro v218 w11 ho12 hb hg_ hnew_; clear hg_ hnew_; (first | rw [← Ny217.out] at ho12 | (simp only [Int.reduceToNat] at ho12; rw [← Ny217.out] at ho12)); replace HO_3 := A_ (Kd.S_elder' (ts1_x HO_3.out) (Kd.R_base ho12) hb); have HO219 := A_ (Kd.R_lower ho12 (below_size tb_)); replace BK215 := A_ (blk_below (g := gb215) (o := .cells #[.int .i64 a0_0, .int .i64 a0_1, .slice A0_2 l0_2.length c0_2] 26 (0, 0)) (tk_ BK215) hb); replace HB := A_ (below_step tb_ hb); clear hb ho12; obtain ⟨Ao14, co14, eo14⟩ := Kd.R_slice HO219.out; subst eo14) | ((with_reducible refine gate_builtin (b := .append) (xs := #[.tmp 22, .tmp 26]) rfl ?_); at_builtin; refine Kd.S_append (Kd.slice 3 (Kd.int .i64)) (w0 := w) w.heap.size rfl (.tmp 22) (.tmp 26) 27 24 (.slice none 0 0) 24 rfl Try.underlying27 info24 rfl (by decide) (by omega) u3 x3_2 y217 [.slice Ao14 y217.length co14] (fun _ => True) (fun k_ => some k_ = (.slice Ao14 y217.length co14 : Value).ownBlock) rfl rfl ?aP (fun k_ hk_ => ((Kd.R_mono (ok' := fun k_ => ((fun _ => True)) k_ ∧ some k_ ≠ (u3 : Value).ownBlock) (Kd.R_apart' (HO219.out) (Kd.S_typed HO_3.out) (by decide)) (fun k_ hk => ⟨trivial, hk.2⟩))).1 k_ hk_.symm) ?aF ?aO ?aB ?aS ?aL ?_; (case aP => exact Kd.M_row (Kd.R_mono (Kd.R_tight rfl (Kd.R_mono (ok' := fun k_ => ((fun _ => True)) k_ ∧ some k_ ≠ (u3 : Value).ownBlock) (Kd.R_apart' (HO219.out) (Kd.S_typed HO_3.out) (by decide)) (fun k_ hk => ⟨trivial, hk.2⟩))) (fun _ h_ => h_))); (case aB => exact tb_); (case aF => exact (fun _ _ => trivial)); (case aO => exact (ts1_ (h := by exact Kd.S_mono HO_3.out (fun k_ hk => ⟨trivial, fun e_ => hk.2 e_⟩)))); (case aS => exact (below_size tb_)); (case aL => have := LMc8.out; omega); intro v221 w13 ho hb hg hat; rw [← Ny220.out] at ho; have n0_ := A_ (blk_grown (g := gb215) (o := .cells #[.int .i64 a0_0, .int .i64 a0_1, .slice A0_2 l0_2.length c0_2] 26 (0, 0)) (tk_ BK215) hg (Kd.S_ne HO_3.out BK215.out (by decide))); have n1_ := A_ (hb); have n2_ := A_ (ho); clear BK215; clear HB; clear HO_3; clear HO219; have BK215 := n0_; have HB := n1_; have HO222 := n2_; clear n0_ n1_ n2_; clear ho hb hg hat))
         go_roundg k2
         case measure => have := HK1.out; have := HK2.out; omega
         case rel => exact ⟨(y220), (wrap64 (x5_2 + 1)), tf_, H', ⟨by have := HK1.out; have := HK2.out; omega⟩, ⟨ts1_x HO222.out⟩, ⟨tk_ BK215⟩, ⟨tb_⟩⟩
        ·
         rw [if_neg c8] at H
         exact absurd H (by simp)
       ·
        replace c7 := Bool.eq_false_iff.mpr c7
        subst c7
        have H1 : (spec_boCells.l1 k2 x3_2 x4_1 (wrap64 (x5_2 + 1)) a0_0 a0_1 l0_2) = some r := by rw [if_neg (show ¬ (false = true) by decide)] at H; exact H
        clear H
        have H := H1
        clear H1
        have H' := A_ H
        clear H
        obtain ⟨hcz15_0, hcz15_1, hcz15_2, hfz15_0, hfz15_1, hfz15_2⟩ := cf3_ BK215.out
        go_wp2_with (first | (refine gc_ 121 ?_; refine goesT_ (some 21) Try.func121 #[.agg #[.int .i64 a0_0, .int .i64 a0_1, .slice A0_2 l0_2.length c0_2], .int .i64 x4_1, .int .i64 x5_2] ?_; (with_reducible refine (spec_boHas.calls a0_0 a0_1 _ _ l0_2 x4_1 x5_2 false _ ?side1 ?side2 A6.out).mono ?_); (case side1 => exact tc_ HR0_2.out); (case side2 => exact HC0_2.out); rintro e w16 ⟨rfl, hb⟩; refine ⟨_, rfl, ?_⟩; replace HO_3 := A_ (Kd.S_below (ts1_x HO_3.out) hb); replace BK215 := A_ (blk_below (g := gb215) (o := .cells #[.int .i64 a0_0, .int .i64 a0_1, .slice A0_2 l0_2.length c0_2] 26 (0, 0)) (tk_ BK215) hb); replace HB := A_ (below_step tb_ hb); (try clear hb)))
        go_roundg k2
        case measure => have := HK1.out; have := HK2.out; omega
        case rel => exact ⟨(x3_2), (wrap64 (x5_2 + 1)), tf_, H', ⟨by have := HK1.out; have := HK2.out; omega⟩, ⟨ts1_x HO_3.out⟩, ⟨tk_ BK215⟩, ⟨tb_⟩⟩
      ·
       rw [if_neg c5] at H
       have c5b0 := decide_eq_false c5
       clear c5
       have H' := A_ H
       clear H
       obtain ⟨hcz17_0, hcz17_1, hcz17_2, hfz17_0, hfz17_1, hfz17_2⟩ := cf3_ BK215.out
       go_wp2
       go_roundg k2
       case measure => have := HK1.out; have := HK2.out; omega
       case rel => exact ⟨(x3_2), (wrap64 (x4_1 + 1)), tf_, H', ⟨by have := HK1.out; have := HK2.out; omega⟩, ⟨ts1_x HO_3.out⟩, ⟨tk_ BK215⟩, ⟨tb_⟩⟩
   ·
    rw [if_neg c3] at H
    have c3b0 := decide_eq_false c3
    clear c3
    obtain rfl := Option.some.inj H
    obtain ⟨hcz18_0, hcz18_1, hcz18_2, hfz18_0, hfz18_1, hfz18_2⟩ := cf3_ BK215.out
    go_wp2
    go_ret
    exact ⟨_, te_, by (with_reducible repeat (first | apply Kd.S_alloc | apply Kd.S_drewN | apply Kd.S_drew)); exact HO_3.out, tb_⟩

/-! ### slices_IndexFunc_int_int: function 183 -/
def slices_IndexFunc_int_int.l0 : Nat → List Int → FnT93 → Int → Int → Option (Int)
 | 0, _, _, _, _ => none
 | k + 1, x0, x1, x7, x8 => if x8 < x7 then (if 0 ≤ x8 then (if x8 < (x0.length : Int) then ((FnCall93.f (rd x0 x8) x1).bind fun t225 => (if t225 = true then (some x8) else (slices_IndexFunc_int_int.l0 k x0 x1 x7 (wrap64 (x8 + 1))))) else (none)) else (none)) else (some (-1))
def slices_IndexFunc_int_int.f (k : Nat) (l0 : List Int) (a1 : FnT93) : Option (Int) := slices_IndexFunc_int_int.l0 k l0 a1 (l0.length : Int) 0
theorem slices_IndexFunc_int_int.mono_l : ∀ k, (∀ y0 y1 y2 y3, LeO (slices_IndexFunc_int_int.l0 k y0 y1 y2 y3) (slices_IndexFunc_int_int.l0 (k + 1) y0 y1 y2 y3))
 | 0 => fun _ _ _ _ r h => by simp [slices_IndexFunc_int_int.l0] at h
 | k + 1 => by
  have ih0 := slices_IndexFunc_int_int.mono_l k
  ·
   intro y0 y1 y2 y3
   unfold slices_IndexFunc_int_int.l0
   repeat' first | (with_reducible first | exact ih0 _ _ _ _ | exact LeO.refl _ | exact LeO.none _ | refine LeO.ite ?_ ?_ | refine LeO.bind ?_ (fun _ => ?_)) | exact ih0 _ _ _ _ | exact LeO.none _ | refine LeO.ite ?_ ?_ | refine LeO.bind ?_ (fun _ => ?_)
theorem slices_IndexFunc_int_int.mono : ∀ a0 a1 k, LeO (slices_IndexFunc_int_int.f k a0 a1) (slices_IndexFunc_int_int.f (k + 1) a0 a1) := by
 intro a0 a1 k
 have ih0 := slices_IndexFunc_int_int.mono_l k
 unfold slices_IndexFunc_int_int.f
 repeat' first | (with_reducible first | exact ih0 _ _ _ _ | exact LeO.refl _ | exact LeO.none _ | refine LeO.ite ?_ ?_ | refine LeO.bind ?_ (fun _ => ?_)) | exact ih0 _ _ _ _ | exact LeO.none _ | refine LeO.ite ?_ ?_ | refine LeO.bind ?_ (fun _ => ?_)
theorem slices_IndexFunc_int_int.calls (k : Nat) (A0 : Option Addr) (c0 : Nat) (l0 : List Int) (v1 : Value) (a1 : FnT93) (r : Int) (w : World) (hr0 : Kd.C (Kd.int .i64) w A0 l0.length l0) (hc0 : l0.length ≤ c0) (hF1 : FnOk93 w v1 a1) (h : slices_IndexFunc_int_int.f k l0 a1 = some r) :
  Calls Try.prog 183 #[.slice A0 l0.length c0, v1] w fun e w' => e = .returned (.int .i64 r) ∧ Below w.heap.size w w' := by
 have HR0 := A_ hr0
 have HC0 := A_ hc0
 clear hr0 hc0
 have HF1 := A_ hF1
 clear hF1
 have HB := A_ (Below.refl w.heap.size w)
 have H : (slices_IndexFunc_int_int.l0 k l0 a1 (l0.length : Int) 0) = some r := h
 clear h
 have H' := A_ H
 clear H
 go_enter Try.func183, Try.ntmps183
 go_wp2
 go_loopg [8] k (fun kq v8 w' => ∃ (x8_1 : Int), v8 = .int .i64 x8_1 ∧ Aside0 (slices_IndexFunc_int_int.l0 kq l0 a1 (l0.length : Int) x8_1 = some r) ∧ Aside0 (kq ≤ k) ∧ Aside0 (Below w.heap.size w w'))
 case atStart => exact ⟨(0), tf_, H', ⟨Nat.le_refl _⟩, ⟨tb_⟩⟩
 case round =>
  clear H'
  try clear c1
  try clear p2
  obtain ⟨x8_1, rfl, HA, HK1, HB⟩ := hrel
  cases gk with
  | zero => exact absurd HA.out (by simp [slices_IndexFunc_int_int.l0])
  | succ k1 =>
   have H := HA.out
   clear HA
   simp only [slices_IndexFunc_int_int.l0] at H
   by_cases c3 : x8_1 < (l0.length : Int)
   ·
    rw [if_pos c3] at H
    have c3b0 := decide_eq_true c3
    clear c3
    by_cases c4 : 0 ≤ x8_1
    ·
     rw [if_pos c4] at H
     have c4b0 := decide_eq_true c4
     clear c4
     by_cases c5 : x8_1 < (l0.length : Int)
     ·
      rw [if_pos c5] at H
      have c5b0 := decide_eq_true c5
      clear c5
      replace H := Option.bind_eq_some_iff.mp H
      obtain ⟨t225, A60, H⟩ := H
      replace H : (if t225 = true then (some x8_1) else (slices_IndexFunc_int_int.l0 k1 l0 a1 (l0.length : Int) (wrap64 (x8_1 + 1)))) = some r := H
      have A6 := A_ A60
      clear A60
      by_cases c7 : t225 = true
      ·
       subst c7
       have H1 : (some x8_1) = some r := by rw [if_pos rfl] at H; exact H
       clear H
       have H := H1
       clear H1
       obtain rfl := Option.some.inj H
       have p224 : 0 ≤ (x8_1 : Int) := od_
       have q224 : x8_1 < (l0.length : Int) := od_
       obtain ⟨ad224, e224, hx224_0⟩ := Kd.at_int HR0.out x8_1 p224 q224
       cases e224
       (try replace hx224_0 := (HB.out.cell (World.block_lt_of_cell? w _ hx224_0)).trans hx224_0)
       replace p224 := eq_true p224
       replace q224 := eq_true q224
       go_wp2_with (first | ((with_reducible refine Fn.gate_value rfl ?_); refine Fn.goesVw_ (some 16) rfl (by first | rfl | (simp [Region.wanted, yielded]; done)) v1 rfl #[.int .i64 (rd l0 x8_1)] rfl ta_ ?_; (with_reducible refine (FnCall93.calls (rd l0 x8_1) v1 a1 true _ ?side1 A6.out).mono ?_); (case side1 => exact FnOk93.mono HF1.out tb_); rintro e w8 ⟨rfl, hb⟩; refine ⟨_, rfl, ?_⟩; replace HB := A_ (below_step tb_ hb); (try clear hb)))
       go_ret
       exact ⟨te_, tb_⟩
      ·
       replace c7 := Bool.eq_false_iff.mpr c7
       subst c7
       have H1 : (slices_IndexFunc_int_int.l0 k1 l0 a1 (l0.length : Int) (wrap64 (x8_1 + 1))) = some r := by rw [if_neg (show ¬ (false = true) by decide)] at H; exact H
       clear H
       have H := H1
       clear H1
       have H' := A_ H
       clear H
       have p224 : 0 ≤ (x8_1 : Int) := od_
       have q224 : x8_1 < (l0.length : Int) := od_
       obtain ⟨ad224, e224, hx224_0⟩ := Kd.at_int HR0.out x8_1 p224 q224
       cases e224
       (try replace hx224_0 := (HB.out.cell (World.block_lt_of_cell? w _ hx224_0)).trans hx224_0)
       replace p224 := eq_true p224
       replace q224 := eq_true q224
       go_wp2_with (first | ((with_reducible refine Fn.gate_value rfl ?_); refine Fn.goesVw_ (some 16) rfl (by first | rfl | (simp [Region.wanted, yielded]; done)) v1 rfl #[.int .i64 (rd l0 x8_1)] rfl ta_ ?_; (with_reducible refine (FnCall93.calls (rd l0 x8_1) v1 a1 false _ ?side1 A6.out).mono ?_); (case side1 => exact FnOk93.mono HF1.out tb_); rintro e w9 ⟨rfl, hb⟩; refine ⟨_, rfl, ?_⟩; replace HB := A_ (below_step tb_ hb); (try clear hb)))
       go_roundg k1
       case measure => have := HK1.out; omega
       case rel => exact ⟨(wrap64 (x8_1 + 1)), tf_, H', ⟨by have := HK1.out; omega⟩, ⟨tb_⟩⟩
     ·
      rw [if_neg c5] at H
      exact absurd H (by simp)
    ·
     rw [if_neg c4] at H
     exact absurd H (by simp)
   ·
    rw [if_neg c3] at H
    have c3b0 := decide_eq_false c3
    clear c3
    obtain rfl := Option.some.inj H
    go_wp2
    go_ret
    exact ⟨te_, tb_⟩

/-! ### slices_ContainsFunc_int_int: function 146 -/
def slices_ContainsFunc_int_int.f (k : Nat) (l0 : List Int) (a1 : FnT93) : Option (Bool) := (slices_IndexFunc_int_int.f k l0 a1).bind fun t226 => (some (decide (t226 ≥ 0)))
theorem slices_ContainsFunc_int_int.mono : ∀ a0 a1 k, LeO (slices_ContainsFunc_int_int.f k a0 a1) (slices_ContainsFunc_int_int.f (k + 1) a0 a1) := by
 intro a0 a1 k
 unfold slices_ContainsFunc_int_int.f
 repeat' first | (with_reducible first | exact slices_IndexFunc_int_int.mono _ _ _ | exact LeO.refl _ | exact LeO.none _ | refine LeO.ite ?_ ?_ | refine LeO.bind ?_ (fun _ => ?_)) | exact slices_IndexFunc_int_int.mono _ _ _ | exact LeO.none _ | refine LeO.ite ?_ ?_ | refine LeO.bind ?_ (fun _ => ?_)
theorem slices_ContainsFunc_int_int.calls (k : Nat) (A0 : Option Addr) (c0 : Nat) (l0 : List Int) (v1 : Value) (a1 : FnT93) (r : Bool) (w : World) (hr0 : Kd.C (Kd.int .i64) w A0 l0.length l0) (hc0 : l0.length ≤ c0) (hF1 : FnOk93 w v1 a1) (h : slices_ContainsFunc_int_int.f k l0 a1 = some r) :
  Calls Try.prog 146 #[.slice A0 l0.length c0, v1] w fun e w' => e = .returned (.bool r) ∧ Below w.heap.size w w' := by
 have HR0 := A_ hr0
 have HC0 := A_ hc0
 clear hr0 hc0
 have HF1 := A_ hF1
 clear hF1
 have HB := A_ (Below.refl w.heap.size w)
 have H : ((slices_IndexFunc_int_int.f k l0 a1).bind fun t226 => (some (decide (t226 ≥ 0)))) = some r := h
 clear h
 replace H := Option.bind_eq_some_iff.mp H
 obtain ⟨t226, A30, H⟩ := H
 replace H : (some (decide (t226 ≥ 0))) = some r := H
 have A3 := A_ A30
 clear A30
 obtain rfl := Option.some.inj H
 go_enter Try.func146, Try.ntmps146
 go_wp2_with (first | (refine gc_ 183 ?_; refine goesT_ (some 7) Try.func183 #[.slice A0 l0.length c0, v1] ?_; (with_reducible refine (slices_IndexFunc_int_int.calls k _ _ l0 v1 a1 t226 _ ?side1 ?side2 ?side3 A3.out).mono ?_); (case side1 => exact tc0_ HR0.out); (case side2 => exact HC0.out); (case side3 => exact FnOk93.mono HF1.out tb_); rintro e w4 ⟨rfl, hb⟩; refine ⟨_, rfl, ?_⟩; replace HB := A_ (below_step tb_ hb); (try clear hb)))
 go_ret
 exact ⟨te_, tb_⟩

/-! ### impl_isSide: function 145 -/
def impl_isSide.f (a0 : Int) : Option (Bool) := (impl_within.f a0 1 6).bind fun t227 => (some t227)
theorem impl_isSide.calls (a0 : Int) (r : Bool) (w : World) (h : impl_isSide.f a0 = some r) :
  Calls Try.prog 145 #[.int .i64 a0] w fun e w' => e = .returned (.bool r) ∧ Drawn0 w w' := by
 have H : ((impl_within.f a0 1 6).bind fun t227 => (some t227)) = some r := h
 clear h
 replace H := Option.bind_eq_some_iff.mp H
 obtain ⟨t227, A20, H⟩ := H
 replace H : (some t227) = some r := H
 have A2 := A_ A20
 clear A20
 obtain rfl := Option.some.inj H
 go_enter Try.func145, Try.ntmps145
 go_wp2_with (first | (refine gc_ 104 ?_; refine goesT_ (some 4) Try.func104 #[.int .i64 a0, .int .i64 1, .int .i64 6] ?_; (with_reducible refine (impl_within.calls a0 1 6 t227 _ A2.out).mono ?_); rintro e w' ⟨rfl, ⟨nd, rfl⟩⟩; refine ⟨_, rfl, ?_⟩))
 go_ret
 exact ⟨tf_, dr_⟩

/-! ### impl_IsBoard: function 76 -/
def boardB (rows cols : Int) (cells : List Int) : Bool := decide (1 ≤ rows ∧ rows ≤ 6) && decide (1 ≤ cols ∧ cols ≤ 6) && decide ((cells.length : Int) = rows) && cells.all fun m => decide (0 ≤ m ∧ m ≤ 2 ^ cols.toNat - 1)
def impl_IsBoard.f (a0_0 : Int) (a0_1 : Int) (l0_2 : List Int) : Option (Bool) := some (boardB a0_0 a0_1 l0_2)
theorem impl_IsBoard.closure (m cols : Int) (g : Nat) (w : World) (hc : w.cell? ⟨g, 1, none⟩ = some (.int .i64 cols)) (h0 : 1 ≤ cols) (h1 : cols ≤ 6) :
  Calls Try.prog 147 #[.int .i64 m, .pointer (some ⟨g, 0, none⟩)] w fun e w' => e = .returned (.bool (!(decide (0 ≤ m ∧ m ≤ 2 ^ cols.toNat - 1)))) ∧ w' = w := by
 have hcols : cols = 1 ∨ cols = 2 ∨ cols = 3 ∨ cols = 4 ∨ cols = 5 ∨ cols = 6 := by omega
 by_cases hm : 0 ≤ m
 ·
  rcases hcols with rfl | rfl | rfl | rfl | rfl | rfl
  all_goals
   go_enter Try.func147, Try.ntmps147
   go_wp2
   go_ret
   exact ⟨by simp [hm] <;> omega, rfl⟩
 ·
  rcases hcols with rfl | rfl | rfl | rfl | rfl | rfl
  all_goals
   go_enter Try.func147, Try.ntmps147
   go_wp2
   go_ret
   exact ⟨by simp [hm], rfl⟩
theorem impl_IsBoard.index (l : List Int) (P : Int → Bool) (hb : l.length ≤ 1152921504606846976) : ∀ (d i : Nat) (k : Nat), l.length - i = d → i ≤ l.length → d < k →
  ∃ r : Int, slices_IndexFunc_int_int.l0 k l (fun x => some (P x)) (l.length : Int) (i : Int) = some r ∧ decide (r ≥ 0) = (l.drop i).any P := by
 intro d
 induction d with
 | zero =>
  intro i k hd hi hk
  obtain ⟨k, rfl⟩ : ∃ m, k = m + 1 := ⟨k - 1, by omega⟩
  exact ⟨-1, by rw [slices_IndexFunc_int_int.l0, if_neg (by omega)], by rw [List.drop_eq_nil_of_le (by omega)]; rfl⟩
 | succ d ih =>
  intro i k hd hi hk
  obtain ⟨k, rfl⟩ : ∃ m, k = m + 1 := ⟨k - 1, by omega⟩
  have h1 : i < l.length := by omega
  have hr : rd l (i : Int) = l[i] := by unfold rd; simp [List.getD_eq_getElem?_getD, List.getElem?_eq_getElem h1]
  rw [List.drop_eq_getElem_cons h1, List.any_cons]
  by_cases hp : P l[i] = true
  ·
   refine ⟨i, ?_, ?_⟩
   ·
    rw [slices_IndexFunc_int_int.l0, if_pos (by omega), if_pos (by omega), if_pos (by omega), hr]
    simp only [FnCall93.f, hp, Option.bind_some, if_true]
   ·
    rw [hp, Bool.true_or]; simp
  ·
   obtain ⟨r, h2, h3⟩ := ih (i + 1) k (by omega) (by omega) (by omega)
   refine ⟨r, ?_, ?_⟩
   ·
    rw [slices_IndexFunc_int_int.l0, if_pos (by omega), if_pos (by omega), if_pos (by omega), hr]
    simp only [FnCall93.f, hp, Option.bind_some]
    rw [if_neg (by simp), show wrap64 ((i : Int) + 1) = ((i + 1 : Nat) : Int) by unfold wrap64; omega]
    exact h2
   ·
    rw [h3]; simp only [Bool.not_eq_true] at hp; rw [hp, Bool.false_or]
theorem impl_IsBoard.contains (l : List Int) (P : Int → Bool) (hb : l.length ≤ 1152921504606846976) : slices_ContainsFunc_int_int.f (l.length + 1) l (fun x => some (P x)) = some (l.any P) := by
 obtain ⟨r, h1, h2⟩ := impl_IsBoard.index l P hb l.length 0 (l.length + 1) (by omega) (by omega) (by omega)
 simp only [slices_ContainsFunc_int_int.f, slices_IndexFunc_int_int.f]
 rw [show (0 : Int) = ((0 : Nat) : Int) from rfl, h1, Option.bind_some, show (((0 : Nat) : Int)) = 0 from rfl, h2]
 simp
theorem impl_IsBoard.calls (a0_0 : Int) (a0_1 : Int) (A0_2 : Option Addr) (c0_2 : Nat) (l0_2 : List Int) (r : Bool) (w : World) (hr0_2 : Kd.C (Kd.int .i64) w A0_2 l0_2.length l0_2) (hc0_2 : l0_2.length ≤ c0_2) (h : impl_IsBoard.f a0_0 a0_1 l0_2 = some r) :
  Calls Try.prog 76 #[.agg #[.int .i64 a0_0, .int .i64 a0_1, .slice A0_2 l0_2.length c0_2]] w fun e w' => e = .returned (.bool r) ∧ Below w.heap.size w w' := by
 obtain rfl := Option.some.inj h
 clear h
 have hu := Try.underlying26
 have HR := A_ hr0_2
 have HC := A_ hc0_2
 clear hr0_2 hc0_2
 have HB := A_ (Below.refl w.heap.size w)
 have hmf_ : ∀ (fn : Go.Fn) (first cap : Array Value) (w : World), (Instr.makeFunc fn first cap).run Try.prog w = .ok (.func fn first cap) w := fun _ _ _ _ => rfl
 have early : boardB a0_0 a0_1 l0_2 = false → (1 ≤ a0_0 ∧ a0_0 ≤ 6 → 1 ≤ a0_1 ∧ a0_1 ≤ 6 → ¬ (l0_2.length : Int) = a0_0) →
   Calls Try.prog 76 #[.agg #[.int .i64 a0_0, .int .i64 a0_1, .slice A0_2 l0_2.length c0_2]] w fun e w' => e = .returned (.bool (boardB a0_0 a0_1 l0_2)) ∧ Below w.heap.size w w' := by
  intro e hno
  have E := A_ e
  clear e
  by_cases h1 : 1 ≤ a0_0
  ·
   by_cases h2 : a0_0 ≤ 6
   ·
    by_cases h3 : 1 ≤ a0_1
    ·
     by_cases h4 : a0_1 ≤ 6
     ·
      have h5 : ((l0_2.length : Int) != a0_0) = true := bne_iff_ne.mpr (hno ⟨h1, h2⟩ ⟨h3, h4⟩)
      clear hno
      go_enter Try.func76, Try.ntmps76
      go_wp2
      go_ret
      exact ⟨by rw [E.out]; rfl, below_alloc (Below.refl _ _) _⟩
     ·
      clear hno
      go_enter Try.func76, Try.ntmps76
      go_wp2
      go_ret
      exact ⟨by rw [E.out]; rfl, below_alloc (Below.refl _ _) _⟩
    ·
     clear hno
     go_enter Try.func76, Try.ntmps76
     go_wp2
     go_ret
     exact ⟨by rw [E.out]; rfl, below_alloc (Below.refl _ _) _⟩
   ·
    clear hno
    go_enter Try.func76, Try.ntmps76
    go_wp2
    go_ret
    exact ⟨by rw [E.out]; rfl, below_alloc (Below.refl _ _) _⟩
  ·
   clear hno
   go_enter Try.func76, Try.ntmps76
   go_wp2
   go_ret
   exact ⟨by rw [E.out]; rfl, below_alloc (Below.refl _ _) _⟩
 by_cases hall : (1 ≤ a0_0 ∧ a0_0 ≤ 6) ∧ (1 ≤ a0_1 ∧ a0_1 ≤ 6) ∧ (l0_2.length : Int) = a0_0
 ·
  obtain ⟨⟨h1, h2⟩, ⟨h3, h4⟩, h5⟩ := hall
  have e : boardB a0_0 a0_1 l0_2 = l0_2.all (fun m => decide (0 ≤ m ∧ m ≤ 2 ^ a0_1.toNat - 1)) := by simp [boardB, h1, h2, h3, h4, h5]
  have e2 : (l0_2.any fun m => !(decide (0 ≤ m ∧ m ≤ 2 ^ a0_1.toNat - 1))) = !(boardB a0_0 a0_1 l0_2) := by rw [e, List.not_all_eq_any_not]
  have hlen : l0_2.length ≤ 1152921504606846976 := by omega
  have HN : Aside0 (slices_ContainsFunc_int_int.f (l0_2.length + 1) l0_2 (fun m => some (!(decide (0 ≤ m ∧ m ≤ 2 ^ a0_1.toNat - 1)))) = some (!(boardB a0_0 a0_1 l0_2))) := ⟨(impl_IsBoard.contains l0_2 _ hlen).trans (by rw [e2])⟩
  clear e e2 early
  have h5b : ((l0_2.length : Int) != a0_0) = false := bne_eq_false_iff_eq.mpr h5
  have H3 := A_ h3
  have H4 := A_ h4
  have HF : ∀ W : World, W.cell? ⟨w.heap.size, 1, none⟩ = some (.int .i64 a0_1) → FnOk93 W (.func (.func 147) #[] #[.pointer (some ⟨w.heap.size, 0, none⟩)]) (fun m => some (!(decide (0 ≤ m ∧ m ≤ 2 ^ a0_1.toNat - 1)))) := by
   intro W hc m r W1 h hB
   obtain rfl := Option.some.inj h
   refine ⟨147, _, _, rfl, Try.func147, by kernel_rfl, rfl, ?_⟩
   refine (impl_IsBoard.closure m a0_1 w.heap.size W1 ((hB.cell (World.block_lt_of_cell? W _ hc)).trans hc) H3.out H4.out).mono ?_
   rintro e w' ⟨he, rfl⟩
   exact ⟨he, Below.refl _ _⟩
  have HF' := A_ HF
  clear HF h5 hlen
  have S1 : Aside0 (impl_isSide.f a0_0 = some true) := ⟨by unfold impl_isSide.f impl_within.f; rw [if_pos h1]; simpa using h2⟩
  have S2 : Aside0 (impl_isSide.f a0_1 = some true) := ⟨by unfold impl_isSide.f impl_within.f; rw [if_pos h3]; simpa using h4⟩
  go_enter Try.func76, Try.ntmps76
  go_wp2_with (first | (go_at_call 145; (with_reducible refine (impl_isSide.calls a0_0 true _ S1.out).mono ?_); rintro e w' ⟨rfl, ⟨nd, rfl⟩⟩) | (go_at_call 145; (with_reducible refine (impl_isSide.calls a0_1 true _ S2.out).mono ?_); rintro e w' ⟨rfl, ⟨nd, rfl⟩⟩) | (go_at_call 146; refine (slices_ContainsFunc_int_int.calls (l0_2.length + 1) _ _ l0_2 (.func (.func 147) #[] #[.pointer (some ⟨w.heap.size, 0, none⟩)]) (fun m => some (!(decide (0 ≤ m ∧ m ≤ 2 ^ a0_1.toNat - 1)))) _ _ ?s1 HC.out (HF'.out _ (by go_simp)) HN.out).mono ?_; (case s1 => exact tc0_ HR.out); rintro e w1 ⟨rfl, hb⟩; have HB1 := A_ hb; clear hb))
  go_ret
  exact ⟨by simp, below_then (by repeat (first | exact Below.refl _ _ | apply pw_below_drewN | apply below_alloc)) (by simp) HB1.out⟩
 ·
  refine early ?_ ?_
  ·
   simp only [boardB, Bool.and_eq_false_iff, decide_eq_false_iff_not]
   by_cases ha : 1 ≤ a0_0 ∧ a0_0 ≤ 6
   ·
    by_cases hb : 1 ≤ a0_1 ∧ a0_1 ≤ 6
    ·
     exact .inl (.inr (fun hc => hall ⟨ha, hb, hc⟩))
    ·
     exact .inl (.inl (.inr hb))
   ·
    exact .inl (.inl (.inl ha))
  ·
   exact fun ha hb hc => hall ⟨ha, hb, hc⟩

/-! ### spec_biDiagonals: function 86 -/
def spec_biDiagonals.f (a0_0 : Int) (a0_1 : Int) (l0_2 : List Int) (a1 : Int) (a2 : Int) : Option (Int × Int) := some (wrap64 (a1 + a2), wrap64 ((wrap64 ((wrap64 (a1 - a2)) + a0_1)) - 1))
theorem spec_biDiagonals.calls (a0_0 : Int) (a0_1 : Int) (A0_2 : Option Addr) (c0_2 : Nat) (l0_2 : List Int) (a1 : Int) (a2 : Int) (r1 : Int) (r2 : Int) (w : World) (hr0_2 : Kd.C (Kd.int .i64) w A0_2 l0_2.length l0_2) (hc0_2 : l0_2.length ≤ c0_2) (h : spec_biDiagonals.f a0_0 a0_1 l0_2 a1 a2 = some (r1, r2)) :
  Calls Try.prog 86 #[.agg #[.int .i64 a0_0, .int .i64 a0_1, .slice A0_2 l0_2.length c0_2], .int .i64 a1, .int .i64 a2] w fun e w' => e = .returned (.tuple #[.int .i64 r1, .int .i64 r2]) ∧ Below w.heap.size w w' := by
 have hu26 := Try.underlying26
 have HR0_2 := A_ hr0_2
 have HC0_2 := A_ hc0_2
 clear hr0_2 hc0_2
 have HB := A_ (Below.refl w.heap.size w)
 have H : (some (wrap64 (a1 + a2), wrap64 ((wrap64 ((wrap64 (a1 - a2)) + a0_1)) - 1))) = some (r1, r2) := h
 clear h
 simp only [Option.some.injEq, Prod.mk.injEq] at H
 obtain ⟨rfl, rfl⟩ := H
 go_enter Try.func86, Try.ntmps86
 go_wp2_with (first | (refine gd_ 3 ?_; refine bx_ 3 #[.int .i64 a0_0, .int .i64 a0_1, .slice A0_2 l0_2.length c0_2] 26 ?_; intro gb335 hg w4 hbox hb; have BK335 := A_ (hbox); have GW335 := A_ ((ts_ hg : w.heap.size ≤ gb335)); have GE335 := A_ ((ts_ hg : w.heap.size ≤ gb335)); replace HB := A_ (below_step tb_ hb); clear hb hbox hg; obtain ⟨hcz5_0, hcz5_1, hcz5_2, hfz5_0, hfz5_1, hfz5_2⟩ := cf3_ BK335.out))
 repeat (go_quiet (first | (refine gd_ 3 ?_; refine bx_ 3 #[.int .i64 a0_0, .int .i64 a0_1, .slice A0_2 l0_2.length c0_2] 26 ?_; intro gb335 hg w4 hbox hb; have BK335 := A_ (hbox); have GW335 := A_ ((ts_ hg : w.heap.size ≤ gb335)); have GE335 := A_ ((ts_ hg : w.heap.size ≤ gb335)); replace HB := A_ (below_step tb_ hb); clear hb hbox hg; obtain ⟨hcz5_0, hcz5_1, hcz5_2, hfz5_0, hfz5_1, hfz5_2⟩ := cf3_ BK335.out)); try go_wp2_with (first | (refine gd_ 3 ?_; refine bx_ 3 #[.int .i64 a0_0, .int .i64 a0_1, .slice A0_2 l0_2.length c0_2] 26 ?_; intro gb335 hg w4 hbox hb; have BK335 := A_ (hbox); have GW335 := A_ ((ts_ hg : w.heap.size ≤ gb335)); have GE335 := A_ ((ts_ hg : w.heap.size ≤ gb335)); replace HB := A_ (below_step tb_ hb); clear hb hbox hg; obtain ⟨hcz5_0, hcz5_1, hcz5_2, hfz5_0, hfz5_1, hfz5_2⟩ := cf3_ BK335.out)))
 go_ret2
 exact ⟨te_, tb_⟩

/-! ### impl_isColour: function 94 -/
def impl_isColour.f (a0 : Int) : Option (Bool) := (impl_within.f a0 0 1).bind fun t370 => (some t370)
theorem impl_isColour.calls (a0 : Int) (r : Bool) (w : World) (h : impl_isColour.f a0 = some r) :
  Calls Try.prog 94 #[.int .i64 a0] w fun e w' => e = .returned (.bool r) ∧ Drawn0 w w' := by
 have H : ((impl_within.f a0 0 1).bind fun t370 => (some t370)) = some r := h
 clear h
 replace H := Option.bind_eq_some_iff.mp H
 obtain ⟨t370, A20, H⟩ := H
 replace H : (some t370) = some r := H
 have A2 := A_ A20
 clear A20
 obtain rfl := Option.some.inj H
 go_enter Try.func94, Try.ntmps94
 go_wp2_with (first | (refine gc_ 104 ?_; refine goesT_ (some 4) Try.func104 #[.int .i64 a0, .int .i64 0, .int .i64 1] ?_; (with_reducible refine (impl_within.calls a0 0 1 t370 _ A2.out).mono ?_); rintro e w' ⟨rfl, ⟨nd, rfl⟩⟩; refine ⟨_, rfl, ?_⟩))
 go_ret
 exact ⟨tf_, dr_⟩

/-! ### cmp_isNaN_int: function 205 -/
def cmp_isNaN_int.f (a0 : Int) : Option (Bool) := some (a0 != a0)
theorem cmp_isNaN_int.calls (a0 : Int) (r : Bool) (w : World) (h : cmp_isNaN_int.f a0 = some r) :
  Calls Try.prog 205 #[.int .i64 a0] w fun e w' => e = .returned (.bool r) ∧ Drawn0 w w' := by
 have H : (some (a0 != a0)) = some r := h
 clear h
 obtain rfl := Option.some.inj H
 go_enter Try.func205, Try.ntmps205
 go_wp2
 go_ret
 exact ⟨tf_, dr_⟩

/-! ### impl_ColourBoard: function 22 -/
def impl_ColourBoard.f (k : Nat) (a0_0 : Int) (a0_1 : Int) (l0_2 : List Int) (a1 : Int) : Option (Int × Int × List Int × Bool) := (impl_IsBoard.f a0_0 a0_1 l0_2).bind fun t550 => (if t550 = true then ((impl_isColour.f a1).bind fun t551 => (if t551 = true then ((impl_Board_coloured.f k a0_0 a0_1 l0_2 a1).bind fun bt552 => (some (bt552.1, bt552.2.1, bt552.2.2.1, bt552.2.2.2))) else (some (0, 0, ([] : List Int), false)))) else (some (0, 0, ([] : List Int), false)))
theorem impl_ColourBoard.mono : ∀ a0 a1 a2 a3 k, LeO (impl_ColourBoard.f k a0 a1 a2 a3) (impl_ColourBoard.f (k + 1) a0 a1 a2 a3) := by
 intro a0 a1 a2 a3 k
 unfold impl_ColourBoard.f
 repeat' first | (with_reducible first | exact impl_Board_coloured.mono _ _ _ _ _ | exact LeO.refl _ | exact LeO.none _ | refine LeO.ite ?_ ?_ | refine LeO.bind ?_ (fun _ => ?_)) | exact impl_Board_coloured.mono _ _ _ _ _ | exact LeO.none _ | refine LeO.ite ?_ ?_ | refine LeO.bind ?_ (fun _ => ?_)
theorem impl_ColourBoard.calls (k : Nat) (a0_0 : Int) (a0_1 : Int) (A0_2 : Option Addr) (c0_2 : Nat) (l0_2 : List Int) (a1 : Int) (r1 : Int) (r2 : Int) (r3 : List Int) (r4 : Bool) (w : World) (hr0_2 : Kd.C (Kd.int .i64) w A0_2 l0_2.length l0_2) (hc0_2 : l0_2.length ≤ c0_2) (h : impl_ColourBoard.f k a0_0 a0_1 l0_2 a1 = some (r1, r2, r3, r4)) :
  Calls Try.prog 22 #[.agg #[.int .i64 a0_0, .int .i64 a0_1, .slice A0_2 l0_2.length c0_2], .int .i64 a1] w fun e w' => ∃ v2_ : Value, e = .returned (.tuple #[.agg #[.int .i64 r1, .int .i64 r2, v2_], .bool r4]) ∧ Kd.R (Kd.int .i64) 3 w' w.heap.size (fun _ => True) v2_ r3 ∧ Below w.heap.size w w' := by
 have hu26 := Try.underlying26
 have HR0_2 := A_ hr0_2
 have HC0_2 := A_ hc0_2
 clear hr0_2 hc0_2
 have HB := A_ (Below.refl w.heap.size w)
 have H : ((impl_IsBoard.f a0_0 a0_1 l0_2).bind fun t550 => (if t550 = true then ((impl_isColour.f a1).bind fun t551 => (if t551 = true then ((impl_Board_coloured.f k a0_0 a0_1 l0_2 a1).bind fun bt552 => (some (bt552.1, bt552.2.1, bt552.2.2.1, bt552.2.2.2))) else (some (0, 0, ([] : List Int), false)))) else (some (0, 0, ([] : List Int), false)))) = some (r1, r2, r3, r4) := h
 clear h
 replace H := Option.bind_eq_some_iff.mp H
 obtain ⟨t550, A30, H⟩ := H
 replace H : (if t550 = true then ((impl_isColour.f a1).bind fun t551 => (if t551 = true then ((impl_Board_coloured.f k a0_0 a0_1 l0_2 a1).bind fun bt552 => (some (bt552.1, bt552.2.1, bt552.2.2.1, bt552.2.2.2))) else (some (0, 0, ([] : List Int), false)))) else (some (0, 0, ([] : List Int), false))) = some (r1, r2, r3, r4) := H
 have A3 := A_ A30
 clear A30
 by_cases c4 : t550 = true
 ·
  subst c4
  have H1 : ((impl_isColour.f a1).bind fun t551 => (if t551 = true then ((impl_Board_coloured.f k a0_0 a0_1 l0_2 a1).bind fun bt552 => (some (bt552.1, bt552.2.1, bt552.2.2.1, bt552.2.2.2))) else (some (0, 0, ([] : List Int), false)))) = some (r1, r2, r3, r4) := by rw [if_pos rfl] at H; exact H
  clear H
  have H := H1
  clear H1
  replace H := Option.bind_eq_some_iff.mp H
  obtain ⟨t551, A50, H⟩ := H
  replace H : (if t551 = true then ((impl_Board_coloured.f k a0_0 a0_1 l0_2 a1).bind fun bt552 => (some (bt552.1, bt552.2.1, bt552.2.2.1, bt552.2.2.2))) else (some (0, 0, ([] : List Int), false))) = some (r1, r2, r3, r4) := H
  have A5 := A_ A50
  clear A50
  by_cases c6 : t551 = true
  ·
   subst c6
   have H1 : ((impl_Board_coloured.f k a0_0 a0_1 l0_2 a1).bind fun bt552 => (some (bt552.1, bt552.2.1, bt552.2.2.1, bt552.2.2.2))) = some (r1, r2, r3, r4) := by rw [if_pos rfl] at H; exact H
   clear H
   have H := H1
   clear H1
   replace H := Option.bind_eq_some_iff.mp H
   obtain ⟨⟨t552, t553, t554, t557⟩, A70, H⟩ := H
   replace H : (some (t552, t553, t554, t557)) = some (r1, r2, r3, r4) := H
   have A7 := A_ A70
   clear A70
   simp only [Option.some.injEq, Prod.mk.injEq] at H
   obtain ⟨rfl, rfl, rfl, rfl⟩ := H
   go_enter Try.func22, Try.ntmps22
   go_wp2_with (first | (refine gd_ 2 ?_; refine bx_ 2 #[.int .i64 a0_0, .int .i64 a0_1, .slice A0_2 l0_2.length c0_2] 26 ?_; intro gb548 hg w8 hbox hb; have BK548 := A_ (hbox); have GW548 := A_ ((ts_ hg : w.heap.size ≤ gb548)); have GE548 := A_ ((ts_ hg : w.heap.size ≤ gb548)); replace HB := A_ (below_step tb_ hb); clear hb hbox hg) | (refine gd_ 4 ?_; refine bx_ 4 #[.int .i64 0, .int .i64 0, .slice none 0 0] 26 ?_; intro gb549 hg w9 hbox hb; have BK549 := A_ (hbox); have GW549 := A_ ((ts_ hg : w.heap.size ≤ gb549)); have GE549 := A_ ((ts_ hg : w.heap.size ≤ gb549)); replace HB := A_ (below_step tb_ hb); have NB548_549 := A_ ((by rw [hg]; exact Nat.ne_of_lt (blk_lt (g := gb548) (o := .cells #[.int .i64 a0_0, .int .i64 a0_1, .slice A0_2 l0_2.length c0_2] 26 (0, 0)) (tk_ BK548)) : gb548 ≠ gb549)); have NB549_548 := A_ ((by rw [hg]; exact Nat.ne_of_gt (blk_lt (g := gb548) (o := .cells #[.int .i64 a0_0, .int .i64 a0_1, .slice A0_2 l0_2.length c0_2] 26 (0, 0)) (tk_ BK548)) : gb549 ≠ gb548)); replace BK548 := A_ (blk_below (g := gb548) (o := .cells #[.int .i64 a0_0, .int .i64 a0_1, .slice A0_2 l0_2.length c0_2] 26 (0, 0)) (tk_ BK548) hb); clear hb hbox hg; have hnb10 := NB548_549.out; have hnc10 := NB549_548.out; obtain ⟨hcz11_0, hcz11_1, hcz11_2, hfz11_0, hfz11_1, hfz11_2⟩ := cf3_ BK548.out) | (refine gc_ 76 ?_; refine goesT_ (some 7) Try.func76 #[.agg #[.int .i64 a0_0, .int .i64 a0_1, .slice A0_2 l0_2.length c0_2]] ?_; (with_reducible refine (impl_IsBoard.calls a0_0 a0_1 _ _ l0_2 true _ ?side1 ?side2 A3.out).mono ?_); (case side1 => exact tc_ HR0_2.out); (case side2 => exact HC0_2.out); rintro e w12 ⟨rfl, hb⟩; refine ⟨_, rfl, ?_⟩; replace BK548 := A_ (blk_below (g := gb548) (o := .cells #[.int .i64 a0_0, .int .i64 a0_1, .slice A0_2 l0_2.length c0_2] 26 (0, 0)) (tk_ BK548) hb); replace BK549 := A_ (blk_below (g := gb549) (o := .cells #[.int .i64 0, .int .i64 0, .slice none 0 0] 26 (0, 0)) (tk_ BK549) hb); replace HB := A_ (below_step tb_ hb); (try clear hb)) | (go_at_call 94; (with_reducible refine (impl_isColour.calls a1 true _ A5.out).mono ?_); rintro e w' ⟨rfl, ⟨nd, rfl⟩⟩; (try (rw [drewN_self w12]; generalize hq_ : World.drewN w12 _ = w12; have n0_ : Aside0 (w12.heap[gb548]? = some (.cells #[.int .i64 a0_0, .int .i64 a0_1, .slice A0_2 l0_2.length c0_2] 26 (0, 0))) := ⟨by rw [← hq_]; exact (tk_ BK548)⟩; have n1_ : Aside0 (w12.heap[gb549]? = some (.cells #[.int .i64 0, .int .i64 0, .slice none 0 0] 26 (0, 0))) := ⟨by rw [← hq_]; exact (tk_ BK549)⟩; have n2_ : Aside0 (Below w.heap.size w w12) := ⟨by rw [← hq_]; exact tb_⟩; clear BK548 BK549 HB hq_; have BK548 := n0_; have BK549 := n1_; have HB := n2_; clear n0_ n1_ n2_)); obtain ⟨hcz13_0, hcz13_1, hcz13_2, hfz13_0, hfz13_1, hfz13_2⟩ := cf3_ BK548.out) | (refine gc_ 95 ?_; refine goesT_ (some 17) Try.func95 #[.agg #[.int .i64 a0_0, .int .i64 a0_1, .slice A0_2 l0_2.length c0_2], .int .i64 a1] ?_; (with_reducible refine (impl_Board_coloured.calls k a0_0 a0_1 _ _ l0_2 a1 t552 t553 t554 t557 _ ?side1 ?side2 A7.out).mono ?_); (case side1 => exact tc_ HR0_2.out); (case side2 => exact HC0_2.out); rintro e w14 ⟨v555, rfl, ho0, hb⟩; refine ⟨_, rfl, ?_⟩; have HO556 := A_ (Kd.R_lower ho0 (below_size tb_)); replace BK548 := A_ (blk_below (g := gb548) (o := .cells #[.int .i64 a0_0, .int .i64 a0_1, .slice A0_2 l0_2.length c0_2] 26 (0, 0)) (tk_ BK548) hb); replace BK549 := A_ (blk_below (g := gb549) (o := .cells #[.int .i64 0, .int .i64 0, .slice none 0 0] 26 (0, 0)) (tk_ BK549) hb); replace HB := A_ (below_step tb_ hb); (try clear hb); (try clear ho0); obtain ⟨hcz15_0, hcz15_1, hcz15_2, hfz15_0, hfz15_1, hfz15_2⟩ := cf3_ BK549.out; obtain ⟨Ao16, co16, eo16⟩ := Kd.R_slice HO556.out; subst eo16))
   refine bodyPost_ret (results_ct rfl _ _ gb549 26 #[.int .i64 t552, .int .i64 t553, .slice Ao16 t554.length co16] (0, 0) _ rfl (by (with_reducible repeat (first | refine blk_drewN ?_ _ | refine blk_drew ?_ | refine blk_alloc ?_ _)); refine blk_put (cs := #[.int .i64 t552, .int .i64 t553, .slice none 0 0]) ?_ 2 _ rfl; (with_reducible repeat (first | refine blk_drewN ?_ _ | refine blk_drew ?_ | refine blk_alloc ?_ _)); refine blk_put (cs := #[.int .i64 t552, .int .i64 0, .slice none 0 0]) ?_ 1 _ rfl; (with_reducible repeat (first | refine blk_drewN ?_ _ | refine blk_drew ?_ | refine blk_alloc ?_ _)); refine blk_put (cs := #[.int .i64 0, .int .i64 0, .slice none 0 0]) ?_ 0 _ rfl; (with_reducible repeat (first | refine blk_drewN ?_ _ | refine blk_drew ?_ | refine blk_alloc ?_ _)); exact BK549.out) Try.underlying26 rfl (by kernel_rfl)) rfl ?_
   exact ⟨_, te_, by (with_reducible repeat (first | apply Kd.R_alloc | apply Kd.R_drewN | apply Kd.R_drew)); exact Kd.R_mono (Kd.R_far (p := ⟨gb549, 2, none⟩) (Kd.R_far (p := ⟨gb549, 1, none⟩) (Kd.R_far (p := ⟨gb549, 0, none⟩) (Kd.R_types HO556.out BK549.out (by decide)) (fun _ hk => hk.2) (.int .i64 t552)) (fun _ hk => hk.2) (.int .i64 t553)) (fun _ hk => hk.2) (.slice Ao16 t554.length co16)) (fun _ hk => trivial), tb_⟩
  ·
   replace c6 := Bool.eq_false_iff.mpr c6
   subst c6
   have H1 : (some (0, 0, ([] : List Int), false)) = some (r1, r2, r3, r4) := by rw [if_neg (show ¬ (false = true) by decide)] at H; exact H
   clear H
   have H := H1
   clear H1
   simp only [Option.some.injEq, Prod.mk.injEq] at H
   obtain ⟨rfl, rfl, rfl, rfl⟩ := H
   go_enter Try.func22, Try.ntmps22
   go_wp2_with (first | (refine gd_ 2 ?_; refine bx_ 2 #[.int .i64 a0_0, .int .i64 a0_1, .slice A0_2 l0_2.length c0_2] 26 ?_; intro gb548 hg w17 hbox hb; have BK548 := A_ (hbox); have GW548 := A_ ((ts_ hg : w.heap.size ≤ gb548)); have GE548 := A_ ((ts_ hg : w.heap.size ≤ gb548)); replace HB := A_ (below_step tb_ hb); clear hb hbox hg) | (refine gd_ 4 ?_; refine bx_ 4 #[.int .i64 0, .int .i64 0, .slice none 0 0] 26 ?_; intro gb549 hg w18 hbox hb; have BK549 := A_ (hbox); have GW549 := A_ ((ts_ hg : w.heap.size ≤ gb549)); have GE549 := A_ ((ts_ hg : w.heap.size ≤ gb549)); replace HB := A_ (below_step tb_ hb); have NB548_549 := A_ ((by rw [hg]; exact Nat.ne_of_lt (blk_lt (g := gb548) (o := .cells #[.int .i64 a0_0, .int .i64 a0_1, .slice A0_2 l0_2.length c0_2] 26 (0, 0)) (tk_ BK548)) : gb548 ≠ gb549)); have NB549_548 := A_ ((by rw [hg]; exact Nat.ne_of_gt (blk_lt (g := gb548) (o := .cells #[.int .i64 a0_0, .int .i64 a0_1, .slice A0_2 l0_2.length c0_2] 26 (0, 0)) (tk_ BK548)) : gb549 ≠ gb548)); replace BK548 := A_ (blk_below (g := gb548) (o := .cells #[.int .i64 a0_0, .int .i64 a0_1, .slice A0_2 l0_2.length c0_2] 26 (0, 0)) (tk_ BK548) hb); clear hb hbox hg; have hnb19 := NB548_549.out; have hnc19 := NB549_548.out; obtain ⟨hcz20_0, hcz20_1, hcz20_2, hfz20_0, hfz20_1, hfz20_2⟩ := cf3_ BK548.out) | (refine gc_ 76 ?_; refine goesT_ (some 7) Try.func76 #[.agg #[.int .i64 a0_0, .int .i64 a0_1, .slice A0_2 l0_2.length c0_2]] ?_; (with_reducible refine (impl_IsBoard.calls a0_0 a0_1 _ _ l0_2 true _ ?side1 ?side2 A3.out).mono ?_); (case side1 => exact tc_ HR0_2.out); (case side2 => exact HC0_2.out); rintro e w21 ⟨rfl, hb⟩; refine ⟨_, rfl, ?_⟩; replace BK548 := A_ (blk_below (g := gb548) (o := .cells #[.int .i64 a0_0, .int .i64 a0_1, .slice A0_2 l0_2.length c0_2] 26 (0, 0)) (tk_ BK548) hb); replace BK549 := A_ (blk_below (g := gb549) (o := .cells #[.int .i64 0, .int .i64 0, .slice none 0 0] 26 (0, 0)) (tk_ BK549) hb); replace HB := A_ (below_step tb_ hb); (try clear hb)) | (go_at_call 94; (with_reducible refine (impl_isColour.calls a1 false _ A5.out).mono ?_); rintro e w' ⟨rfl, ⟨nd, rfl⟩⟩; (try (rw [drewN_self w21]; generalize hq_ : World.drewN w21 _ = w21; have n0_ : Aside0 (w21.heap[gb548]? = some (.cells #[.int .i64 a0_0, .int .i64 a0_1, .slice A0_2 l0_2.length c0_2] 26 (0, 0))) := ⟨by rw [← hq_]; exact (tk_ BK548)⟩; have n1_ : Aside0 (w21.heap[gb549]? = some (.cells #[.int .i64 0, .int .i64 0, .slice none 0 0] 26 (0, 0))) := ⟨by rw [← hq_]; exact (tk_ BK549)⟩; have n2_ : Aside0 (Below w.heap.size w w21) := ⟨by rw [← hq_]; exact tb_⟩; clear BK548 BK549 HB hq_; have BK548 := n0_; have BK549 := n1_; have HB := n2_; clear n0_ n1_ n2_)); obtain ⟨hcz22_0, hcz22_1, hcz22_2, hfz22_0, hfz22_1, hfz22_2⟩ := cf3_ BK549.out))
   refine bodyPost_ret (results_ct rfl _ _ gb549 26 #[.int .i64 0, .int .i64 0, .slice none 0 0] (0, 0) _ rfl (by (with_reducible repeat (first | refine blk_drewN ?_ _ | refine blk_drew ?_ | refine blk_alloc ?_ _)); refine blk_put (cs := #[.int .i64 0, .int .i64 0, .slice none 0 0]) ?_ 2 _ rfl; (with_reducible repeat (first | refine blk_drewN ?_ _ | refine blk_drew ?_ | refine blk_alloc ?_ _)); refine blk_put (cs := #[.int .i64 0, .int .i64 0, .slice none 0 0]) ?_ 1 _ rfl; (with_reducible repeat (first | refine blk_drewN ?_ _ | refine blk_drew ?_ | refine blk_alloc ?_ _)); refine blk_put (cs := #[.int .i64 0, .int .i64 0, .slice none 0 0]) ?_ 0 _ rfl; (with_reducible repeat (first | refine blk_drewN ?_ _ | refine blk_drew ?_ | refine blk_alloc ?_ _)); exact BK549.out) Try.underlying26 rfl (by kernel_rfl)) rfl ?_
   exact ⟨_, te_, by first | exact Kd.R_nil _ _ _ _ _ | exact Kd.N_nil _ _ _ _ _ | exact Kd.V_nil _ _ _ _ _ | exact Kd.Q_nil _ _ _ _ _ | exact Kd.S_nil _ _ _ _ _, tb_⟩
 ·
  replace c4 := Bool.eq_false_iff.mpr c4
  subst c4
  have H1 : (some (0, 0, ([] : List Int), false)) = some (r1, r2, r3, r4) := by rw [if_neg (show ¬ (false = true) by decide)] at H; exact H
  clear H
  have H := H1
  clear H1
  simp only [Option.some.injEq, Prod.mk.injEq] at H
  obtain ⟨rfl, rfl, rfl, rfl⟩ := H
  go_enter Try.func22, Try.ntmps22
  go_wp2_with (first | (refine gd_ 2 ?_; refine bx_ 2 #[.int .i64 a0_0, .int .i64 a0_1, .slice A0_2 l0_2.length c0_2] 26 ?_; intro gb548 hg w23 hbox hb; have BK548 := A_ (hbox); have GW548 := A_ ((ts_ hg : w.heap.size ≤ gb548)); have GE548 := A_ ((ts_ hg : w.heap.size ≤ gb548)); replace HB := A_ (below_step tb_ hb); clear hb hbox hg) | (refine gd_ 4 ?_; refine bx_ 4 #[.int .i64 0, .int .i64 0, .slice none 0 0] 26 ?_; intro gb549 hg w24 hbox hb; have BK549 := A_ (hbox); have GW549 := A_ ((ts_ hg : w.heap.size ≤ gb549)); have GE549 := A_ ((ts_ hg : w.heap.size ≤ gb549)); replace HB := A_ (below_step tb_ hb); have NB548_549 := A_ ((by rw [hg]; exact Nat.ne_of_lt (blk_lt (g := gb548) (o := .cells #[.int .i64 a0_0, .int .i64 a0_1, .slice A0_2 l0_2.length c0_2] 26 (0, 0)) (tk_ BK548)) : gb548 ≠ gb549)); have NB549_548 := A_ ((by rw [hg]; exact Nat.ne_of_gt (blk_lt (g := gb548) (o := .cells #[.int .i64 a0_0, .int .i64 a0_1, .slice A0_2 l0_2.length c0_2] 26 (0, 0)) (tk_ BK548)) : gb549 ≠ gb548)); replace BK548 := A_ (blk_below (g := gb548) (o := .cells #[.int .i64 a0_0, .int .i64 a0_1, .slice A0_2 l0_2.length c0_2] 26 (0, 0)) (tk_ BK548) hb); clear hb hbox hg; have hnb25 := NB548_549.out; have hnc25 := NB549_548.out; obtain ⟨hcz26_0, hcz26_1, hcz26_2, hfz26_0, hfz26_1, hfz26_2⟩ := cf3_ BK548.out) | (refine gc_ 76 ?_; refine goesT_ (some 7) Try.func76 #[.agg #[.int .i64 a0_0, .int .i64 a0_1, .slice A0_2 l0_2.length c0_2]] ?_; (with_reducible refine (impl_IsBoard.calls a0_0 a0_1 _ _ l0_2 false _ ?side1 ?side2 A3.out).mono ?_); (case side1 => exact tc_ HR0_2.out); (case side2 => exact HC0_2.out); rintro e w27 ⟨rfl, hb⟩; refine ⟨_, rfl, ?_⟩; replace BK548 := A_ (blk_below (g := gb548) (o := .cells #[.int .i64 a0_0, .int .i64 a0_1, .slice A0_2 l0_2.length c0_2] 26 (0, 0)) (tk_ BK548) hb); replace BK549 := A_ (blk_below (g := gb549) (o := .cells #[.int .i64 0, .int .i64 0, .slice none 0 0] 26 (0, 0)) (tk_ BK549) hb); replace HB := A_ (below_step tb_ hb); (try clear hb); obtain ⟨hcz28_0, hcz28_1, hcz28_2, hfz28_0, hfz28_1, hfz28_2⟩ := cf3_ BK549.out))
  refine bodyPost_ret (results_ct rfl _ _ gb549 26 #[.int .i64 0, .int .i64 0, .slice none 0 0] (0, 0) _ rfl (by (with_reducible repeat (first | refine blk_drewN ?_ _ | refine blk_drew ?_ | refine blk_alloc ?_ _)); refine blk_put (cs := #[.int .i64 0, .int .i64 0, .slice none 0 0]) ?_ 2 _ rfl; (with_reducible repeat (first | refine blk_drewN ?_ _ | refine blk_drew ?_ | refine blk_alloc ?_ _)); refine blk_put (cs := #[.int .i64 0, .int .i64 0, .slice none 0 0]) ?_ 1 _ rfl; (with_reducible repeat (first | refine blk_drewN ?_ _ | refine blk_drew ?_ | refine blk_alloc ?_ _)); refine blk_put (cs := #[.int .i64 0, .int .i64 0, .slice none 0 0]) ?_ 0 _ rfl; (with_reducible repeat (first | refine blk_drewN ?_ _ | refine blk_drew ?_ | refine blk_alloc ?_ _)); exact BK549.out) Try.underlying26 rfl (by kernel_rfl)) rfl ?_
  exact ⟨_, te_, by first | exact Kd.R_nil _ _ _ _ _ | exact Kd.N_nil _ _ _ _ _ | exact Kd.V_nil _ _ _ _ _ | exact Kd.Q_nil _ _ _ _ _ | exact Kd.S_nil _ _ _ _ _, tb_⟩

/-! ### spec_biColour: function 92 -/
def spec_biColour.f (a0 : Int) : Option (Bool) := (spec_l1In.f a0 0 1).bind fun t578 => (some t578)
theorem spec_biColour.calls (a0 : Int) (r : Bool) (w : World) (h : spec_biColour.f a0 = some r) :
  Calls Try.prog 92 #[.int .i64 a0] w fun e w' => e = .returned (.bool r) ∧ Drawn0 w w' := by
 have H : ((spec_l1In.f a0 0 1).bind fun t578 => (some t578)) = some r := h
 clear h
 replace H := Option.bind_eq_some_iff.mp H
 obtain ⟨t578, A20, H⟩ := H
 replace H : (some t578) = some r := H
 have A2 := A_ A20
 clear A20
 obtain rfl := Option.some.inj H
 go_enter Try.func92, Try.ntmps92
 go_wp2_with (first | (refine gc_ 105 ?_; refine goesT_ (some 4) Try.func105 #[.int .i64 a0, .int .i64 0, .int .i64 1] ?_; (with_reducible refine (spec_l1In.calls a0 0 1 t578 _ A2.out).mono ?_); rintro e w' ⟨rfl, ⟨nd, rfl⟩⟩; refine ⟨_, rfl, ?_⟩))
 go_ret
 exact ⟨tf_, dr_⟩

end
end Go.Proofs.Ytdoflpghemgbdaa.P
