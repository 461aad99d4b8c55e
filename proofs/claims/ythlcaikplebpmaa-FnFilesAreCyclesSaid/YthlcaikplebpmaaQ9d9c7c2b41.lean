-- printed functions (wip/slim.py)
import Derived.Test.YthlcaikplebpmaaPx0
import Derived.Test.YthlcaikplebpmaaQ1e97019e3e
import Derived.Test.YthlcaikplebpmaaQ3d13ff768b
namespace Go.Proofs.Ythlcaikplebpmaa.P
noncomputable section
set_option maxHeartbeats 8000000
set_option maxRecDepth 100000
open Go.RowKit Go.Proofs.YthlcaikplebpmaaW.PrintWords Go.Proofs.YthlcaikplebpmaaW.PrintLast Go.Proofs.YthlcaikplebpmaaW.PrintMore
attribute [local go_sem] max2_int min2_int max_two min_two max_three min_three max_four min_four   -- for this text's walks alone
set_option linter.unusedVariables false
set_option linter.unusedSimpArgs false

/-! ### spec_l1All: function 126 -/
def spec_l1All.l0 : Nat → Int → Int → List Int → Int → Int → Option (Bool)
 | 0, _, _, _, _, _ => none
 | k + 1, x1, x2, x9, x10, x11 => if x11 < x10 then (if 0 ≤ x11 then (if x11 < (x9.length : Int) then ((spec_l1In.f (rd x9 x11) x1 x2).bind fun t104 => (if t104 = true then (spec_l1All.l0 k x1 x2 x9 x10 (wrap64 (x11 + 1))) else (some false))) else (none)) else (none)) else (some true)
def spec_l1All.f (k : Nat) (l0 : List Int) (a1 : Int) (a2 : Int) : Option (Bool) := spec_l1All.l0 k a1 a2 l0 (l0.length : Int) 0
theorem spec_l1All.mono_l : ∀ k, (∀ y0 y1 y2 y3 y4, LeO (spec_l1All.l0 k y0 y1 y2 y3 y4) (spec_l1All.l0 (k + 1) y0 y1 y2 y3 y4))
 | 0 => fun _ _ _ _ _ r h => by simp [spec_l1All.l0] at h
 | k + 1 => by
  have ih0 := spec_l1All.mono_l k
  ·
   intro y0 y1 y2 y3 y4
   unfold spec_l1All.l0
   repeat' first | (with_reducible first | exact ih0 _ _ _ _ _ | exact LeO.refl _ | exact LeO.none _ | refine LeO.ite ?_ ?_ | refine LeO.bind ?_ (fun _ => ?_)) | exact ih0 _ _ _ _ _ | exact LeO.none _ | refine LeO.ite ?_ ?_ | refine LeO.bind ?_ (fun _ => ?_)
theorem spec_l1All.mono : ∀ a0 a1 a2 k, LeO (spec_l1All.f k a0 a1 a2) (spec_l1All.f (k + 1) a0 a1 a2) := by
 intro a0 a1 a2 k
 have ih0 := spec_l1All.mono_l k
 unfold spec_l1All.f
 repeat' first | (with_reducible first | exact ih0 _ _ _ _ _ | exact LeO.refl _ | exact LeO.none _ | refine LeO.ite ?_ ?_ | refine LeO.bind ?_ (fun _ => ?_)) | exact ih0 _ _ _ _ _ | exact LeO.none _ | refine LeO.ite ?_ ?_ | refine LeO.bind ?_ (fun _ => ?_)
theorem spec_l1All.calls (k : Nat) (A0 : Option Addr) (c0 : Nat) (l0 : List Int) (a1 : Int) (a2 : Int) (r : Bool) (w : World) (hr0 : Kd.C (Kd.int .i64) w A0 l0.length l0) (hc0 : l0.length ≤ c0) (h : spec_l1All.f k l0 a1 a2 = some r) :
  Calls Try.prog 126 #[.slice A0 l0.length c0, .int .i64 a1, .int .i64 a2] w fun e w' => e = .returned (.bool r) ∧ Drawn0 w w' := by
 have HR0 := A_ hr0
 have HC0 := A_ hc0
 clear hr0 hc0
 have H : (spec_l1All.l0 k a1 a2 l0 (l0.length : Int) 0) = some r := h
 clear h
 have H' := A_ H
 clear H
 go_enter Try.func126, Try.ntmps126
 go_wp2
 go_loopg [11] k (fun kq v11 w' => ∃ (x11_1 : Int), v11 = .int .i64 x11_1 ∧ Aside0 (spec_l1All.l0 kq a1 a2 l0 (l0.length : Int) x11_1 = some r) ∧ Aside0 (kq ≤ k) ∧ Drawn0 w w')
 case atStart => exact ⟨(0), tf_, H', ⟨Nat.le_refl _⟩, dr_⟩
 case round =>
  clear H'
  try clear c1
  try clear p2
  obtain ⟨x11_1, rfl, HA, HK1, ⟨m1, rfl⟩⟩ := hrel
  cases gk with
  | zero => exact absurd HA.out (by simp [spec_l1All.l0])
  | succ k1 =>
   have H := HA.out
   clear HA
   simp only [spec_l1All.l0] at H
   by_cases c4 : x11_1 < (l0.length : Int)
   ·
    rw [if_pos c4] at H
    have c4b0 := decide_eq_true c4
    clear c4
    by_cases c5 : 0 ≤ x11_1
    ·
     rw [if_pos c5] at H
     have c5b0 := decide_eq_true c5
     clear c5
     by_cases c6 : x11_1 < (l0.length : Int)
     ·
      rw [if_pos c6] at H
      have c6b0 := decide_eq_true c6
      clear c6
      replace H := Option.bind_eq_some_iff.mp H
      obtain ⟨t104, A70, H⟩ := H
      replace H : (if t104 = true then (spec_l1All.l0 k1 a1 a2 l0 (l0.length : Int) (wrap64 (x11_1 + 1))) else (some false)) = some r := H
      have A7 := A_ A70
      clear A70
      by_cases c8 : t104 = true
      ·
       subst c8
       have H1 : (spec_l1All.l0 k1 a1 a2 l0 (l0.length : Int) (wrap64 (x11_1 + 1))) = some r := by rw [if_pos rfl] at H; exact H
       clear H
       have H := H1
       clear H1
       have H' := A_ H
       clear H
       have p103 : 0 ≤ (x11_1 : Int) := od_
       have q103 : x11_1 < (l0.length : Int) := od_
       obtain ⟨ad103, e103, hx103_0⟩ := Kd.at_int HR0.out x11_1 p103 q103
       cases e103
       replace p103 := eq_true p103
       replace q103 := eq_true q103
       go_wp2_with (first | (refine gc_ 111 ?_; refine goesT_ (some 18) Try.func111 #[.int .i64 (rd l0 x11_1), .int .i64 a1, .int .i64 a2] ?_; (with_reducible refine (spec_l1In.calls (rd l0 x11_1) a1 a2 true _ A7.out).mono ?_); rintro e w' ⟨rfl, ⟨nd, rfl⟩⟩; refine ⟨_, rfl, ?_⟩))
       go_roundg k1
       case measure => have := HK1.out; omega
       case rel => exact ⟨(wrap64 (x11_1 + 1)), tf_, H', ⟨by have := HK1.out; omega⟩, dr_⟩
      ·
       replace c8 := Bool.eq_false_iff.mpr c8
       subst c8
       have H1 : (some false) = some r := by rw [if_neg (show ¬ (false = true) by decide)] at H; exact H
       clear H
       have H := H1
       clear H1
       obtain rfl := Option.some.inj H
       have p103 : 0 ≤ (x11_1 : Int) := od_
       have q103 : x11_1 < (l0.length : Int) := od_
       obtain ⟨ad103, e103, hx103_0⟩ := Kd.at_int HR0.out x11_1 p103 q103
       cases e103
       replace p103 := eq_true p103
       replace q103 := eq_true q103
       go_wp2_with (first | (refine gc_ 111 ?_; refine goesT_ (some 18) Try.func111 #[.int .i64 (rd l0 x11_1), .int .i64 a1, .int .i64 a2] ?_; (with_reducible refine (spec_l1In.calls (rd l0 x11_1) a1 a2 false _ A7.out).mono ?_); rintro e w' ⟨rfl, ⟨nd, rfl⟩⟩; refine ⟨_, rfl, ?_⟩))
       go_ret
       exact ⟨tf_, dr_⟩
     ·
      rw [if_neg c6] at H
      exact absurd H (by simp)
    ·
     rw [if_neg c5] at H
     exact absurd H (by simp)
   ·
    rw [if_neg c4] at H
    have c4b0 := decide_eq_false c4
    clear c4
    obtain rfl := Option.some.inj H
    go_wp2
    go_ret
    exact ⟨tf_, dr_⟩

/-! ### spec_boHas: function 182 -/
def spec_boHas.f (a0_0 : Int) (a0_1 : Int) (l0_2 : List Int) (a1 : Int) (a2 : Int) : Option (Bool) := if 0 ≤ a1 then (if a1 < (l0_2.length : Int) then (if 0 ≤ a2 then (some ((Int.tmod (shr .i64 (rd l0_2 a1) a2) 2) == 1)) else (none)) else (none)) else (none)
theorem spec_boHas.calls (a0_0 : Int) (a0_1 : Int) (A0_2 : Option Addr) (c0_2 : Nat) (l0_2 : List Int) (a1 : Int) (a2 : Int) (r : Bool) (w : World) (hr0_2 : Kd.C (Kd.int .i64) w A0_2 l0_2.length l0_2) (hc0_2 : l0_2.length ≤ c0_2) (h : spec_boHas.f a0_0 a0_1 l0_2 a1 a2 = some r) :
  Calls Try.prog 182 #[.agg #[.int .i64 a0_0, .int .i64 a0_1, .slice A0_2 l0_2.length c0_2], .int .i64 a1, .int .i64 a2] w fun e w' => e = .returned (.bool r) ∧ Below w.heap.size w w' := by
 have hu26 := Try.underlying26
 have HR0_2 := A_ hr0_2
 have HC0_2 := A_ hc0_2
 clear hr0_2 hc0_2
 have HB := A_ (Below.refl w.heap.size w)
 have H : (if 0 ≤ a1 then (if a1 < (l0_2.length : Int) then (if 0 ≤ a2 then (some ((Int.tmod (shr .i64 (rd l0_2 a1) a2) 2) == 1)) else (none)) else (none)) else (none)) = some r := h
 clear h
 by_cases c4 : 0 ≤ a1
 ·
  rw [if_pos c4] at H
  have c4b0 := decide_eq_true c4
  clear c4
  by_cases c5 : a1 < (l0_2.length : Int)
  ·
   rw [if_pos c5] at H
   have c5b0 := decide_eq_true c5
   clear c5
   by_cases c6 : 0 ≤ a2
   ·
    rw [if_pos c6] at H
    have c6b0 := eq_true c6
    have c6b1 := decide_eq_true c6
    clear c6
    obtain ⟨ji7, hji7⟩ : ∃ j_ : Int, (shr .i64 (rd l0_2 a1) a2) = j_ := ⟨_, rfl⟩
    replace H : (some ((Int.tmod (ji7) 2) == 1)) = some r := by first | (rw [hji7] at H; exact H) | (simp only [hji7] at H ⊢; exact H)
    have hji7_ : ((rd l0_2 a1) / 2 ^ min a2.toNat 64) = ji7 := hji7
    have hji7z : a2 ≤ 64 → ((rd l0_2 a1) / 2 ^ a2.toNat) = ji7 := shr_small hji7
    obtain rfl := Option.some.inj H
    go_enter Try.func182, Try.ntmps182
    go_wp2_with (first | (refine gd_ 3 ?_; refine bx_ 3 #[.int .i64 a0_0, .int .i64 a0_1, .slice A0_2 l0_2.length c0_2] 26 ?_; intro gb111 hg w8 hbox hb; have BK111 := A_ (hbox); have GW111 := A_ ((ts_ hg : w.heap.size ≤ gb111)); have GE111 := A_ ((ts_ hg : w.heap.size ≤ gb111)); replace HB := A_ (below_step tb_ hb); clear hb hbox hg; obtain ⟨hcz9_0, hcz9_1, hcz9_2, hfz9_0, hfz9_1, hfz9_2⟩ := cf3_ BK111.out; have p112 : 0 ≤ (a1 : Int) := od_; have q112 : a1 < (l0_2.length : Int) := od_; obtain ⟨ad112, e112, hx112_0⟩ := Kd.at_int HR0_2.out a1 p112 q112; cases e112; (try replace hx112_0 := (HB.out.cell (World.block_lt_of_cell? w _ hx112_0)).trans hx112_0); replace p112 := eq_true p112; replace q112 := eq_true q112))
    go_ret
    exact ⟨by first | rfl | (simp [errW_none, errW_some] <;> rfl) | (simp only [← hji7]; first | rfl | (simp [errW_none, errW_some] <;> rfl)) | (simp [*, errW_none, errW_some] <;> rfl), tb_⟩
   ·
    rw [if_neg c6] at H
    exact absurd H (by simp)
  ·
   rw [if_neg c5] at H
   exact absurd H (by simp)
 ·
  rw [if_neg c4] at H
  exact absurd H (by simp)

/-! ### spec_boEmpty: function 170 -/
def spec_boEmpty.f (a0 : Int) (a1 : Int) : Option (Int × Int × List Int) := if 0 ≤ a0 then (if (a0 : Int).toNat ≤ 35184372088832 then (some (a0, a1, (List.replicate (a0 : Int).toNat 0))) else (none)) else (none)
theorem spec_boEmpty.calls (a0 : Int) (a1 : Int) (r1 : Int) (r2 : Int) (r3 : List Int) (w : World) (h : spec_boEmpty.f a0 a1 = some (r1, r2, r3)) :
  Calls Try.prog 170 #[.int .i64 a0, .int .i64 a1] w fun e w' => ∃ v2_ : Value, e = .returned (.agg #[.int .i64 r1, .int .i64 r2, v2_]) ∧ Kd.R (Kd.int .i64) 3 w' w.heap.size (fun _ => True) v2_ r3 ∧ Below w.heap.size w w' := by
 have hu26 := Try.underlying26
 have HB := A_ (Below.refl w.heap.size w)
 have H : (if 0 ≤ a0 then (if (a0 : Int).toNat ≤ 35184372088832 then (some (a0, a1, (List.replicate (a0 : Int).toNat 0))) else (none)) else (none)) = some (r1, r2, r3) := h
 clear h
 by_cases c3 : 0 ≤ a0
 ·
  rw [if_pos c3] at H
  have c3b0 := eq_true c3
  have c3b1 := decide_eq_true c3
  clear c3
  by_cases c4 : (a0 : Int).toNat ≤ 35184372088832
  ·
   rw [if_pos c4] at H
   have c4b0 := eq_true c4
   have c4b1 := decide_eq_true c4
   clear c4
   obtain ⟨y174, hy174⟩ : ∃ y_ : List Int, y_ = (List.replicate (a0 : Int).toNat 0) := ⟨_, rfl⟩
   replace H : (some (a0, a1, y174)) = some (r1, r2, r3) := ty_ hy174 H
   have Ny174 := A_ hy174
   clear hy174
   simp only [Option.some.injEq, Prod.mk.injEq] at H
   obtain ⟨rfl, rfl, rfl⟩ := H
   go_enter Try.func170, Try.ntmps170
   go_wp2_with (first | (refine gd_ 4 ?_; refine bx_ 4 #[.int .i64 0, .int .i64 0, .slice none 0 0] 26 ?_; intro gb173 hg w5 hbox hb; have BK173 := A_ (hbox); have GW173 := A_ ((ts_ hg : w.heap.size ≤ gb173)); have GE173 := A_ ((ts_ hg : w.heap.size ≤ gb173)); replace HB := A_ (below_step tb_ hb); clear hb hbox hg) | (refine gd_ 8 ?_; refine Kd.R_make (Kd.int .i64) _ 3 rfl (N := 8) rfl 22 _ _ rfl a0 rfl rfl Try.underlying22 (.int .i64 0) 8 info3 rfl (by decide) (by omega) 0 (ok := fun _ => True) (okp := fun _ => True) rfl (fun _ hk => hk) trivial (od_) (Nat.le_trans (Nat.mul_le_mul_right _ (od_ : a0.toNat ≤ 35184372088832)) (by omega)) (Below.refl _ _) (Nat.le_refl _) ?_; intro v175 w6 ho7 hb hg_ hnew_; clear hg_ hnew_; (first | rw [← Ny174.out] at ho7 | (simp only [Int.reduceToNat] at ho7; rw [← Ny174.out] at ho7)); have HO176 := A_ (Kd.R_lower ho7 (below_size tb_)); replace BK173 := A_ (blk_below (g := gb173) (o := .cells #[.int .i64 0, .int .i64 0, .slice none 0 0] 26 (0, 0)) (tk_ BK173) hb); replace HB := A_ (below_step tb_ hb); clear hb ho7; obtain ⟨Ao8, co8, eo8⟩ := Kd.R_slice HO176.out; subst eo8; obtain ⟨hcz9_0, hcz9_1, hcz9_2, hfz9_0, hfz9_1, hfz9_2⟩ := cf3_ BK173.out))
   refine bodyPost_ret (results_cell_row rfl _ _ gb173 26 #[.int .i64 a0, .int .i64 a1, .slice Ao8 y174.length co8] (0, 0) _ rfl (by (with_reducible repeat (first | refine blk_drewN ?_ _ | refine blk_drew ?_ | refine blk_alloc ?_ _)); refine blk_put (cs := #[.int .i64 a0, .int .i64 a1, .slice none 0 0]) ?_ 2 _ rfl; (with_reducible repeat (first | refine blk_drewN ?_ _ | refine blk_drew ?_ | refine blk_alloc ?_ _)); refine blk_put (cs := #[.int .i64 a0, .int .i64 0, .slice none 0 0]) ?_ 1 _ rfl; (with_reducible repeat (first | refine blk_drewN ?_ _ | refine blk_drew ?_ | refine blk_alloc ?_ _)); refine blk_put (cs := #[.int .i64 0, .int .i64 0, .slice none 0 0]) ?_ 0 _ rfl; (with_reducible repeat (first | refine blk_drewN ?_ _ | refine blk_drew ?_ | refine blk_alloc ?_ _)); exact BK173.out) Try.underlying26 rfl (by kernel_rfl)) rfl ?_
   exact ⟨_, te_, by (with_reducible repeat (first | apply Kd.R_alloc | apply Kd.R_drewN | apply Kd.R_drew)); exact Kd.R_mono (Kd.R_far (p := ⟨gb173, 2, none⟩) (Kd.R_far (p := ⟨gb173, 1, none⟩) (Kd.R_far (p := ⟨gb173, 0, none⟩) (Kd.R_types HO176.out BK173.out (by decide)) (fun _ hk => hk.2) (.int .i64 a0)) (fun _ hk => hk.2) (.int .i64 a1)) (fun _ hk => hk.2) (.slice Ao8 y174.length co8)) (fun _ hk => trivial), tb_⟩
  ·
   rw [if_neg c4] at H
   exact absurd H (by simp)
 ·
  rw [if_neg c3] at H
  exact absurd H (by simp)

/-! ### slices_IndexFunc_int_int_203: function 203 -/
def slices_IndexFunc_int_int_203.l0 : Nat → List Int → FnT47 → Int → Int → Option (Int)
 | 0, _, _, _, _ => none
 | k + 1, x0, x1, x7, x8 => if x8 < x7 then (if 0 ≤ x8 then (if x8 < (x0.length : Int) then ((FnCall47.f (rd x0 x8) x1).bind fun t234 => (if t234 = true then (some x8) else (slices_IndexFunc_int_int_203.l0 k x0 x1 x7 (wrap64 (x8 + 1))))) else (none)) else (none)) else (some (-1))
def slices_IndexFunc_int_int_203.f (k : Nat) (l0 : List Int) (a1 : FnT47) : Option (Int) := slices_IndexFunc_int_int_203.l0 k l0 a1 (l0.length : Int) 0
theorem slices_IndexFunc_int_int_203.mono_l : ∀ k, (∀ y0 y1 y2 y3, LeO (slices_IndexFunc_int_int_203.l0 k y0 y1 y2 y3) (slices_IndexFunc_int_int_203.l0 (k + 1) y0 y1 y2 y3))
 | 0 => fun _ _ _ _ r h => by simp [slices_IndexFunc_int_int_203.l0] at h
 | k + 1 => by
  have ih0 := slices_IndexFunc_int_int_203.mono_l k
  ·
   intro y0 y1 y2 y3
   unfold slices_IndexFunc_int_int_203.l0
   repeat' first | (with_reducible first | exact ih0 _ _ _ _ | exact LeO.refl _ | exact LeO.none _ | refine LeO.ite ?_ ?_ | refine LeO.bind ?_ (fun _ => ?_)) | exact ih0 _ _ _ _ | exact LeO.none _ | refine LeO.ite ?_ ?_ | refine LeO.bind ?_ (fun _ => ?_)
theorem slices_IndexFunc_int_int_203.mono : ∀ a0 a1 k, LeO (slices_IndexFunc_int_int_203.f k a0 a1) (slices_IndexFunc_int_int_203.f (k + 1) a0 a1) := by
 intro a0 a1 k
 have ih0 := slices_IndexFunc_int_int_203.mono_l k
 unfold slices_IndexFunc_int_int_203.f
 repeat' first | (with_reducible first | exact ih0 _ _ _ _ | exact LeO.refl _ | exact LeO.none _ | refine LeO.ite ?_ ?_ | refine LeO.bind ?_ (fun _ => ?_)) | exact ih0 _ _ _ _ | exact LeO.none _ | refine LeO.ite ?_ ?_ | refine LeO.bind ?_ (fun _ => ?_)
theorem slices_IndexFunc_int_int_203.calls (k : Nat) (A0 : Option Addr) (c0 : Nat) (l0 : List Int) (v1 : Value) (a1 : FnT47) (r : Int) (w : World) (hr0 : Kd.C (Kd.int .i64) w A0 l0.length l0) (hc0 : l0.length ≤ c0) (hF1 : FnOk47 w v1 a1) (h : slices_IndexFunc_int_int_203.f k l0 a1 = some r) :
  Calls Try.prog 203 #[.slice A0 l0.length c0, v1] w fun e w' => e = .returned (.int .i64 r) ∧ Below w.heap.size w w' := by
 have HR0 := A_ hr0
 have HC0 := A_ hc0
 clear hr0 hc0
 have HF1 := A_ hF1
 clear hF1
 have HB := A_ (Below.refl w.heap.size w)
 have H : (slices_IndexFunc_int_int_203.l0 k l0 a1 (l0.length : Int) 0) = some r := h
 clear h
 have H' := A_ H
 clear H
 go_enter Try.func203, Try.ntmps203
 go_wp2
 go_loopg [8] k (fun kq v8 w' => ∃ (x8_1 : Int), v8 = .int .i64 x8_1 ∧ Aside0 (slices_IndexFunc_int_int_203.l0 kq l0 a1 (l0.length : Int) x8_1 = some r) ∧ Aside0 (kq ≤ k) ∧ Aside0 (Below w.heap.size w w'))
 case atStart => exact ⟨(0), tf_, H', ⟨Nat.le_refl _⟩, ⟨tb_⟩⟩
 case round =>
  clear H'
  try clear c2
  try clear p2
  obtain ⟨x8_1, rfl, HA, HK1, HB⟩ := hrel
  cases gk with
  | zero => exact absurd HA.out (by simp [slices_IndexFunc_int_int_203.l0])
  | succ k1 =>
   have H := HA.out
   clear HA
   simp only [slices_IndexFunc_int_int_203.l0] at H
   by_cases c3 : x8_1 < (l0.length : Int)
   ·
    rw [if_pos c3] at H
    have c3b0 := decide_eq_true c3
    clear c3
    by_cases c4 : 0 ≤ x8_1
    ·
     rw [if_pos c4] at H
     have c4b0 := decide_eq_true c4
     clear c4
     by_cases c5 : x8_1 < (l0.length : Int)
     ·
      rw [if_pos c5] at H
      have c5b0 := decide_eq_true c5
      clear c5
      replace H := Option.bind_eq_some_iff.mp H
      obtain ⟨t234, A60, H⟩ := H
      replace H : (if t234 = true then (some x8_1) else (slices_IndexFunc_int_int_203.l0 k1 l0 a1 (l0.length : Int) (wrap64 (x8_1 + 1)))) = some r := H
      have A6 := A_ A60
      clear A60
      by_cases c7 : t234 = true
      ·
       subst c7
       have H1 : (some x8_1) = some r := by rw [if_pos rfl] at H; exact H
       clear H
       have H := H1
       clear H1
       obtain rfl := Option.some.inj H
       have p233 : 0 ≤ (x8_1 : Int) := od_
       have q233 : x8_1 < (l0.length : Int) := od_
       obtain ⟨ad233, e233, hx233_0⟩ := Kd.at_int HR0.out x8_1 p233 q233
       cases e233
       (try replace hx233_0 := (HB.out.cell (World.block_lt_of_cell? w _ hx233_0)).trans hx233_0)
       replace p233 := eq_true p233
       replace q233 := eq_true q233
       go_wp2_with (first | ((with_reducible refine Fn.gate_value rfl ?_); refine Fn.goesVw_ (some 16) rfl (by first | rfl | (simp [Region.wanted, yielded]; done)) v1 rfl #[.int .i64 (rd l0 x8_1)] rfl ta_ ?_; (with_reducible refine (FnCall47.calls (rd l0 x8_1) v1 a1 true _ ?side1 A6.out).mono ?_); (case side1 => exact FnOk47.mono HF1.out tb_); rintro e w8 ⟨rfl, hb⟩; refine ⟨_, rfl, ?_⟩; replace HB := A_ (below_step tb_ hb); (try clear hb)))
       go_ret
       exact ⟨te_, tb_⟩
      ·
       replace c7 := Bool.eq_false_iff.mpr c7
       subst c7
       have H1 : (slices_IndexFunc_int_int_203.l0 k1 l0 a1 (l0.length : Int) (wrap64 (x8_1 + 1))) = some r := by rw [if_neg (show ¬ (false = true) by decide)] at H; exact H
       clear H
       have H := H1
       clear H1
       have H' := A_ H
       clear H
       have p233 : 0 ≤ (x8_1 : Int) := od_
       have q233 : x8_1 < (l0.length : Int) := od_
       obtain ⟨ad233, e233, hx233_0⟩ := Kd.at_int HR0.out x8_1 p233 q233
       cases e233
       (try replace hx233_0 := (HB.out.cell (World.block_lt_of_cell? w _ hx233_0)).trans hx233_0)
       replace p233 := eq_true p233
       replace q233 := eq_true q233
       go_wp2_with (first | ((with_reducible refine Fn.gate_value rfl ?_); refine Fn.goesVw_ (some 16) rfl (by first | rfl | (simp [Region.wanted, yielded]; done)) v1 rfl #[.int .i64 (rd l0 x8_1)] rfl ta_ ?_; (with_reducible refine (FnCall47.calls (rd l0 x8_1) v1 a1 false _ ?side1 A6.out).mono ?_); (case side1 => exact FnOk47.mono HF1.out tb_); rintro e w9 ⟨rfl, hb⟩; refine ⟨_, rfl, ?_⟩; replace HB := A_ (below_step tb_ hb); (try clear hb)))
       go_roundg k1
       case measure => have := HK1.out; omega
       case rel => exact ⟨(wrap64 (x8_1 + 1)), tf_, H', ⟨by have := HK1.out; omega⟩, ⟨tb_⟩⟩
     ·
      rw [if_neg c5] at H
      exact absurd H (by simp)
    ·
     rw [if_neg c4] at H
     exact absurd H (by simp)
   ·
    rw [if_neg c3] at H
    have c3b0 := decide_eq_false c3
    clear c3
    obtain rfl := Option.some.inj H
    go_wp2
    go_ret
    exact ⟨te_, tb_⟩

/-! ### slices_ContainsFunc_int_int_151: function 151 -/
def slices_ContainsFunc_int_int_151.f (k : Nat) (l0 : List Int) (a1 : FnT47) : Option (Bool) := (slices_IndexFunc_int_int_203.f k l0 a1).bind fun t235 => (some (decide (t235 ≥ 0)))
theorem slices_ContainsFunc_int_int_151.mono : ∀ a0 a1 k, LeO (slices_ContainsFunc_int_int_151.f k a0 a1) (slices_ContainsFunc_int_int_151.f (k + 1) a0 a1) := by
 intro a0 a1 k
 unfold slices_ContainsFunc_int_int_151.f
 repeat' first | (with_reducible first | exact slices_IndexFunc_int_int_203.mono _ _ _ | exact LeO.refl _ | exact LeO.none _ | refine LeO.ite ?_ ?_ | refine LeO.bind ?_ (fun _ => ?_)) | exact slices_IndexFunc_int_int_203.mono _ _ _ | exact LeO.none _ | refine LeO.ite ?_ ?_ | refine LeO.bind ?_ (fun _ => ?_)
theorem slices_ContainsFunc_int_int_151.calls (k : Nat) (A0 : Option Addr) (c0 : Nat) (l0 : List Int) (v1 : Value) (a1 : FnT47) (r : Bool) (w : World) (hr0 : Kd.C (Kd.int .i64) w A0 l0.length l0) (hc0 : l0.length ≤ c0) (hF1 : FnOk47 w v1 a1) (h : slices_ContainsFunc_int_int_151.f k l0 a1 = some r) :
  Calls Try.prog 151 #[.slice A0 l0.length c0, v1] w fun e w' => e = .returned (.bool r) ∧ Below w.heap.size w w' := by
 have HR0 := A_ hr0
 have HC0 := A_ hc0
 clear hr0 hc0
 have HF1 := A_ hF1
 clear hF1
 have HB := A_ (Below.refl w.heap.size w)
 have H : ((slices_IndexFunc_int_int_203.f k l0 a1).bind fun t235 => (some (decide (t235 ≥ 0)))) = some r := h
 clear h
 replace H := Option.bind_eq_some_iff.mp H
 obtain ⟨t235, A30, H⟩ := H
 replace H : (some (decide (t235 ≥ 0))) = some r := H
 have A3 := A_ A30
 clear A30
 obtain rfl := Option.some.inj H
 go_enter Try.func151, Try.ntmps151
 go_wp2_with (first | (refine gc_ 203 ?_; refine goesT_ (some 7) Try.func203 #[.slice A0 l0.length c0, v1] ?_; (with_reducible refine (slices_IndexFunc_int_int_203.calls k _ _ l0 v1 a1 t235 _ ?side1 ?side2 ?side3 A3.out).mono ?_); (case side1 => exact tc0_ HR0.out); (case side2 => exact HC0.out); (case side3 => exact FnOk47.mono HF1.out tb_); rintro e w4 ⟨rfl, hb⟩; refine ⟨_, rfl, ?_⟩; replace HB := A_ (below_step tb_ hb); (try clear hb)))
 go_ret
 exact ⟨te_, tb_⟩

/-! ### impl_isSide: function 172 -/
def impl_isSide.f (a0 : Int) : Option (Bool) := (impl_within.f a0 1 6).bind fun t236 => (some t236)
theorem impl_isSide.calls (a0 : Int) (r : Bool) (w : World) (h : impl_isSide.f a0 = some r) :
  Calls Try.prog 172 #[.int .i64 a0] w fun e w' => e = .returned (.bool r) ∧ Drawn0 w w' := by
 have H : ((impl_within.f a0 1 6).bind fun t236 => (some t236)) = some r := h
 clear h
 replace H := Option.bind_eq_some_iff.mp H
 obtain ⟨t236, A20, H⟩ := H
 replace H : (some t236) = some r := H
 have A2 := A_ A20
 clear A20
 obtain rfl := Option.some.inj H
 go_enter Try.func172, Try.ntmps172
 go_wp2_with (first | (refine gc_ 113 ?_; refine goesT_ (some 4) Try.func113 #[.int .i64 a0, .int .i64 1, .int .i64 6] ?_; (with_reducible refine (impl_within.calls a0 1 6 t236 _ A2.out).mono ?_); rintro e w' ⟨rfl, ⟨nd, rfl⟩⟩; refine ⟨_, rfl, ?_⟩))
 go_ret
 exact ⟨tf_, dr_⟩

/-! ### impl_IsBoard: function 93 -/
def boardB (rows cols : Int) (cells : List Int) : Bool := decide (1 ≤ rows ∧ rows ≤ 6) && decide (1 ≤ cols ∧ cols ≤ 6) && decide ((cells.length : Int) = rows) && cells.all fun m => decide (0 ≤ m ∧ m ≤ 2 ^ cols.toNat - 1)
def impl_IsBoard.f (a0_0 : Int) (a0_1 : Int) (l0_2 : List Int) : Option (Bool) := some (boardB a0_0 a0_1 l0_2)
theorem impl_IsBoard.closure (m cols : Int) (g : Nat) (w : World) (hc : w.cell? ⟨g, 1, none⟩ = some (.int .i64 cols)) (h0 : 1 ≤ cols) (h1 : cols ≤ 6) :
  Calls Try.prog 173 #[.int .i64 m, .pointer (some ⟨g, 0, none⟩)] w fun e w' => e = .returned (.bool (!(decide (0 ≤ m ∧ m ≤ 2 ^ cols.toNat - 1)))) ∧ w' = w := by
 have hcols : cols = 1 ∨ cols = 2 ∨ cols = 3 ∨ cols = 4 ∨ cols = 5 ∨ cols = 6 := by omega
 by_cases hm : 0 ≤ m
 ·
  rcases hcols with rfl | rfl | rfl | rfl | rfl | rfl
  all_goals
   go_enter Try.func173, Try.ntmps173
   go_wp2
   go_ret
   exact ⟨by simp [hm] <;> omega, rfl⟩
 ·
  rcases hcols with rfl | rfl | rfl | rfl | rfl | rfl
  all_goals
   go_enter Try.func173, Try.ntmps173
   go_wp2
   go_ret
   exact ⟨by simp [hm], rfl⟩
theorem impl_IsBoard.index (l : List Int) (P : Int → Bool) (hb : l.length ≤ 1152921504606846976) : ∀ (d i : Nat) (k : Nat), l.length - i = d → i ≤ l.length → d < k →
  ∃ r : Int, slices_IndexFunc_int_int_203.l0 k l (fun x => some (P x)) (l.length : Int) (i : Int) = some r ∧ decide (r ≥ 0) = (l.drop i).any P := by
 intro d
 induction d with
 | zero =>
  intro i k hd hi hk
  obtain ⟨k, rfl⟩ : ∃ m, k = m + 1 := ⟨k - 1, by omega⟩
  exact ⟨-1, by rw [slices_IndexFunc_int_int_203.l0, if_neg (by omega)], by rw [List.drop_eq_nil_of_le (by omega)]; rfl⟩
 | succ d ih =>
  intro i k hd hi hk
  obtain ⟨k, rfl⟩ : ∃ m, k = m + 1 := ⟨k - 1, by omega⟩
  have h1 : i < l.length := by omega
  have hr : rd l (i : Int) = l[i] := by unfold rd; simp [List.getD_eq_getElem?_getD, List.getElem?_eq_getElem h1]
  rw [List.drop_eq_getElem_cons h1, List.any_cons]
  by_cases hp : P l[i] = true
  ·
   refine ⟨i, ?_, ?_⟩
   ·
    rw [slices_IndexFunc_int_int_203.l0, if_pos (by omega), if_pos (by omega), if_pos (by omega), hr]
    simp only [FnCall47.f, hp, Option.bind_some, if_true]
   ·
    rw [hp, Bool.true_or]; simp
  ·
   obtain ⟨r, h2, h3⟩ := ih (i + 1) k (by omega) (by omega) (by omega)
   refine ⟨r, ?_, ?_⟩
   ·
    rw [slices_IndexFunc_int_int_203.l0, if_pos (by omega), if_pos (by omega), if_pos (by omega), hr]
    simp only [FnCall47.f, hp, Option.bind_some]
    rw [if_neg (by simp), show wrap64 ((i : Int) + 1) = ((i + 1 : Nat) : Int) by unfold wrap64; omega]
    exact h2
   ·
    rw [h3]; simp only [Bool.not_eq_true] at hp; rw [hp, Bool.false_or]
theorem impl_IsBoard.contains (l : List Int) (P : Int → Bool) (hb : l.length ≤ 1152921504606846976) : slices_ContainsFunc_int_int_151.f (l.length + 1) l (fun x => some (P x)) = some (l.any P) := by
 obtain ⟨r, h1, h2⟩ := impl_IsBoard.index l P hb l.length 0 (l.length + 1) (by omega) (by omega) (by omega)
 simp only [slices_ContainsFunc_int_int_151.f, slices_IndexFunc_int_int_203.f]
 rw [show (0 : Int) = ((0 : Nat) : Int) from rfl, h1, Option.bind_some, show (((0 : Nat) : Int)) = 0 from rfl, h2]
 simp
theorem impl_IsBoard.calls (a0_0 : Int) (a0_1 : Int) (A0_2 : Option Addr) (c0_2 : Nat) (l0_2 : List Int) (r : Bool) (w : World) (hr0_2 : Kd.C (Kd.int .i64) w A0_2 l0_2.length l0_2) (hc0_2 : l0_2.length ≤ c0_2) (h : impl_IsBoard.f a0_0 a0_1 l0_2 = some r) :
  Calls Try.prog 93 #[.agg #[.int .i64 a0_0, .int .i64 a0_1, .slice A0_2 l0_2.length c0_2]] w fun e w' => e = .returned (.bool r) ∧ Below w.heap.size w w' := by
 obtain rfl := Option.some.inj h
 clear h
 have hu := Try.underlying26
 have HR := A_ hr0_2
 have HC := A_ hc0_2
 clear hr0_2 hc0_2
 have HB := A_ (Below.refl w.heap.size w)
 have hmf_ : ∀ (fn : Go.Fn) (first cap : Array Value) (w : World), (Instr.makeFunc fn first cap).run Try.prog w = .ok (.func fn first cap) w := fun _ _ _ _ => rfl
 have early : boardB a0_0 a0_1 l0_2 = false → (1 ≤ a0_0 ∧ a0_0 ≤ 6 → 1 ≤ a0_1 ∧ a0_1 ≤ 6 → ¬ (l0_2.length : Int) = a0_0) →
   Calls Try.prog 93 #[.agg #[.int .i64 a0_0, .int .i64 a0_1, .slice A0_2 l0_2.length c0_2]] w fun e w' => e = .returned (.bool (boardB a0_0 a0_1 l0_2)) ∧ Below w.heap.size w w' := by
  intro e hno
  have E := A_ e
  clear e
  by_cases h1 : 1 ≤ a0_0
  ·
   by_cases h2 : a0_0 ≤ 6
   ·
    by_cases h3 : 1 ≤ a0_1
    ·
     by_cases h4 : a0_1 ≤ 6
     ·
      have h5 : ((l0_2.length : Int) != a0_0) = true := bne_iff_ne.mpr (hno ⟨h1, h2⟩ ⟨h3, h4⟩)
      clear hno
      go_enter Try.func93, Try.ntmps93
      go_wp2
      go_ret
      exact ⟨by rw [E.out]; rfl, below_alloc (Below.refl _ _) _⟩
     ·
      clear hno
      go_enter Try.func93, Try.ntmps93
      go_wp2
      go_ret
      exact ⟨by rw [E.out]; rfl, below_alloc (Below.refl _ _) _⟩
    ·
     clear hno
     go_enter Try.func93, Try.ntmps93
     go_wp2
     go_ret
     exact ⟨by rw [E.out]; rfl, below_alloc (Below.refl _ _) _⟩
   ·
    clear hno
    go_enter Try.func93, Try.ntmps93
    go_wp2
    go_ret
    exact ⟨by rw [E.out]; rfl, below_alloc (Below.refl _ _) _⟩
  ·
   clear hno
   go_enter Try.func93, Try.ntmps93
   go_wp2
   go_ret
   exact ⟨by rw [E.out]; rfl, below_alloc (Below.refl _ _) _⟩
 by_cases hall : (1 ≤ a0_0 ∧ a0_0 ≤ 6) ∧ (1 ≤ a0_1 ∧ a0_1 ≤ 6) ∧ (l0_2.length : Int) = a0_0
 ·
  obtain ⟨⟨h1, h2⟩, ⟨h3, h4⟩, h5⟩ := hall
  have e : boardB a0_0 a0_1 l0_2 = l0_2.all (fun m => decide (0 ≤ m ∧ m ≤ 2 ^ a0_1.toNat - 1)) := by simp [boardB, h1, h2, h3, h4, h5]
  have e2 : (l0_2.any fun m => !(decide (0 ≤ m ∧ m ≤ 2 ^ a0_1.toNat - 1))) = !(boardB a0_0 a0_1 l0_2) := by rw [e, List.not_all_eq_any_not]
  have hlen : l0_2.length ≤ 1152921504606846976 := by omega
  have HN : Aside0 (slices_ContainsFunc_int_int_151.f (l0_2.length + 1) l0_2 (fun m => some (!(decide (0 ≤ m ∧ m ≤ 2 ^ a0_1.toNat - 1)))) = some (!(boardB a0_0 a0_1 l0_2))) := ⟨(impl_IsBoard.contains l0_2 _ hlen).trans (by rw [e2])⟩
  clear e e2 early
  have h5b : ((l0_2.length : Int) != a0_0) = false := bne_eq_false_iff_eq.mpr h5
  have H3 := A_ h3
  have H4 := A_ h4
  have HF : ∀ W : World, W.cell? ⟨w.heap.size, 1, none⟩ = some (.int .i64 a0_1) → FnOk47 W (.func (.func 173) #[] #[.pointer (some ⟨w.heap.size, 0, none⟩)]) (fun m => some (!(decide (0 ≤ m ∧ m ≤ 2 ^ a0_1.toNat - 1)))) := by
   intro W hc m r W1 h hB
   obtain rfl := Option.some.inj h
   refine ⟨173, _, _, rfl, Try.func173, by kernel_rfl, rfl, ?_⟩
   refine (impl_IsBoard.closure m a0_1 w.heap.size W1 ((hB.cell (World.block_lt_of_cell? W _ hc)).trans hc) H3.out H4.out).mono ?_
   rintro e w' ⟨he, rfl⟩
   exact ⟨he, Below.refl _ _⟩
  have HF' := A_ HF
  clear HF h5 hlen
  have S1 : Aside0 (impl_isSide.f a0_0 = some true) := ⟨by unfold impl_isSide.f impl_within.f; rw [if_pos h1]; simpa using h2⟩
  have S2 : Aside0 (impl_isSide.f a0_1 = some true) := ⟨by unfold impl_isSide.f impl_within.f; rw [if_pos h3]; simpa using h4⟩
  go_enter Try.func93, Try.ntmps93
  go_wp2_with (first | (go_at_call 172; (with_reducible refine (impl_isSide.calls a0_0 true _ S1.out).mono ?_); rintro e w' ⟨rfl, ⟨nd, rfl⟩⟩) | (go_at_call 172; (with_reducible refine (impl_isSide.calls a0_1 true _ S2.out).mono ?_); rintro e w' ⟨rfl, ⟨nd, rfl⟩⟩) | (go_at_call 151; refine (slices_ContainsFunc_int_int_151.calls (l0_2.length + 1) _ _ l0_2 (.func (.func 173) #[] #[.pointer (some ⟨w.heap.size, 0, none⟩)]) (fun m => some (!(decide (0 ≤ m ∧ m ≤ 2 ^ a0_1.toNat - 1)))) _ _ ?s1 HC.out (HF'.out _ (by go_simp)) HN.out).mono ?_; (case s1 => exact tc0_ HR.out); rintro e w1 ⟨rfl, hb⟩; have HB1 := A_ hb; clear hb))
  go_ret
  exact ⟨by simp, below_then (by repeat (first | exact Below.refl _ _ | apply pw_below_drewN | apply below_alloc)) (by simp) HB1.out⟩
 ·
  refine early ?_ ?_
  ·
   simp only [boardB, Bool.and_eq_false_iff, decide_eq_false_iff_not]
   by_cases ha : 1 ≤ a0_0 ∧ a0_0 ≤ 6
   ·
    by_cases hb : 1 ≤ a0_1 ∧ a0_1 ≤ 6
    ·
     exact .inl (.inr (fun hc => hall ⟨ha, hb, hc⟩))
    ·
     exact .inl (.inl (.inr hb))
   ·
    exact .inl (.inl (.inl ha))
  ·
   exact fun ha hb hc => hall ⟨ha, hb, hc⟩

/-! ### impl_newBoard: function 174 -/
def impl_newBoard.f (a0 : Int) (a1 : Int) : Option (Int × Int × List Int) := if 0 ≤ a0 then (if (a0 : Int).toNat ≤ 35184372088832 then (some (a0, a1, (List.replicate (a0 : Int).toNat 0))) else (none)) else (none)
theorem impl_newBoard.calls (a0 : Int) (a1 : Int) (r1 : Int) (r2 : Int) (r3 : List Int) (w : World) (h : impl_newBoard.f a0 a1 = some (r1, r2, r3)) :
  Calls Try.prog 174 #[.int .i64 a0, .int .i64 a1] w fun e w' => ∃ v2_ : Value, e = .returned (.agg #[.int .i64 r1, .int .i64 r2, v2_]) ∧ Kd.R (Kd.int .i64) 3 w' w.heap.size (fun _ => True) v2_ r3 ∧ Below w.heap.size w w' := by
 have hu26 := Try.underlying26
 have HB := A_ (Below.refl w.heap.size w)
 have H : (if 0 ≤ a0 then (if (a0 : Int).toNat ≤ 35184372088832 then (some (a0, a1, (List.replicate (a0 : Int).toNat 0))) else (none)) else (none)) = some (r1, r2, r3) := h
 clear h
 by_cases c3 : 0 ≤ a0
 ·
  rw [if_pos c3] at H
  have c3b0 := eq_true c3
  have c3b1 := decide_eq_true c3
  clear c3
  by_cases c4 : (a0 : Int).toNat ≤ 35184372088832
  ·
   rw [if_pos c4] at H
   have c4b0 := eq_true c4
   have c4b1 := decide_eq_true c4
   clear c4
   obtain ⟨y393, hy393⟩ : ∃ y_ : List Int, y_ = (List.replicate (a0 : Int).toNat 0) := ⟨_, rfl⟩
   replace H : (some (a0, a1, y393)) = some (r1, r2, r3) := ty_ hy393 H
   have Ny393 := A_ hy393
   clear hy393
   simp only [Option.some.injEq, Prod.mk.injEq] at H
   obtain ⟨rfl, rfl, rfl⟩ := H
   go_enter Try.func174, Try.ntmps174
   go_wp2_with (first | (refine gd_ 4 ?_; refine bx_ 4 #[.int .i64 0, .int .i64 0, .slice none 0 0] 26 ?_; intro gb392 hg w5 hbox hb; have BK392 := A_ (hbox); have GW392 := A_ ((ts_ hg : w.heap.size ≤ gb392)); have GE392 := A_ ((ts_ hg : w.heap.size ≤ gb392)); replace HB := A_ (below_step tb_ hb); clear hb hbox hg) | (refine gd_ 8 ?_; refine Kd.R_make (Kd.int .i64) _ 3 rfl (N := 8) rfl 22 _ _ rfl a0 rfl rfl Try.underlying22 (.int .i64 0) 8 info3 rfl (by decide) (by omega) 0 (ok := fun _ => True) (okp := fun _ => True) rfl (fun _ hk => hk) trivial (od_) (Nat.le_trans (Nat.mul_le_mul_right _ (od_ : a0.toNat ≤ 35184372088832)) (by omega)) (Below.refl _ _) (Nat.le_refl _) ?_; intro v394 w6 ho7 hb hg_ hnew_; clear hg_ hnew_; (first | rw [← Ny393.out] at ho7 | (simp only [Int.reduceToNat] at ho7; rw [← Ny393.out] at ho7)); have HO395 := A_ (Kd.R_lower ho7 (below_size tb_)); replace BK392 := A_ (blk_below (g := gb392) (o := .cells #[.int .i64 0, .int .i64 0, .slice none 0 0] 26 (0, 0)) (tk_ BK392) hb); replace HB := A_ (below_step tb_ hb); clear hb ho7; obtain ⟨Ao8, co8, eo8⟩ := Kd.R_slice HO395.out; subst eo8; obtain ⟨hcz9_0, hcz9_1, hcz9_2, hfz9_0, hfz9_1, hfz9_2⟩ := cf3_ BK392.out))
   refine bodyPost_ret (results_cell_row rfl _ _ gb392 26 #[.int .i64 a0, .int .i64 a1, .slice Ao8 y393.length co8] (0, 0) _ rfl (by (with_reducible repeat (first | refine blk_drewN ?_ _ | refine blk_drew ?_ | refine blk_alloc ?_ _)); refine blk_put (cs := #[.int .i64 a0, .int .i64 a1, .slice none 0 0]) ?_ 2 _ rfl; (with_reducible repeat (first | refine blk_drewN ?_ _ | refine blk_drew ?_ | refine blk_alloc ?_ _)); refine blk_put (cs := #[.int .i64 a0, .int .i64 0, .slice none 0 0]) ?_ 1 _ rfl; (with_reducible repeat (first | refine blk_drewN ?_ _ | refine blk_drew ?_ | refine blk_alloc ?_ _)); refine blk_put (cs := #[.int .i64 0, .int .i64 0, .slice none 0 0]) ?_ 0 _ rfl; (with_reducible repeat (first | refine blk_drewN ?_ _ | refine blk_drew ?_ | refine blk_alloc ?_ _)); exact BK392.out) Try.underlying26 rfl (by kernel_rfl)) rfl ?_
   exact ⟨_, te_, by (with_reducible repeat (first | apply Kd.R_alloc | apply Kd.R_drewN | apply Kd.R_drew)); exact Kd.R_mono (Kd.R_far (p := ⟨gb392, 2, none⟩) (Kd.R_far (p := ⟨gb392, 1, none⟩) (Kd.R_far (p := ⟨gb392, 0, none⟩) (Kd.R_types HO395.out BK392.out (by decide)) (fun _ hk => hk.2) (.int .i64 a0)) (fun _ hk => hk.2) (.int .i64 a1)) (fun _ hk => hk.2) (.slice Ao8 y393.length co8)) (fun _ hk => trivial), tb_⟩
  ·
   rw [if_neg c4] at H
   exact absurd H (by simp)
 ·
  rw [if_neg c3] at H
  exact absurd H (by simp)

/-! ### impl_Board_has: function 175 -/
def impl_Board_has.f (a0_0 : Int) (a0_1 : Int) (l0_2 : List Int) (a1 : Int) (a2 : Int) : Option (Bool) := if 0 ≤ a1 then (if a1 < (l0_2.length : Int) then (if 0 ≤ a2 then (some ((Go.bits .and .i64 (shr .i64 (rd l0_2 a1) a2) 1) == 1)) else (none)) else (none)) else (none)
theorem impl_Board_has.calls (a0_0 : Int) (a0_1 : Int) (A0_2 : Option Addr) (c0_2 : Nat) (l0_2 : List Int) (a1 : Int) (a2 : Int) (r : Bool) (w : World) (hr0_2 : Kd.C (Kd.int .i64) w A0_2 l0_2.length l0_2) (hc0_2 : l0_2.length ≤ c0_2) (h : impl_Board_has.f a0_0 a0_1 l0_2 a1 a2 = some r) :
  Calls Try.prog 175 #[.agg #[.int .i64 a0_0, .int .i64 a0_1, .slice A0_2 l0_2.length c0_2], .int .i64 a1, .int .i64 a2] w fun e w' => e = .returned (.bool r) ∧ Below w.heap.size w w' := by
 have hu26 := Try.underlying26
 have HR0_2 := A_ hr0_2
 have HC0_2 := A_ hc0_2
 clear hr0_2 hc0_2
 have HB := A_ (Below.refl w.heap.size w)
 have H : (if 0 ≤ a1 then (if a1 < (l0_2.length : Int) then (if 0 ≤ a2 then (some ((Go.bits .and .i64 (shr .i64 (rd l0_2 a1) a2) 1) == 1)) else (none)) else (none)) else (none)) = some r := h
 clear h
 by_cases c4 : 0 ≤ a1
 ·
  rw [if_pos c4] at H
  have c4b0 := decide_eq_true c4
  clear c4
  by_cases c5 : a1 < (l0_2.length : Int)
  ·
   rw [if_pos c5] at H
   have c5b0 := decide_eq_true c5
   clear c5
   by_cases c6 : 0 ≤ a2
   ·
    rw [if_pos c6] at H
    have c6b0 := eq_true c6
    have c6b1 := decide_eq_true c6
    clear c6
    obtain ⟨ji7, hji7⟩ : ∃ j_ : Int, (shr .i64 (rd l0_2 a1) a2) = j_ := ⟨_, rfl⟩
    replace H : (some ((Go.bits .and .i64 (ji7) 1) == 1)) = some r := by first | (rw [hji7] at H; exact H) | (simp only [hji7] at H ⊢; exact H)
    have hji7_ : ((rd l0_2 a1) / 2 ^ min a2.toNat 64) = ji7 := hji7
    have hji7z : a2 ≤ 64 → ((rd l0_2 a1) / 2 ^ a2.toNat) = ji7 := shr_small hji7
    obtain rfl := Option.some.inj H
    go_enter Try.func175, Try.ntmps175
    go_wp2_with (first | (refine gd_ 3 ?_; refine bx_ 3 #[.int .i64 a0_0, .int .i64 a0_1, .slice A0_2 l0_2.length c0_2] 26 ?_; intro gb396 hg w8 hbox hb; have BK396 := A_ (hbox); have GW396 := A_ ((ts_ hg : w.heap.size ≤ gb396)); have GE396 := A_ ((ts_ hg : w.heap.size ≤ gb396)); replace HB := A_ (below_step tb_ hb); clear hb hbox hg; obtain ⟨hcz9_0, hcz9_1, hcz9_2, hfz9_0, hfz9_1, hfz9_2⟩ := cf3_ BK396.out; have p397 : 0 ≤ (a1 : Int) := od_; have q397 : a1 < (l0_2.length : Int) := od_; obtain ⟨ad397, e397, hx397_0⟩ := Kd.at_int HR0_2.out a1 p397 q397; cases e397; (try replace hx397_0 := (HB.out.cell (World.block_lt_of_cell? w _ hx397_0)).trans hx397_0); replace p397 := eq_true p397; replace q397 := eq_true q397))
    go_ret
    exact ⟨by first | rfl | (simp [errW_none, errW_some] <;> rfl) | (simp only [← hji7]; first | rfl | (simp [errW_none, errW_some] <;> rfl)) | (simp [*, errW_none, errW_some] <;> rfl), tb_⟩
   ·
    rw [if_neg c6] at H
    exact absurd H (by simp)
  ·
   rw [if_neg c5] at H
   exact absurd H (by simp)
 ·
  rw [if_neg c4] at H
  exact absurd H (by simp)

/-! ### laws_big: function 46 -/
def laws_big.f (l0 : List Int) (l1 : List Int) : Option (Bool) := if (l0.length : Int) > 1048576 then (some true) else (some (decide ((l1.length : Int) > (wrap64 (1048576 - (l0.length : Int))))))
theorem laws_big.calls (A0 : Option Addr) (c0 : Nat) (l0 : List Int) (A1 : Option Addr) (c1 : Nat) (l1 : List Int) (r : Bool) (w : World) (hr0 : Kd.C (Kd.int .u8) w A0 l0.length l0) (hc0 : l0.length ≤ c0) (hr1 : Kd.C (Kd.int .u8) w A1 l1.length l1) (hc1 : l1.length ≤ c1) (h : laws_big.f l0 l1 = some r) :
  Calls Try.prog 46 #[.slice A0 l0.length c0, .slice A1 l1.length c1] w fun e w' => e = .returned (.bool r) ∧ Drawn0 w w' := by
 have HR0 := A_ hr0
 have HC0 := A_ hc0
 clear hr0 hc0
 have HR1 := A_ hr1
 have HC1 := A_ hc1
 clear hr1 hc1
 have H : (if (l0.length : Int) > 1048576 then (some true) else (some (decide ((l1.length : Int) > (wrap64 (1048576 - (l0.length : Int))))))) = some r := h
 clear h
 by_cases c3 : (l0.length : Int) > 1048576
 ·
  rw [if_pos c3] at H
  have c3b0 := decide_eq_true c3
  have c3b1 : decide (1048576 < l0.length) = true := decide_eq_true (by omega)
  clear c3
  obtain rfl := Option.some.inj H
  go_enter Try.func46, Try.ntmps46
  go_wp2
  go_ret
  exact ⟨tf_, dr_⟩
 ·
  rw [if_neg c3] at H
  have c3b0 := decide_eq_false c3
  have c3b1 : decide (1048576 < l0.length) = false := decide_eq_false (by omega)
  clear c3
  obtain rfl := Option.some.inj H
  go_enter Try.func46, Try.ntmps46
  go_wp2
  go_ret
  exact ⟨tf_, dr_⟩

/-! ### laws_kSame: function 73 -/
def laws_kSame.l0 : Nat → List Int → List Int → Int → Int → Option (Bool)
 | 0, _, _, _, _ => none
 | k + 1, x0, x1, x12, x13 => if x13 < x12 then (if 0 ≤ x13 then (if x13 < (x0.length : Int) then (if x13 < (x1.length : Int) then (if (rd x0 x13) = (rd x1 x13) then (laws_kSame.l0 k x0 x1 x12 (wrap64 (x13 + 1))) else (some false)) else (none)) else (none)) else (none)) else (some true)
def laws_kSame.f (k : Nat) (l0 : List Int) (l1 : List Int) : Option (Bool) := if (l0.length : Int) = (l1.length : Int) then (laws_kSame.l0 k l0 l1 (l0.length : Int) 0) else (some false)
theorem laws_kSame.mono_l : ∀ k, (∀ y0 y1 y2 y3, LeO (laws_kSame.l0 k y0 y1 y2 y3) (laws_kSame.l0 (k + 1) y0 y1 y2 y3))
 | 0 => fun _ _ _ _ r h => by simp [laws_kSame.l0] at h
 | k + 1 => by
  have ih0 := laws_kSame.mono_l k
  ·
   intro y0 y1 y2 y3
   unfold laws_kSame.l0
   repeat' first | (with_reducible first | exact ih0 _ _ _ _ | exact LeO.refl _ | exact LeO.none _ | refine LeO.ite ?_ ?_ | refine LeO.bind ?_ (fun _ => ?_)) | exact ih0 _ _ _ _ | exact LeO.none _ | refine LeO.ite ?_ ?_ | refine LeO.bind ?_ (fun _ => ?_)
theorem laws_kSame.mono : ∀ a0 a1 k, LeO (laws_kSame.f k a0 a1) (laws_kSame.f (k + 1) a0 a1) := by
 intro a0 a1 k
 have ih0 := laws_kSame.mono_l k
 unfold laws_kSame.f
 repeat' first | (with_reducible first | exact ih0 _ _ _ _ | exact LeO.refl _ | exact LeO.none _ | refine LeO.ite ?_ ?_ | refine LeO.bind ?_ (fun _ => ?_)) | exact ih0 _ _ _ _ | exact LeO.none _ | refine LeO.ite ?_ ?_ | refine LeO.bind ?_ (fun _ => ?_)
theorem laws_kSame.calls (k : Nat) (A0 : Option Addr) (c0 : Nat) (l0 : List Int) (A1 : Option Addr) (c1 : Nat) (l1 : List Int) (r : Bool) (w : World) (hr0 : Kd.C (Kd.int .i64) w A0 l0.length l0) (hc0 : l0.length ≤ c0) (hr1 : Kd.C (Kd.int .i64) w A1 l1.length l1) (hc1 : l1.length ≤ c1) (h : laws_kSame.f k l0 l1 = some r) :
  Calls Try.prog 73 #[.slice A0 l0.length c0, .slice A1 l1.length c1] w fun e w' => e = .returned (.bool r) ∧ Drawn0 w w' := by
 have HR0 := A_ hr0
 have HC0 := A_ hc0
 clear hr0 hc0
 have HR1 := A_ hr1
 have HC1 := A_ hc1
 clear hr1 hc1
 have H : (if (l0.length : Int) = (l1.length : Int) then (laws_kSame.l0 k l0 l1 (l0.length : Int) 0) else (some false)) = some r := h
 clear h
 by_cases c3 : (l0.length : Int) = (l1.length : Int)
 ·
  rw [if_pos c3] at H
  have c3b0 : ((l0.length : Int) == (l1.length : Int)) = true := beq_iff_eq.mpr c3
  have c3b1 : ((l0.length : Int) != (l1.length : Int)) = false := bne_eq_false_iff_eq.mpr c3
  have c3b2 : (l0.length == l1.length) = true := by first | simpa using c3 | (simp at c3 ⊢; omega)
  clear c3
  have H' := A_ H
  clear H
  go_enter Try.func73, Try.ntmps73
  go_wp2
  repeat (go_quiet (fail); try go_wp2)
  go_loopg [13] k (fun kq v13 w' => ∃ (x13_1 : Int), v13 = .int .i64 x13_1 ∧ Aside0 (laws_kSame.l0 kq l0 l1 (l0.length : Int) x13_1 = some r) ∧ Aside0 (kq ≤ k) ∧ Drawn0 w w')
  case atStart => exact ⟨(0), tf_, H', ⟨Nat.le_refl _⟩, dr_⟩
  case round =>
   clear H'
   try clear c1
   try clear p2
   try clear c3
   try clear c3b0
   try clear c3b1
   try clear c3b2
   obtain ⟨x13_1, rfl, HA, HK1, ⟨m1, rfl⟩⟩ := hrel
   cases gk with
   | zero => exact absurd HA.out (by simp [laws_kSame.l0])
   | succ k1 =>
    have H := HA.out
    clear HA
    simp only [laws_kSame.l0] at H
    by_cases c4 : x13_1 < (l0.length : Int)
    ·
     rw [if_pos c4] at H
     have c4b0 := decide_eq_true c4
     clear c4
     by_cases c5 : 0 ≤ x13_1
     ·
      rw [if_pos c5] at H
      have c5b0 := decide_eq_true c5
      clear c5
      by_cases c6 : x13_1 < (l0.length : Int)
      ·
       rw [if_pos c6] at H
       have c6b0 := decide_eq_true c6
       clear c6
       by_cases c7 : x13_1 < (l1.length : Int)
       ·
        rw [if_pos c7] at H
        have c7b0 := decide_eq_true c7
        clear c7
        by_cases c8 : (rd l0 x13_1) = (rd l1 x13_1)
        ·
         rw [if_pos c8] at H
         have c8b0 : ((rd l0 x13_1) == (rd l1 x13_1)) = true := beq_iff_eq.mpr c8
         have c8b1 : ((rd l0 x13_1) != (rd l1 x13_1)) = false := bne_eq_false_iff_eq.mpr c8
         clear c8
         have H' := A_ H
         clear H
         have p949 : 0 ≤ (x13_1 : Int) := od_
         have q949 : x13_1 < (l0.length : Int) := od_
         obtain ⟨ad949, e949, hx949_0⟩ := Kd.at_int HR0.out x13_1 p949 q949
         cases e949
         replace p949 := eq_true p949
         replace q949 := eq_true q949
         have p950 : 0 ≤ (x13_1 : Int) := od_
         have q950 : x13_1 < (l1.length : Int) := od_
         obtain ⟨ad950, e950, hx950_0⟩ := Kd.at_int HR1.out x13_1 p950 q950
         cases e950
         replace p950 := eq_true p950
         replace q950 := eq_true q950
         go_wp2
         repeat (go_quiet (fail); try go_wp2)
         go_roundg k1
         case measure => have := HK1.out; omega
         case rel => exact ⟨(wrap64 (x13_1 + 1)), tf_, H', ⟨by have := HK1.out; omega⟩, dr_⟩
        ·
         rw [if_neg c8] at H
         have c8b0 : ((rd l0 x13_1) == (rd l1 x13_1)) = false := beq_eq_false_iff_ne.mpr c8
         have c8b1 : ((rd l0 x13_1) != (rd l1 x13_1)) = true := bne_iff_ne.mpr c8
         obtain rfl := Option.some.inj H
         have p949 : 0 ≤ (x13_1 : Int) := od_
         have q949 : x13_1 < (l0.length : Int) := od_
         obtain ⟨ad949, e949, hx949_0⟩ := Kd.at_int HR0.out x13_1 p949 q949
         cases e949
         replace p949 := eq_true p949
         replace q949 := eq_true q949
         have p950 : 0 ≤ (x13_1 : Int) := od_
         have q950 : x13_1 < (l1.length : Int) := od_
         obtain ⟨ad950, e950, hx950_0⟩ := Kd.at_int HR1.out x13_1 p950 q950
         cases e950
         replace p950 := eq_true p950
         replace q950 := eq_true q950
         go_wp2
         repeat (go_quiet (fail); try go_wp2)
         go_ret
         exact ⟨tf_, dr_⟩
       ·
        rw [if_neg c7] at H
        exact absurd H (by simp)
      ·
       rw [if_neg c6] at H
       exact absurd H (by simp)
     ·
      rw [if_neg c5] at H
      exact absurd H (by simp)
    ·
     rw [if_neg c4] at H
     have c4b0 := decide_eq_false c4
     clear c4
     obtain rfl := Option.some.inj H
     go_wp2
     repeat (go_quiet (fail); try go_wp2)
     go_ret
     exact ⟨tf_, dr_⟩
 ·
  rw [if_neg c3] at H
  have c3b0 : ((l0.length : Int) == (l1.length : Int)) = false := beq_eq_false_iff_ne.mpr c3
  have c3b1 : ((l0.length : Int) != (l1.length : Int)) = true := bne_iff_ne.mpr c3
  have c3b2 : (l0.length == l1.length) = false := by first | simpa using c3 | (simp at c3 ⊢; omega)
  obtain rfl := Option.some.inj H
  go_enter Try.func73, Try.ntmps73
  go_wp2
  repeat (go_quiet (fail); try go_wp2)
  go_ret
  exact ⟨tf_, dr_⟩

/-! ### laws_kRows: function 48 -/
def laws_kRows.l0 : Nat → List (List Int) → List (List Int) → Int → Int → Option (Bool)
 | 0, _, _, _, _ => none
 | k + 1, x0, x1, x12, x13 => if x13 < x12 then (if 0 ≤ x13 then (if x13 < (x0.length : Int) then (if x13 < (x1.length : Int) then ((laws_kSame.f k (rd_L1 x0 x13) (rd_L1 x1 x13)).bind fun t953 => (if t953 = true then (laws_kRows.l0 k x0 x1 x12 (wrap64 (x13 + 1))) else (some false))) else (none)) else (none)) else (none)) else (some true)
def laws_kRows.f (k : Nat) (l0 : List (List Int)) (l1 : List (List Int)) : Option (Bool) := if (l0.length : Int) = (l1.length : Int) then (laws_kRows.l0 k l0 l1 (l0.length : Int) 0) else (some false)
theorem laws_kRows.mono_l : ∀ k, (∀ y0 y1 y2 y3, LeO (laws_kRows.l0 k y0 y1 y2 y3) (laws_kRows.l0 (k + 1) y0 y1 y2 y3))
 | 0 => fun _ _ _ _ r h => by simp [laws_kRows.l0] at h
 | k + 1 => by
  have ih0 := laws_kRows.mono_l k
  ·
   intro y0 y1 y2 y3
   unfold laws_kRows.l0
   repeat' first | (with_reducible first | exact ih0 _ _ _ _ | exact laws_kSame.mono _ _ _ | exact LeO.refl _ | exact LeO.none _ | refine LeO.ite ?_ ?_ | refine LeO.bind ?_ (fun _ => ?_)) | exact ih0 _ _ _ _ | exact laws_kSame.mono _ _ _ | exact LeO.none _ | refine LeO.ite ?_ ?_ | refine LeO.bind ?_ (fun _ => ?_)
theorem laws_kRows.mono : ∀ a0 a1 k, LeO (laws_kRows.f k a0 a1) (laws_kRows.f (k + 1) a0 a1) := by
 intro a0 a1 k
 have ih0 := laws_kRows.mono_l k
 unfold laws_kRows.f
 repeat' first | (with_reducible first | exact ih0 _ _ _ _ | exact laws_kSame.mono _ _ _ | exact LeO.refl _ | exact LeO.none _ | refine LeO.ite ?_ ?_ | refine LeO.bind ?_ (fun _ => ?_)) | exact ih0 _ _ _ _ | exact laws_kSame.mono _ _ _ | exact LeO.none _ | refine LeO.ite ?_ ?_ | refine LeO.bind ?_ (fun _ => ?_)
theorem laws_kRows.calls (k : Nat) (A0 : Option Addr) (c0 : Nat) (l0 : List (List Int)) (A1 : Option Addr) (c1 : Nat) (l1 : List (List Int)) (r : Bool) (w : World) (hr0 : Kd.C (Kd.slice 3 (Kd.int .i64)) w A0 l0.length l0) (hc0 : l0.length ≤ c0) (hr1 : Kd.C (Kd.slice 3 (Kd.int .i64)) w A1 l1.length l1) (hc1 : l1.length ≤ c1) (h : laws_kRows.f k l0 l1 = some r) :
  Calls Try.prog 48 #[.slice A0 l0.length c0, .slice A1 l1.length c1] w fun e w' => e = .returned (.bool r) ∧ Drawn0 w w' := by
 have HR0 := A_ hr0
 have HC0 := A_ hc0
 clear hr0 hc0
 have HR1 := A_ hr1
 have HC1 := A_ hc1
 clear hr1 hc1
 have H : (if (l0.length : Int) = (l1.length : Int) then (laws_kRows.l0 k l0 l1 (l0.length : Int) 0) else (some false)) = some r := h
 clear h
 by_cases c3 : (l0.length : Int) = (l1.length : Int)
 ·
  rw [if_pos c3] at H
  have c3b0 : ((l0.length : Int) == (l1.length : Int)) = true := beq_iff_eq.mpr c3
  have c3b1 : ((l0.length : Int) != (l1.length : Int)) = false := bne_eq_false_iff_eq.mpr c3
  have c3b2 : (l0.length == l1.length) = true := by first | simpa using c3 | (simp at c3 ⊢; omega)
  clear c3
  have H' := A_ H
  clear H
  go_enter Try.func48, Try.ntmps48
  go_wp2
  repeat (go_quiet (fail); try go_wp2)
  go_loopg [13] k (fun kq v13 w' => ∃ (x13_1 : Int), v13 = .int .i64 x13_1 ∧ Aside0 (laws_kRows.l0 kq l0 l1 (l0.length : Int) x13_1 = some r) ∧ Aside0 (kq ≤ k) ∧ Drawn0 w w')
  case atStart => exact ⟨(0), tf_, H', ⟨Nat.le_refl _⟩, dr_⟩
  case round =>
   clear H'
   try clear c1
   try clear p2
   try clear c3
   try clear c3b0
   try clear c3b1
   try clear c3b2
   obtain ⟨x13_1, rfl, HA, HK1, ⟨m1, rfl⟩⟩ := hrel
   cases gk with
   | zero => exact absurd HA.out (by simp [laws_kRows.l0])
   | succ k1 =>
    have H := HA.out
    clear HA
    simp only [laws_kRows.l0] at H
    by_cases c4 : x13_1 < (l0.length : Int)
    ·
     rw [if_pos c4] at H
     have c4b0 := decide_eq_true c4
     clear c4
     by_cases c5 : 0 ≤ x13_1
     ·
      rw [if_pos c5] at H
      have c5b0 := decide_eq_true c5
      clear c5
      by_cases c6 : x13_1 < (l0.length : Int)
      ·
       rw [if_pos c6] at H
       have c6b0 := decide_eq_true c6
       clear c6
       by_cases c7 : x13_1 < (l1.length : Int)
       ·
        rw [if_pos c7] at H
        have c7b0 := decide_eq_true c7
        clear c7
        replace H := Option.bind_eq_some_iff.mp H
        obtain ⟨t953, A80, H⟩ := H
        replace H : (if t953 = true then (laws_kRows.l0 k1 l0 l1 (l0.length : Int) (wrap64 (x13_1 + 1))) else (some false)) = some r := H
        have A8 := A_ A80
        clear A80
        by_cases c9 : t953 = true
        ·
         subst c9
         have H1 : (laws_kRows.l0 k1 l0 l1 (l0.length : Int) (wrap64 (x13_1 + 1))) = some r := by rw [if_pos rfl] at H; exact H
         clear H
         have H := H1
         clear H1
         have H' := A_ H
         clear H
         have p951 : 0 ≤ (x13_1 : Int) := od_
         have q951 : x13_1 < (l0.length : Int) := od_
         obtain ⟨ad951, A951_0, c951_0, e951, hx951_0, hl951_0, hi951_0⟩ := at_L1 HR0.out x13_1 p951 q951
         cases e951
         have HR951_0 := A_ hi951_0
         have HC951_0 := A_ hl951_0
         clear hi951_0 hl951_0
         replace p951 := eq_true p951
         replace q951 := eq_true q951
         have p952 : 0 ≤ (x13_1 : Int) := od_
         have q952 : x13_1 < (l1.length : Int) := od_
         obtain ⟨ad952, A952_0, c952_0, e952, hx952_0, hl952_0, hi952_0⟩ := at_L1 HR1.out x13_1 p952 q952
         cases e952
         have HR952_0 := A_ hi952_0
         have HC952_0 := A_ hl952_0
         clear hi952_0 hl952_0
         replace p952 := eq_true p952
         replace q952 := eq_true q952
         go_wp2_with (first | (go_at_call 73; (with_reducible refine (laws_kSame.calls k1 _ _ (rd_L1 l0 x13_1) _ _ (rd_L1 l1 x13_1) true _ ?side1 ?side2 ?side3 ?side4 A8.out).mono ?_); (case side1 => exact tc0_ HR951_0.out); (case side2 => exact HC951_0.out); (case side3 => exact tc0_ HR952_0.out); (case side4 => exact HC952_0.out); rintro e w' ⟨rfl, ⟨nd, rfl⟩⟩; (try exact dn_)))
         repeat (go_quiet (first | (go_at_call 73; (with_reducible refine (laws_kSame.calls k1 _ _ (rd_L1 l0 x13_1) _ _ (rd_L1 l1 x13_1) true _ ?side1 ?side2 ?side3 ?side4 A8.out).mono ?_); (case side1 => exact tc0_ HR951_0.out); (case side2 => exact HC951_0.out); (case side3 => exact tc0_ HR952_0.out); (case side4 => exact HC952_0.out); rintro e w' ⟨rfl, ⟨nd, rfl⟩⟩; (try exact dn_))); try go_wp2_with (first | (go_at_call 73; (with_reducible refine (laws_kSame.calls k1 _ _ (rd_L1 l0 x13_1) _ _ (rd_L1 l1 x13_1) true _ ?side1 ?side2 ?side3 ?side4 A8.out).mono ?_); (case side1 => exact tc0_ HR951_0.out); (case side2 => exact HC951_0.out); (case side3 => exact tc0_ HR952_0.out); (case side4 => exact HC952_0.out); rintro e w' ⟨rfl, ⟨nd, rfl⟩⟩; (try exact dn_))))
         go_roundg k1
         case measure => have := HK1.out; omega
         case rel => exact ⟨(wrap64 (x13_1 + 1)), tf_, H', ⟨by have := HK1.out; omega⟩, dr_⟩
        ·
         replace c9 := Bool.eq_false_iff.mpr c9
         subst c9
         have H1 : (some false) = some r := by rw [if_neg (show ¬ (false = true) by decide)] at H; exact H
         clear H
         have H := H1
         clear H1
         obtain rfl := Option.some.inj H
         have p951 : 0 ≤ (x13_1 : Int) := od_
         have q951 : x13_1 < (l0.length : Int) := od_
         obtain ⟨ad951, A951_0, c951_0, e951, hx951_0, hl951_0, hi951_0⟩ := at_L1 HR0.out x13_1 p951 q951
         cases e951
         have HR951_0 := A_ hi951_0
         have HC951_0 := A_ hl951_0
         clear hi951_0 hl951_0
         replace p951 := eq_true p951
         replace q951 := eq_true q951
         have p952 : 0 ≤ (x13_1 : Int) := od_
         have q952 : x13_1 < (l1.length : Int) := od_
         obtain ⟨ad952, A952_0, c952_0, e952, hx952_0, hl952_0, hi952_0⟩ := at_L1 HR1.out x13_1 p952 q952
         cases e952
         have HR952_0 := A_ hi952_0
         have HC952_0 := A_ hl952_0
         clear hi952_0 hl952_0
         replace p952 := eq_true p952
         replace q952 := eq_true q952
         go_wp2_with (first | (go_at_call 73; (with_reducible refine (laws_kSame.calls k1 _ _ (rd_L1 l0 x13_1) _ _ (rd_L1 l1 x13_1) false _ ?side1 ?side2 ?side3 ?side4 A8.out).mono ?_); (case side1 => exact tc0_ HR951_0.out); (case side2 => exact HC951_0.out); (case side3 => exact tc0_ HR952_0.out); (case side4 => exact HC952_0.out); rintro e w' ⟨rfl, ⟨nd, rfl⟩⟩; (try exact dn_)))
         repeat (go_quiet (first | (go_at_call 73; (with_reducible refine (laws_kSame.calls k1 _ _ (rd_L1 l0 x13_1) _ _ (rd_L1 l1 x13_1) false _ ?side1 ?side2 ?side3 ?side4 A8.out).mono ?_); (case side1 => exact tc0_ HR951_0.out); (case side2 => exact HC951_0.out); (case side3 => exact tc0_ HR952_0.out); (case side4 => exact HC952_0.out); rintro e w' ⟨rfl, ⟨nd, rfl⟩⟩; (try exact dn_))); try go_wp2_with (first | (go_at_call 73; (with_reducible refine (laws_kSame.calls k1 _ _ (rd_L1 l0 x13_1) _ _ (rd_L1 l1 x13_1) false _ ?side1 ?side2 ?side3 ?side4 A8.out).mono ?_); (case side1 => exact tc0_ HR951_0.out); (case side2 => exact HC951_0.out); (case side3 => exact tc0_ HR952_0.out); (case side4 => exact HC952_0.out); rintro e w' ⟨rfl, ⟨nd, rfl⟩⟩; (try exact dn_))))
         go_ret
         exact ⟨tf_, dr_⟩
       ·
        rw [if_neg c7] at H
        exact absurd H (by simp)
      ·
       rw [if_neg c6] at H
       exact absurd H (by simp)
     ·
      rw [if_neg c5] at H
      exact absurd H (by simp)
    ·
     rw [if_neg c4] at H
     have c4b0 := decide_eq_false c4
     clear c4
     obtain rfl := Option.some.inj H
     go_wp2
     repeat (go_quiet (fail); try go_wp2)
     go_ret
     exact ⟨tf_, dr_⟩
 ·
  rw [if_neg c3] at H
  have c3b0 : ((l0.length : Int) == (l1.length : Int)) = false := beq_eq_false_iff_ne.mpr c3
  have c3b1 : ((l0.length : Int) != (l1.length : Int)) = true := bne_iff_ne.mpr c3
  have c3b2 : (l0.length == l1.length) = false := by first | simpa using c3 | (simp at c3 ⊢; omega)
  obtain rfl := Option.some.inj H
  go_enter Try.func48, Try.ntmps48
  go_wp2
  repeat (go_quiet (fail); try go_wp2)
  go_ret
  exact ⟨tf_, dr_⟩

/-! ### spec_fiThings: function 128 -/
def spec_fiThings.f (a0 : Int) : Option (Bool) := (spec_l1In.f a0 1 6).bind fun t1041 => (some t1041)
theorem spec_fiThings.calls (a0 : Int) (r : Bool) (w : World) (h : spec_fiThings.f a0 = some r) :
  Calls Try.prog 128 #[.int .i64 a0] w fun e w' => e = .returned (.bool r) ∧ Drawn0 w w' := by
 have H : ((spec_l1In.f a0 1 6).bind fun t1041 => (some t1041)) = some r := h
 clear h
 replace H := Option.bind_eq_some_iff.mp H
 obtain ⟨t1041, A20, H⟩ := H
 replace H : (some t1041) = some r := H
 have A2 := A_ A20
 clear A20
 obtain rfl := Option.some.inj H
 go_enter Try.func128, Try.ntmps128
 go_wp2_with (first | (refine gc_ 111 ?_; refine goesT_ (some 4) Try.func111 #[.int .i64 a0, .int .i64 1, .int .i64 6] ?_; (with_reducible refine (spec_l1In.calls a0 1 6 t1041 _ A2.out).mono ?_); rintro e w' ⟨rfl, ⟨nd, rfl⟩⟩; refine ⟨_, rfl, ?_⟩))
 go_ret
 exact ⟨tf_, dr_⟩

/-! ### spec_fiArrow: function 130 -/
def spec_fiArrow.l0 : Nat → Int → Int → Int → Int → Int → List Int → Option (Int × Int × List Int)
 | 0, _, _, _, _, _, _ => none
 | k + 1, x0, x10, x11, x1049000, x1049001, x1049002 => if x11 < x10 then (if 0 ≤ x0 then (if 0 ≤ (wrap64 (x11 + 1)) then (if 0 ≤ x11 then (if x11 < (x1049002.length : Int) then (spec_fiArrow.l0 k x0 x10 (wrap64 (x11 + 1)) x1049000 x1049001 (x1049002.set (x11 : Int).toNat (wrap64 ((shl .i64 1 x0) - (shl .i64 1 (wrap64 (x11 + 1))))))) else (none)) else (none)) else (none)) else (none)) else (some (x1049000, x1049001, x1049002))
def spec_fiArrow.f (k : Nat) (a0 : Int) : Option (Int × Int × List Int) := (spec_boEmpty.f a0 a0).bind fun bt1043 => (spec_fiArrow.l0 k a0 (bt1043.2.2.length : Int) 0 bt1043.1 bt1043.2.1 bt1043.2.2)
theorem spec_fiArrow.mono_l : ∀ k, (∀ y0 y1 y2 y3 y4 y5, LeO (spec_fiArrow.l0 k y0 y1 y2 y3 y4 y5) (spec_fiArrow.l0 (k + 1) y0 y1 y2 y3 y4 y5))
 | 0 => fun _ _ _ _ _ _ r h => by simp [spec_fiArrow.l0] at h
 | k + 1 => by
  have ih0 := spec_fiArrow.mono_l k
  ·
   intro y0 y1 y2 y3 y4 y5
   unfold spec_fiArrow.l0
   repeat' first | (with_reducible first | exact ih0 _ _ _ _ _ _ | exact LeO.refl _ | exact LeO.none _ | refine LeO.ite ?_ ?_ | refine LeO.bind ?_ (fun _ => ?_)) | exact ih0 _ _ _ _ _ _ | exact LeO.none _ | refine LeO.ite ?_ ?_ | refine LeO.bind ?_ (fun _ => ?_)
theorem spec_fiArrow.mono : ∀ a0 k, LeO (spec_fiArrow.f k a0) (spec_fiArrow.f (k + 1) a0) := by
 intro a0 k
 have ih0 := spec_fiArrow.mono_l k
 unfold spec_fiArrow.f
 repeat' first | (with_reducible first | exact ih0 _ _ _ _ _ _ | exact LeO.refl _ | exact LeO.none _ | refine LeO.ite ?_ ?_ | refine LeO.bind ?_ (fun _ => ?_)) | exact ih0 _ _ _ _ _ _ | exact LeO.none _ | refine LeO.ite ?_ ?_ | refine LeO.bind ?_ (fun _ => ?_)
def spec_fiArrow.T5 : Bool × List (List Nat × List Nat) := (true, [([], []), ([0], [0]), ([], []), ([], []), ([3], [3]), ([], []), ([5], [5]), ([6], [6]), ([4, 7], [4, 7]), ([1, 2, 0, 1, 2, 3, 4, 5, 6, 7, 8], [1, 2]), ([9, 8, 0, 1, 2, 3, 4, 5, 6, 7, 8], [8, 9])])
def spec_fiArrow.B5 : List Nat := [0, 1, 0, 0, 8, 0, 32, 96, 248, 511, 1023]
theorem spec_fiArrow.tab5 : rtab .any (opsOf Try.f130 5) = spec_fiArrow.T5 := by kernel_rfl
theorem spec_fiArrow.bits5 : waitsOk spec_fiArrow.T5.2 spec_fiArrow.B5 = true := by kernel_rfl
theorem spec_fiArrow.calls (k : Nat) (a0 : Int) (r1 : Int) (r2 : Int) (r3 : List Int) (w : World) (h : spec_fiArrow.f k a0 = some (r1, r2, r3)) :
  Calls Try.prog 130 #[.int .i64 a0] w fun e w' => ∃ v2_ : Value, e = .returned (.agg #[.int .i64 r1, .int .i64 r2, v2_]) ∧ Kd.R (Kd.int .i64) 3 w' w.heap.size (fun _ => True) v2_ r3 ∧ Below w.heap.size w w' := by
 have hu26 := Try.underlying26
 have HB := A_ (Below.refl w.heap.size w)
 have H : ((spec_boEmpty.f a0 a0).bind fun bt1043 => (spec_fiArrow.l0 k a0 (bt1043.2.2.length : Int) 0 bt1043.1 bt1043.2.1 bt1043.2.2)) = some (r1, r2, r3) := h
 clear h
 replace H := Option.bind_eq_some_iff.mp H
 obtain ⟨⟨t1043, t1044, t1045⟩, A20, H⟩ := H
 replace H : (spec_fiArrow.l0 k a0 (t1045.length : Int) 0 t1043 t1044 t1045) = some (r1, r2, r3) := H
 have A2 := A_ A20
 clear A20
 have H' := A_ H
 clear H
 go_enter Try.func130, Try.ntmps130
 go_wp2_with (first | (refine gd_ 2 ?_; refine bx_ 2 #[.int .i64 0, .int .i64 0, .slice none 0 0] 26 ?_; intro gb1042 hg w3 hbox hb; have BK1042 := A_ (hbox); have GW1042 := A_ ((ts_ hg : w.heap.size ≤ gb1042)); have GE1042 := A_ ((ts_ hg : w.heap.size ≤ gb1042)); replace HB := A_ (below_step tb_ hb); clear hb hbox hg) | (refine gc_ 170 ?_; refine goesT_ (some 7) Try.func170 #[.int .i64 a0, .int .i64 a0] ?_; (with_reducible refine (spec_boEmpty.calls a0 a0 t1043 t1044 t1045 _ A2.out).mono ?_); rintro e w4 ⟨v1046, rfl, ho0, hb⟩; refine ⟨_, rfl, ?_⟩; have HO1047 := A_ (Kd.R_lower ho0 (below_size tb_)); replace BK1042 := A_ (blk_below (g := gb1042) (o := .cells #[.int .i64 0, .int .i64 0, .slice none 0 0] 26 (0, 0)) (tk_ BK1042) hb); replace HB := A_ (below_step tb_ hb); (try clear hb); (try clear ho0)) | (refine gd_ 3 ?_; refine bx_ 3 #[.int .i64 0, .int .i64 0, .slice none 0 0] 26 ?_; intro gb1048 hg w5 hbox hb; replace HO1047 := A_ (Kd.R_below (tr_x HO1047.out) hb); have BK1048 := A_ (hbox); have GW1048 := A_ ((ts_ hg : w.heap.size ≤ gb1048)); have GE1048 := A_ ((ts_ hg : w.heap.size ≤ gb1048)); replace HB := A_ (below_step tb_ hb); have NB1042_1048 := A_ ((by rw [hg]; exact Nat.ne_of_lt (blk_lt (g := gb1042) (o := .cells #[.int .i64 0, .int .i64 0, .slice none 0 0] 26 (0, 0)) (tk_ BK1042)) : gb1042 ≠ gb1048)); have NB1048_1042 := A_ ((by rw [hg]; exact Nat.ne_of_gt (blk_lt (g := gb1042) (o := .cells #[.int .i64 0, .int .i64 0, .slice none 0 0] 26 (0, 0)) (tk_ BK1042)) : gb1048 ≠ gb1042)); replace BK1042 := A_ (blk_below (g := gb1042) (o := .cells #[.int .i64 0, .int .i64 0, .slice none 0 0] 26 (0, 0)) (tk_ BK1042) hb); clear hb hbox hg; have hnb6 := NB1048_1042.out; have hnc6 := NB1042_1048.out; obtain ⟨hcz7_0, hcz7_1, hcz7_2, hfz7_0, hfz7_1, hfz7_2⟩ := cf3_ BK1048.out; obtain ⟨Ao8, co8, eo8⟩ := Kd.R_slice HO1047.out; subst eo8))
 go_loopg [11] k (fun kq v11 w' => ∃ (x11_1 : Int) (x1049002_1 : List Int) (u1049002 : Value), v11 = .int .i64 x11_1 ∧ Aside0 (spec_fiArrow.l0 kq a0 (t1045.length : Int) x11_1 t1043 t1044 x1049002_1 = some (r1, r2, r3)) ∧ Aside0 (kq ≤ k) ∧ Aside0 (Kd.R (Kd.int .i64) 3 w' w.heap.size (fun _ => True) u1049002 x1049002_1) ∧ Aside0 (w'.heap[gb1042]? = some (.cells #[.int .i64 0, .int .i64 0, (.slice none 0 0)] 26 (0, 0))) ∧ Aside0 (w'.heap[gb1048]? = some (.cells #[.int .i64 t1043, .int .i64 t1044, u1049002] 26 (0, 0))) ∧ Aside0 (Below w.heap.size w w'))
 case atStart => exact ⟨(0), (t1045), (.slice Ao8 t1045.length co8), tf_, H', ⟨Nat.le_refl _⟩, ⟨by (with_reducible repeat (first | apply Kd.R_alloc | apply Kd.R_drewN | apply Kd.R_drew)); exact Kd.R_mono (Kd.R_far (p := ⟨gb1048, 2, none⟩) (Kd.R_far (p := ⟨gb1048, 1, none⟩) (Kd.R_far (p := ⟨gb1048, 0, none⟩) (Kd.R_types HO1047.out BK1048.out (by decide)) (fun _ hk => hk.2) (.int .i64 t1043)) (fun _ hk => hk.2) (.int .i64 t1044)) (fun _ hk => hk.2) (.slice Ao8 t1045.length co8)) (fun _ hk => trivial)⟩, ⟨tk_ BK1042⟩, ⟨by (with_reducible repeat (first | refine blk_drewN ?_ _ | refine blk_drew ?_ | refine blk_alloc ?_ _)); refine blk_put (cs := #[.int .i64 t1043, .int .i64 t1044, .slice none 0 0]) ?_ 2 _ rfl; (with_reducible repeat (first | refine blk_drewN ?_ _ | refine blk_drew ?_ | refine blk_alloc ?_ _)); refine blk_put (cs := #[.int .i64 t1043, .int .i64 0, .slice none 0 0]) ?_ 1 _ rfl; (with_reducible repeat (first | refine blk_drewN ?_ _ | refine blk_drew ?_ | refine blk_alloc ?_ _)); refine blk_put (cs := #[.int .i64 0, .int .i64 0, .slice none 0 0]) ?_ 0 _ rfl; (with_reducible repeat (first | refine blk_drewN ?_ _ | refine blk_drew ?_ | refine blk_alloc ?_ _)); exact BK1048.out⟩, ⟨tb_⟩⟩
 case round =>
  clear H'
  try clear c1
  try clear p2
  try clear c6
  try clear hcz7_0
  try clear hcz7_1
  try clear hcz7_2
  try clear hfz7_0
  try clear hfz7_1
  try clear hfz7_2
  obtain ⟨x11_1, x1049002_1, u1049002, rfl, HA, HK1, HO_1049002, BK1042, BK1048, HB⟩ := hrel
  cases gk with
  | zero => exact absurd HA.out (by simp [spec_fiArrow.l0])
  | succ k1 =>
   have H := HA.out
   clear HA
   simp only [spec_fiArrow.l0] at H
   by_cases c9 : x11_1 < (t1045.length : Int)
   ·
    rw [if_pos c9] at H
    have c9b0 := decide_eq_true c9
    clear c9
    by_cases c10 : 0 ≤ a0
    ·
     rw [if_pos c10] at H
     have c10b0 := eq_true c10
     have c10b1 := decide_eq_true c10
     clear c10
     obtain ⟨ji11, hji11⟩ : ∃ j_ : Int, (shl .i64 1 a0) = j_ := ⟨_, rfl⟩
     replace H : (if 0 ≤ (wrap64 (x11_1 + 1)) then (if 0 ≤ x11_1 then (if x11_1 < (x1049002_1.length : Int) then (spec_fiArrow.l0 k1 a0 (t1045.length : Int) (wrap64 (x11_1 + 1)) t1043 t1044 (x1049002_1.set (x11_1 : Int).toNat (wrap64 ((ji11) - (shl .i64 1 (wrap64 (x11_1 + 1))))))) else (none)) else (none)) else (none)) = some (r1, r2, r3) := by first | (rw [hji11] at H; exact H) | (simp only [hji11] at H ⊢; exact H)
     have hji11_ : (IntKind.i64.wrap (1 * 2 ^ min a0.toNat 64)) = ji11 := hji11
     have hji11z : a0 ≤ 64 → (IntKind.i64.wrap (1 * 2 ^ a0.toNat)) = ji11 := shl_small hji11
     have hji11u : (IntKind.i64.wrap (2 ^ min a0.toNat 64)) = ji11 := by have h_ := hji11_; rw [Int.one_mul] at h_; exact h_
     have hji11v : a0 ≤ 64 → (IntKind.i64.wrap (2 ^ a0.toNat)) = ji11 := fun hle_ => by have h_ := hji11z hle_; rw [Int.one_mul] at h_; exact h_
     have hji11y : (wrap64 (1 * 2 ^ min a0.toNat 64)) = ji11 := (i64_w _).symm.trans hji11_
     have hji11x : a0 ≤ 64 → (wrap64 (1 * 2 ^ a0.toNat)) = ji11 := fun h_ => (i64_w _).symm.trans (hji11z h_)
     obtain ⟨ji12, hji12⟩ : ∃ j_ : Int, (wrap64 (x11_1 + 1)) = j_ := ⟨_, rfl⟩
     replace H : (if 0 ≤ (ji12) then (if 0 ≤ x11_1 then (if x11_1 < (x1049002_1.length : Int) then (spec_fiArrow.l0 k1 a0 (t1045.length : Int) ji12 t1043 t1044 (x1049002_1.set (x11_1 : Int).toNat (wrap64 ((ji11) - (shl .i64 1 (ji12)))))) else (none)) else (none)) else (none)) = some (r1, r2, r3) := by first | (rw [hji12] at H; exact H) | (simp only [hji12] at H ⊢; exact H)
     have hji12w : (IntKind.i64.wrap (x11_1 + 1)) = ji12 := (i64_w _).trans hji12
     by_cases c13 : 0 ≤ (ji12)
     ·
      rw [if_pos c13] at H
      have c13b0 := eq_true c13
      have c13b1 := decide_eq_true c13
      clear c13
      obtain ⟨ji14, hji14⟩ : ∃ j_ : Int, (shl .i64 1 (ji12)) = j_ := ⟨_, rfl⟩
      replace H : (if 0 ≤ x11_1 then (if x11_1 < (x1049002_1.length : Int) then (spec_fiArrow.l0 k1 a0 (t1045.length : Int) ji12 t1043 t1044 (x1049002_1.set (x11_1 : Int).toNat (wrap64 ((ji11) - (ji14))))) else (none)) else (none)) = some (r1, r2, r3) := by first | (rw [hji14] at H; exact H) | (simp only [hji14] at H ⊢; exact H)
      have hji14_ : (IntKind.i64.wrap (1 * 2 ^ min (ji12).toNat 64)) = ji14 := hji14
      have hji14z : (ji12) ≤ 64 → (IntKind.i64.wrap (1 * 2 ^ (ji12).toNat)) = ji14 := shl_small hji14
      have hji14u : (IntKind.i64.wrap (2 ^ min (ji12).toNat 64)) = ji14 := by have h_ := hji14_; rw [Int.one_mul] at h_; exact h_
      have hji14v : (ji12) ≤ 64 → (IntKind.i64.wrap (2 ^ (ji12).toNat)) = ji14 := fun hle_ => by have h_ := hji14z hle_; rw [Int.one_mul] at h_; exact h_
      have hji14y : (wrap64 (1 * 2 ^ min (ji12).toNat 64)) = ji14 := (i64_w _).symm.trans hji14_
      have hji14x : (ji12) ≤ 64 → (wrap64 (1 * 2 ^ (ji12).toNat)) = ji14 := fun h_ => (i64_w _).symm.trans (hji14z h_)
      by_cases c15 : 0 ≤ x11_1
      ·
       rw [if_pos c15] at H
       have c15b0 := decide_eq_true c15
       clear c15
       by_cases c16 : x11_1 < (x1049002_1.length : Int)
       ·
        rw [if_pos c16] at H
        have c16b0 := decide_eq_true c16
        clear c16
        obtain ⟨y1049, hy1049⟩ : ∃ y_ : List Int, y_ = (x1049002_1.set (x11_1 : Int).toNat (wrap64 ((ji11) - (ji14)))) := ⟨_, rfl⟩
        replace H : (spec_fiArrow.l0 k1 a0 (t1045.length : Int) ji12 t1043 t1044 y1049) = some (r1, r2, r3) := ty_ hy1049 H
        have Ny1049 := A_ hy1049
        clear hy1049
        have H' := A_ H
        clear H
        try go_wp2
        have n0_ := A_ (Kd.R_drew HO_1049002.out)
        have n1_ := A_ (blk_drew BK1042.out)
        have n2_ := A_ (blk_drew BK1048.out)
        have n3_ := A_ (below_drew1 HB.out)
        clear HO_1049002
        clear BK1042
        clear BK1048
        clear HB
        have HO_1049002 := n0_
        have BK1042 := n1_
        have BK1048 := n2_
        have HB := n3_
        clear n0_ n1_ n2_ n3_
        have p17 : 0 ≤ (x11_1 : Int) := od_
        have q17 : (x11_1 : Int) < ((x1049002_1.length : Int) : Int) := od_
        obtain ⟨go17, co17, eo17, gb17, gl17, cl17, HG17⟩ := Kd.R_form HO_1049002.out (by omega)
        (first | cases eo17 | (injection eo17 with ea_ en_ ec_; (first | subst ea_ | (injection ea_ with ea_; subst ea_)); subst ec_; clear en_))
        have GB17 := A_ gb17
        have GG17 := A_ HG17
        clear gb17 gl17 HG17
        obtain ⟨hx17_0, hf17_0⟩ := Kd.R_celln 0 HO_1049002.out (x11_1 : Int) p17 q17
        replace p17 := eq_true p17
        replace q17 := eq_true q17
        have HP19 := Kd.R_putn HO_1049002.out (x11_1 : Int) (wrap64 ((ji11) - (ji14)))
        rw [← Ny1049.out] at HP19
        have HQ19 := A_ HP19
        clear HP19
        refine start_ (n := 11) (S := fun w' => w'.cell? ⟨gb1048, 0, none⟩ = some (.int .i64 t1043) ∧ w'.cell? ⟨gb1048, 1, none⟩ = some (.int .i64 t1044) ∧ w'.cell? ⟨gb1048, 2, none⟩ = some (.slice (some ⟨go17, 0, none⟩) x1049002_1.length co17)) (ds := [10]) (Fn.bl 11 0) (by kernel_rfl) rfl rfl ⟨(blk_cell BK1048.out 0).trans rfl, (blk_cell BK1048.out 1).trans rfl, (blk_cell BK1048.out 2).trans rfl⟩ (fun hHeld => ?_); refine with_tabW spec_fiArrow.tab5 spec_fiArrow.bits5 (fun HT_ HW_ => ?_)
        generalize wr.drew = w18 at HO_1049002 BK1042 BK1048 HB GG17 HQ19 hf17_0 hx17_0 hHeld ⊢
        refine pq_ 0 (some 14) (Fn.bl 11 1) HT_.out ?_
        refine pq_ 2 (some 16) (Fn.bl 11 5) HT_.out ?_
        refine pq_ 3 (some 17) (Fn.bl 11 13) HT_.out ?_
        refine pq_ 4 (some 18) (Fn.bl 11 29) HT_.out ?_
        refine pq_ 5 (some 19) (Fn.bl 11 61) HT_.out ?_
        refine pq_ 6 (some 20) (Fn.bl 11 125) HT_.out ?_
        refine pq_ 7 (some 21) (Fn.bl 11 253) HT_.out ?_
        refine pq_ 8 (some 22) (Fn.bl 11 509) HT_.out ?_
        refine tq_ 1 (some 15) (Fn.bl 11 511) HT_.out HW_.out hHeld ?_ (hy0 := by rintro w' ⟨s0, s1, s2⟩; go_simp; with_reducible rfl)
        refine pq_ 9 (some 23) (Fn.bl 11 1023) HT_.out ?_
        refine last_ (i := 10) (N := none) (Fn.bl 11 2047) rfl rfl (one_of HT_.out (by kernel_rfl)) (by decide) (fun K hK => ?_)
        refine skip_ (w1 := ?_) (by rfl) rfl ?_ ?_
        rotate_left
        ·
         go_simp
         rfl
        refine hK.out _ _ ?_
        clear hK K
        refine done_ (done_of HT_.out (by kernel_rfl)) ?_
        try go_wp2
        go_roundg k1
        case measure => have := HK1.out; omega
        case rel => exact ⟨(ji12), (y1049), (.slice (some ⟨go17, 0, none⟩) x1049002_1.length co17), (by first | rfl | (simp; done) | (simp only [← hji12] <;> (first | rfl | simp)) | (simp [*]; done)), H', ⟨by have := HK1.out; omega⟩, ⟨tr_x HQ19.out⟩, ⟨by (with_reducible repeat (first | refine blk_drewN ?_ _ | refine blk_drew ?_ | refine blk_alloc ?_ _)); refine blk_far ?_ (by have h_ := Kd.R_ne HO_1049002.out BK1042.out (by decide); intro e_; exact h_ (by rw [e_]; rfl)) _; (with_reducible repeat (first | refine blk_drewN ?_ _ | refine blk_drew ?_ | refine blk_alloc ?_ _)); exact BK1042.out⟩, ⟨by (with_reducible repeat (first | refine blk_drewN ?_ _ | refine blk_drew ?_ | refine blk_alloc ?_ _)); refine blk_far ?_ (by have h_ := Kd.R_ne HO_1049002.out BK1048.out (by decide); intro e_; exact h_ (by rw [e_]; rfl)) _; (with_reducible repeat (first | refine blk_drewN ?_ _ | refine blk_drew ?_ | refine blk_alloc ?_ _)); exact BK1048.out⟩, ⟨tb_⟩⟩
       ·
        rw [if_neg c16] at H
        exact absurd H (by simp)
      ·
       rw [if_neg c15] at H
       exact absurd H (by simp)
     ·
      rw [if_neg c13] at H
      exact absurd H (by simp)
    ·
     rw [if_neg c10] at H
     exact absurd H (by simp)
   ·
    rw [if_neg c9] at H
    have c9b0 := decide_eq_false c9
    clear c9
    simp only [Option.some.injEq, Prod.mk.injEq] at H
    obtain ⟨rfl, rfl, rfl⟩ := H
    have hnb20 := NB1048_1042.out
    have hnc20 := NB1042_1048.out
    obtain ⟨hcz21_0, hcz21_1, hcz21_2, hfz21_0, hfz21_1, hfz21_2⟩ := cf3_ BK1048.out
    obtain ⟨hcz22_0, hcz22_1, hcz22_2, hfz22_0, hfz22_1, hfz22_2⟩ := cf3_ BK1042.out
    obtain ⟨Ao23, co23, eo23⟩ := Kd.R_slice HO_1049002.out
    subst eo23
    go_wp2
    refine bodyPost_ret (results_cell_row rfl _ _ gb1042 26 #[.int .i64 t1043, .int .i64 t1044, .slice Ao23 x1049002_1.length co23] (0, 0) _ rfl (by (with_reducible repeat (first | refine blk_drewN ?_ _ | refine blk_drew ?_ | refine blk_alloc ?_ _)); refine blk_put (cs := #[.int .i64 t1043, .int .i64 t1044, .slice none 0 0]) ?_ 2 _ rfl; (with_reducible repeat (first | refine blk_drewN ?_ _ | refine blk_drew ?_ | refine blk_alloc ?_ _)); refine blk_put (cs := #[.int .i64 t1043, .int .i64 0, .slice none 0 0]) ?_ 1 _ rfl; (with_reducible repeat (first | refine blk_drewN ?_ _ | refine blk_drew ?_ | refine blk_alloc ?_ _)); refine blk_put (cs := #[.int .i64 0, .int .i64 0, .slice none 0 0]) ?_ 0 _ rfl; (with_reducible repeat (first | refine blk_drewN ?_ _ | refine blk_drew ?_ | refine blk_alloc ?_ _)); exact BK1042.out) Try.underlying26 rfl (by kernel_rfl)) rfl ?_
    exact ⟨_, te_, by (with_reducible repeat (first | apply Kd.R_alloc | apply Kd.R_drewN | apply Kd.R_drew)); exact Kd.R_mono (Kd.R_far (p := ⟨gb1042, 2, none⟩) (Kd.R_far (p := ⟨gb1042, 1, none⟩) (Kd.R_far (p := ⟨gb1042, 0, none⟩) (Kd.R_types HO_1049002.out BK1042.out (by decide)) (fun _ hk => hk.2) (.int .i64 t1043)) (fun _ hk => hk.2) (.int .i64 t1044)) (fun _ hk => hk.2) (.slice Ao23 x1049002_1.length co23)) (fun _ hk => trivial), tb_⟩

/-! ### spec_fiGood: function 129 -/
mutual
def spec_fiGood.j0 : Nat → List Int → Bool → Int → Int → List Int → Option (Bool)
 | 0, _, _, _, _, _ => none
 | k + 1, x1, x19, x1051000, x1051001, x1051002 => if x19 = true then (some false) else (spec_fiGood.l0 k x1 (x1.length : Int) 0 x1051000 x1051001 x1051002)
def spec_fiGood.l0 : Nat → List Int → Int → Int → Int → Int → List Int → Option (Bool)
 | 0, _, _, _, _, _, _ => none
 | k + 1, x20, x21, x22, x1051000, x1051001, x1051002 => if x22 < x21 then (if 0 ≤ x22 then (if x22 < (x20.length : Int) then (if (rd x20 x22) ≥ 0 then ((spec_boHas.f x1051000 x1051001 x1051002 (rd x20 x22) x22).bind fun t1053 => (if t1053 = true then (spec_fiGood.l0 k x20 x21 (wrap64 (x22 + 1)) x1051000 x1051001 x1051002) else (some false))) else (spec_fiGood.l0 k x20 x21 (wrap64 (x22 + 1)) x1051000 x1051001 x1051002)) else (none)) else (none)) else (some true)
end
def spec_fiGood.f (k : Nat) (a0_0 : Int) (a0_1 : Int) (l0_2 : List Int) (l1 : List Int) : Option (Bool) := if (l1.length : Int) = a0_1 then ((spec_l1All.f k l1 (-1) (wrap64 (a0_0 - 1))).bind fun t1051 => (spec_fiGood.j0 k l1 (!t1051) a0_0 a0_1 l0_2)) else (spec_fiGood.j0 k l1 true a0_0 a0_1 l0_2)
theorem spec_fiGood.mono_l : ∀ k, (∀ y0 y1 y2 y3 y4, LeO (spec_fiGood.j0 k y0 y1 y2 y3 y4) (spec_fiGood.j0 (k + 1) y0 y1 y2 y3 y4)) ∧ (∀ y0 y1 y2 y3 y4 y5, LeO (spec_fiGood.l0 k y0 y1 y2 y3 y4 y5) (spec_fiGood.l0 (k + 1) y0 y1 y2 y3 y4 y5))
 | 0 => ⟨fun _ _ _ _ _ r h => by simp [spec_fiGood.j0] at h, fun _ _ _ _ _ _ r h => by simp [spec_fiGood.l0] at h⟩
 | k + 1 => by
  obtain ⟨ih0, ih1⟩ := spec_fiGood.mono_l k
  refine ⟨?_, ?_⟩
  ·
   intro y0 y1 y2 y3 y4
   unfold spec_fiGood.j0
   repeat' first | (with_reducible first | exact ih0 _ _ _ _ _ | exact ih1 _ _ _ _ _ _ | exact spec_l1All.mono _ _ _ _ | exact LeO.refl _ | exact LeO.none _ | refine LeO.ite ?_ ?_ | refine LeO.bind ?_ (fun _ => ?_)) | exact ih0 _ _ _ _ _ | exact ih1 _ _ _ _ _ _ | exact spec_l1All.mono _ _ _ _ | exact LeO.none _ | refine LeO.ite ?_ ?_ | refine LeO.bind ?_ (fun _ => ?_)
  ·
   intro y0 y1 y2 y3 y4 y5
   unfold spec_fiGood.l0
   repeat' first | (with_reducible first | exact ih0 _ _ _ _ _ | exact ih1 _ _ _ _ _ _ | exact spec_l1All.mono _ _ _ _ | exact LeO.refl _ | exact LeO.none _ | refine LeO.ite ?_ ?_ | refine LeO.bind ?_ (fun _ => ?_)) | exact ih0 _ _ _ _ _ | exact ih1 _ _ _ _ _ _ | exact spec_l1All.mono _ _ _ _ | exact LeO.none _ | refine LeO.ite ?_ ?_ | refine LeO.bind ?_ (fun _ => ?_)
theorem spec_fiGood.mono : ∀ a0 a1 a2 a3 k, LeO (spec_fiGood.f k a0 a1 a2 a3) (spec_fiGood.f (k + 1) a0 a1 a2 a3) := by
 intro a0 a1 a2 a3 k
 obtain ⟨ih0, ih1⟩ := spec_fiGood.mono_l k
 unfold spec_fiGood.f
 repeat' first | (with_reducible first | exact ih0 _ _ _ _ _ | exact ih1 _ _ _ _ _ _ | exact spec_l1All.mono _ _ _ _ | exact LeO.refl _ | exact LeO.none _ | refine LeO.ite ?_ ?_ | refine LeO.bind ?_ (fun _ => ?_)) | exact ih0 _ _ _ _ _ | exact ih1 _ _ _ _ _ _ | exact spec_l1All.mono _ _ _ _ | exact LeO.none _ | refine LeO.ite ?_ ?_ | refine LeO.bind ?_ (fun _ => ?_)
theorem spec_fiGood.calls (k : Nat) (a0_0 : Int) (a0_1 : Int) (A0_2 : Option Addr) (c0_2 : Nat) (l0_2 : List Int) (A1 : Option Addr) (c1 : Nat) (l1 : List Int) (r : Bool) (w : World) (hr0_2 : Kd.C (Kd.int .i64) w A0_2 l0_2.length l0_2) (hc0_2 : l0_2.length ≤ c0_2) (hr1 : Kd.C (Kd.int .i64) w A1 l1.length l1) (hc1 : l1.length ≤ c1) (h : spec_fiGood.f k a0_0 a0_1 l0_2 l1 = some r) :
  Calls Try.prog 129 #[.agg #[.int .i64 a0_0, .int .i64 a0_1, .slice A0_2 l0_2.length c0_2], .slice A1 l1.length c1] w fun e w' => e = .returned (.bool r) ∧ Below w.heap.size w w' := by
 have hu26 := Try.underlying26
 have HR0_2 := A_ hr0_2
 have HC0_2 := A_ hc0_2
 clear hr0_2 hc0_2
 have HR1 := A_ hr1
 have HC1 := A_ hc1
 clear hr1 hc1
 have HB := A_ (Below.refl w.heap.size w)
 have H : (if (l1.length : Int) = a0_1 then ((spec_l1All.f k l1 (-1) (wrap64 (a0_0 - 1))).bind fun t1051 => (spec_fiGood.j0 k l1 (!t1051) a0_0 a0_1 l0_2)) else (spec_fiGood.j0 k l1 true a0_0 a0_1 l0_2)) = some r := h
 clear h
 have HC3 := A_ H
 clear H
 go_enter Try.func129, Try.ntmps129
 go_upto_region 1 with (first | (refine gd_ 2 ?_; refine bx_ 2 #[.int .i64 a0_0, .int .i64 a0_1, .slice A0_2 l0_2.length c0_2] 26 ?_; intro gb1050 hg w4 hbox hb; have BK1050 := A_ (hbox); have GW1050 := A_ ((ts_ hg : w.heap.size ≤ gb1050)); have GE1050 := A_ ((ts_ hg : w.heap.size ≤ gb1050)); replace HB := A_ (below_step tb_ hb); clear hb hbox hg))
 (try simp only [Act.put, List.setIfInBounds_toArray, List.set_cons_zero, List.set_cons_succ])
 go_cut [19] (fun v19 wc => ∃ (kq : Nat) (x19_2 : Bool), v19 = .bool x19_2 ∧ Aside0 (spec_fiGood.j0 kq l1 x19_2 a0_0 a0_1 l0_2 = some r) ∧ Aside0 (kq ≤ k) ∧ Aside0 (wc.heap[gb1050]? = some (.cells #[.int .i64 a0_0, .int .i64 a0_1, (.slice A0_2 l0_2.length c0_2)] 26 (0, 0))) ∧ Aside0 (Below w.heap.size w wc))
 case first =>
  have H := HC3.out
  clear HC3
  by_cases c5 : (l1.length : Int) = a0_1
  ·
   rw [if_pos c5] at H
   have c5b0 : ((l1.length : Int) == a0_1) = true := beq_iff_eq.mpr c5
   have c5b1 : ((l1.length : Int) != a0_1) = false := bne_eq_false_iff_eq.mpr c5
   clear c5
   (first | rw [c5b0] | rw [c5b1] | (simp only [i64_w, i32_w]; rw [c5b0]) | skip)
   replace H := Option.bind_eq_some_iff.mp H
   obtain ⟨t1051, A60, H⟩ := H
   replace H : (spec_fiGood.j0 k l1 (!t1051) a0_0 a0_1 l0_2) = some r := H
   have A6 := A_ A60
   clear A60
   have H' := A_ H
   clear H
   obtain ⟨hcz7_0, hcz7_1, hcz7_2, hfz7_0, hfz7_1, hfz7_2⟩ := cf3_ BK1050.out
   go_wp2_with (first | (go_at_call 126; (with_reducible refine (spec_l1All.calls k _ _ l1 (-1) (wrap64 (a0_0 - 1)) t1051 _ ?side1 ?side2 A6.out).mono ?_); (case side1 => exact tc_ HR1.out); (case side2 => exact HC1.out); rintro e w' ⟨rfl, ⟨nd, rfl⟩⟩))
   go_meet
   case rel => exact ⟨_, (!t1051), tf_, H', ⟨by first | omega | exact Nat.le_refl _⟩, ⟨tk_ BK1050⟩, ⟨tb_⟩⟩
  ·
   rw [if_neg c5] at H
   have c5b0 : ((l1.length : Int) == a0_1) = false := beq_eq_false_iff_ne.mpr c5
   have c5b1 : ((l1.length : Int) != a0_1) = true := bne_iff_ne.mpr c5
   (first | rw [c5b0] | rw [c5b1] | (simp only [i64_w, i32_w]; rw [c5b0]) | skip)
   have H' := A_ H
   clear H
   obtain ⟨hcz8_0, hcz8_1, hcz8_2, hfz8_0, hfz8_1, hfz8_2⟩ := cf3_ BK1050.out
   go_wp2
   go_meet
   case rel => exact ⟨_, (true), tf_, H', ⟨by first | omega | exact Nat.le_refl _⟩, ⟨tk_ BK1050⟩, ⟨tb_⟩⟩
 case rest =>
  clear HC3
  try clear c1
  try clear p2
  try clear c5
  try clear c5b0
  try clear c5b1
  try clear p6
  try clear hcz7_0
  try clear hcz7_1
  try clear hcz7_2
  try clear hcz8_0
  try clear hcz8_1
  try clear hcz8_2
  try clear hfz7_0
  try clear hfz7_1
  try clear hfz7_2
  try clear hfz8_0
  try clear hfz8_1
  try clear hfz8_2
  obtain ⟨kq, x19_2, rfl, HA, HJ2, BK1050, HB⟩ := hcut
  cases kq with
  | zero => exact absurd HA.out (by simp [spec_fiGood.j0])
  | succ kj2 =>
   have H := HA.out
   clear HA
   simp only [spec_fiGood.j0] at H
   by_cases c9 : x19_2 = true
   ·
    subst c9
    have H1 : (some false) = some r := by rw [if_pos rfl] at H; exact H
    clear H
    have H := H1
    clear H1
    obtain rfl := Option.some.inj H
    go_wp2
    go_ret
    exact ⟨te_, tb_⟩
   ·
    replace c9 := Bool.eq_false_iff.mpr c9
    subst c9
    have H1 : (spec_fiGood.l0 kj2 l1 (l1.length : Int) 0 a0_0 a0_1 l0_2) = some r := by rw [if_neg (show ¬ (false = true) by decide)] at H; exact H
    clear H
    have H := H1
    clear H1
    have H' := A_ H
    clear H
    go_wp2
    go_loopg [22] kj2 (fun kq v22 w' => ∃ (x22_2 : Int), v22 = .int .i64 x22_2 ∧ Aside0 (spec_fiGood.l0 kq l1 (l1.length : Int) x22_2 a0_0 a0_1 l0_2 = some r) ∧ Aside0 (kq ≤ kj2) ∧ Aside0 (w'.heap[gb1050]? = some (.cells #[.int .i64 a0_0, .int .i64 a0_1, (.slice A0_2 l0_2.length c0_2)] 26 (0, 0))) ∧ Aside0 (Below w.heap.size w w'))
    case atStart => exact ⟨(0), tf_, H', ⟨Nat.le_refl _⟩, ⟨tk_ BK1050⟩, ⟨tb_⟩⟩
    case round =>
     clear H'
     try clear c1
     try clear p2
     try clear c5
     try clear c5b0
     try clear c5b1
     try clear p6
     try clear c9
     try clear hcz7_0
     try clear hcz7_1
     try clear hcz7_2
     try clear hcz8_0
     try clear hcz8_1
     try clear hcz8_2
     try clear hfz7_0
     try clear hfz7_1
     try clear hfz7_2
     try clear hfz8_0
     try clear hfz8_1
     try clear hfz8_2
     try clear p2
     try clear p6
     obtain ⟨x22_2, rfl, HA, HK2, BK1050, HB⟩ := hrel
     cases gk with
     | zero => exact absurd HA.out (by simp [spec_fiGood.l0])
     | succ k2 =>
      have H := HA.out
      clear HA
      simp only [spec_fiGood.l0] at H
      by_cases c10 : x22_2 < (l1.length : Int)
      ·
       rw [if_pos c10] at H
       have c10b0 := decide_eq_true c10
       clear c10
       by_cases c11 : 0 ≤ x22_2
       ·
        rw [if_pos c11] at H
        have c11b0 := decide_eq_true c11
        clear c11
        by_cases c12 : x22_2 < (l1.length : Int)
        ·
         rw [if_pos c12] at H
         have c12b0 := decide_eq_true c12
         clear c12
         by_cases c13 : (rd l1 x22_2) ≥ 0
         ·
          rw [if_pos c13] at H
          have c13b0 := decide_eq_true c13
          clear c13
          replace H := Option.bind_eq_some_iff.mp H
          obtain ⟨t1053, A140, H⟩ := H
          replace H : (if t1053 = true then (spec_fiGood.l0 k2 l1 (l1.length : Int) (wrap64 (x22_2 + 1)) a0_0 a0_1 l0_2) else (some false)) = some r := H
          have A14 := A_ A140
          clear A140
          by_cases c15 : t1053 = true
          ·
           subst c15
           have H1 : (spec_fiGood.l0 k2 l1 (l1.length : Int) (wrap64 (x22_2 + 1)) a0_0 a0_1 l0_2) = some r := by rw [if_pos rfl] at H; exact H
           clear H
           have H := H1
           clear H1
           have H' := A_ H
           clear H
           have p1052 : 0 ≤ (x22_2 : Int) := od_
           have q1052 : x22_2 < (l1.length : Int) := od_
           obtain ⟨ad1052, e1052, hx1052_0⟩ := Kd.at_int HR1.out x22_2 p1052 q1052
           cases e1052
           (try replace hx1052_0 := (HB.out.cell (World.block_lt_of_cell? w _ hx1052_0)).trans hx1052_0)
           replace p1052 := eq_true p1052
           replace q1052 := eq_true q1052
           obtain ⟨hcz16_0, hcz16_1, hcz16_2, hfz16_0, hfz16_1, hfz16_2⟩ := cf3_ BK1050.out
           go_wp2_with (first | (go_at_call 182; (with_reducible refine (spec_boHas.calls a0_0 a0_1 _ _ l0_2 (rd l1 x22_2) x22_2 true _ ?side1 ?side2 A14.out).mono ?_); (case side1 => exact tc_ HR0_2.out); (case side2 => exact HC0_2.out); rintro e w17 ⟨rfl, hb⟩; replace BK1050 := A_ (blk_below (g := gb1050) (o := .cells #[.int .i64 a0_0, .int .i64 a0_1, .slice A0_2 l0_2.length c0_2] 26 (0, 0)) (tk_ BK1050) hb); replace HB := A_ (below_step tb_ hb); (try clear hb)))
           go_roundg k2
           case measure => have := HJ2.out; have := HK2.out; omega
           case rel => exact ⟨(wrap64 (x22_2 + 1)), tf_, H', ⟨by have := HJ2.out; have := HK2.out; omega⟩, ⟨tk_ BK1050⟩, ⟨tb_⟩⟩
          ·
           replace c15 := Bool.eq_false_iff.mpr c15
           subst c15
           have H1 : (some false) = some r := by rw [if_neg (show ¬ (false = true) by decide)] at H; exact H
           clear H
           have H := H1
           clear H1
           obtain rfl := Option.some.inj H
           have p1052 : 0 ≤ (x22_2 : Int) := od_
           have q1052 : x22_2 < (l1.length : Int) := od_
           obtain ⟨ad1052, e1052, hx1052_0⟩ := Kd.at_int HR1.out x22_2 p1052 q1052
           cases e1052
           (try replace hx1052_0 := (HB.out.cell (World.block_lt_of_cell? w _ hx1052_0)).trans hx1052_0)
           replace p1052 := eq_true p1052
           replace q1052 := eq_true q1052
           obtain ⟨hcz18_0, hcz18_1, hcz18_2, hfz18_0, hfz18_1, hfz18_2⟩ := cf3_ BK1050.out
           go_wp2_with (first | (go_at_call 182; (with_reducible refine (spec_boHas.calls a0_0 a0_1 _ _ l0_2 (rd l1 x22_2) x22_2 false _ ?side1 ?side2 A14.out).mono ?_); (case side1 => exact tc_ HR0_2.out); (case side2 => exact HC0_2.out); rintro e w19 ⟨rfl, hb⟩; replace BK1050 := A_ (blk_below (g := gb1050) (o := .cells #[.int .i64 a0_0, .int .i64 a0_1, .slice A0_2 l0_2.length c0_2] 26 (0, 0)) (tk_ BK1050) hb); replace HB := A_ (below_step tb_ hb); (try clear hb)))
           go_ret
           exact ⟨te_, tb_⟩
         ·
          rw [if_neg c13] at H
          have c13b0 := decide_eq_false c13
          clear c13
          have H' := A_ H
          clear H
          have p1052 : 0 ≤ (x22_2 : Int) := od_
          have q1052 : x22_2 < (l1.length : Int) := od_
          obtain ⟨ad1052, e1052, hx1052_0⟩ := Kd.at_int HR1.out x22_2 p1052 q1052
          cases e1052
          (try replace hx1052_0 := (HB.out.cell (World.block_lt_of_cell? w _ hx1052_0)).trans hx1052_0)
          replace p1052 := eq_true p1052
          replace q1052 := eq_true q1052
          go_wp2
          go_roundg k2
          case measure => have := HJ2.out; have := HK2.out; omega
          case rel => exact ⟨(wrap64 (x22_2 + 1)), tf_, H', ⟨by have := HJ2.out; have := HK2.out; omega⟩, ⟨tk_ BK1050⟩, ⟨tb_⟩⟩
        ·
         rw [if_neg c12] at H
         exact absurd H (by simp)
       ·
        rw [if_neg c11] at H
        exact absurd H (by simp)
      ·
       rw [if_neg c10] at H
       have c10b0 := decide_eq_false c10
       clear c10
       obtain rfl := Option.some.inj H
       go_wp2
       go_ret
       exact ⟨te_, tb_⟩

end
end Go.Proofs.Ythlcaikplebpmaa.P
