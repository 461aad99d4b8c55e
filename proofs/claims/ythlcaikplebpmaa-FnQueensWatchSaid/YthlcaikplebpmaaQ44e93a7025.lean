-- printed functions (wip/slim.py)
import Derived.Test.YthlcaikplebpmaaPx0
namespace Go.Proofs.Ythlcaikplebpmaa.P
noncomputable section
set_option maxHeartbeats 8000000
set_option maxRecDepth 100000
open Go.RowKit Go.Proofs.YthlcaikplebpmaaW.PrintWords Go.Proofs.YthlcaikplebpmaaW.PrintLast Go.Proofs.YthlcaikplebpmaaW.PrintMore
attribute [local go_sem] max2_int min2_int max_two min_two max_three min_three max_four min_four   -- for this text's walks alone
set_option linter.unusedVariables false
set_option linter.unusedSimpArgs false

/-! ### spec_l1In: function 111 -/
def spec_l1In.f (a0 : Int) (a1 : Int) (a2 : Int) : Option (Bool) := if a0 ≥ a1 then (some (decide (a0 ≤ a2))) else (some false)
theorem spec_l1In.calls (a0 : Int) (a1 : Int) (a2 : Int) (r : Bool) (w : World) (h : spec_l1In.f a0 a1 a2 = some r) :
  Calls Try.prog 111 #[.int .i64 a0, .int .i64 a1, .int .i64 a2] w fun e w' => e = .returned (.bool r) ∧ Drawn0 w w' := by
 have H : (if a0 ≥ a1 then (some (decide (a0 ≤ a2))) else (some false)) = some r := h
 clear h
 by_cases c4 : a0 ≥ a1
 ·
  rw [if_pos c4] at H
  have c4b0 := decide_eq_true c4
  clear c4
  obtain rfl := Option.some.inj H
  go_enter Try.func111, Try.ntmps111
  go_wp2
  go_ret
  exact ⟨tf_, dr_⟩
 ·
  rw [if_neg c4] at H
  have c4b0 := decide_eq_false c4
  clear c4
  obtain rfl := Option.some.inj H
  go_enter Try.func111, Try.ntmps111
  go_wp2
  go_ret
  exact ⟨tf_, dr_⟩

/-! ### spec_l1All: function 126 -/
def spec_l1All.l0 : Nat → Int → Int → List Int → Int → Int → Option (Bool)
 | 0, _, _, _, _, _ => none
 | k + 1, x1, x2, x9, x10, x11 => if x11 < x10 then (if 0 ≤ x11 then (if x11 < (x9.length : Int) then ((spec_l1In.f (rd x9 x11) x1 x2).bind fun t104 => (if t104 = true then (spec_l1All.l0 k x1 x2 x9 x10 (wrap64 (x11 + 1))) else (some false))) else (none)) else (none)) else (some true)
def spec_l1All.f (k : Nat) (l0 : List Int) (a1 : Int) (a2 : Int) : Option (Bool) := spec_l1All.l0 k a1 a2 l0 (l0.length : Int) 0
theorem spec_l1All.mono_l : ∀ k, (∀ y0 y1 y2 y3 y4, LeO (spec_l1All.l0 k y0 y1 y2 y3 y4) (spec_l1All.l0 (k + 1) y0 y1 y2 y3 y4))
 | 0 => fun _ _ _ _ _ r h => by simp [spec_l1All.l0] at h
 | k + 1 => by
  have ih0 := spec_l1All.mono_l k
  ·
   intro y0 y1 y2 y3 y4
   unfold spec_l1All.l0
   repeat' first | (with_reducible first | exact ih0 _ _ _ _ _ | exact LeO.refl _ | exact LeO.none _ | refine LeO.ite ?_ ?_ | refine LeO.bind ?_ (fun _ => ?_)) | exact ih0 _ _ _ _ _ | exact LeO.none _ | refine LeO.ite ?_ ?_ | refine LeO.bind ?_ (fun _ => ?_)
theorem spec_l1All.mono : ∀ a0 a1 a2 k, LeO (spec_l1All.f k a0 a1 a2) (spec_l1All.f (k + 1) a0 a1 a2) := by
 intro a0 a1 a2 k
 have ih0 := spec_l1All.mono_l k
 unfold spec_l1All.f
 repeat' first | (with_reducible first | exact ih0 _ _ _ _ _ | exact LeO.refl _ | exact LeO.none _ | refine LeO.ite ?_ ?_ | refine LeO.bind ?_ (fun _ => ?_)) | exact ih0 _ _ _ _ _ | exact LeO.none _ | refine LeO.ite ?_ ?_ | refine LeO.bind ?_ (fun _ => ?_)
theorem spec_l1All.calls (k : Nat) (A0 : Option Addr) (c0 : Nat) (l0 : List Int) (a1 : Int) (a2 : Int) (r : Bool) (w : World) (hr0 : Kd.C (Kd.int .i64) w A0 l0.length l0) (hc0 : l0.length ≤ c0) (h : spec_l1All.f k l0 a1 a2 = some r) :
  Calls Try.prog 126 #[.slice A0 l0.length c0, .int .i64 a1, .int .i64 a2] w fun e w' => e = .returned (.bool r) ∧ Drawn0 w w' := by
 have HR0 := A_ hr0
 have HC0 := A_ hc0
 clear hr0 hc0
 have H : (spec_l1All.l0 k a1 a2 l0 (l0.length : Int) 0) = some r := h
 clear h
 have H' := A_ H
 clear H
 go_enter Try.func126, Try.ntmps126
 go_wp2
 go_loopg [11] k (fun kq v11 w' => ∃ (x11_1 : Int), v11 = .int .i64 x11_1 ∧ Aside0 (spec_l1All.l0 kq a1 a2 l0 (l0.length : Int) x11_1 = some r) ∧ Aside0 (kq ≤ k) ∧ Drawn0 w w')
 case atStart => exact ⟨(0), tf_, H', ⟨Nat.le_refl _⟩, dr_⟩
 case round =>
  clear H'
  try clear c1
  try clear p2
  obtain ⟨x11_1, rfl, HA, HK1, ⟨m1, rfl⟩⟩ := hrel
  cases gk with
  | zero => exact absurd HA.out (by simp [spec_l1All.l0])
  | succ k1 =>
   have H := HA.out
   clear HA
   simp only [spec_l1All.l0] at H
   by_cases c4 : x11_1 < (l0.length : Int)
   ·
    rw [if_pos c4] at H
    have c4b0 := decide_eq_true c4
    clear c4
    by_cases c5 : 0 ≤ x11_1
    ·
     rw [if_pos c5] at H
     have c5b0 := decide_eq_true c5
     clear c5
     by_cases c6 : x11_1 < (l0.length : Int)
     ·
      rw [if_pos c6] at H
      have c6b0 := decide_eq_true c6
      clear c6
      replace H := Option.bind_eq_some_iff.mp H
      obtain ⟨t104, A70, H⟩ := H
      replace H : (if t104 = true then (spec_l1All.l0 k1 a1 a2 l0 (l0.length : Int) (wrap64 (x11_1 + 1))) else (some false)) = some r := H
      have A7 := A_ A70
      clear A70
      by_cases c8 : t104 = true
      ·
       subst c8
       have H1 : (spec_l1All.l0 k1 a1 a2 l0 (l0.length : Int) (wrap64 (x11_1 + 1))) = some r := by rw [if_pos rfl] at H; exact H
       clear H
       have H := H1
       clear H1
       have H' := A_ H
       clear H
       have p103 : 0 ≤ (x11_1 : Int) := od_
       have q103 : x11_1 < (l0.length : Int) := od_
       obtain ⟨ad103, e103, hx103_0⟩ := Kd.at_int HR0.out x11_1 p103 q103
       cases e103
       replace p103 := eq_true p103
       replace q103 := eq_true q103
       go_wp2_with (first | (refine gc_ 111 ?_; refine goesT_ (some 18) Try.func111 #[.int .i64 (rd l0 x11_1), .int .i64 a1, .int .i64 a2] ?_; (with_reducible refine (spec_l1In.calls (rd l0 x11_1) a1 a2 true _ A7.out).mono ?_); rintro e w' ⟨rfl, ⟨nd, rfl⟩⟩; refine ⟨_, rfl, ?_⟩))
       go_roundg k1
       case measure => have := HK1.out; omega
       case rel => exact ⟨(wrap64 (x11_1 + 1)), tf_, H', ⟨by have := HK1.out; omega⟩, dr_⟩
      ·
       replace c8 := Bool.eq_false_iff.mpr c8
       subst c8
       have H1 : (some false) = some r := by rw [if_neg (show ¬ (false = true) by decide)] at H; exact H
       clear H
       have H := H1
       clear H1
       obtain rfl := Option.some.inj H
       have p103 : 0 ≤ (x11_1 : Int) := od_
       have q103 : x11_1 < (l0.length : Int) := od_
       obtain ⟨ad103, e103, hx103_0⟩ := Kd.at_int HR0.out x11_1 p103 q103
       cases e103
       replace p103 := eq_true p103
       replace q103 := eq_true q103
       go_wp2_with (first | (refine gc_ 111 ?_; refine goesT_ (some 18) Try.func111 #[.int .i64 (rd l0 x11_1), .int .i64 a1, .int .i64 a2] ?_; (with_reducible refine (spec_l1In.calls (rd l0 x11_1) a1 a2 false _ A7.out).mono ?_); rintro e w' ⟨rfl, ⟨nd, rfl⟩⟩; refine ⟨_, rfl, ?_⟩))
       go_ret
       exact ⟨tf_, dr_⟩
     ·
      rw [if_neg c6] at H
      exact absurd H (by simp)
    ·
     rw [if_neg c5] at H
     exact absurd H (by simp)
   ·
    rw [if_neg c4] at H
    have c4b0 := decide_eq_false c4
    clear c4
    obtain rfl := Option.some.inj H
    go_wp2
    go_ret
    exact ⟨tf_, dr_⟩

/-! ### impl_within: function 113 -/
def impl_within.f (a0 : Int) (a1 : Int) (a2 : Int) : Option (Bool) := if a1 ≤ a0 then (some (decide (a0 ≤ a2))) else (some false)
theorem impl_within.calls (a0 : Int) (a1 : Int) (a2 : Int) (r : Bool) (w : World) (h : impl_within.f a0 a1 a2 = some r) :
  Calls Try.prog 113 #[.int .i64 a0, .int .i64 a1, .int .i64 a2] w fun e w' => e = .returned (.bool r) ∧ Drawn0 w w' := by
 have H : (if a1 ≤ a0 then (some (decide (a0 ≤ a2))) else (some false)) = some r := h
 clear h
 by_cases c4 : a1 ≤ a0
 ·
  rw [if_pos c4] at H
  have c4b0 := decide_eq_true c4
  clear c4
  obtain rfl := Option.some.inj H
  go_enter Try.func113, Try.ntmps113
  go_wp2
  go_ret
  exact ⟨tf_, dr_⟩
 ·
  rw [if_neg c4] at H
  have c4b0 := decide_eq_false c4
  clear c4
  obtain rfl := Option.some.inj H
  go_enter Try.func113, Try.ntmps113
  go_wp2
  go_ret
  exact ⟨tf_, dr_⟩

/-! ### slices_IndexFunc_int_int_203: function 203 -/
def slices_IndexFunc_int_int_203.l0 : Nat → List Int → FnT47 → Int → Int → Option (Int)
 | 0, _, _, _, _ => none
 | k + 1, x0, x1, x7, x8 => if x8 < x7 then (if 0 ≤ x8 then (if x8 < (x0.length : Int) then ((FnCall47.f (rd x0 x8) x1).bind fun t234 => (if t234 = true then (some x8) else (slices_IndexFunc_int_int_203.l0 k x0 x1 x7 (wrap64 (x8 + 1))))) else (none)) else (none)) else (some (-1))
def slices_IndexFunc_int_int_203.f (k : Nat) (l0 : List Int) (a1 : FnT47) : Option (Int) := slices_IndexFunc_int_int_203.l0 k l0 a1 (l0.length : Int) 0
theorem slices_IndexFunc_int_int_203.mono_l : ∀ k, (∀ y0 y1 y2 y3, LeO (slices_IndexFunc_int_int_203.l0 k y0 y1 y2 y3) (slices_IndexFunc_int_int_203.l0 (k + 1) y0 y1 y2 y3))
 | 0 => fun _ _ _ _ r h => by simp [slices_IndexFunc_int_int_203.l0] at h
 | k + 1 => by
  have ih0 := slices_IndexFunc_int_int_203.mono_l k
  ·
   intro y0 y1 y2 y3
   unfold slices_IndexFunc_int_int_203.l0
   repeat' first | (with_reducible first | exact ih0 _ _ _ _ | exact LeO.refl _ | exact LeO.none _ | refine LeO.ite ?_ ?_ | refine LeO.bind ?_ (fun _ => ?_)) | exact ih0 _ _ _ _ | exact LeO.none _ | refine LeO.ite ?_ ?_ | refine LeO.bind ?_ (fun _ => ?_)
theorem slices_IndexFunc_int_int_203.mono : ∀ a0 a1 k, LeO (slices_IndexFunc_int_int_203.f k a0 a1) (slices_IndexFunc_int_int_203.f (k + 1) a0 a1) := by
 intro a0 a1 k
 have ih0 := slices_IndexFunc_int_int_203.mono_l k
 unfold slices_IndexFunc_int_int_203.f
 repeat' first | (with_reducible first | exact ih0 _ _ _ _ | exact LeO.refl _ | exact LeO.none _ | refine LeO.ite ?_ ?_ | refine LeO.bind ?_ (fun _ => ?_)) | exact ih0 _ _ _ _ | exact LeO.none _ | refine LeO.ite ?_ ?_ | refine LeO.bind ?_ (fun _ => ?_)
theorem slices_IndexFunc_int_int_203.calls (k : Nat) (A0 : Option Addr) (c0 : Nat) (l0 : List Int) (v1 : Value) (a1 : FnT47) (r : Int) (w : World) (hr0 : Kd.C (Kd.int .i64) w A0 l0.length l0) (hc0 : l0.length ≤ c0) (hF1 : FnOk47 w v1 a1) (h : slices_IndexFunc_int_int_203.f k l0 a1 = some r) :
  Calls Try.prog 203 #[.slice A0 l0.length c0, v1] w fun e w' => e = .returned (.int .i64 r) ∧ Below w.heap.size w w' := by
 have HR0 := A_ hr0
 have HC0 := A_ hc0
 clear hr0 hc0
 have HF1 := A_ hF1
 clear hF1
 have HB := A_ (Below.refl w.heap.size w)
 have H : (slices_IndexFunc_int_int_203.l0 k l0 a1 (l0.length : Int) 0) = some r := h
 clear h
 have H' := A_ H
 clear H
 go_enter Try.func203, Try.ntmps203
 go_wp2
 go_loopg [8] k (fun kq v8 w' => ∃ (x8_1 : Int), v8 = .int .i64 x8_1 ∧ Aside0 (slices_IndexFunc_int_int_203.l0 kq l0 a1 (l0.length : Int) x8_1 = some r) ∧ Aside0 (kq ≤ k) ∧ Aside0 (Below w.heap.size w w'))
 case atStart => exact ⟨(0), tf_, H', ⟨Nat.le_refl _⟩, ⟨tb_⟩⟩
 case round =>
  clear H'
  try clear c2
  try clear p2
  obtain ⟨x8_1, rfl, HA, HK1, HB⟩ := hrel
  cases gk with
  | zero => exact absurd HA.out (by simp [slices_IndexFunc_int_int_203.l0])
  | succ k1 =>
   have H := HA.out
   clear HA
   simp only [slices_IndexFunc_int_int_203.l0] at H
   by_cases c3 : x8_1 < (l0.length : Int)
   ·
    rw [if_pos c3] at H
    have c3b0 := decide_eq_true c3
    clear c3
    by_cases c4 : 0 ≤ x8_1
    ·
     rw [if_pos c4] at H
     have c4b0 := decide_eq_true c4
     clear c4
     by_cases c5 : x8_1 < (l0.length : Int)
     ·
      rw [if_pos c5] at H
      have c5b0 := decide_eq_true c5
      clear c5
      replace H := Option.bind_eq_some_iff.mp H
      obtain ⟨t234, A60, H⟩ := H
      replace H : (if t234 = true then (some x8_1) else (slices_IndexFunc_int_int_203.l0 k1 l0 a1 (l0.length : Int) (wrap64 (x8_1 + 1)))) = some r := H
      have A6 := A_ A60
      clear A60
      by_cases c7 : t234 = true
      ·
       subst c7
       have H1 : (some x8_1) = some r := by rw [if_pos rfl] at H; exact H
       clear H
       have H := H1
       clear H1
       obtain rfl := Option.some.inj H
       have p233 : 0 ≤ (x8_1 : Int) := od_
       have q233 : x8_1 < (l0.length : Int) := od_
       obtain ⟨ad233, e233, hx233_0⟩ := Kd.at_int HR0.out x8_1 p233 q233
       cases e233
       (try replace hx233_0 := (HB.out.cell (World.block_lt_of_cell? w _ hx233_0)).trans hx233_0)
       replace p233 := eq_true p233
       replace q233 := eq_true q233
       go_wp2_with (first | ((with_reducible refine Fn.gate_value rfl ?_); refine Fn.goesVw_ (some 16) rfl (by first | rfl | (simp [Region.wanted, yielded]; done)) v1 rfl #[.int .i64 (rd l0 x8_1)] rfl ta_ ?_; (with_reducible refine (FnCall47.calls (rd l0 x8_1) v1 a1 true _ ?side1 A6.out).mono ?_); (case side1 => exact FnOk47.mono HF1.out tb_); rintro e w8 ⟨rfl, hb⟩; refine ⟨_, rfl, ?_⟩; replace HB := A_ (below_step tb_ hb); (try clear hb)))
       go_ret
       exact ⟨te_, tb_⟩
      ·
       replace c7 := Bool.eq_false_iff.mpr c7
       subst c7
       have H1 : (slices_IndexFunc_int_int_203.l0 k1 l0 a1 (l0.length : Int) (wrap64 (x8_1 + 1))) = some r := by rw [if_neg (show ¬ (false = true) by decide)] at H; exact H
       clear H
       have H := H1
       clear H1
       have H' := A_ H
       clear H
       have p233 : 0 ≤ (x8_1 : Int) := od_
       have q233 : x8_1 < (l0.length : Int) := od_
       obtain ⟨ad233, e233, hx233_0⟩ := Kd.at_int HR0.out x8_1 p233 q233
       cases e233
       (try replace hx233_0 := (HB.out.cell (World.block_lt_of_cell? w _ hx233_0)).trans hx233_0)
       replace p233 := eq_true p233
       replace q233 := eq_true q233
       go_wp2_with (first | ((with_reducible refine Fn.gate_value rfl ?_); refine Fn.goesVw_ (some 16) rfl (by first | rfl | (simp [Region.wanted, yielded]; done)) v1 rfl #[.int .i64 (rd l0 x8_1)] rfl ta_ ?_; (with_reducible refine (FnCall47.calls (rd l0 x8_1) v1 a1 false _ ?side1 A6.out).mono ?_); (case side1 => exact FnOk47.mono HF1.out tb_); rintro e w9 ⟨rfl, hb⟩; refine ⟨_, rfl, ?_⟩; replace HB := A_ (below_step tb_ hb); (try clear hb)))
       go_roundg k1
       case measure => have := HK1.out; omega
       case rel => exact ⟨(wrap64 (x8_1 + 1)), tf_, H', ⟨by have := HK1.out; omega⟩, ⟨tb_⟩⟩
     ·
      rw [if_neg c5] at H
      exact absurd H (by simp)
    ·
     rw [if_neg c4] at H
     exact absurd H (by simp)
   ·
    rw [if_neg c3] at H
    have c3b0 := decide_eq_false c3
    clear c3
    obtain rfl := Option.some.inj H
    go_wp2
    go_ret
    exact ⟨te_, tb_⟩

/-! ### slices_ContainsFunc_int_int_151: function 151 -/
def slices_ContainsFunc_int_int_151.f (k : Nat) (l0 : List Int) (a1 : FnT47) : Option (Bool) := (slices_IndexFunc_int_int_203.f k l0 a1).bind fun t235 => (some (decide (t235 ≥ 0)))
theorem slices_ContainsFunc_int_int_151.mono : ∀ a0 a1 k, LeO (slices_ContainsFunc_int_int_151.f k a0 a1) (slices_ContainsFunc_int_int_151.f (k + 1) a0 a1) := by
 intro a0 a1 k
 unfold slices_ContainsFunc_int_int_151.f
 repeat' first | (with_reducible first | exact slices_IndexFunc_int_int_203.mono _ _ _ | exact LeO.refl _ | exact LeO.none _ | refine LeO.ite ?_ ?_ | refine LeO.bind ?_ (fun _ => ?_)) | exact slices_IndexFunc_int_int_203.mono _ _ _ | exact LeO.none _ | refine LeO.ite ?_ ?_ | refine LeO.bind ?_ (fun _ => ?_)
theorem slices_ContainsFunc_int_int_151.calls (k : Nat) (A0 : Option Addr) (c0 : Nat) (l0 : List Int) (v1 : Value) (a1 : FnT47) (r : Bool) (w : World) (hr0 : Kd.C (Kd.int .i64) w A0 l0.length l0) (hc0 : l0.length ≤ c0) (hF1 : FnOk47 w v1 a1) (h : slices_ContainsFunc_int_int_151.f k l0 a1 = some r) :
  Calls Try.prog 151 #[.slice A0 l0.length c0, v1] w fun e w' => e = .returned (.bool r) ∧ Below w.heap.size w w' := by
 have HR0 := A_ hr0
 have HC0 := A_ hc0
 clear hr0 hc0
 have HF1 := A_ hF1
 clear hF1
 have HB := A_ (Below.refl w.heap.size w)
 have H : ((slices_IndexFunc_int_int_203.f k l0 a1).bind fun t235 => (some (decide (t235 ≥ 0)))) = some r := h
 clear h
 replace H := Option.bind_eq_some_iff.mp H
 obtain ⟨t235, A30, H⟩ := H
 replace H : (some (decide (t235 ≥ 0))) = some r := H
 have A3 := A_ A30
 clear A30
 obtain rfl := Option.some.inj H
 go_enter Try.func151, Try.ntmps151
 go_wp2_with (first | (refine gc_ 203 ?_; refine goesT_ (some 7) Try.func203 #[.slice A0 l0.length c0, v1] ?_; (with_reducible refine (slices_IndexFunc_int_int_203.calls k _ _ l0 v1 a1 t235 _ ?side1 ?side2 ?side3 A3.out).mono ?_); (case side1 => exact tc0_ HR0.out); (case side2 => exact HC0.out); (case side3 => exact FnOk47.mono HF1.out tb_); rintro e w4 ⟨rfl, hb⟩; refine ⟨_, rfl, ?_⟩; replace HB := A_ (below_step tb_ hb); (try clear hb)))
 go_ret
 exact ⟨te_, tb_⟩

/-! ### impl_isSide: function 172 -/
def impl_isSide.f (a0 : Int) : Option (Bool) := (impl_within.f a0 1 6).bind fun t236 => (some t236)
theorem impl_isSide.calls (a0 : Int) (r : Bool) (w : World) (h : impl_isSide.f a0 = some r) :
  Calls Try.prog 172 #[.int .i64 a0] w fun e w' => e = .returned (.bool r) ∧ Drawn0 w w' := by
 have H : ((impl_within.f a0 1 6).bind fun t236 => (some t236)) = some r := h
 clear h
 replace H := Option.bind_eq_some_iff.mp H
 obtain ⟨t236, A20, H⟩ := H
 replace H : (some t236) = some r := H
 have A2 := A_ A20
 clear A20
 obtain rfl := Option.some.inj H
 go_enter Try.func172, Try.ntmps172
 go_wp2_with (first | (refine gc_ 113 ?_; refine goesT_ (some 4) Try.func113 #[.int .i64 a0, .int .i64 1, .int .i64 6] ?_; (with_reducible refine (impl_within.calls a0 1 6 t236 _ A2.out).mono ?_); rintro e w' ⟨rfl, ⟨nd, rfl⟩⟩; refine ⟨_, rfl, ?_⟩))
 go_ret
 exact ⟨tf_, dr_⟩

/-! ### impl_IsBoard: function 93 -/
def boardB (rows cols : Int) (cells : List Int) : Bool := decide (1 ≤ rows ∧ rows ≤ 6) && decide (1 ≤ cols ∧ cols ≤ 6) && decide ((cells.length : Int) = rows) && cells.all fun m => decide (0 ≤ m ∧ m ≤ 2 ^ cols.toNat - 1)
def impl_IsBoard.f (a0_0 : Int) (a0_1 : Int) (l0_2 : List Int) : Option (Bool) := some (boardB a0_0 a0_1 l0_2)
theorem impl_IsBoard.closure (m cols : Int) (g : Nat) (w : World) (hc : w.cell? ⟨g, 1, none⟩ = some (.int .i64 cols)) (h0 : 1 ≤ cols) (h1 : cols ≤ 6) :
  Calls Try.prog 173 #[.int .i64 m, .pointer (some ⟨g, 0, none⟩)] w fun e w' => e = .returned (.bool (!(decide (0 ≤ m ∧ m ≤ 2 ^ cols.toNat - 1)))) ∧ w' = w := by
 have hcols : cols = 1 ∨ cols = 2 ∨ cols = 3 ∨ cols = 4 ∨ cols = 5 ∨ cols = 6 := by omega
 by_cases hm : 0 ≤ m
 ·
  rcases hcols with rfl | rfl | rfl | rfl | rfl | rfl
  all_goals
   go_enter Try.func173, Try.ntmps173
   go_wp2
   go_ret
   exact ⟨by simp [hm] <;> omega, rfl⟩
 ·
  rcases hcols with rfl | rfl | rfl | rfl | rfl | rfl
  all_goals
   go_enter Try.func173, Try.ntmps173
   go_wp2
   go_ret
   exact ⟨by simp [hm], rfl⟩
theorem impl_IsBoard.index (l : List Int) (P : Int → Bool) (hb : l.length ≤ 1152921504606846976) : ∀ (d i : Nat) (k : Nat), l.length - i = d → i ≤ l.length → d < k →
  ∃ r : Int, slices_IndexFunc_int_int_203.l0 k l (fun x => some (P x)) (l.length : Int) (i : Int) = some r ∧ decide (r ≥ 0) = (l.drop i).any P := by
 intro d
 induction d with
 | zero =>
  intro i k hd hi hk
  obtain ⟨k, rfl⟩ : ∃ m, k = m + 1 := ⟨k - 1, by omega⟩
  exact ⟨-1, by rw [slices_IndexFunc_int_int_203.l0, if_neg (by omega)], by rw [List.drop_eq_nil_of_le (by omega)]; rfl⟩
 | succ d ih =>
  intro i k hd hi hk
  obtain ⟨k, rfl⟩ : ∃ m, k = m + 1 := ⟨k - 1, by omega⟩
  have h1 : i < l.length := by omega
  have hr : rd l (i : Int) = l[i] := by unfold rd; simp [List.getD_eq_getElem?_getD, List.getElem?_eq_getElem h1]
  rw [List.drop_eq_getElem_cons h1, List.any_cons]
  by_cases hp : P l[i] = true
  ·
   refine ⟨i, ?_, ?_⟩
   ·
    rw [slices_IndexFunc_int_int_203.l0, if_pos (by omega), if_pos (by omega), if_pos (by omega), hr]
    simp only [FnCall47.f, hp, Option.bind_some, if_true]
   ·
    rw [hp, Bool.true_or]; simp
  ·
   obtain ⟨r, h2, h3⟩ := ih (i + 1) k (by omega) (by omega) (by omega)
   refine ⟨r, ?_, ?_⟩
   ·
    rw [slices_IndexFunc_int_int_203.l0, if_pos (by omega), if_pos (by omega), if_pos (by omega), hr]
    simp only [FnCall47.f, hp, Option.bind_some]
    rw [if_neg (by simp), show wrap64 ((i : Int) + 1) = ((i + 1 : Nat) : Int) by unfold wrap64; omega]
    exact h2
   ·
    rw [h3]; simp only [Bool.not_eq_true] at hp; rw [hp, Bool.false_or]
theorem impl_IsBoard.contains (l : List Int) (P : Int → Bool) (hb : l.length ≤ 1152921504606846976) : slices_ContainsFunc_int_int_151.f (l.length + 1) l (fun x => some (P x)) = some (l.any P) := by
 obtain ⟨r, h1, h2⟩ := impl_IsBoard.index l P hb l.length 0 (l.length + 1) (by omega) (by omega) (by omega)
 simp only [slices_ContainsFunc_int_int_151.f, slices_IndexFunc_int_int_203.f]
 rw [show (0 : Int) = ((0 : Nat) : Int) from rfl, h1, Option.bind_some, show (((0 : Nat) : Int)) = 0 from rfl, h2]
 simp
theorem impl_IsBoard.calls (a0_0 : Int) (a0_1 : Int) (A0_2 : Option Addr) (c0_2 : Nat) (l0_2 : List Int) (r : Bool) (w : World) (hr0_2 : Kd.C (Kd.int .i64) w A0_2 l0_2.length l0_2) (hc0_2 : l0_2.length ≤ c0_2) (h : impl_IsBoard.f a0_0 a0_1 l0_2 = some r) :
  Calls Try.prog 93 #[.agg #[.int .i64 a0_0, .int .i64 a0_1, .slice A0_2 l0_2.length c0_2]] w fun e w' => e = .returned (.bool r) ∧ Below w.heap.size w w' := by
 obtain rfl := Option.some.inj h
 clear h
 have hu := Try.underlying26
 have HR := A_ hr0_2
 have HC := A_ hc0_2
 clear hr0_2 hc0_2
 have HB := A_ (Below.refl w.heap.size w)
 have hmf_ : ∀ (fn : Go.Fn) (first cap : Array Value) (w : World), (Instr.makeFunc fn first cap).run Try.prog w = .ok (.func fn first cap) w := fun _ _ _ _ => rfl
 have early : boardB a0_0 a0_1 l0_2 = false → (1 ≤ a0_0 ∧ a0_0 ≤ 6 → 1 ≤ a0_1 ∧ a0_1 ≤ 6 → ¬ (l0_2.length : Int) = a0_0) →
   Calls Try.prog 93 #[.agg #[.int .i64 a0_0, .int .i64 a0_1, .slice A0_2 l0_2.length c0_2]] w fun e w' => e = .returned (.bool (boardB a0_0 a0_1 l0_2)) ∧ Below w.heap.size w w' := by
  intro e hno
  have E := A_ e
  clear e
  by_cases h1 : 1 ≤ a0_0
  ·
   by_cases h2 : a0_0 ≤ 6
   ·
    by_cases h3 : 1 ≤ a0_1
    ·
     by_cases h4 : a0_1 ≤ 6
     ·
      have h5 : ((l0_2.length : Int) != a0_0) = true := bne_iff_ne.mpr (hno ⟨h1, h2⟩ ⟨h3, h4⟩)
      clear hno
      go_enter Try.func93, Try.ntmps93
      go_wp2
      go_ret
      exact ⟨by rw [E.out]; rfl, below_alloc (Below.refl _ _) _⟩
     ·
      clear hno
      go_enter Try.func93, Try.ntmps93
      go_wp2
      go_ret
      exact ⟨by rw [E.out]; rfl, below_alloc (Below.refl _ _) _⟩
    ·
     clear hno
     go_enter Try.func93, Try.ntmps93
     go_wp2
     go_ret
     exact ⟨by rw [E.out]; rfl, below_alloc (Below.refl _ _) _⟩
   ·
    clear hno
    go_enter Try.func93, Try.ntmps93
    go_wp2
    go_ret
    exact ⟨by rw [E.out]; rfl, below_alloc (Below.refl _ _) _⟩
  ·
   clear hno
   go_enter Try.func93, Try.ntmps93
   go_wp2
   go_ret
   exact ⟨by rw [E.out]; rfl, below_alloc (Below.refl _ _) _⟩
 by_cases hall : (1 ≤ a0_0 ∧ a0_0 ≤ 6) ∧ (1 ≤ a0_1 ∧ a0_1 ≤ 6) ∧ (l0_2.length : Int) = a0_0
 ·
  obtain ⟨⟨h1, h2⟩, ⟨h3, h4⟩, h5⟩ := hall
  have e : boardB a0_0 a0_1 l0_2 = l0_2.all (fun m => decide (0 ≤ m ∧ m ≤ 2 ^ a0_1.toNat - 1)) := by simp [boardB, h1, h2, h3, h4, h5]
  have e2 : (l0_2.any fun m => !(decide (0 ≤ m ∧ m ≤ 2 ^ a0_1.toNat - 1))) = !(boardB a0_0 a0_1 l0_2) := by rw [e, List.not_all_eq_any_not]
  have hlen : l0_2.length ≤ 1152921504606846976 := by omega
  have HN : Aside0 (slices_ContainsFunc_int_int_151.f (l0_2.length + 1) l0_2 (fun m => some (!(decide (0 ≤ m ∧ m ≤ 2 ^ a0_1.toNat - 1)))) = some (!(boardB a0_0 a0_1 l0_2))) := ⟨(impl_IsBoard.contains l0_2 _ hlen).trans (by rw [e2])⟩
  clear e e2 early
  have h5b : ((l0_2.length : Int) != a0_0) = false := bne_eq_false_iff_eq.mpr h5
  have H3 := A_ h3
  have H4 := A_ h4
  have HF : ∀ W : World, W.cell? ⟨w.heap.size, 1, none⟩ = some (.int .i64 a0_1) → FnOk47 W (.func (.func 173) #[] #[.pointer (some ⟨w.heap.size, 0, none⟩)]) (fun m => some (!(decide (0 ≤ m ∧ m ≤ 2 ^ a0_1.toNat - 1)))) := by
   intro W hc m r W1 h hB
   obtain rfl := Option.some.inj h
   refine ⟨173, _, _, rfl, Try.func173, by kernel_rfl, rfl, ?_⟩
   refine (impl_IsBoard.closure m a0_1 w.heap.size W1 ((hB.cell (World.block_lt_of_cell? W _ hc)).trans hc) H3.out H4.out).mono ?_
   rintro e w' ⟨he, rfl⟩
   exact ⟨he, Below.refl _ _⟩
  have HF' := A_ HF
  clear HF h5 hlen
  have S1 : Aside0 (impl_isSide.f a0_0 = some true) := ⟨by unfold impl_isSide.f impl_within.f; rw [if_pos h1]; simpa using h2⟩
  have S2 : Aside0 (impl_isSide.f a0_1 = some true) := ⟨by unfold impl_isSide.f impl_within.f; rw [if_pos h3]; simpa using h4⟩
  go_enter Try.func93, Try.ntmps93
  go_wp2_with (first | (go_at_call 172; (with_reducible refine (impl_isSide.calls a0_0 true _ S1.out).mono ?_); rintro e w' ⟨rfl, ⟨nd, rfl⟩⟩) | (go_at_call 172; (with_reducible refine (impl_isSide.calls a0_1 true _ S2.out).mono ?_); rintro e w' ⟨rfl, ⟨nd, rfl⟩⟩) | (go_at_call 151; refine (slices_ContainsFunc_int_int_151.calls (l0_2.length + 1) _ _ l0_2 (.func (.func 173) #[] #[.pointer (some ⟨w.heap.size, 0, none⟩)]) (fun m => some (!(decide (0 ≤ m ∧ m ≤ 2 ^ a0_1.toNat - 1)))) _ _ ?s1 HC.out (HF'.out _ (by go_simp)) HN.out).mono ?_; (case s1 => exact tc0_ HR.out); rintro e w1 ⟨rfl, hb⟩; have HB1 := A_ hb; clear hb))
  go_ret
  exact ⟨by simp, below_then (by repeat (first | exact Below.refl _ _ | apply pw_below_drewN | apply below_alloc)) (by simp) HB1.out⟩
 ·
  refine early ?_ ?_
  ·
   simp only [boardB, Bool.and_eq_false_iff, decide_eq_false_iff_not]
   by_cases ha : 1 ≤ a0_0 ∧ a0_0 ≤ 6
   ·
    by_cases hb : 1 ≤ a0_1 ∧ a0_1 ≤ 6
    ·
     exact .inl (.inr (fun hc => hall ⟨ha, hb, hc⟩))
    ·
     exact .inl (.inl (.inr hb))
   ·
    exact .inl (.inl (.inl ha))
  ·
   exact fun ha hb hc => hall ⟨ha, hb, hc⟩

/-! ### impl_newBoard: function 174 -/
def impl_newBoard.f (a0 : Int) (a1 : Int) : Option (Int × Int × List Int) := if 0 ≤ a0 then (if (a0 : Int).toNat ≤ 35184372088832 then (some (a0, a1, (List.replicate (a0 : Int).toNat 0))) else (none)) else (none)
theorem impl_newBoard.calls (a0 : Int) (a1 : Int) (r1 : Int) (r2 : Int) (r3 : List Int) (w : World) (h : impl_newBoard.f a0 a1 = some (r1, r2, r3)) :
  Calls Try.prog 174 #[.int .i64 a0, .int .i64 a1] w fun e w' => ∃ v2_ : Value, e = .returned (.agg #[.int .i64 r1, .int .i64 r2, v2_]) ∧ Kd.R (Kd.int .i64) 3 w' w.heap.size (fun _ => True) v2_ r3 ∧ Below w.heap.size w w' := by
 have hu26 := Try.underlying26
 have HB := A_ (Below.refl w.heap.size w)
 have H : (if 0 ≤ a0 then (if (a0 : Int).toNat ≤ 35184372088832 then (some (a0, a1, (List.replicate (a0 : Int).toNat 0))) else (none)) else (none)) = some (r1, r2, r3) := h
 clear h
 by_cases c3 : 0 ≤ a0
 ·
  rw [if_pos c3] at H
  have c3b0 := eq_true c3
  have c3b1 := decide_eq_true c3
  clear c3
  by_cases c4 : (a0 : Int).toNat ≤ 35184372088832
  ·
   rw [if_pos c4] at H
   have c4b0 := eq_true c4
   have c4b1 := decide_eq_true c4
   clear c4
   obtain ⟨y393, hy393⟩ : ∃ y_ : List Int, y_ = (List.replicate (a0 : Int).toNat 0) := ⟨_, rfl⟩
   replace H : (some (a0, a1, y393)) = some (r1, r2, r3) := ty_ hy393 H
   have Ny393 := A_ hy393
   clear hy393
   simp only [Option.some.injEq, Prod.mk.injEq] at H
   obtain ⟨rfl, rfl, rfl⟩ := H
   go_enter Try.func174, Try.ntmps174
   go_wp2_with (first | (refine gd_ 4 ?_; refine bx_ 4 #[.int .i64 0, .int .i64 0, .slice none 0 0] 26 ?_; intro gb392 hg w5 hbox hb; have BK392 := A_ (hbox); have GW392 := A_ ((ts_ hg : w.heap.size ≤ gb392)); have GE392 := A_ ((ts_ hg : w.heap.size ≤ gb392)); replace HB := A_ (below_step tb_ hb); clear hb hbox hg) | (refine gd_ 8 ?_; refine Kd.R_make (Kd.int .i64) _ 3 rfl (N := 8) rfl 22 _ _ rfl a0 rfl rfl Try.underlying22 (.int .i64 0) 8 info3 rfl (by decide) (by omega) 0 (ok := fun _ => True) (okp := fun _ => True) rfl (fun _ hk => hk) trivial (od_) (Nat.le_trans (Nat.mul_le_mul_right _ (od_ : a0.toNat ≤ 35184372088832)) (by omega)) (Below.refl _ _) (Nat.le_refl _) ?_; intro v394 w6 ho7 hb hg_ hnew_; clear hg_ hnew_; (first | rw [← Ny393.out] at ho7 | (simp only [Int.reduceToNat] at ho7; rw [← Ny393.out] at ho7)); have HO395 := A_ (Kd.R_lower ho7 (below_size tb_)); replace BK392 := A_ (blk_below (g := gb392) (o := .cells #[.int .i64 0, .int .i64 0, .slice none 0 0] 26 (0, 0)) (tk_ BK392) hb); replace HB := A_ (below_step tb_ hb); clear hb ho7; obtain ⟨Ao8, co8, eo8⟩ := Kd.R_slice HO395.out; subst eo8; obtain ⟨hcz9_0, hcz9_1, hcz9_2, hfz9_0, hfz9_1, hfz9_2⟩ := cf3_ BK392.out))
   refine bodyPost_ret (results_cell_row rfl _ _ gb392 26 #[.int .i64 a0, .int .i64 a1, .slice Ao8 y393.length co8] (0, 0) _ rfl (by (with_reducible repeat (first | refine blk_drewN ?_ _ | refine blk_drew ?_ | refine blk_alloc ?_ _)); refine blk_put (cs := #[.int .i64 a0, .int .i64 a1, .slice none 0 0]) ?_ 2 _ rfl; (with_reducible repeat (first | refine blk_drewN ?_ _ | refine blk_drew ?_ | refine blk_alloc ?_ _)); refine blk_put (cs := #[.int .i64 a0, .int .i64 0, .slice none 0 0]) ?_ 1 _ rfl; (with_reducible repeat (first | refine blk_drewN ?_ _ | refine blk_drew ?_ | refine blk_alloc ?_ _)); refine blk_put (cs := #[.int .i64 0, .int .i64 0, .slice none 0 0]) ?_ 0 _ rfl; (with_reducible repeat (first | refine blk_drewN ?_ _ | refine blk_drew ?_ | refine blk_alloc ?_ _)); exact BK392.out) Try.underlying26 rfl (by kernel_rfl)) rfl ?_
   exact ⟨_, te_, by (with_reducible repeat (first | apply Kd.R_alloc | apply Kd.R_drewN | apply Kd.R_drew)); exact Kd.R_mono (Kd.R_far (p := ⟨gb392, 2, none⟩) (Kd.R_far (p := ⟨gb392, 1, none⟩) (Kd.R_far (p := ⟨gb392, 0, none⟩) (Kd.R_types HO395.out BK392.out (by decide)) (fun _ hk => hk.2) (.int .i64 a0)) (fun _ hk => hk.2) (.int .i64 a1)) (fun _ hk => hk.2) (.slice Ao8 y393.length co8)) (fun _ hk => trivial), tb_⟩
  ·
   rw [if_neg c4] at H
   exact absurd H (by simp)
 ·
  rw [if_neg c3] at H
  exact absurd H (by simp)

/-! ### impl_Board_has: function 175 -/
def impl_Board_has.f (a0_0 : Int) (a0_1 : Int) (l0_2 : List Int) (a1 : Int) (a2 : Int) : Option (Bool) := if 0 ≤ a1 then (if a1 < (l0_2.length : Int) then (if 0 ≤ a2 then (some ((Go.bits .and .i64 (shr .i64 (rd l0_2 a1) a2) 1) == 1)) else (none)) else (none)) else (none)
theorem impl_Board_has.calls (a0_0 : Int) (a0_1 : Int) (A0_2 : Option Addr) (c0_2 : Nat) (l0_2 : List Int) (a1 : Int) (a2 : Int) (r : Bool) (w : World) (hr0_2 : Kd.C (Kd.int .i64) w A0_2 l0_2.length l0_2) (hc0_2 : l0_2.length ≤ c0_2) (h : impl_Board_has.f a0_0 a0_1 l0_2 a1 a2 = some r) :
  Calls Try.prog 175 #[.agg #[.int .i64 a0_0, .int .i64 a0_1, .slice A0_2 l0_2.length c0_2], .int .i64 a1, .int .i64 a2] w fun e w' => e = .returned (.bool r) ∧ Below w.heap.size w w' := by
 have hu26 := Try.underlying26
 have HR0_2 := A_ hr0_2
 have HC0_2 := A_ hc0_2
 clear hr0_2 hc0_2
 have HB := A_ (Below.refl w.heap.size w)
 have H : (if 0 ≤ a1 then (if a1 < (l0_2.length : Int) then (if 0 ≤ a2 then (some ((Go.bits .and .i64 (shr .i64 (rd l0_2 a1) a2) 1) == 1)) else (none)) else (none)) else (none)) = some r := h
 clear h
 by_cases c4 : 0 ≤ a1
 ·
  rw [if_pos c4] at H
  have c4b0 := decide_eq_true c4
  clear c4
  by_cases c5 : a1 < (l0_2.length : Int)
  ·
   rw [if_pos c5] at H
   have c5b0 := decide_eq_true c5
   clear c5
   by_cases c6 : 0 ≤ a2
   ·
    rw [if_pos c6] at H
    have c6b0 := eq_true c6
    have c6b1 := decide_eq_true c6
    clear c6
    obtain ⟨ji7, hji7⟩ : ∃ j_ : Int, (shr .i64 (rd l0_2 a1) a2) = j_ := ⟨_, rfl⟩
    replace H : (some ((Go.bits .and .i64 (ji7) 1) == 1)) = some r := by first | (rw [hji7] at H; exact H) | (simp only [hji7] at H ⊢; exact H)
    have hji7_ : ((rd l0_2 a1) / 2 ^ min a2.toNat 64) = ji7 := hji7
    have hji7z : a2 ≤ 64 → ((rd l0_2 a1) / 2 ^ a2.toNat) = ji7 := shr_small hji7
    obtain rfl := Option.some.inj H
    go_enter Try.func175, Try.ntmps175
    go_wp2_with (first | (refine gd_ 3 ?_; refine bx_ 3 #[.int .i64 a0_0, .int .i64 a0_1, .slice A0_2 l0_2.length c0_2] 26 ?_; intro gb396 hg w8 hbox hb; have BK396 := A_ (hbox); have GW396 := A_ ((ts_ hg : w.heap.size ≤ gb396)); have GE396 := A_ ((ts_ hg : w.heap.size ≤ gb396)); replace HB := A_ (below_step tb_ hb); clear hb hbox hg; obtain ⟨hcz9_0, hcz9_1, hcz9_2, hfz9_0, hfz9_1, hfz9_2⟩ := cf3_ BK396.out; have p397 : 0 ≤ (a1 : Int) := od_; have q397 : a1 < (l0_2.length : Int) := od_; obtain ⟨ad397, e397, hx397_0⟩ := Kd.at_int HR0_2.out a1 p397 q397; cases e397; (try replace hx397_0 := (HB.out.cell (World.block_lt_of_cell? w _ hx397_0)).trans hx397_0); replace p397 := eq_true p397; replace q397 := eq_true q397))
    go_ret
    exact ⟨by first | rfl | (simp [errW_none, errW_some] <;> rfl) | (simp only [← hji7]; first | rfl | (simp [errW_none, errW_some] <;> rfl)) | (simp [*, errW_none, errW_some] <;> rfl), tb_⟩
   ·
    rw [if_neg c6] at H
    exact absurd H (by simp)
  ·
   rw [if_neg c5] at H
   exact absurd H (by simp)
 ·
  rw [if_neg c4] at H
  exact absurd H (by simp)

/-! ### spec_l1Least: function 123 -/
def spec_l1Least.f (a0 : Int) (a1 : Int) : Option (Int) := if a0 < a1 then (some a0) else (some a1)
theorem spec_l1Least.calls (a0 : Int) (a1 : Int) (r : Int) (w : World) (h : spec_l1Least.f a0 a1 = some r) :
  Calls Try.prog 123 #[.int .i64 a0, .int .i64 a1] w fun e w' => e = .returned (.int .i64 r) ∧ Drawn0 w w' := by
 have H : (if a0 < a1 then (some a0) else (some a1)) = some r := h
 clear h
 by_cases c3 : a0 < a1
 ·
  rw [if_pos c3] at H
  have c3b0 := decide_eq_true c3
  clear c3
  obtain rfl := Option.some.inj H
  go_enter Try.func123, Try.ntmps123
  go_wp2
  go_ret
  exact ⟨tf_, dr_⟩
 ·
  rw [if_neg c3] at H
  have c3b0 := decide_eq_false c3
  clear c3
  obtain rfl := Option.some.inj H
  go_enter Try.func123, Try.ntmps123
  go_wp2
  go_ret
  exact ⟨tf_, dr_⟩

/-! ### impl_CellsOf: function 115 -/
mutual
def impl_CellsOf.l0 : Nat → List (List Int) → Int → Int → Int → Int → List Int → Option ((List (List Int)) × Bool)
 | 0, _, _, _, _, _, _ => none
 | k + 1, x4, x12, x13, x699000, x699001, x699002 => if x13 < x12 then (impl_CellsOf.l1 k x4 x13 x12 x13 x699001 0 x699000 x699001 x699002) else (some (x4, true))
def impl_CellsOf.l1 : Nat → List (List Int) → Int → Int → Int → Int → Int → Int → Int → List Int → Option ((List (List Int)) × Bool)
 | 0, _, _, _, _, _, _, _, _, _ => none
 | k + 1, x4, x5, x12, x13, x17, x18, x699000, x699001, x699002 => if x18 < x17 then ((impl_Board_has.f x699000 x699001 x699002 x5 x18).bind fun t703 => (if t703 = true then (if x4.length < 5864062014805 then (impl_CellsOf.l1 k (x4 ++ [(([x5, x18] : List Int))]) x5 x12 x13 x17 (wrap64 (x18 + 1)) x699000 x699001 x699002) else (none)) else (impl_CellsOf.l1 k x4 x5 x12 x13 x17 (wrap64 (x18 + 1)) x699000 x699001 x699002))) else (impl_CellsOf.l0 k x4 x12 (wrap64 (x13 + 1)) x699000 x699001 x699002)
end
def impl_CellsOf.f (k : Nat) (a0_0 : Int) (a0_1 : Int) (l0_2 : List Int) : Option ((List (List Int)) × Bool) := (impl_IsBoard.f a0_0 a0_1 l0_2).bind fun t699 => (if t699 = true then (impl_CellsOf.l0 k (([] : List (List Int))) a0_0 0 a0_0 a0_1 l0_2) else (some (([] : List (List Int)), false)))
theorem impl_CellsOf.mono_l : ∀ k, (∀ y0 y1 y2 y3 y4 y5, LeO (impl_CellsOf.l0 k y0 y1 y2 y3 y4 y5) (impl_CellsOf.l0 (k + 1) y0 y1 y2 y3 y4 y5)) ∧ (∀ y0 y1 y2 y3 y4 y5 y6 y7 y8, LeO (impl_CellsOf.l1 k y0 y1 y2 y3 y4 y5 y6 y7 y8) (impl_CellsOf.l1 (k + 1) y0 y1 y2 y3 y4 y5 y6 y7 y8))
 | 0 => ⟨fun _ _ _ _ _ _ r h => by simp [impl_CellsOf.l0] at h, fun _ _ _ _ _ _ _ _ _ r h => by simp [impl_CellsOf.l1] at h⟩
 | k + 1 => by
  obtain ⟨ih0, ih1⟩ := impl_CellsOf.mono_l k
  refine ⟨?_, ?_⟩
  ·
   intro y0 y1 y2 y3 y4 y5
   unfold impl_CellsOf.l0
   repeat' first | (with_reducible first | exact ih0 _ _ _ _ _ _ | exact ih1 _ _ _ _ _ _ _ _ _ | exact LeO.refl _ | exact LeO.none _ | refine LeO.ite ?_ ?_ | refine LeO.bind ?_ (fun _ => ?_)) | exact ih0 _ _ _ _ _ _ | exact ih1 _ _ _ _ _ _ _ _ _ | exact LeO.none _ | refine LeO.ite ?_ ?_ | refine LeO.bind ?_ (fun _ => ?_)
  ·
   intro y0 y1 y2 y3 y4 y5 y6 y7 y8
   unfold impl_CellsOf.l1
   repeat' first | (with_reducible first | exact ih0 _ _ _ _ _ _ | exact ih1 _ _ _ _ _ _ _ _ _ | exact LeO.refl _ | exact LeO.none _ | refine LeO.ite ?_ ?_ | refine LeO.bind ?_ (fun _ => ?_)) | exact ih0 _ _ _ _ _ _ | exact ih1 _ _ _ _ _ _ _ _ _ | exact LeO.none _ | refine LeO.ite ?_ ?_ | refine LeO.bind ?_ (fun _ => ?_)
theorem impl_CellsOf.mono : ∀ a0 a1 a2 k, LeO (impl_CellsOf.f k a0 a1 a2) (impl_CellsOf.f (k + 1) a0 a1 a2) := by
 intro a0 a1 a2 k
 obtain ⟨ih0, ih1⟩ := impl_CellsOf.mono_l k
 unfold impl_CellsOf.f
 repeat' first | (with_reducible first | exact ih0 _ _ _ _ _ _ | exact ih1 _ _ _ _ _ _ _ _ _ | exact LeO.refl _ | exact LeO.none _ | refine LeO.ite ?_ ?_ | refine LeO.bind ?_ (fun _ => ?_)) | exact ih0 _ _ _ _ _ _ | exact ih1 _ _ _ _ _ _ _ _ _ | exact LeO.none _ | refine LeO.ite ?_ ?_ | refine LeO.bind ?_ (fun _ => ?_)
theorem impl_CellsOf.calls (k : Nat) (a0_0 : Int) (a0_1 : Int) (A0_2 : Option Addr) (c0_2 : Nat) (l0_2 : List Int) (r1 : List (List Int)) (r2 : Bool) (w : World) (hr0_2 : Kd.C (Kd.int .i64) w A0_2 l0_2.length l0_2) (hc0_2 : l0_2.length ≤ c0_2) (h : impl_CellsOf.f k a0_0 a0_1 l0_2 = some (r1, r2)) :
  Calls Try.prog 115 #[.agg #[.int .i64 a0_0, .int .i64 a0_1, .slice A0_2 l0_2.length c0_2]] w fun e w' => ∃ v0_ : Value, e = .returned (.tuple #[v0_, .bool r2]) ∧ Kd.S (Kd.slice 3 (Kd.int .i64)) 22 w' w.heap.size (fun _ => True) v0_ r1 ∧ Below w.heap.size w w' := by
 have hu26 := Try.underlying26
 have HR0_2 := A_ hr0_2
 have HC0_2 := A_ hc0_2
 clear hr0_2 hc0_2
 have HB := A_ (Below.refl w.heap.size w)
 have H : ((impl_IsBoard.f a0_0 a0_1 l0_2).bind fun t699 => (if t699 = true then (impl_CellsOf.l0 k (([] : List (List Int))) a0_0 0 a0_0 a0_1 l0_2) else (some (([] : List (List Int)), false)))) = some (r1, r2) := h
 clear h
 replace H := Option.bind_eq_some_iff.mp H
 obtain ⟨t699, A20, H⟩ := H
 replace H : (if t699 = true then (impl_CellsOf.l0 k (([] : List (List Int))) a0_0 0 a0_0 a0_1 l0_2) else (some (([] : List (List Int)), false))) = some (r1, r2) := H
 have A2 := A_ A20
 clear A20
 by_cases c3 : t699 = true
 ·
  subst c3
  have H1 : (impl_CellsOf.l0 k (([] : List (List Int))) a0_0 0 a0_0 a0_1 l0_2) = some (r1, r2) := by rw [if_pos rfl] at H; exact H
  clear H
  have H := H1
  clear H1
  obtain ⟨y700, hy700⟩ : ∃ y_ : List (List Int), y_ = (([] : List (List Int))) := ⟨_, rfl⟩
  replace H : (impl_CellsOf.l0 k y700 a0_0 0 a0_0 a0_1 l0_2) = some (r1, r2) := ty_ hy700 H
  have Ny700 := A_ hy700
  clear hy700
  have H' := A_ H
  clear H
  go_enter Try.func115, Try.ntmps115
  go_wp2_with (first | (refine gd_ 1 ?_; refine bx_ 1 #[.int .i64 a0_0, .int .i64 a0_1, .slice A0_2 l0_2.length c0_2] 26 ?_; intro gb698 hg w4 hbox hb; have BK698 := A_ (hbox); have GW698 := A_ ((ts_ hg : w.heap.size ≤ gb698)); have GE698 := A_ ((ts_ hg : w.heap.size ≤ gb698)); replace HB := A_ (below_step tb_ hb); clear hb hbox hg; obtain ⟨hcz5_0, hcz5_1, hcz5_2, hfz5_0, hfz5_1, hfz5_2⟩ := cf3_ BK698.out) | (refine gc_ 93 ?_; refine goesT_ (some 8) Try.func93 #[.agg #[.int .i64 a0_0, .int .i64 a0_1, .slice A0_2 l0_2.length c0_2]] ?_; (with_reducible refine (impl_IsBoard.calls a0_0 a0_1 _ _ l0_2 true _ ?side1 ?side2 A2.out).mono ?_); (case side1 => exact tc_ HR0_2.out); (case side2 => exact HC0_2.out); rintro e w6 ⟨rfl, hb⟩; refine ⟨_, rfl, ?_⟩; replace BK698 := A_ (blk_below (g := gb698) (o := .cells #[.int .i64 a0_0, .int .i64 a0_1, .slice A0_2 l0_2.length c0_2] 26 (0, 0)) (tk_ BK698) hb); replace HB := A_ (below_step tb_ hb); (try clear hb)) | (refine gd_ 10 ?_; refine Kd.S_lit (Kd.slice 3 (Kd.int .i64)) _ 22 ?hg (N := 10) ?hd (xs := ([] : List (List Int))) (inner := []) (ok := fun _ => True) (okp := fun _ => True) ?hr ?hp (fun _ hk => hk) trivial (Below.refl _ _) (Nat.le_refl _) (by simp) ?_; (case hd => rfl); (case hg => rfl); (case hr => first | (go_simp; done) | (go_simp; rfl)); (case hp => exact (Reps.none _ _)); intro v701 w7 ho8 hb hg_ hnew_; clear hg_ hnew_; (first | rw [← Ny700.out] at ho8 | (simp only [Int.reduceToNat] at ho8; rw [← Ny700.out] at ho8)); have HO702 := A_ (Kd.S_lower ho8 (below_size tb_)); replace BK698 := A_ (blk_below (g := gb698) (o := .cells #[.int .i64 a0_0, .int .i64 a0_1, .slice A0_2 l0_2.length c0_2] 26 (0, 0)) (tk_ BK698) hb); replace HB := A_ (below_step tb_ hb); clear hb ho8; obtain ⟨hcz9_0, hcz9_1, hcz9_2, hfz9_0, hfz9_1, hfz9_2⟩ := cf3_ BK698.out))
  go_loopg [4, 13] k (fun kq v4 v13 w' => ∃ (x4_1 : List (List Int)) (x13_1 : Int), v13 = .int .i64 x13_1 ∧ Aside0 (impl_CellsOf.l0 kq x4_1 a0_0 x13_1 a0_0 a0_1 l0_2 = some (r1, r2)) ∧ Aside0 (kq ≤ k) ∧ Aside0 (Kd.S (Kd.slice 3 (Kd.int .i64)) 22 w' w.heap.size (fun _ => True) v4 x4_1) ∧ Aside0 (w'.heap[gb698]? = some (.cells #[.int .i64 a0_0, .int .i64 a0_1, (.slice A0_2 l0_2.length c0_2)] 26 (0, 0))) ∧ Aside0 (Below w.heap.size w w'))
  case atStart => exact ⟨(y700), (0), tf_, H', ⟨Nat.le_refl _⟩, ⟨ts1_x HO702.out⟩, ⟨tk_ BK698⟩, ⟨tb_⟩⟩
  case round =>
   clear H'
   try clear c1
   try clear p2
   try clear c3
   try clear c9
   try clear hcz5_0
   try clear hcz5_1
   try clear hcz5_2
   try clear hcz9_0
   try clear hcz9_1
   try clear hcz9_2
   try clear hfz5_0
   try clear hfz5_1
   try clear hfz5_2
   try clear hfz9_0
   try clear hfz9_1
   try clear hfz9_2
   obtain ⟨x4_1, x13_1, rfl, HA, HK1, HO_4, BK698, HB⟩ := hrel
   cases gk with
   | zero => exact absurd HA.out (by simp [impl_CellsOf.l0])
   | succ k1 =>
    have H := HA.out
    clear HA
    simp only [impl_CellsOf.l0] at H
    by_cases c10 : x13_1 < a0_0
    ·
     rw [if_pos c10] at H
     have c10b0 := decide_eq_true c10
     clear c10
     have H' := A_ H
     clear H
     obtain ⟨hcz11_0, hcz11_1, hcz11_2, hfz11_0, hfz11_1, hfz11_2⟩ := cf3_ BK698.out
     go_wp2
     go_loopg [4, 18] k1 (fun kq v4 v18 w' => ∃ (x4_2 : List (List Int)) (x18_2 : Int), v18 = .int .i64 x18_2 ∧ Aside0 (impl_CellsOf.l1 kq x4_2 x13_1 a0_0 x13_1 a0_1 x18_2 a0_0 a0_1 l0_2 = some (r1, r2)) ∧ Aside0 (kq ≤ k1) ∧ Aside0 (Kd.S (Kd.slice 3 (Kd.int .i64)) 22 w' w.heap.size (fun _ => True) v4 x4_2) ∧ Aside0 (w'.heap[gb698]? = some (.cells #[.int .i64 a0_0, .int .i64 a0_1, (.slice A0_2 l0_2.length c0_2)] 26 (0, 0))) ∧ Aside0 (Below w.heap.size w w'))
     case atStart => exact ⟨(x4_1), (0), tf_, H', ⟨Nat.le_refl _⟩, ⟨ts1_x HO_4.out⟩, ⟨tk_ BK698⟩, ⟨tb_⟩⟩
     case round =>
      clear H'
      try clear c1
      try clear p2
      try clear c3
      try clear c9
      try clear c10
      try clear c10b0
      try clear c11
      try clear hcz11_0
      try clear hcz11_1
      try clear hcz11_2
      try clear hcz5_0
      try clear hcz5_1
      try clear hcz5_2
      try clear hcz9_0
      try clear hcz9_1
      try clear hcz9_2
      try clear hfz11_0
      try clear hfz11_1
      try clear hfz11_2
      try clear hfz5_0
      try clear hfz5_1
      try clear hfz5_2
      try clear hfz9_0
      try clear hfz9_1
      try clear hfz9_2
      try clear p2
      obtain ⟨x4_2, x18_2, rfl, HA, HK2, HO_4, BK698, HB⟩ := hrel
      cases gk with
      | zero => exact absurd HA.out (by simp [impl_CellsOf.l1])
      | succ k2 =>
       have H := HA.out
       clear HA
       simp only [impl_CellsOf.l1] at H
       by_cases c12 : x18_2 < a0_1
       ·
        rw [if_pos c12] at H
        have c12b0 := decide_eq_true c12
        clear c12
        replace H := Option.bind_eq_some_iff.mp H
        obtain ⟨t703, A130, H⟩ := H
        replace H : (if t703 = true then (if x4_2.length < 5864062014805 then (impl_CellsOf.l1 k2 (x4_2 ++ [(([x13_1, x18_2] : List Int))]) x13_1 a0_0 x13_1 a0_1 (wrap64 (x18_2 + 1)) a0_0 a0_1 l0_2) else (none)) else (impl_CellsOf.l1 k2 x4_2 x13_1 a0_0 x13_1 a0_1 (wrap64 (x18_2 + 1)) a0_0 a0_1 l0_2)) = some (r1, r2) := H
        have A13 := A_ A130
        clear A130
        by_cases c14 : t703 = true
        ·
         subst c14
         have H1 : (if x4_2.length < 5864062014805 then (impl_CellsOf.l1 k2 (x4_2 ++ [(([x13_1, x18_2] : List Int))]) x13_1 a0_0 x13_1 a0_1 (wrap64 (x18_2 + 1)) a0_0 a0_1 l0_2) else (none)) = some (r1, r2) := by rw [if_pos rfl] at H; exact H
         clear H
         have H := H1
         clear H1
         obtain ⟨y704, hy704⟩ : ∃ y_ : List Int, y_ = (([x13_1, x18_2] : List Int)) := ⟨_, rfl⟩
         replace H : (if x4_2.length < 5864062014805 then (impl_CellsOf.l1 k2 (x4_2 ++ [y704]) x13_1 a0_0 x13_1 a0_1 (wrap64 (x18_2 + 1)) a0_0 a0_1 l0_2) else (none)) = some (r1, r2) := ty_ hy704 H
         have Ny704 := A_ hy704
         clear hy704
         by_cases c15 : x4_2.length < 5864062014805
         ·
          rw [if_pos c15] at H
          have LMc15 := A_ c15
          clear c15
          obtain ⟨y707, hy707⟩ : ∃ y_ : List (List Int), y_ = (x4_2 ++ [y704]) := ⟨_, rfl⟩
          replace H : (impl_CellsOf.l1 k2 y707 x13_1 a0_0 x13_1 a0_1 (wrap64 (x18_2 + 1)) a0_0 a0_1 l0_2) = some (r1, r2) := ty_ hy707 H
          have Ny707 := A_ hy707
          clear hy707
          have H' := A_ H
          clear H
          obtain ⟨hcz16_0, hcz16_1, hcz16_2, hfz16_0, hfz16_1, hfz16_2⟩ := cf3_ BK698.out
          go_wp2_with (first | (refine gc_ 175 ?_; refine goesT_ (some 24) Try.func175 #[.agg #[.int .i64 a0_0, .int .i64 a0_1, .slice A0_2 l0_2.length c0_2], .int .i64 x13_1, .int .i64 x18_2] ?_; (with_reducible refine (impl_Board_has.calls a0_0 a0_1 _ _ l0_2 x13_1 x18_2 true _ ?side1 ?side2 A13.out).mono ?_); (case side1 => exact tc_ HR0_2.out); (case side2 => exact HC0_2.out); rintro e w17 ⟨rfl, hb⟩; refine ⟨_, rfl, ?_⟩; replace HO_4 := A_ (Kd.S_below (ts1_x HO_4.out) hb); replace BK698 := A_ (blk_below (g := gb698) (o := .cells #[.int .i64 a0_0, .int .i64 a0_1, .slice A0_2 l0_2.length c0_2] 26 (0, 0)) (tk_ BK698) hb); replace HB := A_ (below_step tb_ hb); (try clear hb)) | (refine gd_ 28 ?_; refine Kd.R_lit (Kd.int .i64) _ 3 ?hg (N := 28) ?hd (xs := ([x13_1, x18_2] : List Int)) (inner := [.int .i64 x13_1, .int .i64 x18_2]) (ok := fun _ => True) (okp := fun _ => True) ?hr ?hp (fun _ hk => hk) trivial (Below.refl _ _) (Nat.le_refl _) (by simp) ?_; (case hd => rfl); (case hg => rfl); (case hr => first | (go_simp; done) | (go_simp; rfl)); (case hp => exact (Reps.one (show Kd.M (Kd.int .i64) _ _ _ x13_1 [.int .i64 x13_1] from rfl) (Reps.one (show Kd.M (Kd.int .i64) _ _ _ x18_2 [.int .i64 x18_2] from rfl) (Reps.none _ _)))); intro v705 w18 ho19 hb hg_ hnew_; clear hg_ hnew_; (first | rw [← Ny704.out] at ho19 | (simp only [Int.reduceToNat] at ho19; rw [← Ny704.out] at ho19)); replace HO_4 := A_ (Kd.S_elder' (ts1_x HO_4.out) (Kd.R_base ho19) hb); have HO706 := A_ (Kd.R_lower ho19 (below_size tb_)); replace BK698 := A_ (blk_below (g := gb698) (o := .cells #[.int .i64 a0_0, .int .i64 a0_1, .slice A0_2 l0_2.length c0_2] 26 (0, 0)) (tk_ BK698) hb); replace HB := A_ (below_step tb_ hb); clear hb ho19; obtain ⟨Ao21, co21, eo21⟩ := Kd.R_slice HO706.out; subst eo21) | ((with_reducible refine gate_builtin (b := .append) (xs := #[.tmp 25, .tmp 29]) rfl ?_); at_builtin; refine Kd.S_append (Kd.slice 3 (Kd.int .i64)) (w0 := w) w.heap.size rfl (.tmp 25) (.tmp 29) 41 22 (.slice none 0 0) 24 rfl Try.underlying41 info22 rfl (by decide) (by omega) u4 x4_2 y704 [.slice Ao21 y704.length co21] (fun _ => True) (fun k_ => some k_ = (.slice Ao21 y704.length co21 : Value).ownBlock) rfl rfl ?aP (fun k_ hk_ => ((Kd.R_mono (ok' := fun k_ => ((fun _ => True)) k_ ∧ some k_ ≠ (u4 : Value).ownBlock) (Kd.R_apart' (HO706.out) (Kd.S_typed HO_4.out) (by decide)) (fun k_ hk => ⟨trivial, hk.2⟩))).1 k_ hk_.symm) ?aF ?aO ?aB ?aS ?aL ?_; (case aP => exact Kd.M_row (Kd.R_mono (Kd.R_tight rfl (Kd.R_mono (ok' := fun k_ => ((fun _ => True)) k_ ∧ some k_ ≠ (u4 : Value).ownBlock) (Kd.R_apart' (HO706.out) (Kd.S_typed HO_4.out) (by decide)) (fun k_ hk => ⟨trivial, hk.2⟩))) (fun _ h_ => h_))); (case aB => exact tb_); (case aF => exact (fun _ _ => trivial)); (case aO => exact (ts1_ (h := by exact Kd.S_mono HO_4.out (fun k_ hk => ⟨trivial, fun e_ => hk.2 e_⟩)))); (case aS => exact (below_size tb_)); (case aL => have := LMc15.out; omega); intro v708 w20 ho hb hg hat; rw [← Ny707.out] at ho; have n0_ := A_ (blk_grown (g := gb698) (o := .cells #[.int .i64 a0_0, .int .i64 a0_1, .slice A0_2 l0_2.length c0_2] 26 (0, 0)) (tk_ BK698) hg (Kd.S_ne HO_4.out BK698.out (by decide))); have n1_ := A_ (hb); have n2_ := A_ (ho); clear BK698; clear HB; clear HO_4; clear HO706; have BK698 := n0_; have HB := n1_; have HO709 := n2_; clear n0_ n1_ n2_; clear ho hb hg hat))
          go_roundg k2
          case measure => have := HK1.out; have := HK2.out; omega
          case rel => exact ⟨(y707), (wrap64 (x18_2 + 1)), tf_, H', ⟨by have := HK1.out; have := HK2.out; omega⟩, ⟨ts1_x HO709.out⟩, ⟨tk_ BK698⟩, ⟨tb_⟩⟩
         ·
          rw [if_neg c15] at H
          exact absurd H (by simp)
        ·
         replace c14 := Bool.eq_false_iff.mpr c14
         subst c14
         have H1 : (impl_CellsOf.l1 k2 x4_2 x13_1 a0_0 x13_1 a0_1 (wrap64 (x18_2 + 1)) a0_0 a0_1 l0_2) = some (r1, r2) := by rw [if_neg (show ¬ (false = true) by decide)] at H; exact H
         clear H
         have H := H1
         clear H1
         have H' := A_ H
         clear H
         obtain ⟨hcz22_0, hcz22_1, hcz22_2, hfz22_0, hfz22_1, hfz22_2⟩ := cf3_ BK698.out
         go_wp2_with (first | (refine gc_ 175 ?_; refine goesT_ (some 24) Try.func175 #[.agg #[.int .i64 a0_0, .int .i64 a0_1, .slice A0_2 l0_2.length c0_2], .int .i64 x13_1, .int .i64 x18_2] ?_; (with_reducible refine (impl_Board_has.calls a0_0 a0_1 _ _ l0_2 x13_1 x18_2 false _ ?side1 ?side2 A13.out).mono ?_); (case side1 => exact tc_ HR0_2.out); (case side2 => exact HC0_2.out); rintro e w23 ⟨rfl, hb⟩; refine ⟨_, rfl, ?_⟩; replace HO_4 := A_ (Kd.S_below (ts1_x HO_4.out) hb); replace BK698 := A_ (blk_below (g := gb698) (o := .cells #[.int .i64 a0_0, .int .i64 a0_1, .slice A0_2 l0_2.length c0_2] 26 (0, 0)) (tk_ BK698) hb); replace HB := A_ (below_step tb_ hb); (try clear hb)))
         go_roundg k2
         case measure => have := HK1.out; have := HK2.out; omega
         case rel => exact ⟨(x4_2), (wrap64 (x18_2 + 1)), tf_, H', ⟨by have := HK1.out; have := HK2.out; omega⟩, ⟨ts1_x HO_4.out⟩, ⟨tk_ BK698⟩, ⟨tb_⟩⟩
       ·
        rw [if_neg c12] at H
        have c12b0 := decide_eq_false c12
        clear c12
        have H' := A_ H
        clear H
        go_wp2
        go_roundg k2
        case measure => have := HK1.out; have := HK2.out; omega
        case rel => exact ⟨(x4_2), (wrap64 (x13_1 + 1)), tf_, H', ⟨by have := HK1.out; have := HK2.out; omega⟩, ⟨ts1_x HO_4.out⟩, ⟨tk_ BK698⟩, ⟨tb_⟩⟩
    ·
     rw [if_neg c10] at H
     have c10b0 := decide_eq_false c10
     clear c10
     simp only [Option.some.injEq, Prod.mk.injEq] at H
     obtain ⟨rfl, rfl⟩ := H
     go_wp2
     go_ret2
     exact ⟨_, te_, by (with_reducible repeat (first | apply Kd.S_alloc | apply Kd.S_drewN | apply Kd.S_drew)); exact HO_4.out, tb_⟩
 ·
  replace c3 := Bool.eq_false_iff.mpr c3
  subst c3
  have H1 : (some (([] : List (List Int)), false)) = some (r1, r2) := by rw [if_neg (show ¬ (false = true) by decide)] at H; exact H
  clear H
  have H := H1
  clear H1
  simp only [Option.some.injEq, Prod.mk.injEq] at H
  obtain ⟨rfl, rfl⟩ := H
  go_enter Try.func115, Try.ntmps115
  go_wp2_with (first | (refine gd_ 1 ?_; refine bx_ 1 #[.int .i64 a0_0, .int .i64 a0_1, .slice A0_2 l0_2.length c0_2] 26 ?_; intro gb698 hg w24 hbox hb; have BK698 := A_ (hbox); have GW698 := A_ ((ts_ hg : w.heap.size ≤ gb698)); have GE698 := A_ ((ts_ hg : w.heap.size ≤ gb698)); replace HB := A_ (below_step tb_ hb); clear hb hbox hg; obtain ⟨hcz25_0, hcz25_1, hcz25_2, hfz25_0, hfz25_1, hfz25_2⟩ := cf3_ BK698.out) | (refine gc_ 93 ?_; refine goesT_ (some 8) Try.func93 #[.agg #[.int .i64 a0_0, .int .i64 a0_1, .slice A0_2 l0_2.length c0_2]] ?_; (with_reducible refine (impl_IsBoard.calls a0_0 a0_1 _ _ l0_2 false _ ?side1 ?side2 A2.out).mono ?_); (case side1 => exact tc_ HR0_2.out); (case side2 => exact HC0_2.out); rintro e w26 ⟨rfl, hb⟩; refine ⟨_, rfl, ?_⟩; replace BK698 := A_ (blk_below (g := gb698) (o := .cells #[.int .i64 a0_0, .int .i64 a0_1, .slice A0_2 l0_2.length c0_2] 26 (0, 0)) (tk_ BK698) hb); replace HB := A_ (below_step tb_ hb); (try clear hb)))
  go_ret2
  exact ⟨_, te_, by first | exact Kd.S_nil _ _ _ _ _ | exact Kd.N_nil _ _ _ _ _ | exact Kd.V_nil _ _ _ _ _ | exact Kd.Q_nil _ _ _ _ _ | exact Kd.R_nil _ _ _ _ _, tb_⟩

/-! ### slices_IndexFunc_int_int_191: function 191 -/
def slices_IndexFunc_int_int_191.l0 : Nat → List (List Int) → FnT57 → Int → Int → Option (Int)
 | 0, _, _, _, _ => none
 | k + 1, x0, x1, x7, x8 => if x8 < x7 then (if 0 ≤ x8 then (if x8 < (x0.length : Int) then ((FnCall57.f (rd_L1 x0 x8) x1).bind fun t711 => (if t711 = true then (some x8) else (slices_IndexFunc_int_int_191.l0 k x0 x1 x7 (wrap64 (x8 + 1))))) else (none)) else (none)) else (some (-1))
def slices_IndexFunc_int_int_191.f (k : Nat) (l0 : List (List Int)) (a1 : FnT57) : Option (Int) := slices_IndexFunc_int_int_191.l0 k l0 a1 (l0.length : Int) 0
theorem slices_IndexFunc_int_int_191.mono_l : ∀ k, (∀ y0 y1 y2 y3, LeO (slices_IndexFunc_int_int_191.l0 k y0 y1 y2 y3) (slices_IndexFunc_int_int_191.l0 (k + 1) y0 y1 y2 y3))
 | 0 => fun _ _ _ _ r h => by simp [slices_IndexFunc_int_int_191.l0] at h
 | k + 1 => by
  have ih0 := slices_IndexFunc_int_int_191.mono_l k
  ·
   intro y0 y1 y2 y3
   unfold slices_IndexFunc_int_int_191.l0
   repeat' first | (with_reducible first | exact ih0 _ _ _ _ | exact LeO.refl _ | exact LeO.none _ | refine LeO.ite ?_ ?_ | refine LeO.bind ?_ (fun _ => ?_)) | exact ih0 _ _ _ _ | exact LeO.none _ | refine LeO.ite ?_ ?_ | refine LeO.bind ?_ (fun _ => ?_)
theorem slices_IndexFunc_int_int_191.mono : ∀ a0 a1 k, LeO (slices_IndexFunc_int_int_191.f k a0 a1) (slices_IndexFunc_int_int_191.f (k + 1) a0 a1) := by
 intro a0 a1 k
 have ih0 := slices_IndexFunc_int_int_191.mono_l k
 unfold slices_IndexFunc_int_int_191.f
 repeat' first | (with_reducible first | exact ih0 _ _ _ _ | exact LeO.refl _ | exact LeO.none _ | refine LeO.ite ?_ ?_ | refine LeO.bind ?_ (fun _ => ?_)) | exact ih0 _ _ _ _ | exact LeO.none _ | refine LeO.ite ?_ ?_ | refine LeO.bind ?_ (fun _ => ?_)
theorem slices_IndexFunc_int_int_191.calls (k : Nat) (A0 : Option Addr) (c0 : Nat) (l0 : List (List Int)) (v1 : Value) (a1 : FnT57) (r : Int) (w : World) (hr0 : Kd.C (Kd.slice 3 (Kd.int .i64)) w A0 l0.length l0) (hc0 : l0.length ≤ c0) (hF1 : FnOk57 w v1 a1) (h : slices_IndexFunc_int_int_191.f k l0 a1 = some r) :
  Calls Try.prog 191 #[.slice A0 l0.length c0, v1] w fun e w' => e = .returned (.int .i64 r) ∧ Below w.heap.size w w' := by
 have HR0 := A_ hr0
 have HC0 := A_ hc0
 clear hr0 hc0
 have HF1 := A_ hF1
 clear hF1
 have HB := A_ (Below.refl w.heap.size w)
 have H : (slices_IndexFunc_int_int_191.l0 k l0 a1 (l0.length : Int) 0) = some r := h
 clear h
 have H' := A_ H
 clear H
 go_enter Try.func191, Try.ntmps191
 go_wp2
 go_loopg [8] k (fun kq v8 w' => ∃ (x8_1 : Int), v8 = .int .i64 x8_1 ∧ Aside0 (slices_IndexFunc_int_int_191.l0 kq l0 a1 (l0.length : Int) x8_1 = some r) ∧ Aside0 (kq ≤ k) ∧ Aside0 (Below w.heap.size w w'))
 case atStart => exact ⟨(0), tf_, H', ⟨Nat.le_refl _⟩, ⟨tb_⟩⟩
 case round =>
  clear H'
  try clear c1
  try clear p2
  obtain ⟨x8_1, rfl, HA, HK1, HB⟩ := hrel
  cases gk with
  | zero => exact absurd HA.out (by simp [slices_IndexFunc_int_int_191.l0])
  | succ k1 =>
   have H := HA.out
   clear HA
   simp only [slices_IndexFunc_int_int_191.l0] at H
   by_cases c3 : x8_1 < (l0.length : Int)
   ·
    rw [if_pos c3] at H
    have c3b0 := decide_eq_true c3
    clear c3
    by_cases c4 : 0 ≤ x8_1
    ·
     rw [if_pos c4] at H
     have c4b0 := decide_eq_true c4
     clear c4
     by_cases c5 : x8_1 < (l0.length : Int)
     ·
      rw [if_pos c5] at H
      have c5b0 := decide_eq_true c5
      clear c5
      replace H := Option.bind_eq_some_iff.mp H
      obtain ⟨t711, A60, H⟩ := H
      replace H : (if t711 = true then (some x8_1) else (slices_IndexFunc_int_int_191.l0 k1 l0 a1 (l0.length : Int) (wrap64 (x8_1 + 1)))) = some r := H
      have A6 := A_ A60
      clear A60
      by_cases c7 : t711 = true
      ·
       subst c7
       have H1 : (some x8_1) = some r := by rw [if_pos rfl] at H; exact H
       clear H
       have H := H1
       clear H1
       obtain rfl := Option.some.inj H
       have p710 : 0 ≤ (x8_1 : Int) := od_
       have q710 : x8_1 < (l0.length : Int) := od_
       obtain ⟨ad710, A710_0, c710_0, e710, hx710_0, hl710_0, hi710_0⟩ := at_L1 HR0.out x8_1 p710 q710
       cases e710
       (try replace hx710_0 := (HB.out.cell (World.block_lt_of_cell? w _ hx710_0)).trans hx710_0)
       have HR710_0 := A_ hi710_0
       have HC710_0 := A_ hl710_0
       clear hi710_0 hl710_0
       replace p710 := eq_true p710
       replace q710 := eq_true q710
       go_wp2_with (first | ((with_reducible refine Fn.gate_value rfl ?_); refine Fn.goesVw_ (some 16) rfl (by first | rfl | (simp [Region.wanted, yielded]; done)) v1 rfl #[.slice A710_0 (rd_L1 l0 x8_1).length c710_0] rfl ta_ ?_; (with_reducible refine (FnCall57.calls _ _ (rd_L1 l0 x8_1) v1 a1 true _ ?side1 ?side2 ?side3 A6.out).mono ?_); (case side1 => exact tc_ HR710_0.out); (case side2 => exact HC710_0.out); (case side3 => exact FnOk57.mono HF1.out tb_); rintro e w8 ⟨rfl, hb⟩; refine ⟨_, rfl, ?_⟩; replace HB := A_ (below_step tb_ hb); (try clear hb)))
       go_ret
       exact ⟨te_, tb_⟩
      ·
       replace c7 := Bool.eq_false_iff.mpr c7
       subst c7
       have H1 : (slices_IndexFunc_int_int_191.l0 k1 l0 a1 (l0.length : Int) (wrap64 (x8_1 + 1))) = some r := by rw [if_neg (show ¬ (false = true) by decide)] at H; exact H
       clear H
       have H := H1
       clear H1
       have H' := A_ H
       clear H
       have p710 : 0 ≤ (x8_1 : Int) := od_
       have q710 : x8_1 < (l0.length : Int) := od_
       obtain ⟨ad710, A710_0, c710_0, e710, hx710_0, hl710_0, hi710_0⟩ := at_L1 HR0.out x8_1 p710 q710
       cases e710
       (try replace hx710_0 := (HB.out.cell (World.block_lt_of_cell? w _ hx710_0)).trans hx710_0)
       have HR710_0 := A_ hi710_0
       have HC710_0 := A_ hl710_0
       clear hi710_0 hl710_0
       replace p710 := eq_true p710
       replace q710 := eq_true q710
       go_wp2_with (first | ((with_reducible refine Fn.gate_value rfl ?_); refine Fn.goesVw_ (some 16) rfl (by first | rfl | (simp [Region.wanted, yielded]; done)) v1 rfl #[.slice A710_0 (rd_L1 l0 x8_1).length c710_0] rfl ta_ ?_; (with_reducible refine (FnCall57.calls _ _ (rd_L1 l0 x8_1) v1 a1 false _ ?side1 ?side2 ?side3 A6.out).mono ?_); (case side1 => exact tc_ HR710_0.out); (case side2 => exact HC710_0.out); (case side3 => exact FnOk57.mono HF1.out tb_); rintro e w9 ⟨rfl, hb⟩; refine ⟨_, rfl, ?_⟩; replace HB := A_ (below_step tb_ hb); (try clear hb)))
       go_roundg k1
       case measure => have := HK1.out; omega
       case rel => exact ⟨(wrap64 (x8_1 + 1)), tf_, H', ⟨by have := HK1.out; omega⟩, ⟨tb_⟩⟩
     ·
      rw [if_neg c5] at H
      exact absurd H (by simp)
    ·
     rw [if_neg c4] at H
     exact absurd H (by simp)
   ·
    rw [if_neg c3] at H
    have c3b0 := decide_eq_false c3
    clear c3
    obtain rfl := Option.some.inj H
    go_wp2
    go_ret
    exact ⟨te_, tb_⟩

/-! ### slices_ContainsFunc_int_int_120: function 120 -/
def slices_ContainsFunc_int_int_120.f (k : Nat) (l0 : List (List Int)) (a1 : FnT57) : Option (Bool) := (slices_IndexFunc_int_int_191.f k l0 a1).bind fun t712 => (some (decide (t712 ≥ 0)))
theorem slices_ContainsFunc_int_int_120.mono : ∀ a0 a1 k, LeO (slices_ContainsFunc_int_int_120.f k a0 a1) (slices_ContainsFunc_int_int_120.f (k + 1) a0 a1) := by
 intro a0 a1 k
 unfold slices_ContainsFunc_int_int_120.f
 repeat' first | (with_reducible first | exact slices_IndexFunc_int_int_191.mono _ _ _ | exact LeO.refl _ | exact LeO.none _ | refine LeO.ite ?_ ?_ | refine LeO.bind ?_ (fun _ => ?_)) | exact slices_IndexFunc_int_int_191.mono _ _ _ | exact LeO.none _ | refine LeO.ite ?_ ?_ | refine LeO.bind ?_ (fun _ => ?_)
theorem slices_ContainsFunc_int_int_120.calls (k : Nat) (A0 : Option Addr) (c0 : Nat) (l0 : List (List Int)) (v1 : Value) (a1 : FnT57) (r : Bool) (w : World) (hr0 : Kd.C (Kd.slice 3 (Kd.int .i64)) w A0 l0.length l0) (hc0 : l0.length ≤ c0) (hF1 : FnOk57 w v1 a1) (h : slices_ContainsFunc_int_int_120.f k l0 a1 = some r) :
  Calls Try.prog 120 #[.slice A0 l0.length c0, v1] w fun e w' => e = .returned (.bool r) ∧ Below w.heap.size w w' := by
 have HR0 := A_ hr0
 have HC0 := A_ hc0
 clear hr0 hc0
 have HF1 := A_ hF1
 clear hF1
 have HB := A_ (Below.refl w.heap.size w)
 have H : ((slices_IndexFunc_int_int_191.f k l0 a1).bind fun t712 => (some (decide (t712 ≥ 0)))) = some r := h
 clear h
 replace H := Option.bind_eq_some_iff.mp H
 obtain ⟨t712, A30, H⟩ := H
 replace H : (some (decide (t712 ≥ 0))) = some r := H
 have A3 := A_ A30
 clear A30
 obtain rfl := Option.some.inj H
 go_enter Try.func120, Try.ntmps120
 go_wp2_with (first | (refine gc_ 191 ?_; refine goesT_ (some 7) Try.func191 #[.slice A0 l0.length c0, v1] ?_; (with_reducible refine (slices_IndexFunc_int_int_191.calls k _ _ l0 v1 a1 t712 _ ?side1 ?side2 ?side3 A3.out).mono ?_); (case side1 => exact tc0_ HR0.out); (case side2 => exact HC0.out); (case side3 => exact FnOk57.mono HF1.out tb_); rintro e w4 ⟨rfl, hb⟩; refine ⟨_, rfl, ?_⟩; replace HB := A_ (below_step tb_ hb); (try clear hb)))
 go_ret
 exact ⟨te_, tb_⟩

/-! ### spec_l1Most: function 196 -/
def spec_l1Most.f (a0 : Int) (a1 : Int) : Option (Int) := if a0 > a1 then (some a0) else (some a1)
theorem spec_l1Most.calls (a0 : Int) (a1 : Int) (r : Int) (w : World) (h : spec_l1Most.f a0 a1 = some r) :
  Calls Try.prog 196 #[.int .i64 a0, .int .i64 a1] w fun e w' => e = .returned (.int .i64 r) ∧ Drawn0 w w' := by
 have H : (if a0 > a1 then (some a0) else (some a1)) = some r := h
 clear h
 by_cases c3 : a0 > a1
 ·
  rw [if_pos c3] at H
  have c3b0 := decide_eq_true c3
  clear c3
  obtain rfl := Option.some.inj H
  go_enter Try.func196, Try.ntmps196
  go_wp2
  go_ret
  exact ⟨tf_, dr_⟩
 ·
  rw [if_neg c3] at H
  have c3b0 := decide_eq_false c3
  clear c3
  obtain rfl := Option.some.inj H
  go_enter Try.func196, Try.ntmps196
  go_wp2
  go_ret
  exact ⟨tf_, dr_⟩

/-! ### spec_l1Abs: function 193 -/
def spec_l1Abs.f (a0 : Int) : Option (Int) := (spec_l1Most.f a0 (wrap64 (-a0))).bind fun t753 => (some t753)
theorem spec_l1Abs.calls (a0 : Int) (r : Int) (w : World) (h : spec_l1Abs.f a0 = some r) :
  Calls Try.prog 193 #[.int .i64 a0] w fun e w' => e = .returned (.int .i64 r) ∧ Drawn0 w w' := by
 have H : ((spec_l1Most.f a0 (wrap64 (-a0))).bind fun t753 => (some t753)) = some r := h
 clear h
 replace H := Option.bind_eq_some_iff.mp H
 obtain ⟨t753, A20, H⟩ := H
 replace H : (some t753) = some r := H
 have A2 := A_ A20
 clear A20
 obtain rfl := Option.some.inj H
 go_enter Try.func193, Try.ntmps193
 go_wp2_with (first | (refine gc_ 196 ?_; refine goesT_ (some 6) Try.func196 #[.int .i64 a0, .int .i64 (wrap64 (-a0))] ?_; (with_reducible refine (spec_l1Most.calls a0 (wrap64 (-a0)) t753 _ A2.out).mono ?_); rintro e w' ⟨rfl, ⟨nd, rfl⟩⟩; refine ⟨_, rfl, ?_⟩))
 go_ret
 exact ⟨tf_, dr_⟩

/-! ### spec_quWatched: function 127 -/
mutual
def spec_quWatched.l0 : Nat → Int → List (List Int) → Int → Option (Bool)
 | 0, _, _, _ => none
 | k + 1, x0, x1, x5 => if x5 < x0 then (spec_quWatched.l1 k x0 x1 x5 0) else (some true)
def spec_quWatched.l1 : Nat → Int → List (List Int) → Int → Int → Option (Bool)
 | 0, _, _, _, _ => none
 | k + 1, x0, x1, x5, x6 => if x6 < x0 then (spec_quWatched.l2 k x0 x1 x5 x6 false x1 (x1.length : Int) 0) else (spec_quWatched.l0 k x0 x1 (wrap64 (x5 + 1)))
def spec_quWatched.l2 : Nat → Int → List (List Int) → Int → Int → Bool → List (List Int) → Int → Int → Option (Bool)
 | 0, _, _, _, _, _, _, _, _ => none
 | k + 1, x0, x1, x5, x6, x7, x22, x23, x24 => if x24 < x23 then (if 0 ≤ x24 then (if x24 < (x22.length : Int) then (if 0 < ((rd_L1 x22 x24).length : Int) then ((spec_l1Abs.f (wrap64 ((rd (rd_L1 x22 x24) 0) - x5))).bind fun t790 => (if 1 < ((rd_L1 x22 x24).length : Int) then ((spec_l1Abs.f (wrap64 ((rd (rd_L1 x22 x24) 1) - x6))).bind fun t792 => (if x7 = true then (spec_quWatched.l2 k x0 x1 x5 x6 true x22 x23 (wrap64 (x24 + 1))) else (if t790 = 0 then (spec_quWatched.l2 k x0 x1 x5 x6 true x22 x23 (wrap64 (x24 + 1))) else (if t792 = 0 then (spec_quWatched.l2 k x0 x1 x5 x6 true x22 x23 (wrap64 (x24 + 1))) else (spec_quWatched.l2 k x0 x1 x5 x6 (t790 == t792) x22 x23 (wrap64 (x24 + 1))))))) else (none))) else (none)) else (none)) else (none)) else (if x7 = true then (spec_quWatched.l1 k x0 x1 x5 (wrap64 (x6 + 1))) else (some false))
end
def spec_quWatched.f (k : Nat) (a0 : Int) (l1 : List (List Int)) : Option (Bool) := spec_quWatched.l0 k a0 l1 0
theorem spec_quWatched.mono_l : ∀ k, (∀ y0 y1 y2, LeO (spec_quWatched.l0 k y0 y1 y2) (spec_quWatched.l0 (k + 1) y0 y1 y2)) ∧ (∀ y0 y1 y2 y3, LeO (spec_quWatched.l1 k y0 y1 y2 y3) (spec_quWatched.l1 (k + 1) y0 y1 y2 y3)) ∧ (∀ y0 y1 y2 y3 y4 y5 y6 y7, LeO (spec_quWatched.l2 k y0 y1 y2 y3 y4 y5 y6 y7) (spec_quWatched.l2 (k + 1) y0 y1 y2 y3 y4 y5 y6 y7))
 | 0 => ⟨fun _ _ _ r h => by simp [spec_quWatched.l0] at h, fun _ _ _ _ r h => by simp [spec_quWatched.l1] at h, fun _ _ _ _ _ _ _ _ r h => by simp [spec_quWatched.l2] at h⟩
 | k + 1 => by
  obtain ⟨ih0, ih1, ih2⟩ := spec_quWatched.mono_l k
  refine ⟨?_, ?_, ?_⟩
  ·
   intro y0 y1 y2
   unfold spec_quWatched.l0
   repeat' first | (with_reducible first | exact ih0 _ _ _ | exact ih1 _ _ _ _ | exact ih2 _ _ _ _ _ _ _ _ | exact LeO.refl _ | exact LeO.none _ | refine LeO.ite ?_ ?_ | refine LeO.bind ?_ (fun _ => ?_)) | exact ih0 _ _ _ | exact ih1 _ _ _ _ | exact ih2 _ _ _ _ _ _ _ _ | exact LeO.none _ | refine LeO.ite ?_ ?_ | refine LeO.bind ?_ (fun _ => ?_)
  ·
   intro y0 y1 y2 y3
   unfold spec_quWatched.l1
   repeat' first | (with_reducible first | exact ih0 _ _ _ | exact ih1 _ _ _ _ | exact ih2 _ _ _ _ _ _ _ _ | exact LeO.refl _ | exact LeO.none _ | refine LeO.ite ?_ ?_ | refine LeO.bind ?_ (fun _ => ?_)) | exact ih0 _ _ _ | exact ih1 _ _ _ _ | exact ih2 _ _ _ _ _ _ _ _ | exact LeO.none _ | refine LeO.ite ?_ ?_ | refine LeO.bind ?_ (fun _ => ?_)
  ·
   intro y0 y1 y2 y3 y4 y5 y6 y7
   unfold spec_quWatched.l2
   repeat' first | (with_reducible first | exact ih0 _ _ _ | exact ih1 _ _ _ _ | exact ih2 _ _ _ _ _ _ _ _ | exact LeO.refl _ | exact LeO.none _ | refine LeO.ite ?_ ?_ | refine LeO.bind ?_ (fun _ => ?_)) | exact ih0 _ _ _ | exact ih1 _ _ _ _ | exact ih2 _ _ _ _ _ _ _ _ | exact LeO.none _ | refine LeO.ite ?_ ?_ | refine LeO.bind ?_ (fun _ => ?_)
theorem spec_quWatched.mono : ∀ a0 a1 k, LeO (spec_quWatched.f k a0 a1) (spec_quWatched.f (k + 1) a0 a1) := by
 intro a0 a1 k
 obtain ⟨ih0, ih1, ih2⟩ := spec_quWatched.mono_l k
 unfold spec_quWatched.f
 repeat' first | (with_reducible first | exact ih0 _ _ _ | exact ih1 _ _ _ _ | exact ih2 _ _ _ _ _ _ _ _ | exact LeO.refl _ | exact LeO.none _ | refine LeO.ite ?_ ?_ | refine LeO.bind ?_ (fun _ => ?_)) | exact ih0 _ _ _ | exact ih1 _ _ _ _ | exact ih2 _ _ _ _ _ _ _ _ | exact LeO.none _ | refine LeO.ite ?_ ?_ | refine LeO.bind ?_ (fun _ => ?_)
theorem spec_quWatched.calls (k : Nat) (a0 : Int) (A1 : Option Addr) (c1 : Nat) (l1 : List (List Int)) (r : Bool) (w : World) (hr1 : Kd.C (Kd.slice 3 (Kd.int .i64)) w A1 l1.length l1) (hc1 : l1.length ≤ c1) (h : spec_quWatched.f k a0 l1 = some r) :
  Calls Try.prog 127 #[.int .i64 a0, .slice A1 l1.length c1] w fun e w' => e = .returned (.bool r) ∧ Drawn0 w w' := by
 have HR1 := A_ hr1
 have HC1 := A_ hc1
 clear hr1 hc1
 have H : (spec_quWatched.l0 k a0 l1 0) = some r := h
 clear h
 have H' := A_ H
 clear H
 go_enter Try.func127, Try.ntmps127
 go_wp2
 repeat (go_quiet (fail); try go_wp2)
 go_loopg [5] k (fun kq v5 w' => ∃ (x5_1 : Int), v5 = .int .i64 x5_1 ∧ Aside0 (spec_quWatched.l0 kq a0 l1 x5_1 = some r) ∧ Aside0 (kq ≤ k) ∧ Drawn0 w w')
 case atStart => exact ⟨(0), tf_, H', ⟨Nat.le_refl _⟩, dr_⟩
 case round =>
  clear H'
  try clear c1
  try clear p2
  obtain ⟨x5_1, rfl, HA, HK1, ⟨m1, rfl⟩⟩ := hrel
  cases gk with
  | zero => exact absurd HA.out (by simp [spec_quWatched.l0])
  | succ k1 =>
   have H := HA.out
   clear HA
   simp only [spec_quWatched.l0] at H
   by_cases c3 : x5_1 < a0
   ·
    rw [if_pos c3] at H
    have c3b0 := decide_eq_true c3
    clear c3
    have H' := A_ H
    clear H
    go_wp2
    repeat (go_quiet (fail); try go_wp2)
    go_loopg [6] k1 (fun kq v6 w' => ∃ (x6_2 : Int), v6 = .int .i64 x6_2 ∧ Aside0 (spec_quWatched.l1 kq a0 l1 x5_1 x6_2 = some r) ∧ Aside0 (kq ≤ k1) ∧ Drawn0 w w')
    case atStart => exact ⟨(0), tf_, H', ⟨Nat.le_refl _⟩, dr_⟩
    case round =>
     clear H'
     try clear c1
     try clear p2
     try clear c3
     try clear c3b0
     try clear p2
     obtain ⟨x6_2, rfl, HA, HK2, ⟨m2, rfl⟩⟩ := hrel
     cases gk with
     | zero => exact absurd HA.out (by simp [spec_quWatched.l1])
     | succ k2 =>
      have H := HA.out
      clear HA
      simp only [spec_quWatched.l1] at H
      by_cases c4 : x6_2 < a0
      ·
       rw [if_pos c4] at H
       have c4b0 := decide_eq_true c4
       clear c4
       have H' := A_ H
       clear H
       go_wp2
       repeat (go_quiet (fail); try go_wp2)
       go_loopg [7, 24] k2 (fun kq v7 v24 w' => ∃ (x7_3 : Bool) (x24_3 : Int), v7 = .bool x7_3 ∧ v24 = .int .i64 x24_3 ∧ Aside0 (spec_quWatched.l2 kq a0 l1 x5_1 x6_2 x7_3 l1 (l1.length : Int) x24_3 = some r) ∧ Aside0 (kq ≤ k2) ∧ Drawn0 w w')
       case atStart => exact ⟨(false), (0), tf_, tf_, H', ⟨Nat.le_refl _⟩, dr_⟩
       case round =>
        clear H'
        try clear c1
        try clear p2
        try clear c3
        try clear c3b0
        try clear c4
        try clear c4b0
        try clear p2
        obtain ⟨x7_3, x24_3, rfl, rfl, HA, HK3, ⟨m3, rfl⟩⟩ := hrel
        cases gk with
        | zero => exact absurd HA.out (by simp [spec_quWatched.l2])
        | succ k3 =>
         have H := HA.out
         clear HA
         simp only [spec_quWatched.l2] at H
         by_cases c5 : x24_3 < (l1.length : Int)
         ·
          rw [if_pos c5] at H
          have c5b0 := decide_eq_true c5
          clear c5
          by_cases c6 : 0 ≤ x24_3
          ·
           rw [if_pos c6] at H
           have c6b0 := decide_eq_true c6
           clear c6
           by_cases c7 : x24_3 < (l1.length : Int)
           ·
            rw [if_pos c7] at H
            have c7b0 := decide_eq_true c7
            clear c7
            by_cases c8 : 0 < ((rd_L1 l1 x24_3).length : Int)
            ·
             rw [if_pos c8] at H
             have c8b0 := decide_eq_true c8
             have c8b1 : decide (0 < (rd_L1 l1 x24_3).length) = true := decide_eq_true (by omega)
             clear c8
             replace H := Option.bind_eq_some_iff.mp H
             obtain ⟨t790, A90, H⟩ := H
             replace H : (if 1 < ((rd_L1 l1 x24_3).length : Int) then ((spec_l1Abs.f (wrap64 ((rd (rd_L1 l1 x24_3) 1) - x6_2))).bind fun t792 => (if x7_3 = true then (spec_quWatched.l2 k3 a0 l1 x5_1 x6_2 true l1 (l1.length : Int) (wrap64 (x24_3 + 1))) else (if t790 = 0 then (spec_quWatched.l2 k3 a0 l1 x5_1 x6_2 true l1 (l1.length : Int) (wrap64 (x24_3 + 1))) else (if t792 = 0 then (spec_quWatched.l2 k3 a0 l1 x5_1 x6_2 true l1 (l1.length : Int) (wrap64 (x24_3 + 1))) else (spec_quWatched.l2 k3 a0 l1 x5_1 x6_2 (t790 == t792) l1 (l1.length : Int) (wrap64 (x24_3 + 1))))))) else (none)) = some r := H
             have A9 := A_ A90
             clear A90
             by_cases c10 : 1 < ((rd_L1 l1 x24_3).length : Int)
             ·
              rw [if_pos c10] at H
              have c10b0 := decide_eq_true c10
              have c10b1 : decide (1 < (rd_L1 l1 x24_3).length) = true := decide_eq_true (by omega)
              clear c10
              replace H := Option.bind_eq_some_iff.mp H
              obtain ⟨t792, A110, H⟩ := H
              replace H : (if x7_3 = true then (spec_quWatched.l2 k3 a0 l1 x5_1 x6_2 true l1 (l1.length : Int) (wrap64 (x24_3 + 1))) else (if t790 = 0 then (spec_quWatched.l2 k3 a0 l1 x5_1 x6_2 true l1 (l1.length : Int) (wrap64 (x24_3 + 1))) else (if t792 = 0 then (spec_quWatched.l2 k3 a0 l1 x5_1 x6_2 true l1 (l1.length : Int) (wrap64 (x24_3 + 1))) else (spec_quWatched.l2 k3 a0 l1 x5_1 x6_2 (t790 == t792) l1 (l1.length : Int) (wrap64 (x24_3 + 1)))))) = some r := H
              have A11 := A_ A110
              clear A110
              by_cases c12 : x7_3 = true
              ·
               subst c12
               have H1 : (spec_quWatched.l2 k3 a0 l1 x5_1 x6_2 true l1 (l1.length : Int) (wrap64 (x24_3 + 1))) = some r := by rw [if_pos rfl] at H; exact H
               clear H
               have H := H1
               clear H1
               have H' := A_ H
               clear H
               have p788 : 0 ≤ (x24_3 : Int) := od_
               have q788 : x24_3 < (l1.length : Int) := od_
               obtain ⟨ad788, A788_0, c788_0, e788, hx788_0, hl788_0, hi788_0⟩ := at_L1 HR1.out x24_3 p788 q788
               cases e788
               have HR788_0 := A_ hi788_0
               have HC788_0 := A_ hl788_0
               clear hi788_0 hl788_0
               replace p788 := eq_true p788
               replace q788 := eq_true q788
               have p789 : 0 ≤ (0 : Int) := (by omega)
               have q789 : 0 < ((rd_L1 l1 x24_3).length : Int) := od_
               obtain ⟨ad789, e789, hx789_0⟩ := Kd.at_int HR788_0.out 0 p789 q789
               cases e789
               have qi789 : (0 < (rd_L1 l1 x24_3).length) = True := eq_true (by omega)
               (try rw [show ((0 : Int)).toNat = 0 from rfl] at hx789_0)
               (try rw [Addr.add_zero'] at hx789_0)
               replace p789 := eq_true p789
               replace q789 := eq_true q789
               have p791 : 0 ≤ (1 : Int) := (by omega)
               have q791 : 1 < ((rd_L1 l1 x24_3).length : Int) := od_
               obtain ⟨ad791, e791, hx791_0⟩ := Kd.at_int HR788_0.out 1 p791 q791
               obtain rfl : ad789 = ad791 := (by injection e791)
               (try simp only [show (1 : Int).toNat = 1 from rfl, Nat.reduceMul, Nat.reduceEqDiff, Go.Addr.add, ↓reduceIte] at hx791_0)
               have qi791 : (1 < (rd_L1 l1 x24_3).length) = True := eq_true (by omega)
               (try rw [show ((1 : Int)).toNat = 1 from rfl] at hx791_0)
               replace p791 := eq_true p791
               replace q791 := eq_true q791
               go_wp2_with (first | (go_at_call 193; (with_reducible refine (spec_l1Abs.calls (wrap64 ((rd (rd_L1 l1 x24_3) 0) - x5_1)) t790 _ A9.out).mono ?_); rintro e w' ⟨rfl, ⟨nd, rfl⟩⟩; (try exact dn_)) | (go_at_call 193; (with_reducible refine (spec_l1Abs.calls (wrap64 ((rd (rd_L1 l1 x24_3) 1) - x6_2)) t792 _ A11.out).mono ?_); rintro e w' ⟨rfl, ⟨nd, rfl⟩⟩; (try exact dn_)))
               repeat (go_quiet (first | (go_at_call 193; (with_reducible refine (spec_l1Abs.calls (wrap64 ((rd (rd_L1 l1 x24_3) 0) - x5_1)) t790 _ A9.out).mono ?_); rintro e w' ⟨rfl, ⟨nd, rfl⟩⟩; (try exact dn_)) | (go_at_call 193; (with_reducible refine (spec_l1Abs.calls (wrap64 ((rd (rd_L1 l1 x24_3) 1) - x6_2)) t792 _ A11.out).mono ?_); rintro e w' ⟨rfl, ⟨nd, rfl⟩⟩; (try exact dn_))); try go_wp2_with (first | (go_at_call 193; (with_reducible refine (spec_l1Abs.calls (wrap64 ((rd (rd_L1 l1 x24_3) 0) - x5_1)) t790 _ A9.out).mono ?_); rintro e w' ⟨rfl, ⟨nd, rfl⟩⟩; (try exact dn_)) | (go_at_call 193; (with_reducible refine (spec_l1Abs.calls (wrap64 ((rd (rd_L1 l1 x24_3) 1) - x6_2)) t792 _ A11.out).mono ?_); rintro e w' ⟨rfl, ⟨nd, rfl⟩⟩; (try exact dn_))))
               go_roundg k3
               case measure => have := HK1.out; have := HK2.out; have := HK3.out; omega
               case rel => exact ⟨(true), (wrap64 (x24_3 + 1)), tf_, tf_, H', ⟨by have := HK1.out; have := HK2.out; have := HK3.out; omega⟩, dr_⟩
              ·
               replace c12 := Bool.eq_false_iff.mpr c12
               subst c12
               have H1 : (if t790 = 0 then (spec_quWatched.l2 k3 a0 l1 x5_1 x6_2 true l1 (l1.length : Int) (wrap64 (x24_3 + 1))) else (if t792 = 0 then (spec_quWatched.l2 k3 a0 l1 x5_1 x6_2 true l1 (l1.length : Int) (wrap64 (x24_3 + 1))) else (spec_quWatched.l2 k3 a0 l1 x5_1 x6_2 (t790 == t792) l1 (l1.length : Int) (wrap64 (x24_3 + 1))))) = some r := by rw [if_neg (show ¬ (false = true) by decide)] at H; exact H
               clear H
               have H := H1
               clear H1
               by_cases c13 : t790 = 0
               ·
                rw [if_pos c13] at H
                have c13b0 : (t790 == 0) = true := beq_iff_eq.mpr c13
                have c13b1 : (t790 != 0) = false := bne_eq_false_iff_eq.mpr c13
                clear c13
                have H' := A_ H
                clear H
                have p788 : 0 ≤ (x24_3 : Int) := od_
                have q788 : x24_3 < (l1.length : Int) := od_
                obtain ⟨ad788, A788_0, c788_0, e788, hx788_0, hl788_0, hi788_0⟩ := at_L1 HR1.out x24_3 p788 q788
                cases e788
                have HR788_0 := A_ hi788_0
                have HC788_0 := A_ hl788_0
                clear hi788_0 hl788_0
                replace p788 := eq_true p788
                replace q788 := eq_true q788
                have p789 : 0 ≤ (0 : Int) := (by omega)
                have q789 : 0 < ((rd_L1 l1 x24_3).length : Int) := od_
                obtain ⟨ad789, e789, hx789_0⟩ := Kd.at_int HR788_0.out 0 p789 q789
                cases e789
                have qi789 : (0 < (rd_L1 l1 x24_3).length) = True := eq_true (by omega)
                (try rw [show ((0 : Int)).toNat = 0 from rfl] at hx789_0)
                (try rw [Addr.add_zero'] at hx789_0)
                replace p789 := eq_true p789
                replace q789 := eq_true q789
                have p791 : 0 ≤ (1 : Int) := (by omega)
                have q791 : 1 < ((rd_L1 l1 x24_3).length : Int) := od_
                obtain ⟨ad791, e791, hx791_0⟩ := Kd.at_int HR788_0.out 1 p791 q791
                obtain rfl : ad789 = ad791 := (by injection e791)
                (try simp only [show (1 : Int).toNat = 1 from rfl, Nat.reduceMul, Nat.reduceEqDiff, Go.Addr.add, ↓reduceIte] at hx791_0)
                have qi791 : (1 < (rd_L1 l1 x24_3).length) = True := eq_true (by omega)
                (try rw [show ((1 : Int)).toNat = 1 from rfl] at hx791_0)
                replace p791 := eq_true p791
                replace q791 := eq_true q791
                go_wp2_with (first | (go_at_call 193; (with_reducible refine (spec_l1Abs.calls (wrap64 ((rd (rd_L1 l1 x24_3) 0) - x5_1)) t790 _ A9.out).mono ?_); rintro e w' ⟨rfl, ⟨nd, rfl⟩⟩; (try exact dn_)) | (go_at_call 193; (with_reducible refine (spec_l1Abs.calls (wrap64 ((rd (rd_L1 l1 x24_3) 1) - x6_2)) t792 _ A11.out).mono ?_); rintro e w' ⟨rfl, ⟨nd, rfl⟩⟩; (try exact dn_)))
                repeat (go_quiet (first | (go_at_call 193; (with_reducible refine (spec_l1Abs.calls (wrap64 ((rd (rd_L1 l1 x24_3) 0) - x5_1)) t790 _ A9.out).mono ?_); rintro e w' ⟨rfl, ⟨nd, rfl⟩⟩; (try exact dn_)) | (go_at_call 193; (with_reducible refine (spec_l1Abs.calls (wrap64 ((rd (rd_L1 l1 x24_3) 1) - x6_2)) t792 _ A11.out).mono ?_); rintro e w' ⟨rfl, ⟨nd, rfl⟩⟩; (try exact dn_))); try go_wp2_with (first | (go_at_call 193; (with_reducible refine (spec_l1Abs.calls (wrap64 ((rd (rd_L1 l1 x24_3) 0) - x5_1)) t790 _ A9.out).mono ?_); rintro e w' ⟨rfl, ⟨nd, rfl⟩⟩; (try exact dn_)) | (go_at_call 193; (with_reducible refine (spec_l1Abs.calls (wrap64 ((rd (rd_L1 l1 x24_3) 1) - x6_2)) t792 _ A11.out).mono ?_); rintro e w' ⟨rfl, ⟨nd, rfl⟩⟩; (try exact dn_))))
                go_roundg k3
                case measure => have := HK1.out; have := HK2.out; have := HK3.out; omega
                case rel => exact ⟨(true), (wrap64 (x24_3 + 1)), tf_, tf_, H', ⟨by have := HK1.out; have := HK2.out; have := HK3.out; omega⟩, dr_⟩
               ·
                rw [if_neg c13] at H
                have c13b0 : (t790 == 0) = false := beq_eq_false_iff_ne.mpr c13
                have c13b1 : (t790 != 0) = true := bne_iff_ne.mpr c13
                by_cases c14 : t792 = 0
                ·
                 rw [if_pos c14] at H
                 have c14b0 : (t792 == 0) = true := beq_iff_eq.mpr c14
                 have c14b1 : (t792 != 0) = false := bne_eq_false_iff_eq.mpr c14
                 clear c14
                 have H' := A_ H
                 clear H
                 have p788 : 0 ≤ (x24_3 : Int) := od_
                 have q788 : x24_3 < (l1.length : Int) := od_
                 obtain ⟨ad788, A788_0, c788_0, e788, hx788_0, hl788_0, hi788_0⟩ := at_L1 HR1.out x24_3 p788 q788
                 cases e788
                 have HR788_0 := A_ hi788_0
                 have HC788_0 := A_ hl788_0
                 clear hi788_0 hl788_0
                 replace p788 := eq_true p788
                 replace q788 := eq_true q788
                 have p789 : 0 ≤ (0 : Int) := (by omega)
                 have q789 : 0 < ((rd_L1 l1 x24_3).length : Int) := od_
                 obtain ⟨ad789, e789, hx789_0⟩ := Kd.at_int HR788_0.out 0 p789 q789
                 cases e789
                 have qi789 : (0 < (rd_L1 l1 x24_3).length) = True := eq_true (by omega)
                 (try rw [show ((0 : Int)).toNat = 0 from rfl] at hx789_0)
                 (try rw [Addr.add_zero'] at hx789_0)
                 replace p789 := eq_true p789
                 replace q789 := eq_true q789
                 have p791 : 0 ≤ (1 : Int) := (by omega)
                 have q791 : 1 < ((rd_L1 l1 x24_3).length : Int) := od_
                 obtain ⟨ad791, e791, hx791_0⟩ := Kd.at_int HR788_0.out 1 p791 q791
                 obtain rfl : ad789 = ad791 := (by injection e791)
                 (try simp only [show (1 : Int).toNat = 1 from rfl, Nat.reduceMul, Nat.reduceEqDiff, Go.Addr.add, ↓reduceIte] at hx791_0)
                 have qi791 : (1 < (rd_L1 l1 x24_3).length) = True := eq_true (by omega)
                 (try rw [show ((1 : Int)).toNat = 1 from rfl] at hx791_0)
                 replace p791 := eq_true p791
                 replace q791 := eq_true q791
                 go_wp2_with (first | (go_at_call 193; (with_reducible refine (spec_l1Abs.calls (wrap64 ((rd (rd_L1 l1 x24_3) 0) - x5_1)) t790 _ A9.out).mono ?_); rintro e w' ⟨rfl, ⟨nd, rfl⟩⟩; (try exact dn_)) | (go_at_call 193; (with_reducible refine (spec_l1Abs.calls (wrap64 ((rd (rd_L1 l1 x24_3) 1) - x6_2)) t792 _ A11.out).mono ?_); rintro e w' ⟨rfl, ⟨nd, rfl⟩⟩; (try exact dn_)))
                 repeat (go_quiet (first | (go_at_call 193; (with_reducible refine (spec_l1Abs.calls (wrap64 ((rd (rd_L1 l1 x24_3) 0) - x5_1)) t790 _ A9.out).mono ?_); rintro e w' ⟨rfl, ⟨nd, rfl⟩⟩; (try exact dn_)) | (go_at_call 193; (with_reducible refine (spec_l1Abs.calls (wrap64 ((rd (rd_L1 l1 x24_3) 1) - x6_2)) t792 _ A11.out).mono ?_); rintro e w' ⟨rfl, ⟨nd, rfl⟩⟩; (try exact dn_))); try go_wp2_with (first | (go_at_call 193; (with_reducible refine (spec_l1Abs.calls (wrap64 ((rd (rd_L1 l1 x24_3) 0) - x5_1)) t790 _ A9.out).mono ?_); rintro e w' ⟨rfl, ⟨nd, rfl⟩⟩; (try exact dn_)) | (go_at_call 193; (with_reducible refine (spec_l1Abs.calls (wrap64 ((rd (rd_L1 l1 x24_3) 1) - x6_2)) t792 _ A11.out).mono ?_); rintro e w' ⟨rfl, ⟨nd, rfl⟩⟩; (try exact dn_))))
                 go_roundg k3
                 case measure => have := HK1.out; have := HK2.out; have := HK3.out; omega
                 case rel => exact ⟨(true), (wrap64 (x24_3 + 1)), tf_, tf_, H', ⟨by have := HK1.out; have := HK2.out; have := HK3.out; omega⟩, dr_⟩
                ·
                 rw [if_neg c14] at H
                 have c14b0 : (t792 == 0) = false := beq_eq_false_iff_ne.mpr c14
                 have c14b1 : (t792 != 0) = true := bne_iff_ne.mpr c14
                 have H' := A_ H
                 clear H
                 have p788 : 0 ≤ (x24_3 : Int) := od_
                 have q788 : x24_3 < (l1.length : Int) := od_
                 obtain ⟨ad788, A788_0, c788_0, e788, hx788_0, hl788_0, hi788_0⟩ := at_L1 HR1.out x24_3 p788 q788
                 cases e788
                 have HR788_0 := A_ hi788_0
                 have HC788_0 := A_ hl788_0
                 clear hi788_0 hl788_0
                 replace p788 := eq_true p788
                 replace q788 := eq_true q788
                 have p789 : 0 ≤ (0 : Int) := (by omega)
                 have q789 : 0 < ((rd_L1 l1 x24_3).length : Int) := od_
                 obtain ⟨ad789, e789, hx789_0⟩ := Kd.at_int HR788_0.out 0 p789 q789
                 cases e789
                 have qi789 : (0 < (rd_L1 l1 x24_3).length) = True := eq_true (by omega)
                 (try rw [show ((0 : Int)).toNat = 0 from rfl] at hx789_0)
                 (try rw [Addr.add_zero'] at hx789_0)
                 replace p789 := eq_true p789
                 replace q789 := eq_true q789
                 have p791 : 0 ≤ (1 : Int) := (by omega)
                 have q791 : 1 < ((rd_L1 l1 x24_3).length : Int) := od_
                 obtain ⟨ad791, e791, hx791_0⟩ := Kd.at_int HR788_0.out 1 p791 q791
                 obtain rfl : ad789 = ad791 := (by injection e791)
                 (try simp only [show (1 : Int).toNat = 1 from rfl, Nat.reduceMul, Nat.reduceEqDiff, Go.Addr.add, ↓reduceIte] at hx791_0)
                 have qi791 : (1 < (rd_L1 l1 x24_3).length) = True := eq_true (by omega)
                 (try rw [show ((1 : Int)).toNat = 1 from rfl] at hx791_0)
                 replace p791 := eq_true p791
                 replace q791 := eq_true q791
                 go_wp2_with (first | (go_at_call 193; (with_reducible refine (spec_l1Abs.calls (wrap64 ((rd (rd_L1 l1 x24_3) 0) - x5_1)) t790 _ A9.out).mono ?_); rintro e w' ⟨rfl, ⟨nd, rfl⟩⟩; (try exact dn_)) | (go_at_call 193; (with_reducible refine (spec_l1Abs.calls (wrap64 ((rd (rd_L1 l1 x24_3) 1) - x6_2)) t792 _ A11.out).mono ?_); rintro e w' ⟨rfl, ⟨nd, rfl⟩⟩; (try exact dn_)))
                 repeat (go_quiet (first | (go_at_call 193; (with_reducible refine (spec_l1Abs.calls (wrap64 ((rd (rd_L1 l1 x24_3) 0) - x5_1)) t790 _ A9.out).mono ?_); rintro e w' ⟨rfl, ⟨nd, rfl⟩⟩; (try exact dn_)) | (go_at_call 193; (with_reducible refine (spec_l1Abs.calls (wrap64 ((rd (rd_L1 l1 x24_3) 1) - x6_2)) t792 _ A11.out).mono ?_); rintro e w' ⟨rfl, ⟨nd, rfl⟩⟩; (try exact dn_))); try go_wp2_with (first | (go_at_call 193; (with_reducible refine (spec_l1Abs.calls (wrap64 ((rd (rd_L1 l1 x24_3) 0) - x5_1)) t790 _ A9.out).mono ?_); rintro e w' ⟨rfl, ⟨nd, rfl⟩⟩; (try exact dn_)) | (go_at_call 193; (with_reducible refine (spec_l1Abs.calls (wrap64 ((rd (rd_L1 l1 x24_3) 1) - x6_2)) t792 _ A11.out).mono ?_); rintro e w' ⟨rfl, ⟨nd, rfl⟩⟩; (try exact dn_))))
                 go_roundg k3
                 case measure => have := HK1.out; have := HK2.out; have := HK3.out; omega
                 case rel => exact ⟨((t790 == t792)), (wrap64 (x24_3 + 1)), tf_, tf_, H', ⟨by have := HK1.out; have := HK2.out; have := HK3.out; omega⟩, dr_⟩
             ·
              rw [if_neg c10] at H
              exact absurd H (by simp)
            ·
             rw [if_neg c8] at H
             exact absurd H (by simp)
           ·
            rw [if_neg c7] at H
            exact absurd H (by simp)
          ·
           rw [if_neg c6] at H
           exact absurd H (by simp)
         ·
          rw [if_neg c5] at H
          have c5b0 := decide_eq_false c5
          clear c5
          by_cases c15 : x7_3 = true
          ·
           subst c15
           have H1 : (spec_quWatched.l1 k3 a0 l1 x5_1 (wrap64 (x6_2 + 1))) = some r := by rw [if_pos rfl] at H; exact H
           clear H
           have H := H1
           clear H1
           have H' := A_ H
           clear H
           go_wp2
           repeat (go_quiet (fail); try go_wp2)
           go_roundg k3
           case measure => have := HK1.out; have := HK2.out; have := HK3.out; omega
           case rel => exact ⟨(wrap64 (x6_2 + 1)), tf_, H', ⟨by have := HK1.out; have := HK2.out; have := HK3.out; omega⟩, dr_⟩
          ·
           replace c15 := Bool.eq_false_iff.mpr c15
           subst c15
           have H1 : (some false) = some r := by rw [if_neg (show ¬ (false = true) by decide)] at H; exact H
           clear H
           have H := H1
           clear H1
           obtain rfl := Option.some.inj H
           go_wp2
           repeat (go_quiet (fail); try go_wp2)
           go_ret
           exact ⟨tf_, dr_⟩
      ·
       rw [if_neg c4] at H
       have c4b0 := decide_eq_false c4
       clear c4
       have H' := A_ H
       clear H
       go_wp2
       repeat (go_quiet (fail); try go_wp2)
       go_roundg k2
       case measure => have := HK1.out; have := HK2.out; omega
       case rel => exact ⟨(wrap64 (x5_1 + 1)), tf_, H', ⟨by have := HK1.out; have := HK2.out; omega⟩, dr_⟩
   ·
    rw [if_neg c3] at H
    have c3b0 := decide_eq_false c3
    clear c3
    obtain rfl := Option.some.inj H
    go_wp2
    repeat (go_quiet (fail); try go_wp2)
    go_ret
    exact ⟨tf_, dr_⟩

end
end Go.Proofs.Ythlcaikplebpmaa.P
