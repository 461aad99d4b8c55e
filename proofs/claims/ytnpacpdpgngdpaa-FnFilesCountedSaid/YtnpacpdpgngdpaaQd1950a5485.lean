-- printed functions (wip/slim.py)
import Derived.Test.YtnpacpdpgngdpaaPx0
namespace Go.Proofs.Ytnpacpdpgngdpaa.P
noncomputable section
set_option maxHeartbeats 8000000
set_option maxRecDepth 100000
open Go.RowKit Go.Proofs.YtnpacpdpgngdpaaW.PrintWords Go.Proofs.YtnpacpdpgngdpaaW.PrintLast Go.Proofs.YtnpacpdpgngdpaaW.PrintMore
attribute [local go_sem] max2_int min2_int max_two min_two max_three min_three max_four min_four   -- for this text's walks alone
set_option linter.unusedVariables false
set_option linter.unusedSimpArgs false

/-! ### spec_l1In: function 137 -/
def spec_l1In.f (a0 : Int) (a1 : Int) (a2 : Int) : Option (Bool) := if a0 ≥ a1 then (some (decide (a0 ≤ a2))) else (some false)
theorem spec_l1In.calls (a0 : Int) (a1 : Int) (a2 : Int) (r : Bool) (w : World) (h : spec_l1In.f a0 a1 a2 = some r) :
  Calls Try.prog 137 #[.int .i64 a0, .int .i64 a1, .int .i64 a2] w fun e w' => e = .returned (.bool r) ∧ Drawn0 w w' := by
 have H : (if a0 ≥ a1 then (some (decide (a0 ≤ a2))) else (some false)) = some r := h
 clear h
 by_cases c4 : a0 ≥ a1
 ·
  rw [if_pos c4] at H
  have c4b0 := decide_eq_true c4
  clear c4
  obtain rfl := Option.some.inj H
  go_enter Try.func137, Try.ntmps137
  go_wp2
  go_ret
  exact ⟨tf_, dr_⟩
 ·
  rw [if_neg c4] at H
  have c4b0 := decide_eq_false c4
  clear c4
  obtain rfl := Option.some.inj H
  go_enter Try.func137, Try.ntmps137
  go_wp2
  go_ret
  exact ⟨tf_, dr_⟩

/-! ### spec_l1All: function 168 -/
def spec_l1All.l0 : Nat → Int → Int → List Int → Int → Int → Option (Bool)
 | 0, _, _, _, _, _ => none
 | k + 1, x1, x2, x9, x10, x11 => if x11 < x10 then (if 0 ≤ x11 then (if x11 < (x9.length : Int) then ((spec_l1In.f (rd x9 x11) x1 x2).bind fun t104 => (if t104 = true then (spec_l1All.l0 k x1 x2 x9 x10 (wrap64 (x11 + 1))) else (some false))) else (none)) else (none)) else (some true)
def spec_l1All.f (k : Nat) (l0 : List Int) (a1 : Int) (a2 : Int) : Option (Bool) := spec_l1All.l0 k a1 a2 l0 (l0.length : Int) 0
theorem spec_l1All.mono_l : ∀ k, (∀ y0 y1 y2 y3 y4, LeO (spec_l1All.l0 k y0 y1 y2 y3 y4) (spec_l1All.l0 (k + 1) y0 y1 y2 y3 y4))
 | 0 => fun _ _ _ _ _ r h => by simp [spec_l1All.l0] at h
 | k + 1 => by
  have ih0 := spec_l1All.mono_l k
  ·
   intro y0 y1 y2 y3 y4
   unfold spec_l1All.l0
   repeat' first | (with_reducible first | exact ih0 _ _ _ _ _ | exact LeO.refl _ | exact LeO.none _ | refine LeO.ite ?_ ?_ | refine LeO.bind ?_ (fun _ => ?_)) | exact ih0 _ _ _ _ _ | exact LeO.none _ | refine LeO.ite ?_ ?_ | refine LeO.bind ?_ (fun _ => ?_)
theorem spec_l1All.mono : ∀ a0 a1 a2 k, LeO (spec_l1All.f k a0 a1 a2) (spec_l1All.f (k + 1) a0 a1 a2) := by
 intro a0 a1 a2 k
 have ih0 := spec_l1All.mono_l k
 unfold spec_l1All.f
 repeat' first | (with_reducible first | exact ih0 _ _ _ _ _ | exact LeO.refl _ | exact LeO.none _ | refine LeO.ite ?_ ?_ | refine LeO.bind ?_ (fun _ => ?_)) | exact ih0 _ _ _ _ _ | exact LeO.none _ | refine LeO.ite ?_ ?_ | refine LeO.bind ?_ (fun _ => ?_)
theorem spec_l1All.calls (k : Nat) (A0 : Option Addr) (c0 : Nat) (l0 : List Int) (a1 : Int) (a2 : Int) (r : Bool) (w : World) (hr0 : Kd.C (Kd.int .i64) w A0 l0.length l0) (hc0 : l0.length ≤ c0) (h : spec_l1All.f k l0 a1 a2 = some r) :
  Calls Try.prog 168 #[.slice A0 l0.length c0, .int .i64 a1, .int .i64 a2] w fun e w' => e = .returned (.bool r) ∧ Drawn0 w w' := by
 have HR0 := A_ hr0
 have HC0 := A_ hc0
 clear hr0 hc0
 have H : (spec_l1All.l0 k a1 a2 l0 (l0.length : Int) 0) = some r := h
 clear h
 have H' := A_ H
 clear H
 go_enter Try.func168, Try.ntmps168
 go_wp2
 go_loopg [11] k (fun kq v11 w' => ∃ (x11_1 : Int), v11 = .int .i64 x11_1 ∧ Aside0 (spec_l1All.l0 kq a1 a2 l0 (l0.length : Int) x11_1 = some r) ∧ Aside0 (kq ≤ k) ∧ Drawn0 w w')
 case atStart => exact ⟨(0), tf_, H', ⟨Nat.le_refl _⟩, dr_⟩
 case round =>
  clear H'
  try clear c1
  try clear p2
  obtain ⟨x11_1, rfl, HA, HK1, ⟨m1, rfl⟩⟩ := hrel
  cases gk with
  | zero => exact absurd HA.out (by simp [spec_l1All.l0])
  | succ k1 =>
   have H := HA.out
   clear HA
   simp only [spec_l1All.l0] at H
   by_cases c4 : x11_1 < (l0.length : Int)
   ·
    rw [if_pos c4] at H
    have c4b0 := decide_eq_true c4
    clear c4
    by_cases c5 : 0 ≤ x11_1
    ·
     rw [if_pos c5] at H
     have c5b0 := decide_eq_true c5
     clear c5
     by_cases c6 : x11_1 < (l0.length : Int)
     ·
      rw [if_pos c6] at H
      have c6b0 := decide_eq_true c6
      clear c6
      replace H := Option.bind_eq_some_iff.mp H
      obtain ⟨t104, A70, H⟩ := H
      replace H : (if t104 = true then (spec_l1All.l0 k1 a1 a2 l0 (l0.length : Int) (wrap64 (x11_1 + 1))) else (some false)) = some r := H
      have A7 := A_ A70
      clear A70
      by_cases c8 : t104 = true
      ·
       subst c8
       have H1 : (spec_l1All.l0 k1 a1 a2 l0 (l0.length : Int) (wrap64 (x11_1 + 1))) = some r := by rw [if_pos rfl] at H; exact H
       clear H
       have H := H1
       clear H1
       have H' := A_ H
       clear H
       have p103 : 0 ≤ (x11_1 : Int) := od_
       have q103 : x11_1 < (l0.length : Int) := od_
       obtain ⟨ad103, e103, hx103_0⟩ := Kd.at_int HR0.out x11_1 p103 q103
       cases e103
       replace p103 := eq_true p103
       replace q103 := eq_true q103
       go_wp2_with (first | (refine gc_ 137 ?_; refine goesT_ (some 18) Try.func137 #[.int .i64 (rd l0 x11_1), .int .i64 a1, .int .i64 a2] ?_; (with_reducible refine (spec_l1In.calls (rd l0 x11_1) a1 a2 true _ A7.out).mono ?_); rintro e w' ⟨rfl, ⟨nd, rfl⟩⟩; refine ⟨_, rfl, ?_⟩))
       go_roundg k1
       case measure => have := HK1.out; omega
       case rel => exact ⟨(wrap64 (x11_1 + 1)), tf_, H', ⟨by have := HK1.out; omega⟩, dr_⟩
      ·
       replace c8 := Bool.eq_false_iff.mpr c8
       subst c8
       have H1 : (some false) = some r := by rw [if_neg (show ¬ (false = true) by decide)] at H; exact H
       clear H
       have H := H1
       clear H1
       obtain rfl := Option.some.inj H
       have p103 : 0 ≤ (x11_1 : Int) := od_
       have q103 : x11_1 < (l0.length : Int) := od_
       obtain ⟨ad103, e103, hx103_0⟩ := Kd.at_int HR0.out x11_1 p103 q103
       cases e103
       replace p103 := eq_true p103
       replace q103 := eq_true q103
       go_wp2_with (first | (refine gc_ 137 ?_; refine goesT_ (some 18) Try.func137 #[.int .i64 (rd l0 x11_1), .int .i64 a1, .int .i64 a2] ?_; (with_reducible refine (spec_l1In.calls (rd l0 x11_1) a1 a2 false _ A7.out).mono ?_); rintro e w' ⟨rfl, ⟨nd, rfl⟩⟩; refine ⟨_, rfl, ?_⟩))
       go_ret
       exact ⟨tf_, dr_⟩
     ·
      rw [if_neg c6] at H
      exact absurd H (by simp)
    ·
     rw [if_neg c5] at H
     exact absurd H (by simp)
   ·
    rw [if_neg c4] at H
    have c4b0 := decide_eq_false c4
    clear c4
    obtain rfl := Option.some.inj H
    go_wp2
    go_ret
    exact ⟨tf_, dr_⟩

/-! ### spec_boSide: function 230 -/
def spec_boSide.f (a0 : Int) : Option (Bool) := (spec_l1In.f a0 1 6).bind fun t105 => (some t105)
theorem spec_boSide.calls (a0 : Int) (r : Bool) (w : World) (h : spec_boSide.f a0 = some r) :
  Calls Try.prog 230 #[.int .i64 a0] w fun e w' => e = .returned (.bool r) ∧ Drawn0 w w' := by
 have H : ((spec_l1In.f a0 1 6).bind fun t105 => (some t105)) = some r := h
 clear h
 replace H := Option.bind_eq_some_iff.mp H
 obtain ⟨t105, A20, H⟩ := H
 replace H : (some t105) = some r := H
 have A2 := A_ A20
 clear A20
 obtain rfl := Option.some.inj H
 go_enter Try.func230, Try.ntmps230
 go_wp2_with (first | (refine gc_ 137 ?_; refine goesT_ (some 4) Try.func137 #[.int .i64 a0, .int .i64 1, .int .i64 6] ?_; (with_reducible refine (spec_l1In.calls a0 1 6 t105 _ A2.out).mono ?_); rintro e w' ⟨rfl, ⟨nd, rfl⟩⟩; refine ⟨_, rfl, ?_⟩))
 go_ret
 exact ⟨tf_, dr_⟩

/-! ### spec_boGood: function 144 -/
def spec_boGood.f (k : Nat) (a0_0 : Int) (a0_1 : Int) (l0_2 : List Int) : Option (Bool) := (spec_boSide.f a0_0).bind fun t107 => (if t107 = true then ((spec_boSide.f a0_1).bind fun t108 => (if t108 = true then (if (l0_2.length : Int) = a0_0 then (if 0 ≤ a0_1 then ((spec_l1All.f k l0_2 0 (wrap64 ((shl .i64 1 a0_1) - 1))).bind fun t109 => (some t109)) else (none)) else (some false)) else (some false))) else (some false))
theorem spec_boGood.mono : ∀ a0 a1 a2 k, LeO (spec_boGood.f k a0 a1 a2) (spec_boGood.f (k + 1) a0 a1 a2) := by
 intro a0 a1 a2 k
 unfold spec_boGood.f
 repeat' first | (with_reducible first | exact spec_l1All.mono _ _ _ _ | exact LeO.refl _ | exact LeO.none _ | refine LeO.ite ?_ ?_ | refine LeO.bind ?_ (fun _ => ?_)) | exact spec_l1All.mono _ _ _ _ | exact LeO.none _ | refine LeO.ite ?_ ?_ | refine LeO.bind ?_ (fun _ => ?_)
theorem spec_boGood.calls (k : Nat) (a0_0 : Int) (a0_1 : Int) (A0_2 : Option Addr) (c0_2 : Nat) (l0_2 : List Int) (r : Bool) (w : World) (hr0_2 : Kd.C (Kd.int .i64) w A0_2 l0_2.length l0_2) (hc0_2 : l0_2.length ≤ c0_2) (h : spec_boGood.f k a0_0 a0_1 l0_2 = some r) :
  Calls Try.prog 144 #[.agg #[.int .i64 a0_0, .int .i64 a0_1, .slice A0_2 l0_2.length c0_2]] w fun e w' => e = .returned (.bool r) ∧ Below w.heap.size w w' := by
 have hu28 := Try.underlying28
 have HR0_2 := A_ hr0_2
 have HC0_2 := A_ hc0_2
 clear hr0_2 hc0_2
 have HB := A_ (Below.refl w.heap.size w)
 have H : ((spec_boSide.f a0_0).bind fun t107 => (if t107 = true then ((spec_boSide.f a0_1).bind fun t108 => (if t108 = true then (if (l0_2.length : Int) = a0_0 then (if 0 ≤ a0_1 then ((spec_l1All.f k l0_2 0 (wrap64 ((shl .i64 1 a0_1) - 1))).bind fun t109 => (some t109)) else (none)) else (some false)) else (some false))) else (some false))) = some r := h
 clear h
 replace H := Option.bind_eq_some_iff.mp H
 obtain ⟨t107, A20, H⟩ := H
 replace H : (if t107 = true then ((spec_boSide.f a0_1).bind fun t108 => (if t108 = true then (if (l0_2.length : Int) = a0_0 then (if 0 ≤ a0_1 then ((spec_l1All.f k l0_2 0 (wrap64 ((shl .i64 1 a0_1) - 1))).bind fun t109 => (some t109)) else (none)) else (some false)) else (some false))) else (some false)) = some r := H
 have A2 := A_ A20
 clear A20
 by_cases c3 : t107 = true
 ·
  subst c3
  have H1 : ((spec_boSide.f a0_1).bind fun t108 => (if t108 = true then (if (l0_2.length : Int) = a0_0 then (if 0 ≤ a0_1 then ((spec_l1All.f k l0_2 0 (wrap64 ((shl .i64 1 a0_1) - 1))).bind fun t109 => (some t109)) else (none)) else (some false)) else (some false))) = some r := by rw [if_pos rfl] at H; exact H
  clear H
  have H := H1
  clear H1
  replace H := Option.bind_eq_some_iff.mp H
  obtain ⟨t108, A40, H⟩ := H
  replace H : (if t108 = true then (if (l0_2.length : Int) = a0_0 then (if 0 ≤ a0_1 then ((spec_l1All.f k l0_2 0 (wrap64 ((shl .i64 1 a0_1) - 1))).bind fun t109 => (some t109)) else (none)) else (some false)) else (some false)) = some r := H
  have A4 := A_ A40
  clear A40
  by_cases c5 : t108 = true
  ·
   subst c5
   have H1 : (if (l0_2.length : Int) = a0_0 then (if 0 ≤ a0_1 then ((spec_l1All.f k l0_2 0 (wrap64 ((shl .i64 1 a0_1) - 1))).bind fun t109 => (some t109)) else (none)) else (some false)) = some r := by rw [if_pos rfl] at H; exact H
   clear H
   have H := H1
   clear H1
   by_cases c6 : (l0_2.length : Int) = a0_0
   ·
    rw [if_pos c6] at H
    have c6b0 : ((l0_2.length : Int) == a0_0) = true := beq_iff_eq.mpr c6
    have c6b1 : ((l0_2.length : Int) != a0_0) = false := bne_eq_false_iff_eq.mpr c6
    clear c6
    by_cases c7 : 0 ≤ a0_1
    ·
     rw [if_pos c7] at H
     have c7b0 := eq_true c7
     have c7b1 := decide_eq_true c7
     clear c7
     obtain ⟨ji8, hji8⟩ : ∃ j_ : Int, (shl .i64 1 a0_1) = j_ := ⟨_, rfl⟩
     replace H : ((spec_l1All.f k l0_2 0 (wrap64 ((ji8) - 1))).bind fun t109 => (some t109)) = some r := by first | (rw [hji8] at H; exact H) | (simp only [hji8] at H ⊢; exact H)
     (try rw [hji8] at A2)
     (try rw [hji8] at A4)
     have hji8_ : (IntKind.i64.wrap (1 * 2 ^ min a0_1.toNat 64)) = ji8 := hji8
     have hji8z : a0_1 ≤ 64 → (IntKind.i64.wrap (1 * 2 ^ a0_1.toNat)) = ji8 := shl_small hji8
     have hji8u : (IntKind.i64.wrap (2 ^ min a0_1.toNat 64)) = ji8 := by have h_ := hji8_; rw [Int.one_mul] at h_; exact h_
     have hji8v : a0_1 ≤ 64 → (IntKind.i64.wrap (2 ^ a0_1.toNat)) = ji8 := fun hle_ => by have h_ := hji8z hle_; rw [Int.one_mul] at h_; exact h_
     have hji8y : (wrap64 (1 * 2 ^ min a0_1.toNat 64)) = ji8 := (i64_w _).symm.trans hji8_
     have hji8x : a0_1 ≤ 64 → (wrap64 (1 * 2 ^ a0_1.toNat)) = ji8 := fun h_ => (i64_w _).symm.trans (hji8z h_)
     replace H := Option.bind_eq_some_iff.mp H
     obtain ⟨t109, A90, H⟩ := H
     replace H : (some t109) = some r := H
     have A9 := A_ A90
     clear A90
     obtain rfl := Option.some.inj H
     go_enter Try.func144, Try.ntmps144
     go_wp2_with (first | (refine gd_ 1 ?_; (try (refine gate_guard (by rfl) ?_; dsimp only)); refine bx_ 1 #[.int .i64 a0_0, .int .i64 a0_1, .slice A0_2 l0_2.length c0_2] 28 ?_; intro gb106 hg w10 hbox hb; have BK106 := A_ (hbox); have GW106 := A_ ((ts_ hg : w.heap.size ≤ gb106)); have GE106 := A_ ((ts_ hg : w.heap.size ≤ gb106)); replace HB := A_ (below_step tb_ hb); clear hb hbox hg; obtain ⟨hcz11_0, hcz11_1, hcz11_2, hfz11_0, hfz11_1, hfz11_2⟩ := cf3_ BK106.out) | (go_at_call 230; (with_reducible refine (spec_boSide.calls a0_0 true _ A2.out).mono ?_); rintro e w' ⟨rfl, ⟨nd, rfl⟩⟩; (try exact dn_)) | (go_at_call 230; (with_reducible refine (spec_boSide.calls a0_1 true _ A4.out).mono ?_); rintro e w' ⟨rfl, ⟨nd, rfl⟩⟩; (try exact dn_)) | (go_at_call 168; (with_reducible refine (spec_l1All.calls k _ _ l0_2 0 (wrap64 ((ji8) - 1)) t109 _ ?side1 ?side2 A9.out).mono ?_); (case side1 => repeat (first | exact (Kd.C_below HR0_2.out tb_) | (with_reducible refine Kd.C_alloc ?_ _) | (with_reducible refine Kd.C_drewN ?_ _) | (with_reducible refine Kd.C_drew ?_))); (case side2 => exact HC0_2.out); rintro e w' ⟨rfl, ⟨nd, rfl⟩⟩; (try exact dn_)))
     repeat (go_quiet (first | (refine gd_ 1 ?_; (try (refine gate_guard (by rfl) ?_; dsimp only)); refine bx_ 1 #[.int .i64 a0_0, .int .i64 a0_1, .slice A0_2 l0_2.length c0_2] 28 ?_; intro gb106 hg w10 hbox hb; have BK106 := A_ (hbox); have GW106 := A_ ((ts_ hg : w.heap.size ≤ gb106)); have GE106 := A_ ((ts_ hg : w.heap.size ≤ gb106)); replace HB := A_ (below_step tb_ hb); clear hb hbox hg; obtain ⟨hcz11_0, hcz11_1, hcz11_2, hfz11_0, hfz11_1, hfz11_2⟩ := cf3_ BK106.out) | (go_at_call 230; (with_reducible refine (spec_boSide.calls a0_0 true _ A2.out).mono ?_); rintro e w' ⟨rfl, ⟨nd, rfl⟩⟩; (try exact dn_)) | (go_at_call 230; (with_reducible refine (spec_boSide.calls a0_1 true _ A4.out).mono ?_); rintro e w' ⟨rfl, ⟨nd, rfl⟩⟩; (try exact dn_)) | (go_at_call 168; (with_reducible refine (spec_l1All.calls k _ _ l0_2 0 (wrap64 ((ji8) - 1)) t109 _ ?side1 ?side2 A9.out).mono ?_); (case side1 => repeat (first | exact (Kd.C_below HR0_2.out tb_) | (with_reducible refine Kd.C_alloc ?_ _) | (with_reducible refine Kd.C_drewN ?_ _) | (with_reducible refine Kd.C_drew ?_))); (case side2 => exact HC0_2.out); rintro e w' ⟨rfl, ⟨nd, rfl⟩⟩; (try exact dn_))); try go_wp2_with (first | (refine gd_ 1 ?_; (try (refine gate_guard (by rfl) ?_; dsimp only)); refine bx_ 1 #[.int .i64 a0_0, .int .i64 a0_1, .slice A0_2 l0_2.length c0_2] 28 ?_; intro gb106 hg w10 hbox hb; have BK106 := A_ (hbox); have GW106 := A_ ((ts_ hg : w.heap.size ≤ gb106)); have GE106 := A_ ((ts_ hg : w.heap.size ≤ gb106)); replace HB := A_ (below_step tb_ hb); clear hb hbox hg; obtain ⟨hcz11_0, hcz11_1, hcz11_2, hfz11_0, hfz11_1, hfz11_2⟩ := cf3_ BK106.out) | (go_at_call 230; (with_reducible refine (spec_boSide.calls a0_0 true _ A2.out).mono ?_); rintro e w' ⟨rfl, ⟨nd, rfl⟩⟩; (try exact dn_)) | (go_at_call 230; (with_reducible refine (spec_boSide.calls a0_1 true _ A4.out).mono ?_); rintro e w' ⟨rfl, ⟨nd, rfl⟩⟩; (try exact dn_)) | (go_at_call 168; (with_reducible refine (spec_l1All.calls k _ _ l0_2 0 (wrap64 ((ji8) - 1)) t109 _ ?side1 ?side2 A9.out).mono ?_); (case side1 => repeat (first | exact (Kd.C_below HR0_2.out tb_) | (with_reducible refine Kd.C_alloc ?_ _) | (with_reducible refine Kd.C_drewN ?_ _) | (with_reducible refine Kd.C_drew ?_))); (case side2 => exact HC0_2.out); rintro e w' ⟨rfl, ⟨nd, rfl⟩⟩; (try exact dn_))))
     go_ret
     exact ⟨by first | rfl | (simp [errW_none, errW_some] <;> rfl) | (simp only [← hji8]; first | rfl | (simp [errW_none, errW_some] <;> rfl)) | (simp [*, errW_none, errW_some] <;> rfl), tb_⟩
    ·
     rw [if_neg c7] at H
     exact absurd H (by simp)
   ·
    rw [if_neg c6] at H
    have c6b0 : ((l0_2.length : Int) == a0_0) = false := beq_eq_false_iff_ne.mpr c6
    have c6b1 : ((l0_2.length : Int) != a0_0) = true := bne_iff_ne.mpr c6
    obtain rfl := Option.some.inj H
    go_enter Try.func144, Try.ntmps144
    go_wp2_with (first | (refine gd_ 1 ?_; (try (refine gate_guard (by rfl) ?_; dsimp only)); refine bx_ 1 #[.int .i64 a0_0, .int .i64 a0_1, .slice A0_2 l0_2.length c0_2] 28 ?_; intro gb106 hg w12 hbox hb; have BK106 := A_ (hbox); have GW106 := A_ ((ts_ hg : w.heap.size ≤ gb106)); have GE106 := A_ ((ts_ hg : w.heap.size ≤ gb106)); replace HB := A_ (below_step tb_ hb); clear hb hbox hg; obtain ⟨hcz13_0, hcz13_1, hcz13_2, hfz13_0, hfz13_1, hfz13_2⟩ := cf3_ BK106.out) | (go_at_call 230; (with_reducible refine (spec_boSide.calls a0_0 true _ A2.out).mono ?_); rintro e w' ⟨rfl, ⟨nd, rfl⟩⟩; (try exact dn_)) | (go_at_call 230; (with_reducible refine (spec_boSide.calls a0_1 true _ A4.out).mono ?_); rintro e w' ⟨rfl, ⟨nd, rfl⟩⟩; (try exact dn_)))
    repeat (go_quiet (first | (refine gd_ 1 ?_; (try (refine gate_guard (by rfl) ?_; dsimp only)); refine bx_ 1 #[.int .i64 a0_0, .int .i64 a0_1, .slice A0_2 l0_2.length c0_2] 28 ?_; intro gb106 hg w12 hbox hb; have BK106 := A_ (hbox); have GW106 := A_ ((ts_ hg : w.heap.size ≤ gb106)); have GE106 := A_ ((ts_ hg : w.heap.size ≤ gb106)); replace HB := A_ (below_step tb_ hb); clear hb hbox hg; obtain ⟨hcz13_0, hcz13_1, hcz13_2, hfz13_0, hfz13_1, hfz13_2⟩ := cf3_ BK106.out) | (go_at_call 230; (with_reducible refine (spec_boSide.calls a0_0 true _ A2.out).mono ?_); rintro e w' ⟨rfl, ⟨nd, rfl⟩⟩; (try exact dn_)) | (go_at_call 230; (with_reducible refine (spec_boSide.calls a0_1 true _ A4.out).mono ?_); rintro e w' ⟨rfl, ⟨nd, rfl⟩⟩; (try exact dn_))); try go_wp2_with (first | (refine gd_ 1 ?_; (try (refine gate_guard (by rfl) ?_; dsimp only)); refine bx_ 1 #[.int .i64 a0_0, .int .i64 a0_1, .slice A0_2 l0_2.length c0_2] 28 ?_; intro gb106 hg w12 hbox hb; have BK106 := A_ (hbox); have GW106 := A_ ((ts_ hg : w.heap.size ≤ gb106)); have GE106 := A_ ((ts_ hg : w.heap.size ≤ gb106)); replace HB := A_ (below_step tb_ hb); clear hb hbox hg; obtain ⟨hcz13_0, hcz13_1, hcz13_2, hfz13_0, hfz13_1, hfz13_2⟩ := cf3_ BK106.out) | (go_at_call 230; (with_reducible refine (spec_boSide.calls a0_0 true _ A2.out).mono ?_); rintro e w' ⟨rfl, ⟨nd, rfl⟩⟩; (try exact dn_)) | (go_at_call 230; (with_reducible refine (spec_boSide.calls a0_1 true _ A4.out).mono ?_); rintro e w' ⟨rfl, ⟨nd, rfl⟩⟩; (try exact dn_))))
    go_ret
    exact ⟨te_, tb_⟩
  ·
   replace c5 := Bool.eq_false_iff.mpr c5
   subst c5
   have H1 : (some false) = some r := by rw [if_neg (show ¬ (false = true) by decide)] at H; exact H
   clear H
   have H := H1
   clear H1
   obtain rfl := Option.some.inj H
   go_enter Try.func144, Try.ntmps144
   go_wp2_with (first | (refine gd_ 1 ?_; (try (refine gate_guard (by rfl) ?_; dsimp only)); refine bx_ 1 #[.int .i64 a0_0, .int .i64 a0_1, .slice A0_2 l0_2.length c0_2] 28 ?_; intro gb106 hg w14 hbox hb; have BK106 := A_ (hbox); have GW106 := A_ ((ts_ hg : w.heap.size ≤ gb106)); have GE106 := A_ ((ts_ hg : w.heap.size ≤ gb106)); replace HB := A_ (below_step tb_ hb); clear hb hbox hg; obtain ⟨hcz15_0, hcz15_1, hcz15_2, hfz15_0, hfz15_1, hfz15_2⟩ := cf3_ BK106.out) | (go_at_call 230; (with_reducible refine (spec_boSide.calls a0_0 true _ A2.out).mono ?_); rintro e w' ⟨rfl, ⟨nd, rfl⟩⟩; (try exact dn_)) | (go_at_call 230; (with_reducible refine (spec_boSide.calls a0_1 false _ A4.out).mono ?_); rintro e w' ⟨rfl, ⟨nd, rfl⟩⟩; (try exact dn_)))
   repeat (go_quiet (first | (refine gd_ 1 ?_; (try (refine gate_guard (by rfl) ?_; dsimp only)); refine bx_ 1 #[.int .i64 a0_0, .int .i64 a0_1, .slice A0_2 l0_2.length c0_2] 28 ?_; intro gb106 hg w14 hbox hb; have BK106 := A_ (hbox); have GW106 := A_ ((ts_ hg : w.heap.size ≤ gb106)); have GE106 := A_ ((ts_ hg : w.heap.size ≤ gb106)); replace HB := A_ (below_step tb_ hb); clear hb hbox hg; obtain ⟨hcz15_0, hcz15_1, hcz15_2, hfz15_0, hfz15_1, hfz15_2⟩ := cf3_ BK106.out) | (go_at_call 230; (with_reducible refine (spec_boSide.calls a0_0 true _ A2.out).mono ?_); rintro e w' ⟨rfl, ⟨nd, rfl⟩⟩; (try exact dn_)) | (go_at_call 230; (with_reducible refine (spec_boSide.calls a0_1 false _ A4.out).mono ?_); rintro e w' ⟨rfl, ⟨nd, rfl⟩⟩; (try exact dn_))); try go_wp2_with (first | (refine gd_ 1 ?_; (try (refine gate_guard (by rfl) ?_; dsimp only)); refine bx_ 1 #[.int .i64 a0_0, .int .i64 a0_1, .slice A0_2 l0_2.length c0_2] 28 ?_; intro gb106 hg w14 hbox hb; have BK106 := A_ (hbox); have GW106 := A_ ((ts_ hg : w.heap.size ≤ gb106)); have GE106 := A_ ((ts_ hg : w.heap.size ≤ gb106)); replace HB := A_ (below_step tb_ hb); clear hb hbox hg; obtain ⟨hcz15_0, hcz15_1, hcz15_2, hfz15_0, hfz15_1, hfz15_2⟩ := cf3_ BK106.out) | (go_at_call 230; (with_reducible refine (spec_boSide.calls a0_0 true _ A2.out).mono ?_); rintro e w' ⟨rfl, ⟨nd, rfl⟩⟩; (try exact dn_)) | (go_at_call 230; (with_reducible refine (spec_boSide.calls a0_1 false _ A4.out).mono ?_); rintro e w' ⟨rfl, ⟨nd, rfl⟩⟩; (try exact dn_))))
   go_ret
   exact ⟨te_, tb_⟩
 ·
  replace c3 := Bool.eq_false_iff.mpr c3
  subst c3
  have H1 : (some false) = some r := by rw [if_neg (show ¬ (false = true) by decide)] at H; exact H
  clear H
  have H := H1
  clear H1
  obtain rfl := Option.some.inj H
  go_enter Try.func144, Try.ntmps144
  go_wp2_with (first | (refine gd_ 1 ?_; (try (refine gate_guard (by rfl) ?_; dsimp only)); refine bx_ 1 #[.int .i64 a0_0, .int .i64 a0_1, .slice A0_2 l0_2.length c0_2] 28 ?_; intro gb106 hg w16 hbox hb; have BK106 := A_ (hbox); have GW106 := A_ ((ts_ hg : w.heap.size ≤ gb106)); have GE106 := A_ ((ts_ hg : w.heap.size ≤ gb106)); replace HB := A_ (below_step tb_ hb); clear hb hbox hg; obtain ⟨hcz17_0, hcz17_1, hcz17_2, hfz17_0, hfz17_1, hfz17_2⟩ := cf3_ BK106.out) | (go_at_call 230; (with_reducible refine (spec_boSide.calls a0_0 false _ A2.out).mono ?_); rintro e w' ⟨rfl, ⟨nd, rfl⟩⟩; (try exact dn_)))
  repeat (go_quiet (first | (refine gd_ 1 ?_; (try (refine gate_guard (by rfl) ?_; dsimp only)); refine bx_ 1 #[.int .i64 a0_0, .int .i64 a0_1, .slice A0_2 l0_2.length c0_2] 28 ?_; intro gb106 hg w16 hbox hb; have BK106 := A_ (hbox); have GW106 := A_ ((ts_ hg : w.heap.size ≤ gb106)); have GE106 := A_ ((ts_ hg : w.heap.size ≤ gb106)); replace HB := A_ (below_step tb_ hb); clear hb hbox hg; obtain ⟨hcz17_0, hcz17_1, hcz17_2, hfz17_0, hfz17_1, hfz17_2⟩ := cf3_ BK106.out) | (go_at_call 230; (with_reducible refine (spec_boSide.calls a0_0 false _ A2.out).mono ?_); rintro e w' ⟨rfl, ⟨nd, rfl⟩⟩; (try exact dn_))); try go_wp2_with (first | (refine gd_ 1 ?_; (try (refine gate_guard (by rfl) ?_; dsimp only)); refine bx_ 1 #[.int .i64 a0_0, .int .i64 a0_1, .slice A0_2 l0_2.length c0_2] 28 ?_; intro gb106 hg w16 hbox hb; have BK106 := A_ (hbox); have GW106 := A_ ((ts_ hg : w.heap.size ≤ gb106)); have GE106 := A_ ((ts_ hg : w.heap.size ≤ gb106)); replace HB := A_ (below_step tb_ hb); clear hb hbox hg; obtain ⟨hcz17_0, hcz17_1, hcz17_2, hfz17_0, hfz17_1, hfz17_2⟩ := cf3_ BK106.out) | (go_at_call 230; (with_reducible refine (spec_boSide.calls a0_0 false _ A2.out).mono ?_); rintro e w' ⟨rfl, ⟨nd, rfl⟩⟩; (try exact dn_))))
  go_ret
  exact ⟨te_, tb_⟩

/-! ### spec_boHas: function 121 -/
def spec_boHas.f (a0_0 : Int) (a0_1 : Int) (l0_2 : List Int) (a1 : Int) (a2 : Int) : Option (Bool) := if 0 ≤ a1 then (if a1 < (l0_2.length : Int) then (if 0 ≤ a2 then (some ((Int.tmod (shr .i64 (rd l0_2 a1) a2) 2) == 1)) else (none)) else (none)) else (none)
theorem spec_boHas.calls (a0_0 : Int) (a0_1 : Int) (A0_2 : Option Addr) (c0_2 : Nat) (l0_2 : List Int) (a1 : Int) (a2 : Int) (r : Bool) (w : World) (hr0_2 : Kd.C (Kd.int .i64) w A0_2 l0_2.length l0_2) (hc0_2 : l0_2.length ≤ c0_2) (h : spec_boHas.f a0_0 a0_1 l0_2 a1 a2 = some r) :
  Calls Try.prog 121 #[.agg #[.int .i64 a0_0, .int .i64 a0_1, .slice A0_2 l0_2.length c0_2], .int .i64 a1, .int .i64 a2] w fun e w' => e = .returned (.bool r) ∧ Below w.heap.size w w' := by
 have hu28 := Try.underlying28
 have HR0_2 := A_ hr0_2
 have HC0_2 := A_ hc0_2
 clear hr0_2 hc0_2
 have HB := A_ (Below.refl w.heap.size w)
 have H : (if 0 ≤ a1 then (if a1 < (l0_2.length : Int) then (if 0 ≤ a2 then (some ((Int.tmod (shr .i64 (rd l0_2 a1) a2) 2) == 1)) else (none)) else (none)) else (none)) = some r := h
 clear h
 by_cases c4 : 0 ≤ a1
 ·
  rw [if_pos c4] at H
  have c4b0 := decide_eq_true c4
  clear c4
  by_cases c5 : a1 < (l0_2.length : Int)
  ·
   rw [if_pos c5] at H
   have c5b0 := decide_eq_true c5
   clear c5
   by_cases c6 : 0 ≤ a2
   ·
    rw [if_pos c6] at H
    have c6b0 := eq_true c6
    have c6b1 := decide_eq_true c6
    clear c6
    obtain ⟨ji7, hji7⟩ : ∃ j_ : Int, (shr .i64 (rd l0_2 a1) a2) = j_ := ⟨_, rfl⟩
    replace H : (some ((Int.tmod (ji7) 2) == 1)) = some r := by first | (rw [hji7] at H; exact H) | (simp only [hji7] at H ⊢; exact H)
    have hji7_ : ((rd l0_2 a1) / 2 ^ min a2.toNat 64) = ji7 := hji7
    have hji7z : a2 ≤ 64 → ((rd l0_2 a1) / 2 ^ a2.toNat) = ji7 := shr_small hji7
    obtain rfl := Option.some.inj H
    go_enter Try.func121, Try.ntmps121
    go_wp2_with (first | (refine gd_ 3 ?_; refine bx_ 3 #[.int .i64 a0_0, .int .i64 a0_1, .slice A0_2 l0_2.length c0_2] 28 ?_; intro gb114 hg w8 hbox hb; have BK114 := A_ (hbox); have GW114 := A_ ((ts_ hg : w.heap.size ≤ gb114)); have GE114 := A_ ((ts_ hg : w.heap.size ≤ gb114)); replace HB := A_ (below_step tb_ hb); clear hb hbox hg; obtain ⟨hcz9_0, hcz9_1, hcz9_2, hfz9_0, hfz9_1, hfz9_2⟩ := cf3_ BK114.out; have p115 : 0 ≤ (a1 : Int) := od_; have q115 : a1 < (l0_2.length : Int) := od_; obtain ⟨ad115, e115, hx115_0⟩ := Kd.at_int HR0_2.out a1 p115 q115; cases e115; (try replace hx115_0 := (HB.out.cell (World.block_lt_of_cell? w _ hx115_0)).trans hx115_0); replace p115 := eq_true p115; replace q115 := eq_true q115))
    go_ret
    exact ⟨by first | rfl | (simp [errW_none, errW_some] <;> rfl) | (simp only [← hji7]; first | rfl | (simp [errW_none, errW_some] <;> rfl)) | (simp [*, errW_none, errW_some] <;> rfl), tb_⟩
   ·
    rw [if_neg c6] at H
    exact absurd H (by simp)
  ·
   rw [if_neg c5] at H
   exact absurd H (by simp)
 ·
  rw [if_neg c4] at H
  exact absurd H (by simp)

end
end Go.Proofs.Ytnpacpdpgngdpaa.P
