-- printed functions (wip/slim.py)
import Derived.Test.YthlcaikplebpmaaPx0
import Derived.Test.YthlcaikplebpmaaLn
import Derived.Test.YthlcaikplebpmaaQ1f543403c0
namespace Go.Proofs.Ythlcaikplebpmaa.P
noncomputable section
set_option maxHeartbeats 8000000
set_option maxRecDepth 100000
open Go.RowKit Go.Proofs.YthlcaikplebpmaaW.PrintWords Go.Proofs.YthlcaikplebpmaaW.PrintLast Go.Proofs.YthlcaikplebpmaaW.PrintMore
attribute [local go_sem] max2_int min2_int max_two min_two max_three min_three max_four min_four   -- for this text's walks alone
set_option linter.unusedVariables false
set_option linter.unusedSimpArgs false

/-! ### laws_heldIntS: function 30 -/
def laws_heldIntS.l0 : Nat → List Int → Int → Int → Option (Int)
 | 0, _, _, _ => none
 | k + 1, x0, x1, x5 => if x5 < (x0.length : Int) then (if 0 ≤ x5 then (if (rd x0 x5) = x1 then (laws_heldIntS.l0 k x0 (wrap64 (x1 + 1)) (wrap64 (x5 + 1))) else (some (-1))) else (none)) else (some x1)
def laws_heldIntS.f (k : Nat) (l0 : List Int) (a1 : Int) : Option (Int) := laws_heldIntS.l0 k l0 a1 0
theorem laws_heldIntS.mono_l : ∀ k, (∀ y0 y1 y2, LeO (laws_heldIntS.l0 k y0 y1 y2) (laws_heldIntS.l0 (k + 1) y0 y1 y2))
 | 0 => fun _ _ _ r h => by simp [laws_heldIntS.l0] at h
 | k + 1 => by
  have ih0 := laws_heldIntS.mono_l k
  ·
   intro y0 y1 y2
   unfold laws_heldIntS.l0
   repeat' first | (with_reducible first | exact ih0 _ _ _ | exact LeO.refl _ | exact LeO.none _ | refine LeO.ite ?_ ?_ | refine LeO.bind ?_ (fun _ => ?_)) | exact ih0 _ _ _ | exact LeO.none _ | refine LeO.ite ?_ ?_ | refine LeO.bind ?_ (fun _ => ?_)
theorem laws_heldIntS.mono : ∀ a0 a1 k, LeO (laws_heldIntS.f k a0 a1) (laws_heldIntS.f (k + 1) a0 a1) := by
 intro a0 a1 k
 have ih0 := laws_heldIntS.mono_l k
 unfold laws_heldIntS.f
 repeat' first | (with_reducible first | exact ih0 _ _ _ | exact LeO.refl _ | exact LeO.none _ | refine LeO.ite ?_ ?_ | refine LeO.bind ?_ (fun _ => ?_)) | exact ih0 _ _ _ | exact LeO.none _ | refine LeO.ite ?_ ?_ | refine LeO.bind ?_ (fun _ => ?_)
theorem laws_heldIntS.calls (k : Nat) (A0 : Option Addr) (c0 : Nat) (l0 : List Int) (a1 : Int) (r : Int) (w : World) (hr0 : Kd.C (Kd.int .i64) w A0 l0.length l0) (hc0 : l0.length ≤ c0) (h : laws_heldIntS.f k l0 a1 = some r) :
  Calls Try.prog 30 #[.slice A0 l0.length c0, .int .i64 a1] w fun e w' => e = .returned (.int .i64 r) ∧ Drawn0 w w' := by
 have HR0 := A_ hr0
 have HC0 := A_ hc0
 clear hr0 hc0
 have H : (laws_heldIntS.l0 k l0 a1 0) = some r := h
 clear h
 have H' := A_ H
 clear H
 go_enter Try.func30, Try.ntmps30
 go_wp2
 go_loopg [1, 5] k (fun kq v1 v5 w' => ∃ (x1_1 : Int) (x5_1 : Int), v1 = .int .i64 x1_1 ∧ v5 = .int .i64 x5_1 ∧ Aside0 (laws_heldIntS.l0 kq l0 x1_1 x5_1 = some r) ∧ Aside0 (kq ≤ k) ∧ Drawn0 w w')
 case atStart => exact ⟨(a1), (0), tf_, tf_, H', ⟨Nat.le_refl _⟩, dr_⟩
 case round =>
  clear H'
  try clear p2
  obtain ⟨x1_1, x5_1, rfl, rfl, HA, HK1, ⟨m1, rfl⟩⟩ := hrel
  cases gk with
  | zero => exact absurd HA.out (by simp [laws_heldIntS.l0])
  | succ k1 =>
   have H := HA.out
   clear HA
   simp only [laws_heldIntS.l0] at H
   by_cases c3 : x5_1 < (l0.length : Int)
   ·
    rw [if_pos c3] at H
    have c3b0 := decide_eq_true c3
    clear c3
    by_cases c4 : 0 ≤ x5_1
    ·
     rw [if_pos c4] at H
     have c4b0 := decide_eq_true c4
     clear c4
     by_cases c5 : (rd l0 x5_1) = x1_1
     ·
      rw [if_pos c5] at H
      have c5b0 : ((rd l0 x5_1) == x1_1) = true := beq_iff_eq.mpr c5
      have c5b1 : ((rd l0 x5_1) != x1_1) = false := bne_eq_false_iff_eq.mpr c5
      clear c5
      have H' := A_ H
      clear H
      have p439 : 0 ≤ (x5_1 : Int) := od_
      have q439 : x5_1 < (l0.length : Int) := od_
      obtain ⟨ad439, e439, hx439_0⟩ := Kd.at_int HR0.out x5_1 p439 q439
      cases e439
      replace p439 := eq_true p439
      replace q439 := eq_true q439
      go_wp2
      go_roundg k1
      case measure => have := HK1.out; omega
      case rel => exact ⟨(wrap64 (x1_1 + 1)), (wrap64 (x5_1 + 1)), tf_, tf_, H', ⟨by have := HK1.out; omega⟩, dr_⟩
     ·
      rw [if_neg c5] at H
      have c5b0 : ((rd l0 x5_1) == x1_1) = false := beq_eq_false_iff_ne.mpr c5
      have c5b1 : ((rd l0 x5_1) != x1_1) = true := bne_iff_ne.mpr c5
      obtain rfl := Option.some.inj H
      have p439 : 0 ≤ (x5_1 : Int) := od_
      have q439 : x5_1 < (l0.length : Int) := od_
      obtain ⟨ad439, e439, hx439_0⟩ := Kd.at_int HR0.out x5_1 p439 q439
      cases e439
      replace p439 := eq_true p439
      replace q439 := eq_true q439
      go_wp2
      go_ret
      exact ⟨tf_, dr_⟩
    ·
     rw [if_neg c4] at H
     exact absurd H (by simp)
   ·
    rw [if_neg c3] at H
    have c3b0 := decide_eq_false c3
    clear c3
    obtain rfl := Option.some.inj H
    go_wp2
    go_ret
    exact ⟨tf_, dr_⟩

/-! ### impl_trimmed: function 181 -/
def impl_trimmed.l0 : Nat → List Int → Option (List Int)
 | 0, _ => none
 | k + 1, x0 => if (x0.length : Int) > 0 then (if 0 ≤ (wrap64 ((x0.length : Int) - 1)) then (if (wrap64 ((x0.length : Int) - 1)) < (x0.length : Int) then (if (rd x0 (wrap64 ((x0.length : Int) - 1))) = 0 then (if (wrap64 ((x0.length : Int) - 1)) ≤ (x0.length : Int) then (impl_trimmed.l0 k (x0.take ((wrap64 ((x0.length : Int) - 1)) : Int).toNat)) else (none)) else (some x0)) else (none)) else (none)) else (some x0)
def impl_trimmed.f (k : Nat) (l0 : List Int) : Option (List Int) := impl_trimmed.l0 k l0
theorem impl_trimmed.mono_l : ∀ k, (∀ y0, LeO (impl_trimmed.l0 k y0) (impl_trimmed.l0 (k + 1) y0))
 | 0 => fun _ r h => by simp [impl_trimmed.l0] at h
 | k + 1 => by
  have ih0 := impl_trimmed.mono_l k
  ·
   intro y0
   unfold impl_trimmed.l0
   repeat' first | (with_reducible first | exact ih0 _ | exact LeO.refl _ | exact LeO.none _ | refine LeO.ite ?_ ?_ | refine LeO.bind ?_ (fun _ => ?_)) | exact ih0 _ | exact LeO.none _ | refine LeO.ite ?_ ?_ | refine LeO.bind ?_ (fun _ => ?_)
theorem impl_trimmed.mono : ∀ a0 k, LeO (impl_trimmed.f k a0) (impl_trimmed.f (k + 1) a0) := fun a0 k => impl_trimmed.mono_l k a0
theorem impl_trimmed.calls (k : Nat) (P0_ : Nat → Prop) (u9000_ : Value) (l0 : List Int) (r : List Int) (w0 w : World) (hB : Below w0.heap.size w0 w) (ho0 : Kd.R (Kd.int .i64) 3 w w0.heap.size P0_ u9000_ l0) (h : impl_trimmed.f k l0 = some r) :
    Calls Try.prog 181 #[u9000_] w fun e w' => ∃ v0_ : Value, e = .returned (v0_) ∧ Kd.R (Kd.int .i64) 3 w' w0.heap.size (fun k_ => (P0_ k_ ∨ w.heap.size ≤ k_)) v0_ r ∧ Below w0.heap.size w0 w' ∧ Kept w w' (fun k_ => P0_ k_) := by
  obtain ⟨Az, cz, rfl⟩ := Kd.R_slice ho0
  have HO := A_ ho0
  have HB0 := A_ hB
  have HK0 : Aside0 (Kept w w (fun k_ => P0_ k_)) := ⟨Kept.refl _ _⟩
  clear ho0 hB
  have H : (impl_trimmed.l0 k l0) = some r := h
  clear h
  have H' := A_ H
  clear H
  go_enter Try.func181, Try.ntmps181
  go_wp2
  go_loopg [0] k (fun kq v0 w' => ∃ (x0_1 : List Int), Aside0 (impl_trimmed.l0 kq x0_1 = some r) ∧ Aside0 (kq ≤ k) ∧ Aside0 (Kd.R (Kd.int .i64) 3 w' w0.heap.size P0_ v0 x0_1) ∧ Aside0 (Below w0.heap.size w0 w') ∧ Aside0 (Kept w w' (fun k_ => P0_ k_)))
  case atStart => exact ⟨l0, H', ⟨Nat.le_refl _⟩, HO, HB0, HK0⟩
  case round =>
    clear H' HO HB0 HK0
    obtain ⟨x0_1, HA, HK1, HO_0, HB, HKe⟩ := hrel
    obtain ⟨Ao9, co9, eo9⟩ := Kd.R_slice HO_0.out
    subst eo9
    cases gk with
    | zero => exact absurd HA.out (by simp [impl_trimmed.l0])
    | succ k1 =>
      have H := HA.out
      clear HA
      simp only [impl_trimmed.l0] at H
      by_cases c2 : (x0_1.length : Int) > 0
      case neg =>
        rw [if_neg c2] at H
        have c2b0 := decide_eq_false c2
        have c2b1 : decide (0 < x0_1.length) = false := decide_eq_false (by omega)
        clear c2
        obtain rfl := Option.some.inj H
        clear H
        go_wp2
        go_ret
        exact ⟨_, rfl, Kd.R_mono HO_0.out (fun k_ hk => .inl hk), HB.out, HKe.out⟩
      rw [if_pos c2] at H
      have c2b0 := decide_eq_true c2
      have c2b1 : decide (0 < x0_1.length) = true := decide_eq_true (by omega)
      obtain ⟨ji3, hji3⟩ : ∃ j_ : Int, (wrap64 ((x0_1.length : Int) - 1)) = j_ := ⟨_, rfl⟩
      clear c2
      rw [hji3] at H
      have hji3w : (IntKind.i64.wrap ((x0_1.length : Int) - 1)) = ji3 := (i64_w _).trans hji3
      by_cases c4 : 0 ≤ ji3
      case neg =>
        rw [if_neg c4] at H
        exact absurd H (by simp)
      rw [if_pos c4] at H
      by_cases c5 : ji3 < (x0_1.length : Int)
      case neg =>
        rw [if_neg c5] at H
        exact absurd H (by simp)
      rw [if_pos c5] at H
      obtain ⟨ad569, e569, hx569_0⟩ := Kd.at_int (Kd.R_reads' HO_0.out).2.2 ji3 c4 c5
      cases e569
      have p569 := eq_true c4
      have q569 := eq_true c5
      have c4b0 := decide_eq_true c4
      have c5b0 := decide_eq_true c5
      by_cases c6 : (rd x0_1 ji3) = 0
      case neg =>
        rw [if_neg c6] at H
        have c6b0 : ((rd x0_1 ji3) == 0) = false := beq_eq_false_iff_ne.mpr c6
        have c6b1 : ((rd x0_1 ji3) != 0) = true := bne_iff_ne.mpr c6
        clear c4 c5 c6
        obtain rfl := Option.some.inj H
        clear H
        go_wp2
        go_ret
        exact ⟨_, rfl, Kd.R_mono HO_0.out (fun k_ hk => .inl hk), HB.out, HKe.out⟩
      rw [if_pos c6] at H
      have c6b0 : ((rd x0_1 ji3) == 0) = true := beq_iff_eq.mpr c6
      have c6b1 : ((rd x0_1 ji3) != 0) = false := bne_eq_false_iff_eq.mpr c6
      clear c6
      have c8 : ji3 ≤ (x0_1.length : Int) := by omega
      rw [if_pos c8] at H
      have c8b0 := eq_true c8
      have c8b1 := decide_eq_true c8
      obtain ⟨i010, hi010, _, hsz10, _⟩ := info_parts info3
      have hcut10 := cut_to (P := Try.prog) 22 3 .i64 Try.underlying22 hi010 (some ad569) x0_1.length co9 ji3 c4 c8 (Kd.R_reads' HO_0.out).2.1
      have hr10 := A_ (Kd.R_take (m := ji3.toNat) HO_0.out (by omega))
      clear c4 c5 c8
      replace H := A_ H
      go_wp2
      go_roundg k1
      case measure => have := HK1.out; omega
      case rel => exact ⟨_, H, ⟨by have := HK1.out; omega⟩, hr10, HB, HKe⟩

/-! ### spec_biAsked: function 98 -/
def spec_biAsked.f (k : Nat) (a0_0 : Int) (a0_1 : Int) (l0_2 : List Int) (a1 : Int) : Option (Bool) := (spec_boGood.f k a0_0 a0_1 l0_2).bind fun t673 => (if t673 = true then ((spec_l1In.f a1 0 12).bind fun t674 => (some t674)) else (some false))
theorem spec_biAsked.mono : ∀ a0 a1 a2 a3 k, LeO (spec_biAsked.f k a0 a1 a2 a3) (spec_biAsked.f (k + 1) a0 a1 a2 a3) := by
 intro a0 a1 a2 a3 k
 unfold spec_biAsked.f
 repeat' first | (with_reducible first | exact spec_boGood.mono _ _ _ _ | exact LeO.refl _ | exact LeO.none _ | refine LeO.ite ?_ ?_ | refine LeO.bind ?_ (fun _ => ?_)) | exact spec_boGood.mono _ _ _ _ | exact LeO.none _ | refine LeO.ite ?_ ?_ | refine LeO.bind ?_ (fun _ => ?_)
theorem spec_biAsked.calls (k : Nat) (a0_0 : Int) (a0_1 : Int) (A0_2 : Option Addr) (c0_2 : Nat) (l0_2 : List Int) (a1 : Int) (r : Bool) (w : World) (hr0_2 : Kd.C (Kd.int .i64) w A0_2 l0_2.length l0_2) (hc0_2 : l0_2.length ≤ c0_2) (h : spec_biAsked.f k a0_0 a0_1 l0_2 a1 = some r) :
  Calls Try.prog 98 #[.agg #[.int .i64 a0_0, .int .i64 a0_1, .slice A0_2 l0_2.length c0_2], .int .i64 a1] w fun e w' => e = .returned (.bool r) ∧ Below w.heap.size w w' := by
 have hu26 := Try.underlying26
 have HR0_2 := A_ hr0_2
 have HC0_2 := A_ hc0_2
 clear hr0_2 hc0_2
 have HB := A_ (Below.refl w.heap.size w)
 have H : ((spec_boGood.f k a0_0 a0_1 l0_2).bind fun t673 => (if t673 = true then ((spec_l1In.f a1 0 12).bind fun t674 => (some t674)) else (some false))) = some r := h
 clear h
 replace H := Option.bind_eq_some_iff.mp H
 obtain ⟨t673, A30, H⟩ := H
 replace H : (if t673 = true then ((spec_l1In.f a1 0 12).bind fun t674 => (some t674)) else (some false)) = some r := H
 have A3 := A_ A30
 clear A30
 by_cases c4 : t673 = true
 ·
  subst c4
  have H1 : ((spec_l1In.f a1 0 12).bind fun t674 => (some t674)) = some r := by rw [if_pos rfl] at H; exact H
  clear H
  have H := H1
  clear H1
  replace H := Option.bind_eq_some_iff.mp H
  obtain ⟨t674, A50, H⟩ := H
  replace H : (some t674) = some r := H
  have A5 := A_ A50
  clear A50
  obtain rfl := Option.some.inj H
  go_enter Try.func98, Try.ntmps98
  go_wp2_with (first | (refine gd_ 2 ?_; refine bx_ 2 #[.int .i64 a0_0, .int .i64 a0_1, .slice A0_2 l0_2.length c0_2] 26 ?_; intro gb672 hg w6 hbox hb; have BK672 := A_ (hbox); have GW672 := A_ ((ts_ hg : w.heap.size ≤ gb672)); have GE672 := A_ ((ts_ hg : w.heap.size ≤ gb672)); replace HB := A_ (below_step tb_ hb); clear hb hbox hg; obtain ⟨hcz7_0, hcz7_1, hcz7_2, hfz7_0, hfz7_1, hfz7_2⟩ := cf3_ BK672.out) | (refine gc_ 90 ?_; refine goesT_ (some 6) Try.func90 #[.agg #[.int .i64 a0_0, .int .i64 a0_1, .slice A0_2 l0_2.length c0_2]] ?_; (with_reducible refine (spec_boGood.calls k a0_0 a0_1 _ _ l0_2 true _ ?side1 ?side2 A3.out).mono ?_); (case side1 => exact tc_ HR0_2.out); (case side2 => exact HC0_2.out); rintro e w8 ⟨rfl, hb⟩; refine ⟨_, rfl, ?_⟩; replace BK672 := A_ (blk_below (g := gb672) (o := .cells #[.int .i64 a0_0, .int .i64 a0_1, .slice A0_2 l0_2.length c0_2] 26 (0, 0)) (tk_ BK672) hb); replace HB := A_ (below_step tb_ hb); (try clear hb)) | (go_at_call 111; (with_reducible refine (spec_l1In.calls a1 0 12 t674 _ A5.out).mono ?_); rintro e w' ⟨rfl, ⟨nd, rfl⟩⟩))
  go_ret
  exact ⟨te_, tb_⟩
 ·
  replace c4 := Bool.eq_false_iff.mpr c4
  subst c4
  have H1 : (some false) = some r := by rw [if_neg (show ¬ (false = true) by decide)] at H; exact H
  clear H
  have H := H1
  clear H1
  obtain rfl := Option.some.inj H
  go_enter Try.func98, Try.ntmps98
  go_wp2_with (first | (refine gd_ 2 ?_; refine bx_ 2 #[.int .i64 a0_0, .int .i64 a0_1, .slice A0_2 l0_2.length c0_2] 26 ?_; intro gb672 hg w9 hbox hb; have BK672 := A_ (hbox); have GW672 := A_ ((ts_ hg : w.heap.size ≤ gb672)); have GE672 := A_ ((ts_ hg : w.heap.size ≤ gb672)); replace HB := A_ (below_step tb_ hb); clear hb hbox hg; obtain ⟨hcz10_0, hcz10_1, hcz10_2, hfz10_0, hfz10_1, hfz10_2⟩ := cf3_ BK672.out) | (refine gc_ 90 ?_; refine goesT_ (some 6) Try.func90 #[.agg #[.int .i64 a0_0, .int .i64 a0_1, .slice A0_2 l0_2.length c0_2]] ?_; (with_reducible refine (spec_boGood.calls k a0_0 a0_1 _ _ l0_2 false _ ?side1 ?side2 A3.out).mono ?_); (case side1 => exact tc_ HR0_2.out); (case side2 => exact HC0_2.out); rintro e w11 ⟨rfl, hb⟩; refine ⟨_, rfl, ?_⟩; replace BK672 := A_ (blk_below (g := gb672) (o := .cells #[.int .i64 a0_0, .int .i64 a0_1, .slice A0_2 l0_2.length c0_2] 26 (0, 0)) (tk_ BK672) hb); replace HB := A_ (below_step tb_ hb); (try clear hb)))
  go_ret
  exact ⟨te_, tb_⟩

/-! ### impl_isPieces: function 100 -/
def impl_isPieces.f (a0 : Int) : Option (Bool) := (impl_within.f a0 0 12).bind fun t697 => (some t697)
theorem impl_isPieces.calls (a0 : Int) (r : Bool) (w : World) (h : impl_isPieces.f a0 = some r) :
  Calls Try.prog 100 #[.int .i64 a0] w fun e w' => e = .returned (.bool r) ∧ Drawn0 w w' := by
 have H : ((impl_within.f a0 0 12).bind fun t697 => (some t697)) = some r := h
 clear h
 replace H := Option.bind_eq_some_iff.mp H
 obtain ⟨t697, A20, H⟩ := H
 replace H : (some t697) = some r := H
 have A2 := A_ A20
 clear A20
 obtain rfl := Option.some.inj H
 go_enter Try.func100, Try.ntmps100
 go_wp2_with (first | (refine gc_ 113 ?_; refine goesT_ (some 4) Try.func113 #[.int .i64 a0, .int .i64 0, .int .i64 12] ?_; (with_reducible refine (impl_within.calls a0 0 12 t697 _ A2.out).mono ?_); rintro e w' ⟨rfl, ⟨nd, rfl⟩⟩; refine ⟨_, rfl, ?_⟩))
 go_ret
 exact ⟨tf_, dr_⟩

/-! ### impl_CellsOf: function 115 -/
mutual
def impl_CellsOf.l0 : Nat → List (List Int) → Int → Int → Int → Int → List Int → Option ((List (List Int)) × Bool)
 | 0, _, _, _, _, _, _ => none
 | k + 1, x4, x12, x13, x699000, x699001, x699002 => if x13 < x12 then (impl_CellsOf.l1 k x4 x13 x12 x13 x699001 0 x699000 x699001 x699002) else (some (x4, true))
def impl_CellsOf.l1 : Nat → List (List Int) → Int → Int → Int → Int → Int → Int → Int → List Int → Option ((List (List Int)) × Bool)
 | 0, _, _, _, _, _, _, _, _, _ => none
 | k + 1, x4, x5, x12, x13, x17, x18, x699000, x699001, x699002 => if x18 < x17 then ((impl_Board_has.f x699000 x699001 x699002 x5 x18).bind fun t703 => (if t703 = true then (if x4.length < 5864062014805 then (impl_CellsOf.l1 k (x4 ++ [(([x5, x18] : List Int))]) x5 x12 x13 x17 (wrap64 (x18 + 1)) x699000 x699001 x699002) else (none)) else (impl_CellsOf.l1 k x4 x5 x12 x13 x17 (wrap64 (x18 + 1)) x699000 x699001 x699002))) else (impl_CellsOf.l0 k x4 x12 (wrap64 (x13 + 1)) x699000 x699001 x699002)
end
def impl_CellsOf.f (k : Nat) (a0_0 : Int) (a0_1 : Int) (l0_2 : List Int) : Option ((List (List Int)) × Bool) := (impl_IsBoard.f a0_0 a0_1 l0_2).bind fun t699 => (if t699 = true then (impl_CellsOf.l0 k (([] : List (List Int))) a0_0 0 a0_0 a0_1 l0_2) else (some (([] : List (List Int)), false)))
theorem impl_CellsOf.mono_l : ∀ k, (∀ y0 y1 y2 y3 y4 y5, LeO (impl_CellsOf.l0 k y0 y1 y2 y3 y4 y5) (impl_CellsOf.l0 (k + 1) y0 y1 y2 y3 y4 y5)) ∧ (∀ y0 y1 y2 y3 y4 y5 y6 y7 y8, LeO (impl_CellsOf.l1 k y0 y1 y2 y3 y4 y5 y6 y7 y8) (impl_CellsOf.l1 (k + 1) y0 y1 y2 y3 y4 y5 y6 y7 y8))
 | 0 => ⟨fun _ _ _ _ _ _ r h => by simp [impl_CellsOf.l0] at h, fun _ _ _ _ _ _ _ _ _ r h => by simp [impl_CellsOf.l1] at h⟩
 | k + 1 => by
  obtain ⟨ih0, ih1⟩ := impl_CellsOf.mono_l k
  refine ⟨?_, ?_⟩
  ·
   intro y0 y1 y2 y3 y4 y5
   unfold impl_CellsOf.l0
   repeat' first | (with_reducible first | exact ih0 _ _ _ _ _ _ | exact ih1 _ _ _ _ _ _ _ _ _ | exact LeO.refl _ | exact LeO.none _ | refine LeO.ite ?_ ?_ | refine LeO.bind ?_ (fun _ => ?_)) | exact ih0 _ _ _ _ _ _ | exact ih1 _ _ _ _ _ _ _ _ _ | exact LeO.none _ | refine LeO.ite ?_ ?_ | refine LeO.bind ?_ (fun _ => ?_)
  ·
   intro y0 y1 y2 y3 y4 y5 y6 y7 y8
   unfold impl_CellsOf.l1
   repeat' first | (with_reducible first | exact ih0 _ _ _ _ _ _ | exact ih1 _ _ _ _ _ _ _ _ _ | exact LeO.refl _ | exact LeO.none _ | refine LeO.ite ?_ ?_ | refine LeO.bind ?_ (fun _ => ?_)) | exact ih0 _ _ _ _ _ _ | exact ih1 _ _ _ _ _ _ _ _ _ | exact LeO.none _ | refine LeO.ite ?_ ?_ | refine LeO.bind ?_ (fun _ => ?_)
theorem impl_CellsOf.mono : ∀ a0 a1 a2 k, LeO (impl_CellsOf.f k a0 a1 a2) (impl_CellsOf.f (k + 1) a0 a1 a2) := by
 intro a0 a1 a2 k
 obtain ⟨ih0, ih1⟩ := impl_CellsOf.mono_l k
 unfold impl_CellsOf.f
 repeat' first | (with_reducible first | exact ih0 _ _ _ _ _ _ | exact ih1 _ _ _ _ _ _ _ _ _ | exact LeO.refl _ | exact LeO.none _ | refine LeO.ite ?_ ?_ | refine LeO.bind ?_ (fun _ => ?_)) | exact ih0 _ _ _ _ _ _ | exact ih1 _ _ _ _ _ _ _ _ _ | exact LeO.none _ | refine LeO.ite ?_ ?_ | refine LeO.bind ?_ (fun _ => ?_)
theorem impl_CellsOf.calls (k : Nat) (a0_0 : Int) (a0_1 : Int) (A0_2 : Option Addr) (c0_2 : Nat) (l0_2 : List Int) (r1 : List (List Int)) (r2 : Bool) (w : World) (hr0_2 : Kd.C (Kd.int .i64) w A0_2 l0_2.length l0_2) (hc0_2 : l0_2.length ≤ c0_2) (h : impl_CellsOf.f k a0_0 a0_1 l0_2 = some (r1, r2)) :
  Calls Try.prog 115 #[.agg #[.int .i64 a0_0, .int .i64 a0_1, .slice A0_2 l0_2.length c0_2]] w fun e w' => ∃ v0_ : Value, e = .returned (.tuple #[v0_, .bool r2]) ∧ Kd.S (Kd.slice 3 (Kd.int .i64)) 22 w' w.heap.size (fun _ => True) v0_ r1 ∧ Below w.heap.size w w' := by
 have hu26 := Try.underlying26
 have HR0_2 := A_ hr0_2
 have HC0_2 := A_ hc0_2
 clear hr0_2 hc0_2
 have HB := A_ (Below.refl w.heap.size w)
 have H : ((impl_IsBoard.f a0_0 a0_1 l0_2).bind fun t699 => (if t699 = true then (impl_CellsOf.l0 k (([] : List (List Int))) a0_0 0 a0_0 a0_1 l0_2) else (some (([] : List (List Int)), false)))) = some (r1, r2) := h
 clear h
 replace H := Option.bind_eq_some_iff.mp H
 obtain ⟨t699, A20, H⟩ := H
 replace H : (if t699 = true then (impl_CellsOf.l0 k (([] : List (List Int))) a0_0 0 a0_0 a0_1 l0_2) else (some (([] : List (List Int)), false))) = some (r1, r2) := H
 have A2 := A_ A20
 clear A20
 by_cases c3 : t699 = true
 ·
  subst c3
  have H1 : (impl_CellsOf.l0 k (([] : List (List Int))) a0_0 0 a0_0 a0_1 l0_2) = some (r1, r2) := by rw [if_pos rfl] at H; exact H
  clear H
  have H := H1
  clear H1
  obtain ⟨y700, hy700⟩ : ∃ y_ : List (List Int), y_ = (([] : List (List Int))) := ⟨_, rfl⟩
  replace H : (impl_CellsOf.l0 k y700 a0_0 0 a0_0 a0_1 l0_2) = some (r1, r2) := ty_ hy700 H
  have Ny700 := A_ hy700
  clear hy700
  have H' := A_ H
  clear H
  go_enter Try.func115, Try.ntmps115
  go_wp2_with (first | (refine gd_ 1 ?_; refine bx_ 1 #[.int .i64 a0_0, .int .i64 a0_1, .slice A0_2 l0_2.length c0_2] 26 ?_; intro gb698 hg w4 hbox hb; have BK698 := A_ (hbox); have GW698 := A_ ((ts_ hg : w.heap.size ≤ gb698)); have GE698 := A_ ((ts_ hg : w.heap.size ≤ gb698)); replace HB := A_ (below_step tb_ hb); clear hb hbox hg; obtain ⟨hcz5_0, hcz5_1, hcz5_2, hfz5_0, hfz5_1, hfz5_2⟩ := cf3_ BK698.out) | (refine gc_ 93 ?_; refine goesT_ (some 8) Try.func93 #[.agg #[.int .i64 a0_0, .int .i64 a0_1, .slice A0_2 l0_2.length c0_2]] ?_; (with_reducible refine (impl_IsBoard.calls a0_0 a0_1 _ _ l0_2 true _ ?side1 ?side2 A2.out).mono ?_); (case side1 => exact tc_ HR0_2.out); (case side2 => exact HC0_2.out); rintro e w6 ⟨rfl, hb⟩; refine ⟨_, rfl, ?_⟩; replace BK698 := A_ (blk_below (g := gb698) (o := .cells #[.int .i64 a0_0, .int .i64 a0_1, .slice A0_2 l0_2.length c0_2] 26 (0, 0)) (tk_ BK698) hb); replace HB := A_ (below_step tb_ hb); (try clear hb)) | (refine gd_ 10 ?_; refine Kd.S_lit (Kd.slice 3 (Kd.int .i64)) _ 22 ?hg (N := 10) ?hd (xs := ([] : List (List Int))) (inner := []) (ok := fun _ => True) (okp := fun _ => True) ?hr ?hp (fun _ hk => hk) trivial (Below.refl _ _) (Nat.le_refl _) (by simp) ?_; (case hd => rfl); (case hg => rfl); (case hr => first | (go_simp; done) | (go_simp; rfl)); (case hp => exact (Reps.none _ _)); intro v701 w7 ho8 hb hg_ hnew_; clear hg_ hnew_; (first | rw [← Ny700.out] at ho8 | (simp only [Int.reduceToNat] at ho8; rw [← Ny700.out] at ho8)); have HO702 := A_ (Kd.S_lower ho8 (below_size tb_)); replace BK698 := A_ (blk_below (g := gb698) (o := .cells #[.int .i64 a0_0, .int .i64 a0_1, .slice A0_2 l0_2.length c0_2] 26 (0, 0)) (tk_ BK698) hb); replace HB := A_ (below_step tb_ hb); clear hb ho8; obtain ⟨hcz9_0, hcz9_1, hcz9_2, hfz9_0, hfz9_1, hfz9_2⟩ := cf3_ BK698.out))
  go_loopg [4, 13] k (fun kq v4 v13 w' => ∃ (x4_1 : List (List Int)) (x13_1 : Int), v13 = .int .i64 x13_1 ∧ Aside0 (impl_CellsOf.l0 kq x4_1 a0_0 x13_1 a0_0 a0_1 l0_2 = some (r1, r2)) ∧ Aside0 (kq ≤ k) ∧ Aside0 (Kd.S (Kd.slice 3 (Kd.int .i64)) 22 w' w.heap.size (fun _ => True) v4 x4_1) ∧ Aside0 (w'.heap[gb698]? = some (.cells #[.int .i64 a0_0, .int .i64 a0_1, (.slice A0_2 l0_2.length c0_2)] 26 (0, 0))) ∧ Aside0 (Below w.heap.size w w'))
  case atStart => exact ⟨(y700), (0), tf_, H', ⟨Nat.le_refl _⟩, ⟨ts1_x HO702.out⟩, ⟨tk_ BK698⟩, ⟨tb_⟩⟩
  case round =>
   clear H'
   try clear c1
   try clear p2
   try clear c3
   try clear c9
   try clear hcz5_0
   try clear hcz5_1
   try clear hcz5_2
   try clear hcz9_0
   try clear hcz9_1
   try clear hcz9_2
   try clear hfz5_0
   try clear hfz5_1
   try clear hfz5_2
   try clear hfz9_0
   try clear hfz9_1
   try clear hfz9_2
   obtain ⟨x4_1, x13_1, rfl, HA, HK1, HO_4, BK698, HB⟩ := hrel
   cases gk with
   | zero => exact absurd HA.out (by simp [impl_CellsOf.l0])
   | succ k1 =>
    have H := HA.out
    clear HA
    simp only [impl_CellsOf.l0] at H
    by_cases c10 : x13_1 < a0_0
    ·
     rw [if_pos c10] at H
     have c10b0 := decide_eq_true c10
     clear c10
     have H' := A_ H
     clear H
     obtain ⟨hcz11_0, hcz11_1, hcz11_2, hfz11_0, hfz11_1, hfz11_2⟩ := cf3_ BK698.out
     go_wp2
     go_loopg [4, 18] k1 (fun kq v4 v18 w' => ∃ (x4_2 : List (List Int)) (x18_2 : Int), v18 = .int .i64 x18_2 ∧ Aside0 (impl_CellsOf.l1 kq x4_2 x13_1 a0_0 x13_1 a0_1 x18_2 a0_0 a0_1 l0_2 = some (r1, r2)) ∧ Aside0 (kq ≤ k1) ∧ Aside0 (Kd.S (Kd.slice 3 (Kd.int .i64)) 22 w' w.heap.size (fun _ => True) v4 x4_2) ∧ Aside0 (w'.heap[gb698]? = some (.cells #[.int .i64 a0_0, .int .i64 a0_1, (.slice A0_2 l0_2.length c0_2)] 26 (0, 0))) ∧ Aside0 (Below w.heap.size w w'))
     case atStart => exact ⟨(x4_1), (0), tf_, H', ⟨Nat.le_refl _⟩, ⟨ts1_x HO_4.out⟩, ⟨tk_ BK698⟩, ⟨tb_⟩⟩
     case round =>
      clear H'
      try clear c1
      try clear p2
      try clear c3
      try clear c9
      try clear c10
      try clear c10b0
      try clear c11
      try clear hcz11_0
      try clear hcz11_1
      try clear hcz11_2
      try clear hcz5_0
      try clear hcz5_1
      try clear hcz5_2
      try clear hcz9_0
      try clear hcz9_1
      try clear hcz9_2
      try clear hfz11_0
      try clear hfz11_1
      try clear hfz11_2
      try clear hfz5_0
      try clear hfz5_1
      try clear hfz5_2
      try clear hfz9_0
      try clear hfz9_1
      try clear hfz9_2
      try clear p2
      obtain ⟨x4_2, x18_2, rfl, HA, HK2, HO_4, BK698, HB⟩ := hrel
      cases gk with
      | zero => exact absurd HA.out (by simp [impl_CellsOf.l1])
      | succ k2 =>
       have H := HA.out
       clear HA
       simp only [impl_CellsOf.l1] at H
       by_cases c12 : x18_2 < a0_1
       ·
        rw [if_pos c12] at H
        have c12b0 := decide_eq_true c12
        clear c12
        replace H := Option.bind_eq_some_iff.mp H
        obtain ⟨t703, A130, H⟩ := H
        replace H : (if t703 = true then (if x4_2.length < 5864062014805 then (impl_CellsOf.l1 k2 (x4_2 ++ [(([x13_1, x18_2] : List Int))]) x13_1 a0_0 x13_1 a0_1 (wrap64 (x18_2 + 1)) a0_0 a0_1 l0_2) else (none)) else (impl_CellsOf.l1 k2 x4_2 x13_1 a0_0 x13_1 a0_1 (wrap64 (x18_2 + 1)) a0_0 a0_1 l0_2)) = some (r1, r2) := H
        have A13 := A_ A130
        clear A130
        by_cases c14 : t703 = true
        ·
         subst c14
         have H1 : (if x4_2.length < 5864062014805 then (impl_CellsOf.l1 k2 (x4_2 ++ [(([x13_1, x18_2] : List Int))]) x13_1 a0_0 x13_1 a0_1 (wrap64 (x18_2 + 1)) a0_0 a0_1 l0_2) else (none)) = some (r1, r2) := by rw [if_pos rfl] at H; exact H
         clear H
         have H := H1
         clear H1
         obtain ⟨y704, hy704⟩ : ∃ y_ : List Int, y_ = (([x13_1, x18_2] : List Int)) := ⟨_, rfl⟩
         replace H : (if x4_2.length < 5864062014805 then (impl_CellsOf.l1 k2 (x4_2 ++ [y704]) x13_1 a0_0 x13_1 a0_1 (wrap64 (x18_2 + 1)) a0_0 a0_1 l0_2) else (none)) = some (r1, r2) := ty_ hy704 H
         have Ny704 := A_ hy704
         clear hy704
         by_cases c15 : x4_2.length < 5864062014805
         ·
          rw [if_pos c15] at H
          have LMc15 := A_ c15
          clear c15
          obtain ⟨y707, hy707⟩ : ∃ y_ : List (List Int), y_ = (x4_2 ++ [y704]) := ⟨_, rfl⟩
          replace H : (impl_CellsOf.l1 k2 y707 x13_1 a0_0 x13_1 a0_1 (wrap64 (x18_2 + 1)) a0_0 a0_1 l0_2) = some (r1, r2) := ty_ hy707 H
          have Ny707 := A_ hy707
          clear hy707
          have H' := A_ H
          clear H
          obtain ⟨hcz16_0, hcz16_1, hcz16_2, hfz16_0, hfz16_1, hfz16_2⟩ := cf3_ BK698.out
          go_wp2_with (first | (refine gc_ 175 ?_; refine goesT_ (some 24) Try.func175 #[.agg #[.int .i64 a0_0, .int .i64 a0_1, .slice A0_2 l0_2.length c0_2], .int .i64 x13_1, .int .i64 x18_2] ?_; (with_reducible refine (impl_Board_has.calls a0_0 a0_1 _ _ l0_2 x13_1 x18_2 true _ ?side1 ?side2 A13.out).mono ?_); (case side1 => exact tc_ HR0_2.out); (case side2 => exact HC0_2.out); rintro e w17 ⟨rfl, hb⟩; refine ⟨_, rfl, ?_⟩; replace HO_4 := A_ (Kd.S_below (ts1_x HO_4.out) hb); replace BK698 := A_ (blk_below (g := gb698) (o := .cells #[.int .i64 a0_0, .int .i64 a0_1, .slice A0_2 l0_2.length c0_2] 26 (0, 0)) (tk_ BK698) hb); replace HB := A_ (below_step tb_ hb); (try clear hb)) | (refine gd_ 28 ?_; refine Kd.R_lit (Kd.int .i64) _ 3 ?hg (N := 28) ?hd (xs := ([x13_1, x18_2] : List Int)) (inner := [.int .i64 x13_1, .int .i64 x18_2]) (ok := fun _ => True) (okp := fun _ => True) ?hr ?hp (fun _ hk => hk) trivial (Below.refl _ _) (Nat.le_refl _) (by simp) ?_; (case hd => rfl); (case hg => rfl); (case hr => first | (go_simp; done) | (go_simp; rfl)); (case hp => exact (Reps.one (show Kd.M (Kd.int .i64) _ _ _ x13_1 [.int .i64 x13_1] from rfl) (Reps.one (show Kd.M (Kd.int .i64) _ _ _ x18_2 [.int .i64 x18_2] from rfl) (Reps.none _ _)))); intro v705 w18 ho19 hb hg_ hnew_; clear hg_ hnew_; (first | rw [← Ny704.out] at ho19 | (simp only [Int.reduceToNat] at ho19; rw [← Ny704.out] at ho19)); replace HO_4 := A_ (Kd.S_elder' (ts1_x HO_4.out) (Kd.R_base ho19) hb); have HO706 := A_ (Kd.R_lower ho19 (below_size tb_)); replace BK698 := A_ (blk_below (g := gb698) (o := .cells #[.int .i64 a0_0, .int .i64 a0_1, .slice A0_2 l0_2.length c0_2] 26 (0, 0)) (tk_ BK698) hb); replace HB := A_ (below_step tb_ hb); clear hb ho19; obtain ⟨Ao21, co21, eo21⟩ := Kd.R_slice HO706.out; subst eo21) | ((with_reducible refine gate_builtin (b := .append) (xs := #[.tmp 25, .tmp 29]) rfl ?_); at_builtin; refine Kd.S_append (Kd.slice 3 (Kd.int .i64)) (w0 := w) w.heap.size rfl (.tmp 25) (.tmp 29) 41 22 (.slice none 0 0) 24 rfl Try.underlying41 info22 rfl (by decide) (by omega) u4 x4_2 y704 [.slice Ao21 y704.length co21] (fun _ => True) (fun k_ => some k_ = (.slice Ao21 y704.length co21 : Value).ownBlock) rfl rfl ?aP (fun k_ hk_ => ((Kd.R_mono (ok' := fun k_ => ((fun _ => True)) k_ ∧ some k_ ≠ (u4 : Value).ownBlock) (Kd.R_apart' (HO706.out) (Kd.S_typed HO_4.out) (by decide)) (fun k_ hk => ⟨trivial, hk.2⟩))).1 k_ hk_.symm) ?aF ?aO ?aB ?aS ?aL ?_; (case aP => exact Kd.M_row (Kd.R_mono (Kd.R_tight rfl (Kd.R_mono (ok' := fun k_ => ((fun _ => True)) k_ ∧ some k_ ≠ (u4 : Value).ownBlock) (Kd.R_apart' (HO706.out) (Kd.S_typed HO_4.out) (by decide)) (fun k_ hk => ⟨trivial, hk.2⟩))) (fun _ h_ => h_))); (case aB => exact tb_); (case aF => exact (fun _ _ => trivial)); (case aO => exact (ts1_ (h := by exact Kd.S_mono HO_4.out (fun k_ hk => ⟨trivial, fun e_ => hk.2 e_⟩)))); (case aS => exact (below_size tb_)); (case aL => have := LMc15.out; omega); intro v708 w20 ho hb hg hat; rw [← Ny707.out] at ho; have n0_ := A_ (blk_grown (g := gb698) (o := .cells #[.int .i64 a0_0, .int .i64 a0_1, .slice A0_2 l0_2.length c0_2] 26 (0, 0)) (tk_ BK698) hg (Kd.S_ne HO_4.out BK698.out (by decide))); have n1_ := A_ (hb); have n2_ := A_ (ho); clear BK698; clear HB; clear HO_4; clear HO706; have BK698 := n0_; have HB := n1_; have HO709 := n2_; clear n0_ n1_ n2_; clear ho hb hg hat))
          go_roundg k2
          case measure => have := HK1.out; have := HK2.out; omega
          case rel => exact ⟨(y707), (wrap64 (x18_2 + 1)), tf_, H', ⟨by have := HK1.out; have := HK2.out; omega⟩, ⟨ts1_x HO709.out⟩, ⟨tk_ BK698⟩, ⟨tb_⟩⟩
         ·
          rw [if_neg c15] at H
          exact absurd H (by simp)
        ·
         replace c14 := Bool.eq_false_iff.mpr c14
         subst c14
         have H1 : (impl_CellsOf.l1 k2 x4_2 x13_1 a0_0 x13_1 a0_1 (wrap64 (x18_2 + 1)) a0_0 a0_1 l0_2) = some (r1, r2) := by rw [if_neg (show ¬ (false = true) by decide)] at H; exact H
         clear H
         have H := H1
         clear H1
         have H' := A_ H
         clear H
         obtain ⟨hcz22_0, hcz22_1, hcz22_2, hfz22_0, hfz22_1, hfz22_2⟩ := cf3_ BK698.out
         go_wp2_with (first | (refine gc_ 175 ?_; refine goesT_ (some 24) Try.func175 #[.agg #[.int .i64 a0_0, .int .i64 a0_1, .slice A0_2 l0_2.length c0_2], .int .i64 x13_1, .int .i64 x18_2] ?_; (with_reducible refine (impl_Board_has.calls a0_0 a0_1 _ _ l0_2 x13_1 x18_2 false _ ?side1 ?side2 A13.out).mono ?_); (case side1 => exact tc_ HR0_2.out); (case side2 => exact HC0_2.out); rintro e w23 ⟨rfl, hb⟩; refine ⟨_, rfl, ?_⟩; replace HO_4 := A_ (Kd.S_below (ts1_x HO_4.out) hb); replace BK698 := A_ (blk_below (g := gb698) (o := .cells #[.int .i64 a0_0, .int .i64 a0_1, .slice A0_2 l0_2.length c0_2] 26 (0, 0)) (tk_ BK698) hb); replace HB := A_ (below_step tb_ hb); (try clear hb)))
         go_roundg k2
         case measure => have := HK1.out; have := HK2.out; omega
         case rel => exact ⟨(x4_2), (wrap64 (x18_2 + 1)), tf_, H', ⟨by have := HK1.out; have := HK2.out; omega⟩, ⟨ts1_x HO_4.out⟩, ⟨tk_ BK698⟩, ⟨tb_⟩⟩
       ·
        rw [if_neg c12] at H
        have c12b0 := decide_eq_false c12
        clear c12
        have H' := A_ H
        clear H
        go_wp2
        go_roundg k2
        case measure => have := HK1.out; have := HK2.out; omega
        case rel => exact ⟨(x4_2), (wrap64 (x13_1 + 1)), tf_, H', ⟨by have := HK1.out; have := HK2.out; omega⟩, ⟨ts1_x HO_4.out⟩, ⟨tk_ BK698⟩, ⟨tb_⟩⟩
    ·
     rw [if_neg c10] at H
     have c10b0 := decide_eq_false c10
     clear c10
     simp only [Option.some.injEq, Prod.mk.injEq] at H
     obtain ⟨rfl, rfl⟩ := H
     go_wp2
     go_ret2
     exact ⟨_, te_, by (with_reducible repeat (first | apply Kd.S_alloc | apply Kd.S_drewN | apply Kd.S_drew)); exact HO_4.out, tb_⟩
 ·
  replace c3 := Bool.eq_false_iff.mpr c3
  subst c3
  have H1 : (some (([] : List (List Int)), false)) = some (r1, r2) := by rw [if_neg (show ¬ (false = true) by decide)] at H; exact H
  clear H
  have H := H1
  clear H1
  simp only [Option.some.injEq, Prod.mk.injEq] at H
  obtain ⟨rfl, rfl⟩ := H
  go_enter Try.func115, Try.ntmps115
  go_wp2_with (first | (refine gd_ 1 ?_; refine bx_ 1 #[.int .i64 a0_0, .int .i64 a0_1, .slice A0_2 l0_2.length c0_2] 26 ?_; intro gb698 hg w24 hbox hb; have BK698 := A_ (hbox); have GW698 := A_ ((ts_ hg : w.heap.size ≤ gb698)); have GE698 := A_ ((ts_ hg : w.heap.size ≤ gb698)); replace HB := A_ (below_step tb_ hb); clear hb hbox hg; obtain ⟨hcz25_0, hcz25_1, hcz25_2, hfz25_0, hfz25_1, hfz25_2⟩ := cf3_ BK698.out) | (refine gc_ 93 ?_; refine goesT_ (some 8) Try.func93 #[.agg #[.int .i64 a0_0, .int .i64 a0_1, .slice A0_2 l0_2.length c0_2]] ?_; (with_reducible refine (impl_IsBoard.calls a0_0 a0_1 _ _ l0_2 false _ ?side1 ?side2 A2.out).mono ?_); (case side1 => exact tc_ HR0_2.out); (case side2 => exact HC0_2.out); rintro e w26 ⟨rfl, hb⟩; refine ⟨_, rfl, ?_⟩; replace BK698 := A_ (blk_below (g := gb698) (o := .cells #[.int .i64 a0_0, .int .i64 a0_1, .slice A0_2 l0_2.length c0_2] 26 (0, 0)) (tk_ BK698) hb); replace HB := A_ (below_step tb_ hb); (try clear hb)))
  go_ret2
  exact ⟨_, te_, by first | exact Kd.S_nil _ _ _ _ _ | exact Kd.N_nil _ _ _ _ _ | exact Kd.V_nil _ _ _ _ _ | exact Kd.Q_nil _ _ _ _ _ | exact Kd.R_nil _ _ _ _ _, tb_⟩

/-! ### slices_IndexFunc_int_int_191: function 191 -/
def slices_IndexFunc_int_int_191.l0 : Nat → List (List Int) → FnT57 → Int → Int → Option (Int)
 | 0, _, _, _, _ => none
 | k + 1, x0, x1, x7, x8 => if x8 < x7 then (if 0 ≤ x8 then (if x8 < (x0.length : Int) then ((FnCall57.f (rd_L1 x0 x8) x1).bind fun t711 => (if t711 = true then (some x8) else (slices_IndexFunc_int_int_191.l0 k x0 x1 x7 (wrap64 (x8 + 1))))) else (none)) else (none)) else (some (-1))
def slices_IndexFunc_int_int_191.f (k : Nat) (l0 : List (List Int)) (a1 : FnT57) : Option (Int) := slices_IndexFunc_int_int_191.l0 k l0 a1 (l0.length : Int) 0
theorem slices_IndexFunc_int_int_191.mono_l : ∀ k, (∀ y0 y1 y2 y3, LeO (slices_IndexFunc_int_int_191.l0 k y0 y1 y2 y3) (slices_IndexFunc_int_int_191.l0 (k + 1) y0 y1 y2 y3))
 | 0 => fun _ _ _ _ r h => by simp [slices_IndexFunc_int_int_191.l0] at h
 | k + 1 => by
  have ih0 := slices_IndexFunc_int_int_191.mono_l k
  ·
   intro y0 y1 y2 y3
   unfold slices_IndexFunc_int_int_191.l0
   repeat' first | (with_reducible first | exact ih0 _ _ _ _ | exact LeO.refl _ | exact LeO.none _ | refine LeO.ite ?_ ?_ | refine LeO.bind ?_ (fun _ => ?_)) | exact ih0 _ _ _ _ | exact LeO.none _ | refine LeO.ite ?_ ?_ | refine LeO.bind ?_ (fun _ => ?_)
theorem slices_IndexFunc_int_int_191.mono : ∀ a0 a1 k, LeO (slices_IndexFunc_int_int_191.f k a0 a1) (slices_IndexFunc_int_int_191.f (k + 1) a0 a1) := by
 intro a0 a1 k
 have ih0 := slices_IndexFunc_int_int_191.mono_l k
 unfold slices_IndexFunc_int_int_191.f
 repeat' first | (with_reducible first | exact ih0 _ _ _ _ | exact LeO.refl _ | exact LeO.none _ | refine LeO.ite ?_ ?_ | refine LeO.bind ?_ (fun _ => ?_)) | exact ih0 _ _ _ _ | exact LeO.none _ | refine LeO.ite ?_ ?_ | refine LeO.bind ?_ (fun _ => ?_)
theorem slices_IndexFunc_int_int_191.calls (k : Nat) (A0 : Option Addr) (c0 : Nat) (l0 : List (List Int)) (v1 : Value) (a1 : FnT57) (r : Int) (w : World) (hr0 : Kd.C (Kd.slice 3 (Kd.int .i64)) w A0 l0.length l0) (hc0 : l0.length ≤ c0) (hF1 : FnOk57 w v1 a1) (h : slices_IndexFunc_int_int_191.f k l0 a1 = some r) :
  Calls Try.prog 191 #[.slice A0 l0.length c0, v1] w fun e w' => e = .returned (.int .i64 r) ∧ Below w.heap.size w w' := by
 have HR0 := A_ hr0
 have HC0 := A_ hc0
 clear hr0 hc0
 have HF1 := A_ hF1
 clear hF1
 have HB := A_ (Below.refl w.heap.size w)
 have H : (slices_IndexFunc_int_int_191.l0 k l0 a1 (l0.length : Int) 0) = some r := h
 clear h
 have H' := A_ H
 clear H
 go_enter Try.func191, Try.ntmps191
 go_wp2
 go_loopg [8] k (fun kq v8 w' => ∃ (x8_1 : Int), v8 = .int .i64 x8_1 ∧ Aside0 (slices_IndexFunc_int_int_191.l0 kq l0 a1 (l0.length : Int) x8_1 = some r) ∧ Aside0 (kq ≤ k) ∧ Aside0 (Below w.heap.size w w'))
 case atStart => exact ⟨(0), tf_, H', ⟨Nat.le_refl _⟩, ⟨tb_⟩⟩
 case round =>
  clear H'
  try clear c1
  try clear p2
  obtain ⟨x8_1, rfl, HA, HK1, HB⟩ := hrel
  cases gk with
  | zero => exact absurd HA.out (by simp [slices_IndexFunc_int_int_191.l0])
  | succ k1 =>
   have H := HA.out
   clear HA
   simp only [slices_IndexFunc_int_int_191.l0] at H
   by_cases c3 : x8_1 < (l0.length : Int)
   ·
    rw [if_pos c3] at H
    have c3b0 := decide_eq_true c3
    clear c3
    by_cases c4 : 0 ≤ x8_1
    ·
     rw [if_pos c4] at H
     have c4b0 := decide_eq_true c4
     clear c4
     by_cases c5 : x8_1 < (l0.length : Int)
     ·
      rw [if_pos c5] at H
      have c5b0 := decide_eq_true c5
      clear c5
      replace H := Option.bind_eq_some_iff.mp H
      obtain ⟨t711, A60, H⟩ := H
      replace H : (if t711 = true then (some x8_1) else (slices_IndexFunc_int_int_191.l0 k1 l0 a1 (l0.length : Int) (wrap64 (x8_1 + 1)))) = some r := H
      have A6 := A_ A60
      clear A60
      by_cases c7 : t711 = true
      ·
       subst c7
       have H1 : (some x8_1) = some r := by rw [if_pos rfl] at H; exact H
       clear H
       have H := H1
       clear H1
       obtain rfl := Option.some.inj H
       have p710 : 0 ≤ (x8_1 : Int) := od_
       have q710 : x8_1 < (l0.length : Int) := od_
       obtain ⟨ad710, A710_0, c710_0, e710, hx710_0, hl710_0, hi710_0⟩ := at_L1 HR0.out x8_1 p710 q710
       cases e710
       (try replace hx710_0 := (HB.out.cell (World.block_lt_of_cell? w _ hx710_0)).trans hx710_0)
       have HR710_0 := A_ hi710_0
       have HC710_0 := A_ hl710_0
       clear hi710_0 hl710_0
       replace p710 := eq_true p710
       replace q710 := eq_true q710
       go_wp2_with (first | ((with_reducible refine Fn.gate_value rfl ?_); refine Fn.goesVw_ (some 16) rfl (by first | rfl | (simp [Region.wanted, yielded]; done)) v1 rfl #[.slice A710_0 (rd_L1 l0 x8_1).length c710_0] rfl ta_ ?_; (with_reducible refine (FnCall57.calls _ _ (rd_L1 l0 x8_1) v1 a1 true _ ?side1 ?side2 ?side3 A6.out).mono ?_); (case side1 => exact tc_ HR710_0.out); (case side2 => exact HC710_0.out); (case side3 => exact FnOk57.mono HF1.out tb_); rintro e w8 ⟨rfl, hb⟩; refine ⟨_, rfl, ?_⟩; replace HB := A_ (below_step tb_ hb); (try clear hb)))
       go_ret
       exact ⟨te_, tb_⟩
      ·
       replace c7 := Bool.eq_false_iff.mpr c7
       subst c7
       have H1 : (slices_IndexFunc_int_int_191.l0 k1 l0 a1 (l0.length : Int) (wrap64 (x8_1 + 1))) = some r := by rw [if_neg (show ¬ (false = true) by decide)] at H; exact H
       clear H
       have H := H1
       clear H1
       have H' := A_ H
       clear H
       have p710 : 0 ≤ (x8_1 : Int) := od_
       have q710 : x8_1 < (l0.length : Int) := od_
       obtain ⟨ad710, A710_0, c710_0, e710, hx710_0, hl710_0, hi710_0⟩ := at_L1 HR0.out x8_1 p710 q710
       cases e710
       (try replace hx710_0 := (HB.out.cell (World.block_lt_of_cell? w _ hx710_0)).trans hx710_0)
       have HR710_0 := A_ hi710_0
       have HC710_0 := A_ hl710_0
       clear hi710_0 hl710_0
       replace p710 := eq_true p710
       replace q710 := eq_true q710
       go_wp2_with (first | ((with_reducible refine Fn.gate_value rfl ?_); refine Fn.goesVw_ (some 16) rfl (by first | rfl | (simp [Region.wanted, yielded]; done)) v1 rfl #[.slice A710_0 (rd_L1 l0 x8_1).length c710_0] rfl ta_ ?_; (with_reducible refine (FnCall57.calls _ _ (rd_L1 l0 x8_1) v1 a1 false _ ?side1 ?side2 ?side3 A6.out).mono ?_); (case side1 => exact tc_ HR710_0.out); (case side2 => exact HC710_0.out); (case side3 => exact FnOk57.mono HF1.out tb_); rintro e w9 ⟨rfl, hb⟩; refine ⟨_, rfl, ?_⟩; replace HB := A_ (below_step tb_ hb); (try clear hb)))
       go_roundg k1
       case measure => have := HK1.out; omega
       case rel => exact ⟨(wrap64 (x8_1 + 1)), tf_, H', ⟨by have := HK1.out; omega⟩, ⟨tb_⟩⟩
     ·
      rw [if_neg c5] at H
      exact absurd H (by simp)
    ·
     rw [if_neg c4] at H
     exact absurd H (by simp)
   ·
    rw [if_neg c3] at H
    have c3b0 := decide_eq_false c3
    clear c3
    obtain rfl := Option.some.inj H
    go_wp2
    go_ret
    exact ⟨te_, tb_⟩

/-! ### slices_ContainsFunc_int_int_120: function 120 -/
def slices_ContainsFunc_int_int_120.f (k : Nat) (l0 : List (List Int)) (a1 : FnT57) : Option (Bool) := (slices_IndexFunc_int_int_191.f k l0 a1).bind fun t712 => (some (decide (t712 ≥ 0)))
theorem slices_ContainsFunc_int_int_120.mono : ∀ a0 a1 k, LeO (slices_ContainsFunc_int_int_120.f k a0 a1) (slices_ContainsFunc_int_int_120.f (k + 1) a0 a1) := by
 intro a0 a1 k
 unfold slices_ContainsFunc_int_int_120.f
 repeat' first | (with_reducible first | exact slices_IndexFunc_int_int_191.mono _ _ _ | exact LeO.refl _ | exact LeO.none _ | refine LeO.ite ?_ ?_ | refine LeO.bind ?_ (fun _ => ?_)) | exact slices_IndexFunc_int_int_191.mono _ _ _ | exact LeO.none _ | refine LeO.ite ?_ ?_ | refine LeO.bind ?_ (fun _ => ?_)
theorem slices_ContainsFunc_int_int_120.calls (k : Nat) (A0 : Option Addr) (c0 : Nat) (l0 : List (List Int)) (v1 : Value) (a1 : FnT57) (r : Bool) (w : World) (hr0 : Kd.C (Kd.slice 3 (Kd.int .i64)) w A0 l0.length l0) (hc0 : l0.length ≤ c0) (hF1 : FnOk57 w v1 a1) (h : slices_ContainsFunc_int_int_120.f k l0 a1 = some r) :
  Calls Try.prog 120 #[.slice A0 l0.length c0, v1] w fun e w' => e = .returned (.bool r) ∧ Below w.heap.size w w' := by
 have HR0 := A_ hr0
 have HC0 := A_ hc0
 clear hr0 hc0
 have HF1 := A_ hF1
 clear hF1
 have HB := A_ (Below.refl w.heap.size w)
 have H : ((slices_IndexFunc_int_int_191.f k l0 a1).bind fun t712 => (some (decide (t712 ≥ 0)))) = some r := h
 clear h
 replace H := Option.bind_eq_some_iff.mp H
 obtain ⟨t712, A30, H⟩ := H
 replace H : (some (decide (t712 ≥ 0))) = some r := H
 have A3 := A_ A30
 clear A30
 obtain rfl := Option.some.inj H
 go_enter Try.func120, Try.ntmps120
 go_wp2_with (first | (refine gc_ 191 ?_; refine goesT_ (some 7) Try.func191 #[.slice A0 l0.length c0, v1] ?_; (with_reducible refine (slices_IndexFunc_int_int_191.calls k _ _ l0 v1 a1 t712 _ ?side1 ?side2 ?side3 A3.out).mono ?_); (case side1 => exact tc0_ HR0.out); (case side2 => exact HC0.out); (case side3 => exact FnOk57.mono HF1.out tb_); rintro e w4 ⟨rfl, hb⟩; refine ⟨_, rfl, ?_⟩; replace HB := A_ (below_step tb_ hb); (try clear hb)))
 go_ret
 exact ⟨te_, tb_⟩

/-! ### impl_Board_lists_1_1: function 184 -/
def impl_Board_lists_1_1.f (l0 : List Int) (a1 : FnT38) (l2 : List (List Int)) (a3 : Int) : Option (Bool) := if 0 ≤ a3 then (if a3 < (l2.length : Int) then ((FnCall38.f l0 (rd_L1 l2 a3) a1).bind fun t714 => (some (!t714))) else (none)) else (none)
def impl_Board_lists_1_1.T1 : Bool × List (List Nat × List Nat) := (true, [([], []), ([], []), ([], []), ([], []), ([2, 3], [2, 3]), ([4], [4]), ([0, 1, 5], [0, 1, 5]), ([6], [6]), ([7, 6, 0, 1, 2, 3, 4, 5, 6, 7], [7])])
def impl_Board_lists_1_1.B1 : List Nat := [0, 0, 0, 0, 12, 28, 63, 127, 255]
theorem impl_Board_lists_1_1.tab1 : rtab .any (opsOf Try.f184 1) = impl_Board_lists_1_1.T1 := by kernel_rfl
theorem impl_Board_lists_1_1.bits1 : waitsOk impl_Board_lists_1_1.T1.2 impl_Board_lists_1_1.B1 = true := by kernel_rfl
theorem impl_Board_lists_1_1.calls (A0 : Option Addr) (c0 : Nat) (l0 : List Int) (g1 : Nat) (v1 : Value) (a1 : FnT38) (g2 : Nat) (A2 : Option Addr) (c2 : Nat) (l2 : List (List Int)) (g3 : Nat) (a3 : Int) (r : Bool) (w : World) (hr0 : Kd.C (Kd.int .i64) w A0 l0.length l0) (hc0 : l0.length ≤ c0) (hq1 : w.cell? ⟨g1, 0, none⟩ = some (v1)) (hF1 : FnOk38 w v1 a1) (hq2 : w.cell? ⟨g2, 0, none⟩ = some (.slice A2 l2.length c2)) (hr2 : Kd.C (Kd.slice 3 (Kd.int .i64)) w A2 l2.length l2) (hc2 : l2.length ≤ c2) (hq3 : w.cell? ⟨g3, 0, none⟩ = some (.int .i64 a3)) (h : impl_Board_lists_1_1.f l0 a1 l2 a3 = some r) :
  Calls Try.prog 184 #[.slice A0 l0.length c0, .pointer (some ⟨g1, 0, none⟩), .pointer (some ⟨g2, 0, none⟩), .pointer (some ⟨g3, 0, none⟩)] w fun e w' => e = .returned (.bool r) ∧ Below w.heap.size w w' := by
 have HR0 := A_ hr0
 have HC0 := A_ hc0
 clear hr0 hc0
 have HQ1 := A_ hq1
 clear hq1
 have HF1 := A_ hF1
 clear hF1
 have HQ2 := A_ hq2
 clear hq2
 have HR2 := A_ hr2
 have HC2 := A_ hc2
 clear hr2 hc2
 have HQ3 := A_ hq3
 clear hq3
 have HB := A_ (Below.refl w.heap.size w)
 have H : (if 0 ≤ a3 then (if a3 < (l2.length : Int) then ((FnCall38.f l0 (rd_L1 l2 a3) a1).bind fun t714 => (some (!t714))) else (none)) else (none)) = some r := h
 clear h
 by_cases c5 : 0 ≤ a3
 ·
  rw [if_pos c5] at H
  have c5b0 := decide_eq_true c5
  clear c5
  by_cases c6 : a3 < (l2.length : Int)
  ·
   rw [if_pos c6] at H
   have c6b0 := decide_eq_true c6
   clear c6
   replace H := Option.bind_eq_some_iff.mp H
   obtain ⟨t714, A70, H⟩ := H
   replace H : (some (!t714)) = some r := H
   have A7 := A_ A70
   clear A70
   obtain rfl := Option.some.inj H
   go_enter Try.func184, Try.ntmps184
   try go_wp2
   have n0_ := A_ (below_drew1 HB.out)
   clear HB
   have HB := n0_
   clear n0_
   have p713 : 0 ≤ (a3 : Int) := od_
   have q713 : a3 < (l2.length : Int) := od_
   obtain ⟨ad713, A713_0, c713_0, e713, hx713_0, hl713_0, hi713_0⟩ := at_L1 HR2.out a3 p713 q713
   have hw713_0 := hx713_0
   cases e713
   (try replace hx713_0 := (HB.out.cell (World.block_lt_of_cell? w _ hx713_0)).trans hx713_0)
   have HR713_0 := A_ hi713_0
   have HC713_0 := A_ hl713_0
   clear hi713_0 hl713_0
   replace p713 := eq_true p713
   replace q713 := eq_true q713
   refine start_ (n := 9) (S := fun w' => w'.cell? (ad713.add (a3).toNat) = some (.slice A713_0 (rd_L1 l2 a3).length c713_0) ∧ w'.cell? ⟨g1, 0, none⟩ = some (v1) ∧ w'.cell? ⟨g2, 0, none⟩ = some (.slice (some ad713) l2.length c2) ∧ w'.cell? ⟨g3, 0, none⟩ = some (.int .i64 a3)) (ds := []) (Fn.bl 9 0) (by kernel_rfl) rfl rfl ⟨((HB.out.cell (World.block_lt_of_cell? w _ hw713_0)).trans hw713_0), ((HB.out.cell (World.block_lt_of_cell? w _ HQ1.out)).trans HQ1.out), ((HB.out.cell (World.block_lt_of_cell? w _ HQ2.out)).trans HQ2.out), ((HB.out.cell (World.block_lt_of_cell? w _ HQ3.out)).trans HQ3.out)⟩ (fun hHeld => ?_); refine with_tabW impl_Board_lists_1_1.tab1 impl_Board_lists_1_1.bits1 (fun HT_ HW_ => ?_)
   generalize w.drew = w8 at HB HR713_0 hx713_0 hHeld ⊢
   refine pq_ 1 (some 7) (Fn.bl 9 2) HT_.out ?_
   refine tq_ 0 (some 6) (Fn.bl 9 3) HT_.out HW_.out hHeld ?_ (hy0 := by rintro w' ⟨s0, s1, s2, s3⟩; go_simp; with_reducible rfl)
   refine tq_ 2 (some 8) (Fn.bl 9 7) HT_.out HW_.out hHeld ?_ (hy0 := by rintro w' ⟨s0, s1, s2, s3⟩; go_simp; with_reducible rfl)
   refine tq_ 3 (some 9) (Fn.bl 9 15) HT_.out HW_.out hHeld ?_ (hy0 := by rintro w' ⟨s0, s1, s2, s3⟩; go_simp; with_reducible rfl)
   refine pq_ 4 (some 10) (Fn.bl 9 31) HT_.out ?_
   refine tq_ 5 (some 11) (Fn.bl 9 63) HT_.out HW_.out hHeld ?_ (hy0 := by rintro w' ⟨s0, s1, s2, s3⟩; go_simp; with_reducible rfl)
   refine one_ (i := 6) (N := some 12) (Fn.bl 9 127) rfl rfl (one_of HT_.out (by kernel_rfl)) (by decide) (fun K hK => ?_)
   refine Fn.goesVk_ v1 #[.slice A0 l0.length c0, .slice A713_0 (rd_L1 l2 a3).length c713_0] (by rfl) rfl rfl rfl ta_ ?_
   with_reducible refine (FnCall38.calls _ _ l0 _ _ (rd_L1 l2 a3) v1 a1 t714 _ ?side1 ?side2 ?side3 ?side4 ?side5 A7.out).mono ?_
   (case side1 => exact tc_ HR0.out)
   (case side2 => exact HC0.out)
   (case side3 => exact tc_ HR713_0.out)
   (case side4 => exact HC713_0.out)
   (case side5 => exact FnOk38.mono HF1.out tb_)
   rintro e w9 ⟨rfl, hb⟩
   refine ⟨_, rfl, ?_⟩
   have n0_ := A_ (below_step tb_ hb)
   clear HB
   have HB := n0_
   clear n0_
   (try clear hb)
   (try clear hb2)
   (try clear hk)
   (try clear hi)
   refine hK.out _ _ ⟨((HB.out.cell (World.block_lt_of_cell? w _ hw713_0)).trans hw713_0), ((HB.out.cell (World.block_lt_of_cell? w _ HQ1.out)).trans HQ1.out), ((HB.out.cell (World.block_lt_of_cell? w _ HQ2.out)).trans HQ2.out), ((HB.out.cell (World.block_lt_of_cell? w _ HQ3.out)).trans HQ3.out)⟩ (fun hHeld => ?_)
   clear hK K
   refine norm_ (a' := ?_) ?_ ?_
   rotate_left
   ·
    show Act.put _ (some 12) _ = _
    simp only [Act.put, List.setIfInBounds_toArray, List.set_cons_zero, List.set_cons_succ, i64_w, i32_w]
    rfl
   refine pq_ 7 (some 13) (Fn.bl 9 255) HT_.out ?_
   refine pq_ 8 (some 5) (Fn.bl 9 511) HT_.out ?_
   refine done_ (done_of HT_.out (by kernel_rfl)) ?_
   try go_wp2
   go_ret
   exact ⟨te_, tb_⟩
  ·
   rw [if_neg c6] at H
   exact absurd H (by simp)
 ·
  rw [if_neg c5] at H
  exact absurd H (by simp)

/-! ### impl_Board_lists_1: function 183 -/
mutual
def impl_Board_lists_1.f {σ : Type} (are : FnT38) (most : Int) (all : List (List Int)) (cb : σ → List (List Int) → Option (Bool × σ)) : Nat → Int → List (List Int) → σ → Option (Bool × σ)
 | 0, _, _, _ => none
 | k + 1, fr, q, s => (cb s q).bind fun r => if (q.length : Int) = most then some r else impl_Board_lists_1.l0 are most all cb k fr q r.1 r.2
def impl_Board_lists_1.l0 {σ : Type} (are : FnT38) (most : Int) (all : List (List Int)) (cb : σ → List (List Int) → Option (Bool × σ)) : Nat → Int → List (List Int) → Bool → σ → Option (Bool × σ)
 | 0, _, _, _, _ => none
 | k + 1, i, q, g, s => if i < (all.length : Int) then (if g = true then (if 0 ≤ i then ((slices_ContainsFunc_int_int_120.f k q (fun x => impl_Board_lists_1_1.f x are all i)).bind fun hit => if hit = true then impl_Board_lists_1.l0 are most all cb k (wrap64 (i + 1)) q g s else (if q.length < 5864062014805 then ((impl_Board_lists_1.f are most all cb k (wrap64 (i + 1)) (q ++ [all.getD i.toNat []]) s).bind fun r => impl_Board_lists_1.l0 are most all cb k (wrap64 (i + 1)) q r.1 r.2) else none)) else none) else some (g, s)) else some (g, s)
end
theorem impl_Board_lists_1.mono_l {σ : Type} (are : FnT38) (most : Int) (all : List (List Int)) (cb : σ → List (List Int) → Option (Bool × σ)) : ∀ k, (∀ fr q s, LeO (impl_Board_lists_1.f are most all cb k fr q s) (impl_Board_lists_1.f are most all cb (k + 1) fr q s)) ∧ (∀ i q g s, LeO (impl_Board_lists_1.l0 are most all cb k i q g s) (impl_Board_lists_1.l0 are most all cb (k + 1) i q g s))
 | 0 => ⟨fun _ _ _ r h => by simp [impl_Board_lists_1.f] at h, fun _ _ _ _ r h => by simp [impl_Board_lists_1.l0] at h⟩
 | k + 1 => by
  obtain ⟨i0, i1⟩ := impl_Board_lists_1.mono_l are most all cb k
  refine ⟨?_, ?_⟩
  ·
   intro fr q s
   unfold impl_Board_lists_1.f
   refine LeO.bind (LeO.refl _) (fun r => ?_)
   exact LeO.ite (LeO.refl _) (i1 _ _ _ _)
  ·
   intro i q g s
   unfold impl_Board_lists_1.l0
   refine LeO.ite ?_ (LeO.refl _)
   refine LeO.ite ?_ (LeO.refl _)
   refine LeO.ite ?_ (LeO.refl _)
   refine LeO.bind (slices_ContainsFunc_int_int_120.mono _ _ _) (fun b => ?_)
   refine LeO.ite (i1 _ _ _ _) ?_
   refine LeO.ite ?_ (LeO.refl _)
   exact LeO.bind (i0 _ _ _) (fun _ => i1 _ _ _ _)
theorem impl_Board_lists_1.mono {σ : Type} (are : FnT38) (most : Int) (all : List (List Int)) (cb : σ → List (List Int) → Option (Bool × σ)) : ∀ fr q s k, LeO (impl_Board_lists_1.f are most all cb k fr q s) (impl_Board_lists_1.f are most all cb (k + 1) fr q s) := fun fr q s k => (impl_Board_lists_1.mono_l are most all cb k).1 _ _ _
def impl_Board_lists_1.self (gd gl gg gm ga gr gx : Nat) : Value := .func (.func 183) #[] #[.pointer (some ⟨gd, 0, none⟩), .pointer (some ⟨gl, 0, none⟩), .pointer (some ⟨gg, 0, none⟩), .pointer (some ⟨gm, 0, none⟩), .pointer (some ⟨ga, 0, none⟩), .pointer (some ⟨gr, 0, none⟩), .pointer (some ⟨gx, 0, none⟩)]
def impl_Board_lists_1.vars (gd gl gg gm ga gr gx : Nat) (vd : Value) (most : Int) (Aa : Option Addr) (na ca : Nat) (vr : Value) : List (Nat × Nat × Value) :=
 [(gd, 88, vd), (gm, 3, .int .i64 most), (ga, 41, .slice Aa na ca), (gr, 133, vr), (gx, 134, impl_Board_lists_1.self gd gl gg gm ga gr gx)]
abbrev impl_Board_lists_1.St {σ : Type} (bI : Nat) (w w0 : World) (U : Nat → Prop) (D : (Nat → Prop) → World → σ → Prop) (L : List (Nat × Nat × Value)) (gl gg : Nat) (own : Nat → Prop) (W : World) (vl : Value) (q : List (List Int)) (b : Bool) (s : σ) : Prop :=
 Cap.Lst 3 bI 22 41 4 w w0 U D L gl gg own W vl q b s
theorem impl_Board_lists_1.enters (gd gl gg gm ga gr gx : Nat) {fr : Int} {w : World} {Q : Ending → World → Prop} (h : Calls Try.prog 183 #[.int .i64 fr, .pointer (some ⟨gd, 0, none⟩), .pointer (some ⟨gl, 0, none⟩), .pointer (some ⟨gg, 0, none⟩), .pointer (some ⟨gm, 0, none⟩), .pointer (some ⟨ga, 0, none⟩), .pointer (some ⟨gr, 0, none⟩), .pointer (some ⟨gx, 0, none⟩)] w Q) :
  Fn.CallsV Try.prog (impl_Board_lists_1.self gd gl gg gm ga gr gx) #[.int .i64 fr] w Q := ⟨183, _, _, rfl, Try.func183, by kernel_rfl, rfl, by simpa using h⟩
/-- The closure that tells whether a piece on cell i disturbs one. -/
theorem impl_Board_lists_1.hits (gr ga gi : Nat) (vr : Value) (are : FnT38) (Aa : Option Addr) (ca : Nat) (all : List (List Int)) (i : Int) (W : World) (h1 : W.cell? ⟨gr, 0, none⟩ = some vr) (hF : FnOk38 W vr are) (h2 : W.cell? ⟨ga, 0, none⟩ = some (.slice Aa all.length ca)) (h3 : Kd.C (Kd.slice 3 (Kd.int .i64)) W Aa all.length all) (h4 : all.length ≤ ca) (h5 : W.cell? ⟨gi, 0, none⟩ = some (.int .i64 i)) :
  FnOk57 W (.func (.func 184) #[] #[.pointer (some ⟨gr, 0, none⟩), .pointer (some ⟨ga, 0, none⟩), .pointer (some ⟨gi, 0, none⟩)]) (fun x => impl_Board_lists_1_1.f x are all i) := by
 intro A0 c0 l0 r W1 hr0 hc0 h hB
 refine ⟨184, _, _, rfl, Try.func184, by kernel_rfl, rfl, ?_⟩
 have hc := fun (a : Addr) (v : Value) (e : W.cell? a = some v) => (hB.cell (World.block_lt_of_cell? W _ e)).trans e
 have := impl_Board_lists_1_1.calls A0 c0 l0 gr vr are ga Aa ca all gi i r W1 hr0 hc0 (hc _ _ h1) (FnOk38.mono hF hB) (hc _ _ h2) (Kd.C_below h3 hB) h4 (hc _ _ h5) h
 simpa using this
theorem impl_Board_lists_1.calls {σ : Type} (D : (Nat → Prop) → World → σ → Prop) (cb : σ → List (List Int) → Option (Bool × σ)) (vd vr : Value) (are : FnT38) (w w0 : World) (U : Nat → Prop) (bI gd gl gg gm ga gr gx : Nat) (Aa : Option Addr) (ca : Nat) (all : List (List Int)) (most : Int) (hT0 : Cap.Tells Try.prog 3 w vd cb D) (hF0 : FnOk38 w vr are) (hA0 : (Cap.lent 3 bI U w0).C w0 Aa all.length all) (hU0 : ∀ ad, Aa = some ad → U ad.block) (hc0 : all.length ≤ ca) (k : Nat) :
  ∀ (L0 : List (Nat × Nat × Value)) (own : Nat → Prop) (W : World) (vl : Value) (q : List (List Int)) (b : Bool) (s : σ) (fr : Int) (r : Bool × σ) (hS : impl_Board_lists_1.St bI w w0 U D (L0 ++ impl_Board_lists_1.vars gd gl gg gm ga gr gx vd most Aa all.length ca vr) gl gg own W vl q b s) (h : impl_Board_lists_1.f are most all cb k fr q s = some r),
  Calls Try.prog 183 #[.int .i64 fr, .pointer (some ⟨gd, 0, none⟩), .pointer (some ⟨gl, 0, none⟩), .pointer (some ⟨gg, 0, none⟩), .pointer (some ⟨gm, 0, none⟩), .pointer (some ⟨ga, 0, none⟩), .pointer (some ⟨gr, 0, none⟩), .pointer (some ⟨gx, 0, none⟩)] W fun e W' => e = .returned (.tuple #[]) ∧ ∃ own' vl', impl_Board_lists_1.St bI w w0 U D (L0 ++ impl_Board_lists_1.vars gd gl gg gm ga gr gx vd most Aa all.length ca vr) gl gg own' W' vl' q r.1 r.2 := by
 have hT := A_ hT0
 have hF := A_ hF0
 have hA := A_ hA0
 have hU := A_ hU0
 have hC := A_ hc0
 clear hT0 hF0 hA0 hU0 hc0
 induction k using Nat.strongRecOn with
 | _ k ih =>
 intro L0 own W vl q b s fr r hS h
 cases k with
 | zero => exact absurd h (by simp [impl_Board_lists_1.f])
 | succ k =>
 simp only [impl_Board_lists_1.f] at h
 obtain ⟨⟨b1, s1⟩, A1, H⟩ := Option.bind_eq_some_iff.mp h
 clear h
 replace A1 := A_ A1
 obtain ⟨Al, cl, rfl⟩ := Kd.R_slice hS.hl
 have hcd := hS.fix.cell (g := gd) (List.mem_append_right L0 (.head _))
 have hcl := hS.celll
 have hrw := A_ (hS.rows (e := 3))
 have HS := A_ hS
 clear hS
 have hmf_ : ∀ (fn : Go.Fn) (first cap : Array Value) (w : World), (Instr.makeFunc fn first cap).run Try.prog w = .ok (.func fn first cap) w := fun _ _ _ _ => rfl
 obtain ⟨i0, hi0, _⟩ := info_parts info22
 replace hi0 := A_ hi0
 by_cases c3 : (q.length : Int) = most
 ·
  rw [if_pos c3] at H
  have c3b0 : ((q.length : Int) == most) = true := beq_iff_eq.mpr c3
  have c3b1 : ((q.length : Int) != most) = false := bne_eq_false_iff_eq.mpr c3
  clear c3
  obtain rfl := Option.some.inj H
  clear H
  go_enter Try.func183, Try.ntmps183
  go_wp2_with (first | ((with_reducible refine Fn.gate_value rfl ?_); refine Fn.goesVw_ (some 12) rfl (by first | rfl | (simp [Region.wanted, yielded]; done)) vd rfl #[.slice Al q.length cl] rfl (by (try simp only [List.map_toArray, List.map_cons, List.map_nil]); first | done | rfl) ?_; (with_reducible refine (hT.out.call _ _ _ Al cl q b1 s1 HS.out.d HS.out.rowsAll hrw.out.2.1 A1.out HS.out.bel).mono ?_); rintro e w8 ⟨rfl, own8, hd, ho, hb, hs, hk⟩; refine ⟨_, rfl, ?_⟩; have HS8 := A_ (HS.out.told hT.out hd ho hb hs hk); clear hd ho hb hs hk hcd hcl; have hcg8 := HS8.out.cellg; have hfg8 := HS8.out.freeg; have HS9 := A_ (HS8.out.setg hT.out b1); have hcl9 := HS9.out.celll; have hcm9 := HS9.out.fix.cell (g := gm) (List.mem_append_right L0 (.tail _ (.head _)))))
  (try simp only [Exit.inBlock, Exit.then]); refine bodyPost_ret (results_none rfl _ _ _) rfl ?_
  exact ⟨rfl, _, _, HS9.out⟩
 ·
  rw [if_neg c3] at H
  have c3b0 : ((q.length : Int) == most) = false := beq_eq_false_iff_ne.mpr c3
  have c3b1 : ((q.length : Int) != most) = true := bne_iff_ne.mpr c3
  clear c3
  replace H := A_ H
  go_enter Try.func183, Try.ntmps183
  go_wp2_with (first | ((with_reducible refine Fn.gate_value rfl ?_); refine Fn.goesVw_ (some 12) rfl (by first | rfl | (simp [Region.wanted, yielded]; done)) vd rfl #[.slice Al q.length cl] rfl (by (try simp only [List.map_toArray, List.map_cons, List.map_nil]); first | done | rfl) ?_; (with_reducible refine (hT.out.call _ _ _ Al cl q b1 s1 HS.out.d HS.out.rowsAll hrw.out.2.1 A1.out HS.out.bel).mono ?_); rintro e w8 ⟨rfl, own8, hd, ho, hb, hs, hk⟩; refine ⟨_, rfl, ?_⟩; have HS8 := A_ (HS.out.told hT.out hd ho hb hs hk); clear hd ho hb hs hk hcd hcl; have hcg8 := HS8.out.cellg; have hfg8 := HS8.out.freeg; have HS9 := A_ (HS8.out.setg hT.out b1); have hcl9 := HS9.out.celll; have hcm9 := HS9.out.fix.cell (g := gm) (List.mem_append_right L0 (.tail _ (.head _))); have HSb := A_ (HS9.out.boxn hT.out 3 (.int .i64 fr) w8.heap.size (by simp [World.setCell]))))
  go_loopg [9] k (fun kq v9 W' => ∃ (gi : Nat) (i : Int) (own2 : Nat → Prop) (vl2 : Value) (g : Bool) (s2 : σ), v9 = .pointer (some ⟨gi, 0, none⟩) ∧ Aside0 (impl_Board_lists_1.l0 are most all cb kq i q g s2 = some r) ∧ Aside0 (kq ≤ k) ∧ Aside0 (impl_Board_lists_1.St bI w w0 U D ((gi, 3, .int .i64 i) :: (L0 ++ impl_Board_lists_1.vars gd gl gg gm ga gr gx vd most Aa all.length ca vr)) gl gg own2 W' vl2 q g s2))
  case atStart => exact ⟨_, fr, _, _, b1, s1, rfl, H, ⟨Nat.le_refl _⟩, HSb⟩
  case round =>
   clear H HS HS8 HS9 HSb hcg8 hfg8 hcl9 hcm9 A1 hrw
   obtain ⟨gi, i, own2, vl2, g, s2, rfl, HA, HK1, HS⟩ := hrel
   obtain ⟨Al2, cl2, e2⟩ := Kd.R_slice HS.out.hl
   subst e2
   have hcl := HS.out.celll
   have hcg := HS.out.cellg
   have hci := HS.out.celli
   have hca := HS.out.fix.cell (g := ga) (.tail _ (List.mem_append_right L0 (.tail _ (.tail _ (.head _)))))
   have hrw := A_ (HS.out.rows (e := 3))
   cases gk with
   | zero => exact absurd HA.out (by simp [impl_Board_lists_1.l0])
   | succ k1 =>
    have H := HA.out
    clear HA
    simp only [impl_Board_lists_1.l0] at H
    by_cases c4 : i < (all.length : Int)
    case neg =>
     rw [if_neg c4] at H
     have c4b := decide_eq_false c4
     clear c4
     obtain rfl := Option.some.inj H
     clear H
     go_wp2
     go_end0
     exact ⟨rfl, _, _, HS.out.drop⟩
    rw [if_pos c4] at H
    have c4b := decide_eq_true c4
    cases g with
    | false =>
     rw [if_neg (by simp)] at H
     clear c4
     obtain rfl := Option.some.inj H
     clear H
     go_wp2
     go_end0
     exact ⟨rfl, _, _, HS.out.drop⟩
    | true =>
     rw [if_pos rfl] at H
     by_cases c5 : 0 ≤ i
     case neg =>
      rw [if_neg c5] at H
      exact absurd H (by simp)
     rw [if_pos c5] at H
     obtain ⟨hit, A2, H⟩ := Option.bind_eq_some_iff.mp H
     replace A2 := A_ A2
     have HX := A_ (impl_Board_lists_1.hits gr ga gi vr are Aa ca all i _ (HS.out.fix.cell (.tail _ (List.mem_append_right L0 (.tail _ (.tail _ (.tail _ (.head _))))))) (FnOk38.mono hF.out HS.out.bel) hca (HS.out.all hA.out hU.out) hC.out hci)
     cases hit with
     | true =>
      rw [if_pos rfl] at H
      replace H := A_ H
      clear c4 c5
      go_wp2_with (first | (refine gc_ 120 ?_; refine goesL_ (some 29) rfl rfl Try.func120 (by kernel_rfl) rfl #[.slice Al2 q.length cl2, .func (.func 184) #[] #[.pointer (some ⟨gr, 0, none⟩), .pointer (some ⟨ga, 0, none⟩), .pointer (some ⟨gi, 0, none⟩)]] rfl (by (try simp only [List.map_toArray, List.map_cons, List.map_nil]); first | done | rfl) ?_; (with_reducible refine (slices_ContainsFunc_int_int_120.calls k1 Al2 cl2 q _ _ true _ hrw.out.2.2 hrw.out.2.1 HX.out A2.out).mono ?_); rintro e w5 ⟨rfl, hd⟩; refine ⟨_, rfl, ?_⟩; have HS5 := A_ (HS.out.below hT.out hd); clear hd; have hci5 := HS5.out.celli; have HS8 := A_ (HS5.out.drop.boxn hT.out 3 (.int .i64 (wrap64 (i + 1))) w5.heap.size rfl)))
      go_roundg k1
      case measure => have := HK1.out; omega
      case rel => exact ⟨_, wrap64 (i + 1), _, _, true, s2, tf_, H, ⟨by have := HK1.out; omega⟩, HS8⟩
     | false =>
      simp only [Bool.false_eq_true, if_false] at H
      by_cases c6 : q.length < 5864062014805
      case neg =>
       rw [if_neg c6] at H
       exact absurd H (by simp)
      rw [if_pos c6] at H
      have c6a := A_ c6
      clear c6
      obtain ⟨⟨g3, s3⟩, A3, H⟩ := Option.bind_eq_some_iff.mp H
      replace A3 := A_ A3
      replace H := A_ H
      go_wp2_with (first | (refine gc_ 120 ?_; refine goesL_ (some 29) rfl rfl Try.func120 (by kernel_rfl) rfl #[.slice Al2 q.length cl2, .func (.func 184) #[] #[.pointer (some ⟨gr, 0, none⟩), .pointer (some ⟨ga, 0, none⟩), .pointer (some ⟨gi, 0, none⟩)]] rfl (by (try simp only [List.map_toArray, List.map_cons, List.map_nil]); first | done | rfl) ?_; (with_reducible refine (slices_ContainsFunc_int_int_120.calls k1 Al2 cl2 q _ _ false _ hrw.out.2.2 hrw.out.2.1 HX.out A2.out).mono ?_); rintro e w5 ⟨rfl, hd⟩; refine ⟨_, rfl, ?_⟩; have HS5 := A_ (HS.out.below hT.out hd); clear hd))
      have HSd := A_ (HS5.out.below hT.out (below_drew (Below.refl _ _)))
      obtain ⟨ad, Ax, cx, rfl, hxe, hxl⟩ := HSd.out.elem hA.out hU.out i c5 c4
      have hxl := A_ hxl
      have p5 := eq_true c5
      have q5 := eq_true c4
      refine start_ (n := 8) (S := fun w' => w'.cell? ⟨gl, 0, none⟩ = some (.slice Al2 q.length cl2) ∧ w'.cell? ⟨ga, 0, none⟩ = some (.slice (some ad) all.length ca) ∧ w'.cell? ⟨gi, 0, none⟩ = some (.int .i64 i) ∧ w'.cell? (ad.add i.toNat) = some (.slice Ax (all.getD i.toNat []).length cx)) (ds := [7]) (Fn.bl 8 0) (by kernel_rfl) rfl rfl ⟨HSd.out.celll, HSd.out.fix.cell (.tail _ (List.mem_append_right L0 (.tail _ (.tail _ (.head _))))), HSd.out.celli, hxe⟩ (fun hHeld => ?_)
      clear HS HS5 hcl hcg hci hca hxe
      generalize w5.drew = w6 at HSd hHeld ⊢
      refine take_ (i := 0) (N := some 30) (v := ?_) (a' := ?_) (Fn.bl 8 1) rfl rfl (by kernel_rfl) (fun _ _ _ h => h) (Or.inl ⟨by rfl, ?_⟩) hHeld ?_ ?_
      rotate_left
      ·
       rintro w' ⟨s0, s1, s2, s3⟩
       go_simp
       with_reducible rfl
      rotate_left
      ·
       simp only [Act.put, List.setIfInBounds_toArray, List.set_cons_zero, List.set_cons_succ, i64_w, i32_w]
       rfl
      refine take_ (i := 1) (N := some 31) (v := ?_) (a' := ?_) (Fn.bl 8 3) rfl rfl (by kernel_rfl) (fun _ _ _ h => h) (Or.inl ⟨by rfl, ?_⟩) hHeld ?_ ?_
      rotate_left
      ·
       rintro w' ⟨s0, s1, s2, s3⟩
       go_simp
       with_reducible rfl
      rotate_left
      ·
       simp only [Act.put, List.setIfInBounds_toArray, List.set_cons_zero, List.set_cons_succ, i64_w, i32_w]
       rfl
      refine take_ (i := 2) (N := some 32) (v := ?_) (a' := ?_) (Fn.bl 8 7) rfl rfl (by kernel_rfl) (fun _ _ _ h => h) (Or.inl ⟨by rfl, ?_⟩) hHeld ?_ ?_
      rotate_left
      ·
       rintro w' ⟨s0, s1, s2, s3⟩
       go_simp
       with_reducible rfl
      rotate_left
      ·
       simp only [Act.put, List.setIfInBounds_toArray, List.set_cons_zero, List.set_cons_succ, i64_w, i32_w]
       rfl
      refine take_ (i := 3) (N := some 33) (v := ?_) (a' := ?_) (Fn.bl 8 15) rfl rfl (by kernel_rfl) (fun _ _ _ h => h) (Or.inl ⟨by rfl, ?_⟩) hHeld ?_ ?_
      rotate_left
      ·
       rintro w' ⟨s0, s1, s2, s3⟩
       go_simp
       with_reducible rfl
      rotate_left
      ·
       simp only [Act.put, List.setIfInBounds_toArray, List.set_cons_zero, List.set_cons_succ, i64_w, i32_w]
       rfl
      refine take_ (i := 4) (N := some 34) (v := ?_) (a' := ?_) (Fn.bl 8 31) rfl rfl (by kernel_rfl) (fun _ _ _ h => h) (Or.inl ⟨by rfl, ?_⟩) hHeld ?_ ?_
      rotate_left
      ·
       rintro w' ⟨s0, s1, s2, s3⟩
       go_simp
       with_reducible rfl
      rotate_left
      ·
       simp only [Act.put, List.setIfInBounds_toArray, List.set_cons_zero, List.set_cons_succ, i64_w, i32_w]
       rfl
      have hxe : w6.cell? (ad.add i.toNat) = some (.slice Ax (all.getD i.toNat []).length cx) := hHeld.2.2.2
      have hub : U (ad.add i.toNat).block := by rw [Cap.add_block]; exact hU.out ad rfl
      refine one_ (i := 5) (N := some 35) (Fn.bl 8 63) rfl rfl (by kernel_rfl) (by decide) (fun K hK => ?_)
      refine value_ (v := .slice (some ⟨w6.heap.size, 0, none⟩) 1 1) (w1 := w6.alloc (.cells #[.slice Ax (all.getD i.toNat []).length cx] 22)) (by rfl) rfl ?_ ?_
      ·
       go_simp
      have HSe := A_ (HSd.out.below hT.out (below_alloc (Below.refl _ _) (.cells #[.slice Ax (all.getD i.toNat []).length cx] 22)))
      refine hK.out _ _ ⟨HSe.out.celll, HSe.out.fix.cell (.tail _ (List.mem_append_right L0 (.tail _ (.tail _ (.head _))))), HSe.out.celli, ((below_alloc (Below.refl _ w6) _).cell (World.block_lt_of_cell? w6 _ hxe)).trans hxe⟩ (fun hHeld => ?_)
      clear hK K
      refine norm_ (a' := ?_) ?_ ?_
      rotate_left
      ·
       show Act.put _ (some 35) _ = _
       simp only [Act.put, List.setIfInBounds_toArray, List.set_cons_zero, List.set_cons_succ, i64_w, i32_w]
       rfl
      refine one_ (i := 6) (N := some 36) (Fn.bl 8 127) rfl rfl (by kernel_rfl) (by decide) (fun K hK => ?_)
      refine Kd.R_append_step (Cap.lent 3 bI U w0) (w0 := w) w.heap.size (by rfl) (.tmp 30) (.tmp 35) 41 22 (.slice none 0 0) 24 rfl Try.underlying41 info22 rfl (show 0 < 1 by decide) (by omega) (.slice Al2 q.length cl2) q (all.getD i.toNat []) [.slice Ax (all.getD i.toNat []).length cx] (fun _ => True) (fun _ => False) rfl rfl hxl.out (fun _ hk => hk.elim) (fun _ _ => trivial) (Kd.R_mono HSd.out.hl (fun _ _ => trivial)) HSd.out.bel HSd.out.bel.size (by have := c6a.out; omega) ?_
      intro v1 w7 ho hb hg hat
      obtain ⟨A1, c1, e1⟩ := Kd.R_slice ho
      rw [List.length_append, List.length_singleton] at e1
      subst e1
      have HT := A_ (HSd.out.setl hT.out hb hg ho hat)
      have HH := HSd.out.held hg
      have hcl7 := HT.out.2.1
      have hfl7 := HT.out.2.2
      have HS7 := A_ HT.out.1
      have hxe7 := (HH.2 _ hub).trans hxe
      have hca7 := HH.1.cell (.tail _ (List.mem_append_right L0 (.tail _ (.tail _ (.head _)))))
      have hci7 := HH.1.cell (.head _)
      clear ho hb hg hat HT HH HSe
      refine hK.out _ _ ⟨hcl7, hca7, hci7, hxe7⟩ (fun hHeld => ?_)
      clear hK K
      refine norm_ (a' := ?_) ?_ ?_
      rotate_left
      ·
       show Act.put _ (some 36) _ = _
       simp only [Act.put, List.setIfInBounds_toArray, List.set_cons_zero, List.set_cons_succ, i64_w, i32_w]
       rfl
      clear hxe7 hca7 hci7
      refine last_ (i := 7) (N := none) (Fn.bl 8 255) rfl rfl (by kernel_rfl) (by decide) (fun K hK => ?_)
      refine skip_ (w1 := ?_) (by rfl) rfl ?_ ?_
      rotate_left
      ·
       go_simp
       rfl
      refine hK.out _ _ ?_
      clear hK K
      refine done_ (by kernel_rfl) ?_
      have hi7 := HS7.out.celli
      have hx7 := HS7.out.fix.cell (g := gx) (.tail _ (List.mem_append_right L0 (.tail _ (.tail _ (.tail _ (.tail _ (.head _)))))))
      have HT7 : Aside0 (impl_Board_lists_1.St bI w w0 U D (((gi, 3, .int .i64 i) :: L0) ++ impl_Board_lists_1.vars gd gl gg gm ga gr gx vd most (some ad) all.length ca vr) gl gg own2 (w7.setCell ⟨gl, 0, none⟩ (.slice A1 (q.length + 1) c1)) (.slice A1 (q.length + 1) c1) (q ++ [all.getD i.toNat []]) true s2) := HS7
      have hw : wrap64 (q.length : Int) = (q.length : Int) := by have := c6a.out; unfold wrap64; omega
      have HW := A_ hw
      clear hw hcl7 hfl7 hxe hub p5 q5
      go_wp2_with (first | ((with_reducible refine Fn.gate_value rfl ?_); refine Fn.goesVw_ (some 40) rfl (by first | rfl | (simp [Region.wanted, yielded]; done)) (impl_Board_lists_1.self gd gl gg gm ga gr gx) rfl #[.int .i64 (wrap64 (i + 1))] rfl (by (try simp only [List.map_toArray, List.map_cons, List.map_nil]); first | done | rfl) ?_; refine impl_Board_lists_1.enters gd gl gg gm ga gr gx ?_; (with_reducible refine (ih k1 (by have := HK1.out; omega) ((gi, 3, .int .i64 i) :: L0) own2 _ _ (q ++ [all.getD i.toNat []]) true s2 (wrap64 (i + 1)) (g3, s3) HT7.out A3.out).mono ?_); rintro e w8 ⟨rfl, own8, vl8, hs⟩; refine ⟨_, rfl, ?_⟩; obtain ⟨A8, c8, e8⟩ := Kd.R_slice hs.hl; rw [List.length_append, List.length_singleton] at e8; subst e8; have HS8 := A_ (show impl_Board_lists_1.St bI w w0 U D ((gi, 3, .int .i64 i) :: (L0 ++ impl_Board_lists_1.vars gd gl gg gm ga gr gx vd most (some ad) all.length ca vr)) gl gg own8 _ _ _ _ _ from hs); clear hs; have hcl8 := HS8.out.celll; have hfl8 := HS8.out.freel; have hcut8 := cut_to (P := Try.prog) 41 22 .i64 Try.underlying41 hi0.out A8 (q.length + 1) c8 (wrap64 (q.length : Int)) (by rw [HW.out]; omega) (by rw [HW.out]; omega) (by have := (Kd.R_reads' HS8.out.hl).2.1; simpa using this); have HS9 := A_ (HS8.out.cutq hT.out (wrap64 (q.length : Int)).toNat (by rw [HW.out]; simp) q (by rw [HW.out, Int.toNat_natCast, List.take_left' rfl])); have hci9 := HS9.out.celli; have HSf := A_ (HS9.out.drop.boxn hT.out 3 (.int .i64 (wrap64 (i + 1))) w8.heap.size (by simp [World.setCell]))))
      go_roundg k1
      case measure => have := HK1.out; omega
      case rel => exact ⟨_, wrap64 (i + 1), _, _, g3, s3, tf_, H, ⟨by have := HK1.out; omega⟩, HSf⟩

/-! ### impl_Board_lists: function 101 -/
def impl_Board_lists.f {σ : Type} (k : Nat) (R C : Int) (lb : List Int) (most : Int) (are : FnT38) (cb : σ → List (List Int) → Option (Bool × σ)) (s : σ) : Option (Bool × σ) := (impl_CellsOf.f k R C lb).bind fun p => impl_Board_lists_1.f are most p.1 cb k 0 [] s
theorem impl_Board_lists.mono {σ : Type} (R C : Int) (lb : List Int) (most : Int) (are : FnT38) (cb : σ → List (List Int) → Option (Bool × σ)) (s : σ) (k : Nat) : LeO (impl_Board_lists.f k R C lb most are cb s) (impl_Board_lists.f (k + 1) R C lb most are cb s) :=
 LeO.bind (impl_CellsOf.mono _ _ _ _) (fun _ => impl_Board_lists_1.mono _ _ _ _ _ _ _ _)
theorem impl_Board_lists.calls {σ : Type} (D : (Nat → Prop) → World → σ → Prop) (cb : σ → List (List Int) → Option (Bool × σ)) (fd fr : Go.Fn) (hd1 hd2 hr1 hr2 : Array Value) (are : FnT38) (w : World) (hT0 : Cap.Tells Try.prog 3 w (.func fd hd1 hd2) cb D) (hF0 : FnOk38 w (.func fr hr1 hr2) are) (k : Nat) (own : Nat → Prop) (W : World) (s : σ) (R C : Int) (Ab : Option Addr) (lb : List Int) (c : Nat) (most : Int) (r : Bool × σ) (hd : D own W s) (hB : Below w.heap.size w W) (hC : Kd.C (Kd.int .i64) W Ab lb.length lb) (hc : lb.length ≤ c) (h : impl_Board_lists.f k R C lb most are cb s = some r) :
  Calls Try.prog 101 #[.agg #[.int .i64 R, .int .i64 C, .slice Ab lb.length c], .int .i64 most, .func fr hr1 hr2, .func fd hd1 hd2] W fun e W' => e = .returned (.tuple #[]) ∧ ∃ own', D own' W' r.2 ∧ Below w.heap.size w W' := by
 have hT := A_ hT0
 have hF := A_ hF0
 have HD := A_ hd
 have HB := A_ hB
 have HC := A_ hC
 have Hc := A_ hc
 clear hT0 hF0 hd hB hC hc
 unfold impl_Board_lists.f at h
 obtain ⟨⟨all, ok⟩, A1, H⟩ := Option.bind_eq_some_iff.mp h
 clear h
 replace A1 := A_ A1
 replace H := A_ H
 have hu26 := Try.underlying26
 have hmf_ : ∀ (fn : Go.Fn) (first cap : Array Value) (w : World), (Instr.makeFunc fn first cap).run Try.prog w = .ok (.func fn first cap) w := fun _ _ _ _ => rfl
 go_enter Try.func101, Try.ntmps101
 go_wp2_with (first | (refine gc_ 115 ?_; refine goesL_ (some 15) rfl rfl Try.func115 (by kernel_rfl) rfl #[.agg #[.int .i64 R, .int .i64 C, .slice Ab lb.length c]] rfl (by (try simp only [List.map_toArray, List.map_cons, List.map_nil]); first | done | rfl) ?_; (with_reducible refine (impl_CellsOf.calls k R C Ab c lb all ok _ ?q1 Hc.out A1.out).mono ?_); (case q1 => exact Kd.C_below HC.out (below_alloc (below_alloc (below_alloc (below_alloc (Below.refl _ _) _) _) _) _)); rintro e w5 ⟨va, rfl, hs, hb⟩; refine ⟨_, rfl, ?_⟩; obtain ⟨Aa, ca, ea⟩ := Kd.S_slice hs; subst ea; have HS5 := A_ (Kd.S_R hs); have HB5 := A_ hb; clear hs hb))
 have e4 : ((((W.alloc (.cells #[.int .i64 R, .int .i64 C, .slice Ab lb.length c] 26)).alloc (.cells #[.int .i64 most] 3)).alloc (.cells #[.func fr hr1 hr2] 133)).alloc (.cells #[.func fd hd1 hd2] 88)).heap.size = W.heap.size + 1 + 1 + 1 + 1 := by simp
 have hb4 : Below W.heap.size W ((((W.alloc (.cells #[.int .i64 R, .int .i64 C, .slice Ab lb.length c] 26)).alloc (.cells #[.int .i64 most] 3)).alloc (.cells #[.func fr hr1 hr2] 133)).alloc (.cells #[.func fd hd1 hd2] 88)) := below_alloc (below_alloc (below_alloc (below_alloc (Below.refl _ _) _) _) _) _
 have hs5 := HB5.out.size
 rw [e4] at hs5
 have hw := HB.out.size
 have hl := hT.out.lies _ _ _ HD.out
 have hb5 : Below w.heap.size w w5 := below_then HB.out hw (below_then hb4 hb4.size HB5.out)
 have hb6 : Below w5.heap.size w5 (w5.alloc (.cells #[.slice Aa all.length ca] 41)) := below_alloc (Below.refl _ _) _
 have z5 : (w5.alloc (.cells #[.slice Aa all.length ca] 41)).heap.size = w5.heap.size + 1 := by simp
 have hle0 := HS5.out
 rw [e4] at hle0
 have hle := Cap.lent_of hle0
 have f1 : w5.heap[W.heap.size + 1]? = some (.cells #[.int .i64 most] 3 (0, 0)) := by
  have := blk_alloc (blk_alloc (blk_new (W.alloc (.cells #[.int .i64 R, .int .i64 C, .slice Ab lb.length c] 26)) (.cells #[.int .i64 most] 3)) (.cells #[.func fr hr1 hr2] 133)) (.cells #[.func fd hd1 hd2] 88)
  exact blk_below (by simpa using this) HB5.out
 have f2 : w5.heap[W.heap.size + 1 + 1]? = some (.cells #[.func fr hr1 hr2] 133 (0, 0)) := by
  have := blk_alloc (blk_new ((W.alloc (.cells #[.int .i64 R, .int .i64 C, .slice Ab lb.length c] 26)).alloc (.cells #[.int .i64 most] 3)) (.cells #[.func fr hr1 hr2] 133)) (.cells #[.func fd hd1 hd2] 88)
  exact blk_below (by simpa using this) HB5.out
 have f3 : w5.heap[W.heap.size + 1 + 1 + 1]? = some (.cells #[.func fd hd1 hd2] 88 (0, 0)) := by
  have := blk_new (((W.alloc (.cells #[.int .i64 R, .int .i64 C, .slice Ab lb.length c] 26)).alloc (.cells #[.int .i64 most] 3)).alloc (.cells #[.func fr hr1 hr2] 133)) (.cells #[.func fd hd1 hd2] 88)
  exact blk_below (by simpa using this) HB5.out
 have S0 := Cap.Lst.start (eI := 3) (bI := W.heap.size + 1 + 1 + 1 + 1) (tL := 22) (tV := 41) (tG := 4) (w0 := w5) (U := fun k => W.heap.size + 1 + 1 + 1 + 1 ≤ k ∧ k < w5.heap.size) (W := w5.alloc (.cells #[.slice Aa all.length ca] 41)) (L := [(W.heap.size + 1 + 1 + 1, 88, .func fd hd1 hd2), (W.heap.size + 1, 3, .int .i64 most), (w5.heap.size, 41, .slice Aa all.length ca), (W.heap.size + 1 + 1, 133, .func fr hr1 hr2)]) hT.out
  (hT.out.move _ _ _ _ HD.out (fun k hk => (hb6.block k (by have := hl k hk; omega)).trans ((HB5.out.block k (by have := hl k hk; omega)).trans (hb4.block k (hl k hk).2))))
  (below_then hb5 hb5.size hb6) (fun k hk => hb6.block k hk.2) (fun k hk => by rw [z5]; omega)
  (fun k hk => by
   have := hl k hk
   refine ⟨fun x hx => ?_, fun hu => by omega⟩
   simp only [List.mem_cons, List.not_mem_nil, or_false] at hx
   rcases hx with rfl | rfl | rfl | rfl <;> (dsimp only; omega))
  (fun x hx => by
   simp only [List.mem_cons, List.not_mem_nil, or_false] at hx
   rcases hx with rfl | rfl | rfl | rfl
   ·
    exact blk_alloc f3 _
   ·
    exact blk_alloc f1 _
   ·
    exact blk_new _ _
   ·
    exact blk_alloc f2 _)
  (by
   simp only [List.pairwise_cons, List.mem_cons, List.not_mem_nil, or_false, forall_eq_or_imp, forall_eq, List.Pairwise.nil, and_true, false_implies, implies_true]
   omega)
  (fun k hk x hx => by
   simp only [List.mem_cons, List.not_mem_nil, or_false] at hx
   rcases hx with rfl | rfl | rfl | rfl <;> (dsimp only; omega))
  (fun x hx => by
   simp only [List.mem_cons, List.not_mem_nil, or_false] at hx
   rcases hx with rfl | rfl | rfl | rfl <;> (dsimp only; omega))
 have S1 := S0.boxn hT.out 134 (impl_Board_lists_1.self (W.heap.size + 1 + 1 + 1) (w5.heap.size + 1 + 1) (w5.heap.size + 1 + 1 + 1) (W.heap.size + 1) w5.heap.size (W.heap.size + 1 + 1) (w5.heap.size + 1 + 1 + 1 + 1)) (w5.heap.size + 1 + 1 + 1 + 1) (by simp)
 rw [z5] at S1
 have S2 := S1.sub (L' := [] ++ impl_Board_lists_1.vars (W.heap.size + 1 + 1 + 1) (w5.heap.size + 1 + 1) (w5.heap.size + 1 + 1 + 1) (W.heap.size + 1) w5.heap.size (W.heap.size + 1 + 1) (w5.heap.size + 1 + 1 + 1 + 1) (.func fd hd1 hd2) most Aa all.length ca (.func fr hr1 hr2)) (fun x hx => by
   simp only [impl_Board_lists_1.vars, List.nil_append, List.mem_cons, List.not_mem_nil, or_false] at hx
   simp only [List.mem_cons, List.not_mem_nil, or_false]
   rcases hx with rfl | rfl | rfl | rfl | rfl <;> simp) (by
   simp only [impl_Board_lists_1.vars, List.nil_append, List.pairwise_cons, List.mem_cons, List.not_mem_nil, or_false, forall_eq_or_imp, forall_eq, List.Pairwise.nil, and_true, false_implies, implies_true]
   omega)
 refine (impl_Board_lists_1.calls D cb (.func fd hd1 hd2) (.func fr hr1 hr2) are w w5 (fun k => W.heap.size + 1 + 1 + 1 + 1 ≤ k ∧ k < w5.heap.size) (W.heap.size + 1 + 1 + 1 + 1) (W.heap.size + 1 + 1 + 1) (w5.heap.size + 1 + 1) (w5.heap.size + 1 + 1 + 1) (W.heap.size + 1) w5.heap.size (W.heap.size + 1 + 1) (w5.heap.size + 1 + 1 + 1 + 1) Aa ca all most hT.out hF.out hle.1 hle.2 (Kd.R_reads' hle0).2.1 k [] own _ _ [] true s 0 r S2 H.out).mono ?_
 rintro e w8 ⟨rfl, own8, vl8, hs⟩
 try go_wp2
 try go_end0
 exact ⟨rfl, own8, hs.d, hs.bel⟩

/-! ### spec_l1Own: function 131 -/
def spec_l1Own.f (l0 : List Int) : Option (List Int) := (some (([] : List Int) : List Int)).bind fun y738 => (if y738.length + l0.length < 17592186044416 then (some (y738 ++ l0)) else (none))
theorem spec_l1Own.calls (A0 : Option Addr) (c0 : Nat) (l0 : List Int) (r : List Int) (w : World) (hr0 : Kd.C (Kd.int .i64) w A0 l0.length l0) (hc0 : l0.length ≤ c0) (h : spec_l1Own.f l0 = some r) :
  Calls Try.prog 131 #[.slice A0 l0.length c0] w fun e w' => ∃ v0_ : Value, e = .returned (v0_) ∧ Kd.R (Kd.int .i64) 3 w' w.heap.size (fun _ => True) v0_ r ∧ Below w.heap.size w w' := by
 have HR0 := A_ hr0
 have HC0 := A_ hc0
 clear hr0 hc0
 have HB := A_ (Below.refl w.heap.size w)
 have H : ((some (([] : List Int) : List Int)).bind fun y738 => (if y738.length + l0.length < 17592186044416 then (some (y738 ++ l0)) else (none))) = some r := h
 clear h
 obtain ⟨y738, hy738⟩ : ∃ y_ : List Int, y_ = (([] : List Int)) := ⟨_, rfl⟩
 replace H : (if y738.length + l0.length < 17592186044416 then (some (y738 ++ l0)) else (none)) = some r := ty_ hy738 H
 have Ny738 := A_ hy738
 clear hy738
 by_cases c2 : y738.length + l0.length < 17592186044416
 ·
  rw [if_pos c2] at H
  have LMc2 := A_ c2
  clear c2
  obtain ⟨y741, hy741⟩ : ∃ y_ : List Int, y_ = (y738 ++ l0) := ⟨_, rfl⟩
  replace H : (some y741) = some r := ty_ hy741 H
  have Ny741 := A_ hy741
  clear hy741
  obtain rfl := Option.some.inj H
  go_enter Try.func131, Try.ntmps131
  go_wp2_with (first | (refine gd_ 3 ?_; refine Kd.R_lit (Kd.int .i64) _ 3 ?hg (N := 3) ?hd (xs := ([] : List Int)) (inner := []) (ok := fun _ => True) (okp := fun _ => True) ?hr ?hp (fun _ hk => hk) trivial (Below.refl _ _) (Nat.le_refl _) (by simp) ?_; (case hd => rfl); (case hg => rfl); (case hr => first | (go_simp; done) | (go_simp; rfl)); (case hp => exact (Reps.none _ _)); intro v739 w3 ho4 hb hg_ hnew_; clear hg_ hnew_; (first | rw [← Ny738.out] at ho4 | (simp only [Int.reduceToNat] at ho4; rw [← Ny738.out] at ho4)); have HO740 := A_ (Kd.R_lower ho4 (below_size tb_)); replace HB := A_ (below_step tb_ hb); clear hb ho4) | ((with_reducible refine gate_builtin (b := .append) (xs := #[.tmp 3, .tmp 4]) rfl ?_); at_builtin; refine Kd.R_append_rows (Kd.int .i64) (w0 := w) w.heap.size rfl (.tmp 3) (.tmp 4) 22 3 (.int .i64 0) 8 rfl Try.underlying22 info3 rfl (by decide) (by omega) v739 y738 l0 _ _ _ (fun _ => True) (fun _ => False) rfl rfl ?aO ?aR (fun _ _ h => h) (fun _ h => h.elim) ?aF ?aB ?aS ?aL ?_; (case aR => exact tc_ HR0.out); (case aB => exact tb_); (case aF => exact (fun _ _ => trivial)); (case aO => exact (tr_x HO740.out)); (case aS => exact (below_size tb_)); (case aL => have := LMc2.out; omega); intro v742 w5 ho hb hg hat; rw [← Ny741.out] at ho; have n0_ := A_ (hb); have n1_ := A_ (ho); clear HB; clear HO740; have HB := n0_; have HO743 := n1_; clear n0_ n1_; clear ho hb hg hat))
  go_ret
  exact ⟨_, te_, tr_x HO743.out, tb_⟩
 ·
  rw [if_neg c2] at H
  exact absurd H (by simp)

/-! ### spec_kiAdd: function 185 -/
mutual
def spec_kiAdd.l0 : Nat → Int → List Int → List Int → Int → Int → Option (List Int)
 | 0, _, _, _, _, _ => none
 | k + 1, x2, x7, x16, x17, x18 => if x18 < x17 then (if 0 ≤ x18 then (if x18 < (x16.length : Int) then (spec_kiAdd.l1 k x2 x7 x18 (rd x16 x18) x16 x17 x18) else (none)) else (none)) else (some x7)
def spec_kiAdd.l1 : Nat → Int → List Int → Int → Int → List Int → Int → Int → Option (List Int)
 | 0, _, _, _, _, _, _, _ => none
 | k + 1, x2, x7, x8, x9, x16, x17, x18 => if (x7.length : Int) ≤ (wrap64 (x8 + x2)) then (if x7.length < 17592186044416 then (spec_kiAdd.l1 k x2 (x7 ++ [0]) x8 x9 x16 x17 x18) else (none)) else (if 0 ≤ (wrap64 (x8 + x2)) then (if (wrap64 (x8 + x2)) < (x7.length : Int) then (spec_kiAdd.l0 k x2 (x7.set ((wrap64 (x8 + x2)) : Int).toNat (wrap64 ((rd x7 (wrap64 (x8 + x2))) + x9))) x16 x17 (wrap64 (x18 + 1))) else (none)) else (none))
end
def spec_kiAdd.f (k : Nat) (l0 : List Int) (l1 : List Int) (a2 : Int) : Option (List Int) := if (l1.length : Int) = 0 then (some l0) else ((spec_l1Own.f l0).bind fun t744 => (spec_kiAdd.l0 k a2 t744 l1 (l1.length : Int) 0))
theorem spec_kiAdd.mono_l : ∀ k, (∀ y0 y1 y2 y3 y4, LeO (spec_kiAdd.l0 k y0 y1 y2 y3 y4) (spec_kiAdd.l0 (k + 1) y0 y1 y2 y3 y4)) ∧ (∀ y0 y1 y2 y3 y4 y5 y6, LeO (spec_kiAdd.l1 k y0 y1 y2 y3 y4 y5 y6) (spec_kiAdd.l1 (k + 1) y0 y1 y2 y3 y4 y5 y6))
 | 0 => ⟨fun _ _ _ _ _ r h => by simp [spec_kiAdd.l0] at h, fun _ _ _ _ _ _ _ r h => by simp [spec_kiAdd.l1] at h⟩
 | k + 1 => by
  obtain ⟨ih0, ih1⟩ := spec_kiAdd.mono_l k
  refine ⟨?_, ?_⟩
  ·
   intro y0 y1 y2 y3 y4
   unfold spec_kiAdd.l0
   repeat' first | (with_reducible first | exact ih0 _ _ _ _ _ | exact ih1 _ _ _ _ _ _ _ | exact LeO.refl _ | exact LeO.none _ | refine LeO.ite ?_ ?_ | refine LeO.bind ?_ (fun _ => ?_)) | exact ih0 _ _ _ _ _ | exact ih1 _ _ _ _ _ _ _ | exact LeO.none _ | refine LeO.ite ?_ ?_ | refine LeO.bind ?_ (fun _ => ?_)
  ·
   intro y0 y1 y2 y3 y4 y5 y6
   unfold spec_kiAdd.l1
   repeat' first | (with_reducible first | exact ih0 _ _ _ _ _ | exact ih1 _ _ _ _ _ _ _ | exact LeO.refl _ | exact LeO.none _ | refine LeO.ite ?_ ?_ | refine LeO.bind ?_ (fun _ => ?_)) | exact ih0 _ _ _ _ _ | exact ih1 _ _ _ _ _ _ _ | exact LeO.none _ | refine LeO.ite ?_ ?_ | refine LeO.bind ?_ (fun _ => ?_)
theorem spec_kiAdd.mono : ∀ a0 a1 a2 k, LeO (spec_kiAdd.f k a0 a1 a2) (spec_kiAdd.f (k + 1) a0 a1 a2) := by
 intro a0 a1 a2 k
 obtain ⟨ih0, ih1⟩ := spec_kiAdd.mono_l k
 unfold spec_kiAdd.f
 repeat' first | (with_reducible first | exact ih0 _ _ _ _ _ | exact ih1 _ _ _ _ _ _ _ | exact LeO.refl _ | exact LeO.none _ | refine LeO.ite ?_ ?_ | refine LeO.bind ?_ (fun _ => ?_)) | exact ih0 _ _ _ _ _ | exact ih1 _ _ _ _ _ _ _ | exact LeO.none _ | refine LeO.ite ?_ ?_ | refine LeO.bind ?_ (fun _ => ?_)
theorem spec_kiAdd.calls (k : Nat) (P0_ : Nat → Prop) (u9000_ : Value) (l0 : List Int) (A1 : Option Addr) (c1 : Nat) (l1 : List Int) (a2 : Int) (r : List Int) (w0 w : World) (hB : Below w0.heap.size w0 w) (ho0 : Kd.R (Kd.int .i64) 3 w w0.heap.size P0_ u9000_ l0) (hr1 : ∀ W_, Kept w W_ (fun k_ => P0_ k_) → Kd.C (Kd.int .i64) W_ A1 l1.length l1) (hc1 : l1.length ≤ c1) (h : spec_kiAdd.f k l0 l1 a2 = some r) :
  Calls Try.prog 185 #[u9000_, .slice A1 l1.length c1, .int .i64 a2] w fun e w' => ∃ v0_ : Value, e = .returned (v0_) ∧ Kd.R (Kd.int .i64) 3 w' w0.heap.size (fun k_ => (P0_ k_ ∨ w.heap.size ≤ k_)) v0_ r ∧ Below w0.heap.size w0 w' ∧ Kept w w' (fun k_ => P0_ k_) := by
 have HO0 := A_ (show Kd.R (Kd.int .i64) 3 w w0.heap.size (fun k_ => (P0_ k_ ∨ w.heap.size ≤ k_)) u9000_ l0 from Kd.R_mono ho0 (fun k_ hk => (.inl hk)))
 have HR1 := A_ hr1
 have HC1 := A_ hc1
 clear hr1 hc1
 have HK := A_ (Kept.refl w (fun k_ => P0_ k_))
 have HW0 := A_ hB.size
 have HB := A_ hB
 clear hB
 have H : (if (l1.length : Int) = 0 then (some l0) else ((spec_l1Own.f l0).bind fun t744 => (spec_kiAdd.l0 k a2 t744 l1 (l1.length : Int) 0))) = some r := h
 clear h
 by_cases c4 : (l1.length : Int) = 0
 ·
  rw [if_pos c4] at H
  have c4b0 : ((l1.length : Int) == 0) = true := beq_iff_eq.mpr c4
  have c4b1 : ((l1.length : Int) != 0) = false := bne_eq_false_iff_eq.mpr c4
  clear c4
  obtain rfl := Option.some.inj H
  go_enter Try.func185, Try.ntmps185
  go_wp2
  go_ret
  exact ⟨_, te_, tr_x HO0.out, tb_, by repeat (first | (with_reducible first | exact HK.out | apply Kept.alloc | apply Kept.drewN | apply Kept.drew) | exact HK.out)⟩
 ·
  rw [if_neg c4] at H
  have c4b0 : ((l1.length : Int) == 0) = false := beq_eq_false_iff_ne.mpr c4
  have c4b1 : ((l1.length : Int) != 0) = true := bne_iff_ne.mpr c4
  have c4b2 : ¬ (l1 = []) := fun h_ => c4 (by rw [h_]; rfl)
  replace H := Option.bind_eq_some_iff.mp H
  obtain ⟨t744, A50, H⟩ := H
  replace H : (spec_kiAdd.l0 k a2 t744 l1 (l1.length : Int) 0) = some r := H
  have A5 := A_ A50
  clear A50
  have H' := A_ H
  clear H
  obtain ⟨Ao6, co6, eo6⟩ := Kd.R_slice HO0.out
  subst eo6
  go_enter Try.func185, Try.ntmps185
  go_wp2_with (first | (refine gc_ 131 ?_; refine goesT_ (some 15) Try.func131 #[.slice Ao6 l0.length co6] ?_; (with_reducible refine (spec_l1Own.calls _ _ l0 t744 _ ?side1 ?side2 A5.out).mono ?_); (case side1 => exact tc0_ (Kd.R_reads' HO0.out).2.2); (case side2 => exact (Kd.R_reads' HO0.out).2.1); rintro e w7 ⟨v745, rfl, ho0, hb⟩; refine ⟨_, rfl, ?_⟩; have HO746 := A_ (Kd.R_lower (Kd.R_new' (Kd.R_newM (M := fun k_ => (P0_ k_ ∨ w.heap.size ≤ k_)) ho0 (by first | exact HK.out.1 | exact (show Kept w _ (fun k_ => P0_ k_) from by repeat (first | (with_reducible first | exact HK.out | apply Kept.alloc | apply Kept.drewN | apply Kept.drew) | exact HK.out)).1) (fun k_ h_ => .inr h_)) (Kd.R_lt (tr_x HO0.out))) (below_size tb_)); replace HO0 := A_ (Kd.R_elder' (tr_x HO0.out) (Kd.R_base ho0) hb); replace HK := A_ (Kept.below (S := (fun k_ => P0_ k_)) (by repeat (first | (with_reducible first | exact HK.out | apply Kept.alloc | apply Kept.drewN | apply Kept.drew) | exact HK.out)) hb); replace HB := A_ (below_step tb_ hb); (try clear hb); (try clear hb2); (try clear hk); (try clear hi); (try clear ho0)))
  go_loopg [7, 18] k (fun kq v7 v18 w' => ∃ (x7_1 : List Int) (x18_1 : Int), v18 = .int .i64 x18_1 ∧ Aside0 (spec_kiAdd.l0 kq a2 x7_1 l1 (l1.length : Int) x18_1 = some r) ∧ Aside0 (kq ≤ k) ∧ Aside0 (Kd.R (Kd.int .i64) 3 w' w0.heap.size (fun k_ => (P0_ k_ ∨ w.heap.size ≤ k_)) v7 x7_1) ∧ Aside0 (Kept w w' (fun k_ => P0_ k_)) ∧ Aside0 (Below w0.heap.size w0 w'))
  case atStart => exact ⟨(t744), (0), tf_, H', ⟨Nat.le_refl _⟩, ⟨by (with_reducible repeat (first | apply Kd.R_alloc | apply Kd.R_drewN | apply Kd.R_drew)); exact Kd.R_mono HO746.out (fun _ hk => hk.1.1)⟩, ⟨by repeat (first | (with_reducible first | exact HK.out | apply Kept.alloc | apply Kept.drewN | apply Kept.drew) | exact HK.out)⟩, ⟨tb_⟩⟩
  case round =>
   clear H'
   try clear c1
   try clear p2
   try clear c4
   try clear c4b0
   try clear c4b1
   try clear c4b2
   obtain ⟨x7_1, x18_1, rfl, HA, HK1, HO_7, HK, HB⟩ := hrel
   cases gk with
   | zero => exact absurd HA.out (by simp [spec_kiAdd.l0])
   | succ k1 =>
    have H := HA.out
    clear HA
    simp only [spec_kiAdd.l0] at H
    by_cases c8 : x18_1 < (l1.length : Int)
    ·
     rw [if_pos c8] at H
     have c8b0 := decide_eq_true c8
     clear c8
     by_cases c9 : 0 ≤ x18_1
     ·
      rw [if_pos c9] at H
      have c9b0 := decide_eq_true c9
      clear c9
      by_cases c10 : x18_1 < (l1.length : Int)
      ·
       rw [if_pos c10] at H
       have c10b0 := decide_eq_true c10
       clear c10
       have H' := A_ H
       clear H
       have p747 : 0 ≤ (x18_1 : Int) := od_
       have q747 : x18_1 < (l1.length : Int) := od_
       obtain ⟨ad747, e747, hx747_0⟩ := Kd.at_int (Kd.C_kept_now HR1.out HK.out) x18_1 p747 q747
       cases e747
       replace p747 := eq_true p747
       replace q747 := eq_true q747
       go_wp2
       go_loopg [7] k1 (fun kq v7 w' => ∃ (x7_2 : List Int), Aside0 (spec_kiAdd.l1 kq a2 x7_2 x18_1 (rd l1 x18_1) l1 (l1.length : Int) x18_1 = some r) ∧ Aside0 (kq ≤ k1) ∧ Aside0 (Kd.R (Kd.int .i64) 3 w' w0.heap.size (fun k_ => (P0_ k_ ∨ w.heap.size ≤ k_)) v7 x7_2) ∧ Aside0 (Kept w w' (fun k_ => P0_ k_)) ∧ Aside0 (Below w0.heap.size w0 w'))
       case atStart => exact ⟨(x7_1), H', ⟨Nat.le_refl _⟩, ⟨tr_x HO_7.out⟩, ⟨by repeat (first | (with_reducible first | exact HK.out | apply Kept.alloc | apply Kept.drewN | apply Kept.drew) | exact HK.out)⟩, ⟨tb_⟩⟩
       case round =>
        clear H'
        try clear c1
        try clear p2
        try clear c4
        try clear c4b0
        try clear c4b1
        try clear c4b2
        try clear p7
        try clear q7
        try clear hx7
        try clear c8
        try clear c8b0
        try clear c9
        try clear c9b0
        try clear c10
        try clear c10b0
        try clear hx747_0
        try clear p2
        try clear p747
        try clear q747
        obtain ⟨x7_2, HA, HK2, HO_7, HK, HB⟩ := hrel
        cases gk with
        | zero => exact absurd HA.out (by simp [spec_kiAdd.l1])
        | succ k2 =>
         have H := HA.out
         clear HA
         simp only [spec_kiAdd.l1] at H
         by_cases c11 : (x7_2.length : Int) ≤ (wrap64 (x18_1 + a2))
         ·
          rw [if_pos c11] at H
          have c11b0 := decide_eq_true c11
          clear c11
          by_cases c12 : x7_2.length < 17592186044416
          ·
           rw [if_pos c12] at H
           have LMc12 := A_ c12
           clear c12
           obtain ⟨y748, hy748⟩ : ∃ y_ : List Int, y_ = (x7_2 ++ [0]) := ⟨_, rfl⟩
           replace H : (spec_kiAdd.l1 k2 a2 y748 x18_1 (rd l1 x18_1) l1 (l1.length : Int) x18_1) = some r := ty_ hy748 H
           have Ny748 := A_ hy748
           clear hy748
           have H' := A_ H
           clear H
           obtain ⟨Ao13, co13, eo13⟩ := Kd.R_slice HO_7.out
           subst eo13
           go_wp2_with (first | ((with_reducible refine gate_builtin (b := .append) (xs := #[.tmp 29, .tmp 30]) rfl ?_); at_builtin; refine Kd.R_append (Kd.int .i64) (w0 := w0) w0.heap.size rfl (.tmp 29) (.tmp 30) 22 3 (.int .i64 0) 8 rfl Try.underlying22 info3 rfl (by decide) (by omega) (.slice Ao13 x7_2.length co13) x7_2 0 [.int .i64 0] (fun k_ => (P0_ k_ ∨ w.heap.size ≤ k_)) (fun _ => False) rfl rfl ?aP (fun _ hk => hk.elim) ?aF ?aO ?aB ?aS ?aL ?_; (case aP => exact rfl); (case aB => exact tb_); (case aF => exact (fun k_ hk => (.inr (Nat.le_trans (by first | exact HK.out.1 | exact (show Kept w _ (fun k_ => P0_ k_) from by repeat (first | (with_reducible first | exact HK.out | apply Kept.alloc | apply Kept.drewN | apply Kept.drew) | exact HK.out)).1) hk)))); (case aO => exact (tr_x HO_7.out)); (case aS => exact (below_size tb_)); (case aL => have := LMc12.out; omega); intro v749 w14 ho hb hg hat; rw [← Ny748.out] at ho; have n0_ := A_ (hb); have n1_ := A_ (Kept.of_grown (S := (fun k_ => P0_ k_)) hg (by repeat (first | (with_reducible first | exact HK.out | apply Kept.alloc | apply Kept.drewN | apply Kept.drew) | exact HK.out)) (fun k_ e_ => (HO_7.out.1 k_ e_))); have n2_ := A_ (ho); clear HB; clear HK; clear HO_7; have HB := n0_; have HK := n1_; have HO750 := n2_; clear n0_ n1_ n2_; clear ho hb hg hat))
           go_roundg k2
           case measure => have := HK1.out; have := HK2.out; omega
           case rel => exact ⟨(y748), H', ⟨by have := HK1.out; have := HK2.out; omega⟩, ⟨tr_x HO750.out⟩, ⟨by repeat (first | (with_reducible first | exact HK.out | apply Kept.alloc | apply Kept.drewN | apply Kept.drew) | exact HK.out)⟩, ⟨tb_⟩⟩
          ·
           rw [if_neg c12] at H
           exact absurd H (by simp)
         ·
          rw [if_neg c11] at H
          have c11b0 := decide_eq_false c11
          clear c11
          obtain ⟨ji15, hji15⟩ : ∃ j_ : Int, (wrap64 (x18_1 + a2)) = j_ := ⟨_, rfl⟩
          replace H : (if 0 ≤ (ji15) then (if (ji15) < (x7_2.length : Int) then (spec_kiAdd.l0 k2 a2 (x7_2.set ((ji15) : Int).toNat (wrap64 ((rd x7_2 (ji15)) + (rd l1 x18_1)))) l1 (l1.length : Int) (wrap64 (x18_1 + 1))) else (none)) else (none)) = some r := by first | (rw [hji15] at H; exact H) | (simp only [hji15] at H ⊢; exact H)
          (try rw [hji15] at c11b0)
          have hji15w : (IntKind.i64.wrap (x18_1 + a2)) = ji15 := (i64_w _).trans hji15
          by_cases c16 : 0 ≤ (ji15)
          ·
           rw [if_pos c16] at H
           have c16b0 := decide_eq_true c16
           clear c16
           by_cases c17 : (ji15) < (x7_2.length : Int)
           ·
            rw [if_pos c17] at H
            have c17b0 := decide_eq_true c17
            clear c17
            obtain ⟨y752, hy752⟩ : ∃ y_ : List Int, y_ = (x7_2.set ((ji15) : Int).toNat (wrap64 ((rd x7_2 (ji15)) + (rd l1 x18_1)))) := ⟨_, rfl⟩
            replace H : (spec_kiAdd.l0 k2 a2 y752 l1 (l1.length : Int) (wrap64 (x18_1 + 1))) = some r := ty_ hy752 H
            have Ny752 := A_ hy752
            clear hy752
            have H' := A_ H
            clear H
            obtain ⟨Ao19, co19, eo19⟩ := Kd.R_slice HO_7.out
            subst eo19
            have p751 : 0 ≤ ((ji15) : Int) := od_
            have q751 : (ji15) < (x7_2.length : Int) := od_
            obtain ⟨ad751, e751, hx751_0⟩ := Kd.at_int (Kd.R_reads' HO_7.out).2.2 (ji15) p751 q751
            cases e751
            replace p751 := eq_true p751
            replace q751 := eq_true q751
            have p18 : 0 ≤ ((ji15) : Int) := od_
            have q18 : ((ji15) : Int) < ((x7_2.length : Int) : Int) := od_
            obtain ⟨go18, co18, eo18, gb18, gl18, cl18, HG18⟩ := Kd.R_form HO_7.out (by omega)
            (first | cases eo18 | (injection eo18 with ea_ en_ ec_; (first | subst ea_ | (injection ea_ with ea_; subst ea_)); subst ec_; clear en_))
            have GB18 := A_ gb18
            have GG18 := A_ HG18
            clear gb18 gl18 HG18
            have HMgo18 := A_ (show (P0_ go18 ∨ w.heap.size ≤ go18) from (HO_7.out.1 _ rfl))
            (first | simp only [add_plain] at hx751_0 | skip)
            obtain ⟨hx18_0, hf18_0⟩ := Kd.R_celln 0 HO_7.out ((ji15) : Int) p18 q18
            replace p18 := eq_true p18
            replace q18 := eq_true q18
            have HP20 := Kd.R_putg HO_7.out ((ji15) : Int) (wrap64 ((rd x7_2 (ji15)) + (rd l1 x18_1)))
            go_wp2_with (first | ((with_reducible refine gate_store (t := 3) (p := 40) rfl ?_); refine store_event (t := 3) (p := 40) (v := ?vo_w21) (w1 := (wr.setCell ⟨go18, ((ji15) : Int).toNat, none⟩ (.int .i64 (wrap64 ((rd x7_2 (ji15)) + (rd l1 x18_1)))))) ?hg ?ho ?hn ?hr ?_; (case ho => rfl); (case hg => rfl); (case hn => rfl); (case hr => first | (go_simp; done) | (go_simp; rfl)); intro w21 hw; have hg : wr.grownBy w21 (some go18) := (by rw [hw]; exact HP20.2); have hp_ : Kd.R (Kd.int .i64) 3 w21 w0.heap.size (fun k_ => (P0_ k_ ∨ w.heap.size ≤ k_)) (.slice (some ⟨go18, 0, none⟩) x7_2.length co19) y752 := (by rw [hw, Ny752.out]; exact HP20.1); clear HP20; replace HB := A_ ((by rw [hw]; exact below_set (HB.out) GB18.out : Below w0.heap.size w0 w21)); replace HK := A_ (Kept.of_grown (S := (fun k_ => P0_ k_)) hg (by repeat (first | (with_reducible first | exact HK.out | apply Kept.alloc | apply Kept.drewN | apply Kept.drew) | exact HK.out)) (fun k_ e_ => (HO_7.out.1 k_ e_))); replace HO_7 := A_ (hp_); clear hg hw hp_))
            go_roundg k2
            case measure => have := HK1.out; have := HK2.out; omega
            case rel => exact ⟨(y752), (wrap64 (x18_1 + 1)), tf_, H', ⟨by have := HK1.out; have := HK2.out; omega⟩, ⟨tr_x HO_7.out⟩, ⟨by repeat (first | (with_reducible first | exact HK.out | apply Kept.alloc | apply Kept.drewN | apply Kept.drew) | exact HK.out)⟩, ⟨tb_⟩⟩
           ·
            rw [if_neg c17] at H
            exact absurd H (by simp)
          ·
           rw [if_neg c16] at H
           exact absurd H (by simp)
      ·
       rw [if_neg c10] at H
       exact absurd H (by simp)
     ·
      rw [if_neg c9] at H
      exact absurd H (by simp)
    ·
     rw [if_neg c8] at H
     have c8b0 := decide_eq_false c8
     clear c8
     obtain rfl := Option.some.inj H
     go_wp2
     go_ret
     exact ⟨_, te_, tr_x HO_7.out, tb_, by repeat (first | (with_reducible first | exact HK.out | apply Kept.alloc | apply Kept.drewN | apply Kept.drew) | exact HK.out)⟩

end
end Go.Proofs.Ythlcaikplebpmaa.P
