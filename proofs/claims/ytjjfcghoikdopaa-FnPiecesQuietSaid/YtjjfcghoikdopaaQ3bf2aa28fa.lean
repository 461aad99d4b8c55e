-- printed functions (wip/slim.py)
import Derived.Test.YtjjfcghoikdopaaPx0
import Derived.Test.YtjjfcghoikdopaaQbabc941b0f
import Derived.Test.YtjjfcghoikdopaaQeddd385f8f
import Derived.Test.YtjjfcghoikdopaaQc8a875b850
import Derived.Test.YtjjfcghoikdopaaQb9bf4cf162
namespace Go.Proofs.Ytjjfcghoikdopaa.P
noncomputable section
set_option maxHeartbeats 8000000
set_option maxRecDepth 100000
open Go.RowKit Go.Proofs.YtjjfcghoikdopaaW.PrintWords Go.Proofs.YtjjfcghoikdopaaW.PrintLast Go.Proofs.YtjjfcghoikdopaaW.PrintMore
attribute [local go_sem] max2_int min2_int max_two min_two max_three min_three max_four min_four   -- for this text's walks alone
set_option linter.unusedVariables false
set_option linter.unusedSimpArgs false

/-! ### laws_big: function 8 -/
def laws_big.f (l0 : List Int) (l1 : List Int) : Option (Bool) := if (l0.length : Int) > 1048576 then (some true) else (some (decide ((l1.length : Int) > (wrap64 (1048576 - (l0.length : Int))))))
theorem laws_big.calls (A0 : Option Addr) (c0 : Nat) (l0 : List Int) (A1 : Option Addr) (c1 : Nat) (l1 : List Int) (r : Bool) (w : World) (hr0 : Kd.C (Kd.int .u8) w A0 l0.length l0) (hc0 : l0.length ≤ c0) (hr1 : Kd.C (Kd.int .u8) w A1 l1.length l1) (hc1 : l1.length ≤ c1) (h : laws_big.f l0 l1 = some r) :
  Calls Try.prog 8 #[.slice A0 l0.length c0, .slice A1 l1.length c1] w fun e w' => e = .returned (.bool r) ∧ Drawn0 w w' := by
 have HR0 := A_ hr0
 have HC0 := A_ hc0
 clear hr0 hc0
 have HR1 := A_ hr1
 have HC1 := A_ hc1
 clear hr1 hc1
 have H : (if (l0.length : Int) > 1048576 then (some true) else (some (decide ((l1.length : Int) > (wrap64 (1048576 - (l0.length : Int))))))) = some r := h
 clear h
 by_cases c3 : (l0.length : Int) > 1048576
 ·
  rw [if_pos c3] at H
  have c3b0 := decide_eq_true c3
  have c3b1 : decide (1048576 < l0.length) = true := decide_eq_true (by omega)
  clear c3
  obtain rfl := Option.some.inj H
  go_enter Try.func8, Try.ntmps8
  go_wp2
  go_ret
  exact ⟨tf_, dr_⟩
 ·
  rw [if_neg c3] at H
  have c3b0 := decide_eq_false c3
  have c3b1 : decide (1048576 < l0.length) = false := decide_eq_false (by omega)
  clear c3
  obtain rfl := Option.some.inj H
  go_enter Try.func8, Try.ntmps8
  go_wp2
  go_ret
  exact ⟨tf_, dr_⟩

/-! ### spec_DrawAreQuietBishops: function 9 -/
def spec_DrawAreQuietBishops.f (k : Nat) (l0 : List Int) : Option (Int × Int × List Int × List (List Int)) := (spec_l1Cur_pieces.f k l0 0 0 0).bind fun t => some (t.1, t.2.1, t.2.2.1, t.2.2.2.1)
theorem spec_DrawAreQuietBishops.mono : ∀ a0 k, LeO (spec_DrawAreQuietBishops.f k a0) (spec_DrawAreQuietBishops.f (k + 1) a0) := by
 intro a0 k
 unfold spec_DrawAreQuietBishops.f
 exact LeO.bind (spec_l1Cur_pieces.mono _ _ _ _ _) (fun _ => LeO.refl _)
theorem spec_DrawAreQuietBishops.far {X : World} {n gr : Nat} {b : Nat} {vv u v z v2 : Value} {q : List (List Int)} (h : Kd.V (Kd.slice 3 (Kd.int .i64)) 24 X b (fun k_ => n ≤ k_ ∧ some k_ ≠ v2.ownBlock) vv q) (hn : gr < n) (b' : Nat) (m : Nat) (hm : m ≤ n) : Kd.V (Kd.slice 3 (Kd.int .i64)) 24 (((X.setCell ⟨gr, 0, none⟩ u).setCell ⟨gr, 1, none⟩ v).setCell ⟨gr, 2, none⟩ z) b' (fun k_ => (m ≤ k_) ∧ some k_ ≠ v2.ownBlock) vv q := by
 obtain ⟨A, c, e, hl, hf⟩ := h
 refine ⟨A, c, e, hl, Kd.F_mono (Kd.F_step hf (fun k hk _ => ?_)) (fun k hk => ⟨by have := hk.1; omega, hk.2⟩)⟩
 have e : k ≠ gr := by have := hk.1; omega
 exact (Below.heap_setCell _ ⟨gr, 2, none⟩ _ k e).trans ((Below.heap_setCell _ ⟨gr, 1, none⟩ _ k e).trans (Below.heap_setCell _ ⟨gr, 0, none⟩ _ k e))
theorem spec_DrawAreQuietBishops.calls (k : Nat) (A0 : Option Addr) (c0 : Nat) (l0 : List Int) (r1 : Int) (r2 : Int) (r3 : List Int) (r4 : List (List Int)) (w : World) (hr0 : Kd.C (Kd.int .u8) w A0 l0.length l0) (hc0 : l0.length ≤ c0) (h : spec_DrawAreQuietBishops.f k l0 = some (r1, r2, r3, r4)) :
  Calls Try.prog 9 #[.slice A0 l0.length c0] w fun e w' => ∃ v2_ v3_ : Value, e = .returned (.tuple #[.agg #[.int .i64 r1, .int .i64 r2, v2_], v3_]) ∧ Kd.R (Kd.int .i64) 3 w' w.heap.size (fun k_ => (w.heap.size ≤ k_)) v2_ r3 ∧ Kd.V (Kd.slice 3 (Kd.int .i64)) 24 w' w.heap.size (fun k_ => (w.heap.size ≤ k_) ∧ some k_ ≠ (v2_ : Value).ownBlock) v3_ r4 ∧ Below w.heap.size w w' := by
 have hu26 := Try.underlying26
 have hu79 := Try.underlying79
 unfold spec_DrawAreQuietBishops.f at h
 obtain ⟨⟨R, C, lb, q, a1, b1⟩, A1, h⟩ := Option.bind_eq_some_iff.mp h
 simp only [Option.some.injEq, Prod.mk.injEq] at h
 obtain ⟨rfl, rfl, rfl, rfl⟩ := h
 have A1 := A_ A1
 have HR0 := A_ hr0
 have HC0 := A_ hc0
 clear hr0 hc0
 go_enter Try.func9, Try.ntmps9
 go_wp2_with (first | (refine gd_ 2 ?_; refine bx_ 2 #[.int .i64 0, .int .i64 0, .slice none 0 0] 26 ?_; intro gr hg w1 hbox hb; have BR := A_ hbox; have GR := A_ hg; have HB1 := A_ hb; clear hbox hb hg) | (refine gd_ 7 ?_; refine bx_ 7 #[.slice A0 l0.length c0, .int .i64 0, .int .u64 0] 79 ?_; intro gc hg w2 hbox hb; have HI2 : Aside0 (IsS79 w w2 gc l0 0 0) := ⟨⟨_, _, hbox, (by rw [hg]; exact HB1.out.size), HR0.out⟩⟩; have HB2 := A_ (below_then HB1.out HB1.out.size hb); have BR2 := A_ (blk_below BR.out hb); have GC := A_ hg; have SZ := A_ hb.size; clear hbox hb hg) | (refine gc_ 75 ?_; refine goesT_ (some 9) Try.func75 #[.pointer (some ⟨gc, 0, none⟩), .int .i64 0] ?_; (with_reducible refine (spec_l1Cur_pieces.calls k gc l0 0 0 0 R C lb q a1 b1 w _ HI2.out HB2.out A1.out).mono ?_); rintro e w3 ⟨vb, vq, rfl, hrb, hvq, hi, hb, hk⟩; obtain ⟨Ab, cb, eb⟩ := Kd.R_slice hrb; subst eb; obtain ⟨Aq, cq, eq_, hlq_, hfq_⟩ := hvq; subst eq_; refine ⟨_, rfl, ?_⟩; have HRB := A_ hrb; have HVQ := A_ (show Kd.V (Kd.slice 3 (Kd.int .i64)) 24 w3 w2.heap.size (fun k_ => w2.heap.size ≤ k_ ∧ some k_ ≠ (.slice Ab lb.length cb : Value).ownBlock) (.slice Aq q.length cq) q from ⟨Aq, cq, rfl, hlq_, hfq_⟩); have HB3 := A_ hb; have BR3 := A_ (KeepBut.blk hk BR2.out (by have := blk_lt BR.out; have := GC.out; omega) (by simp)); clear hrb hi hb hk hlq_ hfq_; obtain ⟨hz0, hz1, hz2, hf0, hf1, hf2⟩ := cf3_ BR3.out) | fail)
 refine bodyPost_ret (results_ct rfl _ _ gr 26 #[.int .i64 R, .int .i64 C, .slice Ab lb.length cb] (0, 0) _ rfl (by refine blk_put (cs := #[.int .i64 R, .int .i64 C, .slice none 0 0]) ?_ 2 _ rfl; refine blk_put (cs := #[.int .i64 R, .int .i64 0, .slice none 0 0]) ?_ 1 _ rfl; refine blk_put (cs := #[.int .i64 0, .int .i64 0, .slice none 0 0]) ?_ 0 _ rfl; exact BR3.out) Try.underlying26 rfl (by kernel_rfl)) rfl ?_
 have hge : w.heap.size ≤ gr := by have := GR.out; omega
 have hlt : gr < w2.heap.size := by have := blk_lt BR2.out; omega
 refine ⟨_, _, rfl, ?_, ?_, ?_⟩
 ·
  refine Kd.R_mono (Kd.R_bound (Kd.R_lower (Kd.R_far (p := ⟨gr, 2, none⟩) (Kd.R_far (p := ⟨gr, 1, none⟩) (Kd.R_far (p := ⟨gr, 0, none⟩) (Kd.R_types HRB.out BR3.out (by decide)) (fun _ hk => hk.2) _) (fun _ hk => hk.2) _) (fun _ hk => hk.2) _) HB2.out.size)) (fun _ hk => hk.2.1)
 ·
  exact spec_DrawAreQuietBishops.far HVQ.out hlt _ _ HB2.out.size
 ·
  exact below_set (below_set (below_set HB3.out hge) hge) hge

/-! ### slices_IndexFunc_int_int: function 183 -/
def slices_IndexFunc_int_int.l0 : Nat → List Int → FnT93 → Int → Int → Option (Int)
 | 0, _, _, _, _ => none
 | k + 1, x0, x1, x7, x8 => if x8 < x7 then (if 0 ≤ x8 then (if x8 < (x0.length : Int) then ((FnCall93.f (rd x0 x8) x1).bind fun t225 => (if t225 = true then (some x8) else (slices_IndexFunc_int_int.l0 k x0 x1 x7 (wrap64 (x8 + 1))))) else (none)) else (none)) else (some (-1))
def slices_IndexFunc_int_int.f (k : Nat) (l0 : List Int) (a1 : FnT93) : Option (Int) := slices_IndexFunc_int_int.l0 k l0 a1 (l0.length : Int) 0
theorem slices_IndexFunc_int_int.mono_l : ∀ k, (∀ y0 y1 y2 y3, LeO (slices_IndexFunc_int_int.l0 k y0 y1 y2 y3) (slices_IndexFunc_int_int.l0 (k + 1) y0 y1 y2 y3))
 | 0 => fun _ _ _ _ r h => by simp [slices_IndexFunc_int_int.l0] at h
 | k + 1 => by
  have ih0 := slices_IndexFunc_int_int.mono_l k
  ·
   intro y0 y1 y2 y3
   unfold slices_IndexFunc_int_int.l0
   repeat' first | (with_reducible first | exact ih0 _ _ _ _ | exact LeO.refl _ | exact LeO.none _ | refine LeO.ite ?_ ?_ | refine LeO.bind ?_ (fun _ => ?_)) | exact ih0 _ _ _ _ | exact LeO.none _ | refine LeO.ite ?_ ?_ | refine LeO.bind ?_ (fun _ => ?_)
theorem slices_IndexFunc_int_int.mono : ∀ a0 a1 k, LeO (slices_IndexFunc_int_int.f k a0 a1) (slices_IndexFunc_int_int.f (k + 1) a0 a1) := by
 intro a0 a1 k
 have ih0 := slices_IndexFunc_int_int.mono_l k
 unfold slices_IndexFunc_int_int.f
 repeat' first | (with_reducible first | exact ih0 _ _ _ _ | exact LeO.refl _ | exact LeO.none _ | refine LeO.ite ?_ ?_ | refine LeO.bind ?_ (fun _ => ?_)) | exact ih0 _ _ _ _ | exact LeO.none _ | refine LeO.ite ?_ ?_ | refine LeO.bind ?_ (fun _ => ?_)
theorem slices_IndexFunc_int_int.calls (k : Nat) (A0 : Option Addr) (c0 : Nat) (l0 : List Int) (v1 : Value) (a1 : FnT93) (r : Int) (w : World) (hr0 : Kd.C (Kd.int .i64) w A0 l0.length l0) (hc0 : l0.length ≤ c0) (hF1 : FnOk93 w v1 a1) (h : slices_IndexFunc_int_int.f k l0 a1 = some r) :
  Calls Try.prog 183 #[.slice A0 l0.length c0, v1] w fun e w' => e = .returned (.int .i64 r) ∧ Below w.heap.size w w' := by
 have HR0 := A_ hr0
 have HC0 := A_ hc0
 clear hr0 hc0
 have HF1 := A_ hF1
 clear hF1
 have HB := A_ (Below.refl w.heap.size w)
 have H : (slices_IndexFunc_int_int.l0 k l0 a1 (l0.length : Int) 0) = some r := h
 clear h
 have H' := A_ H
 clear H
 go_enter Try.func183, Try.ntmps183
 go_wp2
 go_loopg [8] k (fun kq v8 w' => ∃ (x8_1 : Int), v8 = .int .i64 x8_1 ∧ Aside0 (slices_IndexFunc_int_int.l0 kq l0 a1 (l0.length : Int) x8_1 = some r) ∧ Aside0 (kq ≤ k) ∧ Aside0 (Below w.heap.size w w'))
 case atStart => exact ⟨(0), tf_, H', ⟨Nat.le_refl _⟩, ⟨tb_⟩⟩
 case round =>
  clear H'
  try clear c1
  try clear p2
  obtain ⟨x8_1, rfl, HA, HK1, HB⟩ := hrel
  cases gk with
  | zero => exact absurd HA.out (by simp [slices_IndexFunc_int_int.l0])
  | succ k1 =>
   have H := HA.out
   clear HA
   simp only [slices_IndexFunc_int_int.l0] at H
   by_cases c3 : x8_1 < (l0.length : Int)
   ·
    rw [if_pos c3] at H
    have c3b0 := decide_eq_true c3
    clear c3
    by_cases c4 : 0 ≤ x8_1
    ·
     rw [if_pos c4] at H
     have c4b0 := decide_eq_true c4
     clear c4
     by_cases c5 : x8_1 < (l0.length : Int)
     ·
      rw [if_pos c5] at H
      have c5b0 := decide_eq_true c5
      clear c5
      replace H := Option.bind_eq_some_iff.mp H
      obtain ⟨t225, A60, H⟩ := H
      replace H : (if t225 = true then (some x8_1) else (slices_IndexFunc_int_int.l0 k1 l0 a1 (l0.length : Int) (wrap64 (x8_1 + 1)))) = some r := H
      have A6 := A_ A60
      clear A60
      by_cases c7 : t225 = true
      ·
       subst c7
       have H1 : (some x8_1) = some r := by rw [if_pos rfl] at H; exact H
       clear H
       have H := H1
       clear H1
       obtain rfl := Option.some.inj H
       have p224 : 0 ≤ (x8_1 : Int) := od_
       have q224 : x8_1 < (l0.length : Int) := od_
       obtain ⟨ad224, e224, hx224_0⟩ := Kd.at_int HR0.out x8_1 p224 q224
       cases e224
       (try replace hx224_0 := (HB.out.cell (World.block_lt_of_cell? w _ hx224_0)).trans hx224_0)
       replace p224 := eq_true p224
       replace q224 := eq_true q224
       go_wp2_with (first | ((with_reducible refine Fn.gate_value rfl ?_); refine Fn.goesVw_ (some 16) rfl (by first | rfl | (simp [Region.wanted, yielded]; done)) v1 rfl #[.int .i64 (rd l0 x8_1)] rfl ta_ ?_; (with_reducible refine (FnCall93.calls (rd l0 x8_1) v1 a1 true _ ?side1 A6.out).mono ?_); (case side1 => exact FnOk93.mono HF1.out tb_); rintro e w8 ⟨rfl, hb⟩; refine ⟨_, rfl, ?_⟩; replace HB := A_ (below_step tb_ hb); (try clear hb)))
       go_ret
       exact ⟨te_, tb_⟩
      ·
       replace c7 := Bool.eq_false_iff.mpr c7
       subst c7
       have H1 : (slices_IndexFunc_int_int.l0 k1 l0 a1 (l0.length : Int) (wrap64 (x8_1 + 1))) = some r := by rw [if_neg (show ¬ (false = true) by decide)] at H; exact H
       clear H
       have H := H1
       clear H1
       have H' := A_ H
       clear H
       have p224 : 0 ≤ (x8_1 : Int) := od_
       have q224 : x8_1 < (l0.length : Int) := od_
       obtain ⟨ad224, e224, hx224_0⟩ := Kd.at_int HR0.out x8_1 p224 q224
       cases e224
       (try replace hx224_0 := (HB.out.cell (World.block_lt_of_cell? w _ hx224_0)).trans hx224_0)
       replace p224 := eq_true p224
       replace q224 := eq_true q224
       go_wp2_with (first | ((with_reducible refine Fn.gate_value rfl ?_); refine Fn.goesVw_ (some 16) rfl (by first | rfl | (simp [Region.wanted, yielded]; done)) v1 rfl #[.int .i64 (rd l0 x8_1)] rfl ta_ ?_; (with_reducible refine (FnCall93.calls (rd l0 x8_1) v1 a1 false _ ?side1 A6.out).mono ?_); (case side1 => exact FnOk93.mono HF1.out tb_); rintro e w9 ⟨rfl, hb⟩; refine ⟨_, rfl, ?_⟩; replace HB := A_ (below_step tb_ hb); (try clear hb)))
       go_roundg k1
       case measure => have := HK1.out; omega
       case rel => exact ⟨(wrap64 (x8_1 + 1)), tf_, H', ⟨by have := HK1.out; omega⟩, ⟨tb_⟩⟩
     ·
      rw [if_neg c5] at H
      exact absurd H (by simp)
    ·
     rw [if_neg c4] at H
     exact absurd H (by simp)
   ·
    rw [if_neg c3] at H
    have c3b0 := decide_eq_false c3
    clear c3
    obtain rfl := Option.some.inj H
    go_wp2
    go_ret
    exact ⟨te_, tb_⟩

/-! ### slices_ContainsFunc_int_int: function 146 -/
def slices_ContainsFunc_int_int.f (k : Nat) (l0 : List Int) (a1 : FnT93) : Option (Bool) := (slices_IndexFunc_int_int.f k l0 a1).bind fun t226 => (some (decide (t226 ≥ 0)))
theorem slices_ContainsFunc_int_int.mono : ∀ a0 a1 k, LeO (slices_ContainsFunc_int_int.f k a0 a1) (slices_ContainsFunc_int_int.f (k + 1) a0 a1) := by
 intro a0 a1 k
 unfold slices_ContainsFunc_int_int.f
 repeat' first | (with_reducible first | exact slices_IndexFunc_int_int.mono _ _ _ | exact LeO.refl _ | exact LeO.none _ | refine LeO.ite ?_ ?_ | refine LeO.bind ?_ (fun _ => ?_)) | exact slices_IndexFunc_int_int.mono _ _ _ | exact LeO.none _ | refine LeO.ite ?_ ?_ | refine LeO.bind ?_ (fun _ => ?_)
theorem slices_ContainsFunc_int_int.calls (k : Nat) (A0 : Option Addr) (c0 : Nat) (l0 : List Int) (v1 : Value) (a1 : FnT93) (r : Bool) (w : World) (hr0 : Kd.C (Kd.int .i64) w A0 l0.length l0) (hc0 : l0.length ≤ c0) (hF1 : FnOk93 w v1 a1) (h : slices_ContainsFunc_int_int.f k l0 a1 = some r) :
  Calls Try.prog 146 #[.slice A0 l0.length c0, v1] w fun e w' => e = .returned (.bool r) ∧ Below w.heap.size w w' := by
 have HR0 := A_ hr0
 have HC0 := A_ hc0
 clear hr0 hc0
 have HF1 := A_ hF1
 clear hF1
 have HB := A_ (Below.refl w.heap.size w)
 have H : ((slices_IndexFunc_int_int.f k l0 a1).bind fun t226 => (some (decide (t226 ≥ 0)))) = some r := h
 clear h
 replace H := Option.bind_eq_some_iff.mp H
 obtain ⟨t226, A30, H⟩ := H
 replace H : (some (decide (t226 ≥ 0))) = some r := H
 have A3 := A_ A30
 clear A30
 obtain rfl := Option.some.inj H
 go_enter Try.func146, Try.ntmps146
 go_wp2_with (first | (refine gc_ 183 ?_; refine goesT_ (some 7) Try.func183 #[.slice A0 l0.length c0, v1] ?_; (with_reducible refine (slices_IndexFunc_int_int.calls k _ _ l0 v1 a1 t226 _ ?side1 ?side2 ?side3 A3.out).mono ?_); (case side1 => exact tc0_ HR0.out); (case side2 => exact HC0.out); (case side3 => exact FnOk93.mono HF1.out tb_); rintro e w4 ⟨rfl, hb⟩; refine ⟨_, rfl, ?_⟩; replace HB := A_ (below_step tb_ hb); (try clear hb)))
 go_ret
 exact ⟨te_, tb_⟩

/-! ### impl_isSide: function 145 -/
def impl_isSide.f (a0 : Int) : Option (Bool) := (impl_within.f a0 1 6).bind fun t227 => (some t227)
theorem impl_isSide.calls (a0 : Int) (r : Bool) (w : World) (h : impl_isSide.f a0 = some r) :
  Calls Try.prog 145 #[.int .i64 a0] w fun e w' => e = .returned (.bool r) ∧ Drawn0 w w' := by
 have H : ((impl_within.f a0 1 6).bind fun t227 => (some t227)) = some r := h
 clear h
 replace H := Option.bind_eq_some_iff.mp H
 obtain ⟨t227, A20, H⟩ := H
 replace H : (some t227) = some r := H
 have A2 := A_ A20
 clear A20
 obtain rfl := Option.some.inj H
 go_enter Try.func145, Try.ntmps145
 go_wp2_with (first | (refine gc_ 104 ?_; refine goesT_ (some 4) Try.func104 #[.int .i64 a0, .int .i64 1, .int .i64 6] ?_; (with_reducible refine (impl_within.calls a0 1 6 t227 _ A2.out).mono ?_); rintro e w' ⟨rfl, ⟨nd, rfl⟩⟩; refine ⟨_, rfl, ?_⟩))
 go_ret
 exact ⟨tf_, dr_⟩

/-! ### impl_IsBoard: function 76 -/
def boardB (rows cols : Int) (cells : List Int) : Bool := decide (1 ≤ rows ∧ rows ≤ 6) && decide (1 ≤ cols ∧ cols ≤ 6) && decide ((cells.length : Int) = rows) && cells.all fun m => decide (0 ≤ m ∧ m ≤ 2 ^ cols.toNat - 1)
def impl_IsBoard.f (a0_0 : Int) (a0_1 : Int) (l0_2 : List Int) : Option (Bool) := some (boardB a0_0 a0_1 l0_2)
theorem impl_IsBoard.closure (m cols : Int) (g : Nat) (w : World) (hc : w.cell? ⟨g, 1, none⟩ = some (.int .i64 cols)) (h0 : 1 ≤ cols) (h1 : cols ≤ 6) :
  Calls Try.prog 147 #[.int .i64 m, .pointer (some ⟨g, 0, none⟩)] w fun e w' => e = .returned (.bool (!(decide (0 ≤ m ∧ m ≤ 2 ^ cols.toNat - 1)))) ∧ w' = w := by
 have hcols : cols = 1 ∨ cols = 2 ∨ cols = 3 ∨ cols = 4 ∨ cols = 5 ∨ cols = 6 := by omega
 by_cases hm : 0 ≤ m
 ·
  rcases hcols with rfl | rfl | rfl | rfl | rfl | rfl
  all_goals
   go_enter Try.func147, Try.ntmps147
   go_wp2
   go_ret
   exact ⟨by simp [hm] <;> omega, rfl⟩
 ·
  rcases hcols with rfl | rfl | rfl | rfl | rfl | rfl
  all_goals
   go_enter Try.func147, Try.ntmps147
   go_wp2
   go_ret
   exact ⟨by simp [hm], rfl⟩
theorem impl_IsBoard.index (l : List Int) (P : Int → Bool) (hb : l.length ≤ 1152921504606846976) : ∀ (d i : Nat) (k : Nat), l.length - i = d → i ≤ l.length → d < k →
  ∃ r : Int, slices_IndexFunc_int_int.l0 k l (fun x => some (P x)) (l.length : Int) (i : Int) = some r ∧ decide (r ≥ 0) = (l.drop i).any P := by
 intro d
 induction d with
 | zero =>
  intro i k hd hi hk
  obtain ⟨k, rfl⟩ : ∃ m, k = m + 1 := ⟨k - 1, by omega⟩
  exact ⟨-1, by rw [slices_IndexFunc_int_int.l0, if_neg (by omega)], by rw [List.drop_eq_nil_of_le (by omega)]; rfl⟩
 | succ d ih =>
  intro i k hd hi hk
  obtain ⟨k, rfl⟩ : ∃ m, k = m + 1 := ⟨k - 1, by omega⟩
  have h1 : i < l.length := by omega
  have hr : rd l (i : Int) = l[i] := by unfold rd; simp [List.getD_eq_getElem?_getD, List.getElem?_eq_getElem h1]
  rw [List.drop_eq_getElem_cons h1, List.any_cons]
  by_cases hp : P l[i] = true
  ·
   refine ⟨i, ?_, ?_⟩
   ·
    rw [slices_IndexFunc_int_int.l0, if_pos (by omega), if_pos (by omega), if_pos (by omega), hr]
    simp only [FnCall93.f, hp, Option.bind_some, if_true]
   ·
    rw [hp, Bool.true_or]; simp
  ·
   obtain ⟨r, h2, h3⟩ := ih (i + 1) k (by omega) (by omega) (by omega)
   refine ⟨r, ?_, ?_⟩
   ·
    rw [slices_IndexFunc_int_int.l0, if_pos (by omega), if_pos (by omega), if_pos (by omega), hr]
    simp only [FnCall93.f, hp, Option.bind_some]
    rw [if_neg (by simp), show wrap64 ((i : Int) + 1) = ((i + 1 : Nat) : Int) by unfold wrap64; omega]
    exact h2
   ·
    rw [h3]; simp only [Bool.not_eq_true] at hp; rw [hp, Bool.false_or]
theorem impl_IsBoard.contains (l : List Int) (P : Int → Bool) (hb : l.length ≤ 1152921504606846976) : slices_ContainsFunc_int_int.f (l.length + 1) l (fun x => some (P x)) = some (l.any P) := by
 obtain ⟨r, h1, h2⟩ := impl_IsBoard.index l P hb l.length 0 (l.length + 1) (by omega) (by omega) (by omega)
 simp only [slices_ContainsFunc_int_int.f, slices_IndexFunc_int_int.f]
 rw [show (0 : Int) = ((0 : Nat) : Int) from rfl, h1, Option.bind_some, show (((0 : Nat) : Int)) = 0 from rfl, h2]
 simp
theorem impl_IsBoard.calls (a0_0 : Int) (a0_1 : Int) (A0_2 : Option Addr) (c0_2 : Nat) (l0_2 : List Int) (r : Bool) (w : World) (hr0_2 : Kd.C (Kd.int .i64) w A0_2 l0_2.length l0_2) (hc0_2 : l0_2.length ≤ c0_2) (h : impl_IsBoard.f a0_0 a0_1 l0_2 = some r) :
  Calls Try.prog 76 #[.agg #[.int .i64 a0_0, .int .i64 a0_1, .slice A0_2 l0_2.length c0_2]] w fun e w' => e = .returned (.bool r) ∧ Below w.heap.size w w' := by
 obtain rfl := Option.some.inj h
 clear h
 have hu := Try.underlying26
 have HR := A_ hr0_2
 have HC := A_ hc0_2
 clear hr0_2 hc0_2
 have HB := A_ (Below.refl w.heap.size w)
 have hmf_ : ∀ (fn : Go.Fn) (first cap : Array Value) (w : World), (Instr.makeFunc fn first cap).run Try.prog w = .ok (.func fn first cap) w := fun _ _ _ _ => rfl
 have early : boardB a0_0 a0_1 l0_2 = false → (1 ≤ a0_0 ∧ a0_0 ≤ 6 → 1 ≤ a0_1 ∧ a0_1 ≤ 6 → ¬ (l0_2.length : Int) = a0_0) →
   Calls Try.prog 76 #[.agg #[.int .i64 a0_0, .int .i64 a0_1, .slice A0_2 l0_2.length c0_2]] w fun e w' => e = .returned (.bool (boardB a0_0 a0_1 l0_2)) ∧ Below w.heap.size w w' := by
  intro e hno
  have E := A_ e
  clear e
  by_cases h1 : 1 ≤ a0_0
  ·
   by_cases h2 : a0_0 ≤ 6
   ·
    by_cases h3 : 1 ≤ a0_1
    ·
     by_cases h4 : a0_1 ≤ 6
     ·
      have h5 : ((l0_2.length : Int) != a0_0) = true := bne_iff_ne.mpr (hno ⟨h1, h2⟩ ⟨h3, h4⟩)
      clear hno
      go_enter Try.func76, Try.ntmps76
      go_wp2
      go_ret
      exact ⟨by rw [E.out]; rfl, below_alloc (Below.refl _ _) _⟩
     ·
      clear hno
      go_enter Try.func76, Try.ntmps76
      go_wp2
      go_ret
      exact ⟨by rw [E.out]; rfl, below_alloc (Below.refl _ _) _⟩
    ·
     clear hno
     go_enter Try.func76, Try.ntmps76
     go_wp2
     go_ret
     exact ⟨by rw [E.out]; rfl, below_alloc (Below.refl _ _) _⟩
   ·
    clear hno
    go_enter Try.func76, Try.ntmps76
    go_wp2
    go_ret
    exact ⟨by rw [E.out]; rfl, below_alloc (Below.refl _ _) _⟩
  ·
   clear hno
   go_enter Try.func76, Try.ntmps76
   go_wp2
   go_ret
   exact ⟨by rw [E.out]; rfl, below_alloc (Below.refl _ _) _⟩
 by_cases hall : (1 ≤ a0_0 ∧ a0_0 ≤ 6) ∧ (1 ≤ a0_1 ∧ a0_1 ≤ 6) ∧ (l0_2.length : Int) = a0_0
 ·
  obtain ⟨⟨h1, h2⟩, ⟨h3, h4⟩, h5⟩ := hall
  have e : boardB a0_0 a0_1 l0_2 = l0_2.all (fun m => decide (0 ≤ m ∧ m ≤ 2 ^ a0_1.toNat - 1)) := by simp [boardB, h1, h2, h3, h4, h5]
  have e2 : (l0_2.any fun m => !(decide (0 ≤ m ∧ m ≤ 2 ^ a0_1.toNat - 1))) = !(boardB a0_0 a0_1 l0_2) := by rw [e, List.not_all_eq_any_not]
  have hlen : l0_2.length ≤ 1152921504606846976 := by omega
  have HN : Aside0 (slices_ContainsFunc_int_int.f (l0_2.length + 1) l0_2 (fun m => some (!(decide (0 ≤ m ∧ m ≤ 2 ^ a0_1.toNat - 1)))) = some (!(boardB a0_0 a0_1 l0_2))) := ⟨(impl_IsBoard.contains l0_2 _ hlen).trans (by rw [e2])⟩
  clear e e2 early
  have h5b : ((l0_2.length : Int) != a0_0) = false := bne_eq_false_iff_eq.mpr h5
  have H3 := A_ h3
  have H4 := A_ h4
  have HF : ∀ W : World, W.cell? ⟨w.heap.size, 1, none⟩ = some (.int .i64 a0_1) → FnOk93 W (.func (.func 147) #[] #[.pointer (some ⟨w.heap.size, 0, none⟩)]) (fun m => some (!(decide (0 ≤ m ∧ m ≤ 2 ^ a0_1.toNat - 1)))) := by
   intro W hc m r W1 h hB
   obtain rfl := Option.some.inj h
   refine ⟨147, _, _, rfl, Try.func147, by kernel_rfl, rfl, ?_⟩
   refine (impl_IsBoard.closure m a0_1 w.heap.size W1 ((hB.cell (World.block_lt_of_cell? W _ hc)).trans hc) H3.out H4.out).mono ?_
   rintro e w' ⟨he, rfl⟩
   exact ⟨he, Below.refl _ _⟩
  have HF' := A_ HF
  clear HF h5 hlen
  have S1 : Aside0 (impl_isSide.f a0_0 = some true) := ⟨by unfold impl_isSide.f impl_within.f; rw [if_pos h1]; simpa using h2⟩
  have S2 : Aside0 (impl_isSide.f a0_1 = some true) := ⟨by unfold impl_isSide.f impl_within.f; rw [if_pos h3]; simpa using h4⟩
  go_enter Try.func76, Try.ntmps76
  go_wp2_with (first | (go_at_call 145; (with_reducible refine (impl_isSide.calls a0_0 true _ S1.out).mono ?_); rintro e w' ⟨rfl, ⟨nd, rfl⟩⟩) | (go_at_call 145; (with_reducible refine (impl_isSide.calls a0_1 true _ S2.out).mono ?_); rintro e w' ⟨rfl, ⟨nd, rfl⟩⟩) | (go_at_call 146; refine (slices_ContainsFunc_int_int.calls (l0_2.length + 1) _ _ l0_2 (.func (.func 147) #[] #[.pointer (some ⟨w.heap.size, 0, none⟩)]) (fun m => some (!(decide (0 ≤ m ∧ m ≤ 2 ^ a0_1.toNat - 1)))) _ _ ?s1 HC.out (HF'.out _ (by go_simp)) HN.out).mono ?_; (case s1 => exact tc0_ HR.out); rintro e w1 ⟨rfl, hb⟩; have HB1 := A_ hb; clear hb))
  go_ret
  exact ⟨by simp, below_then (by repeat (first | exact Below.refl _ _ | apply pw_below_drewN | apply below_alloc)) (by simp) HB1.out⟩
 ·
  refine early ?_ ?_
  ·
   simp only [boardB, Bool.and_eq_false_iff, decide_eq_false_iff_not]
   by_cases ha : 1 ≤ a0_0 ∧ a0_0 ≤ 6
   ·
    by_cases hb : 1 ≤ a0_1 ∧ a0_1 ≤ 6
    ·
     exact .inl (.inr (fun hc => hall ⟨ha, hb, hc⟩))
    ·
     exact .inl (.inl (.inr hb))
   ·
    exact .inl (.inl (.inl ha))
  ·
   exact fun ha hb hc => hall ⟨ha, hb, hc⟩

/-! ### slices_Equal_int_int: function 148 -/
def slices_Equal_int_int.l0 : Nat → List Int → List Int → Int → Int → Option (Bool)
 | 0, _, _, _, _ => none
 | k + 1, x0, x1, x12, x13 => if x13 < x12 then (if 0 ≤ x13 then (if x13 < (x0.length : Int) then (if x13 < (x1.length : Int) then (if (rd x0 x13) = (rd x1 x13) then (slices_Equal_int_int.l0 k x0 x1 x12 (wrap64 (x13 + 1))) else (some false)) else (none)) else (none)) else (none)) else (some true)
def slices_Equal_int_int.f (k : Nat) (l0 : List Int) (l1 : List Int) : Option (Bool) := if (l0.length : Int) = (l1.length : Int) then (slices_Equal_int_int.l0 k l0 l1 (l0.length : Int) 0) else (some false)
theorem slices_Equal_int_int.mono_l : ∀ k, (∀ y0 y1 y2 y3, LeO (slices_Equal_int_int.l0 k y0 y1 y2 y3) (slices_Equal_int_int.l0 (k + 1) y0 y1 y2 y3))
 | 0 => fun _ _ _ _ r h => by simp [slices_Equal_int_int.l0] at h
 | k + 1 => by
  have ih0 := slices_Equal_int_int.mono_l k
  ·
   intro y0 y1 y2 y3
   unfold slices_Equal_int_int.l0
   repeat' first | (with_reducible first | exact ih0 _ _ _ _ | exact LeO.refl _ | exact LeO.none _ | refine LeO.ite ?_ ?_ | refine LeO.bind ?_ (fun _ => ?_)) | exact ih0 _ _ _ _ | exact LeO.none _ | refine LeO.ite ?_ ?_ | refine LeO.bind ?_ (fun _ => ?_)
theorem slices_Equal_int_int.mono : ∀ a0 a1 k, LeO (slices_Equal_int_int.f k a0 a1) (slices_Equal_int_int.f (k + 1) a0 a1) := by
 intro a0 a1 k
 have ih0 := slices_Equal_int_int.mono_l k
 unfold slices_Equal_int_int.f
 repeat' first | (with_reducible first | exact ih0 _ _ _ _ | exact LeO.refl _ | exact LeO.none _ | refine LeO.ite ?_ ?_ | refine LeO.bind ?_ (fun _ => ?_)) | exact ih0 _ _ _ _ | exact LeO.none _ | refine LeO.ite ?_ ?_ | refine LeO.bind ?_ (fun _ => ?_)
theorem slices_Equal_int_int.calls (k : Nat) (A0 : Option Addr) (c0 : Nat) (l0 : List Int) (A1 : Option Addr) (c1 : Nat) (l1 : List Int) (r : Bool) (w : World) (hr0 : Kd.C (Kd.int .i64) w A0 l0.length l0) (hc0 : l0.length ≤ c0) (hr1 : Kd.C (Kd.int .i64) w A1 l1.length l1) (hc1 : l1.length ≤ c1) (h : slices_Equal_int_int.f k l0 l1 = some r) :
  Calls Try.prog 148 #[.slice A0 l0.length c0, .slice A1 l1.length c1] w fun e w' => e = .returned (.bool r) ∧ Drawn0 w w' := by
 have HR0 := A_ hr0
 have HC0 := A_ hc0
 clear hr0 hc0
 have HR1 := A_ hr1
 have HC1 := A_ hc1
 clear hr1 hc1
 have H : (if (l0.length : Int) = (l1.length : Int) then (slices_Equal_int_int.l0 k l0 l1 (l0.length : Int) 0) else (some false)) = some r := h
 clear h
 by_cases c3 : (l0.length : Int) = (l1.length : Int)
 ·
  rw [if_pos c3] at H
  have c3b0 : ((l0.length : Int) == (l1.length : Int)) = true := beq_iff_eq.mpr c3
  have c3b1 : ((l0.length : Int) != (l1.length : Int)) = false := bne_eq_false_iff_eq.mpr c3
  have c3b2 : (l0.length == l1.length) = true := by first | simpa using c3 | (simp at c3 ⊢; omega)
  clear c3
  have H' := A_ H
  clear H
  go_enter Try.func148, Try.ntmps148
  go_wp2
  repeat (go_quiet (fail); try go_wp2)
  go_loopg [13] k (fun kq v13 w' => ∃ (x13_1 : Int), v13 = .int .i64 x13_1 ∧ Aside0 (slices_Equal_int_int.l0 kq l0 l1 (l0.length : Int) x13_1 = some r) ∧ Aside0 (kq ≤ k) ∧ Drawn0 w w')
  case atStart => exact ⟨(0), tf_, H', ⟨Nat.le_refl _⟩, dr_⟩
  case round =>
   clear H'
   try clear c1
   try clear p2
   try clear c3
   try clear c3b0
   try clear c3b1
   try clear c3b2
   obtain ⟨x13_1, rfl, HA, HK1, ⟨m1, rfl⟩⟩ := hrel
   cases gk with
   | zero => exact absurd HA.out (by simp [slices_Equal_int_int.l0])
   | succ k1 =>
    have H := HA.out
    clear HA
    simp only [slices_Equal_int_int.l0] at H
    by_cases c4 : x13_1 < (l0.length : Int)
    ·
     rw [if_pos c4] at H
     have c4b0 := decide_eq_true c4
     clear c4
     by_cases c5 : 0 ≤ x13_1
     ·
      rw [if_pos c5] at H
      have c5b0 := decide_eq_true c5
      clear c5
      by_cases c6 : x13_1 < (l0.length : Int)
      ·
       rw [if_pos c6] at H
       have c6b0 := decide_eq_true c6
       clear c6
       by_cases c7 : x13_1 < (l1.length : Int)
       ·
        rw [if_pos c7] at H
        have c7b0 := decide_eq_true c7
        clear c7
        by_cases c8 : (rd l0 x13_1) = (rd l1 x13_1)
        ·
         rw [if_pos c8] at H
         have c8b0 : ((rd l0 x13_1) == (rd l1 x13_1)) = true := beq_iff_eq.mpr c8
         have c8b1 : ((rd l0 x13_1) != (rd l1 x13_1)) = false := bne_eq_false_iff_eq.mpr c8
         clear c8
         have H' := A_ H
         clear H
         have p233 : 0 ≤ (x13_1 : Int) := od_
         have q233 : x13_1 < (l0.length : Int) := od_
         obtain ⟨ad233, e233, hx233_0⟩ := Kd.at_int HR0.out x13_1 p233 q233
         cases e233
         replace p233 := eq_true p233
         replace q233 := eq_true q233
         have p234 : 0 ≤ (x13_1 : Int) := od_
         have q234 : x13_1 < (l1.length : Int) := od_
         obtain ⟨ad234, e234, hx234_0⟩ := Kd.at_int HR1.out x13_1 p234 q234
         cases e234
         replace p234 := eq_true p234
         replace q234 := eq_true q234
         go_wp2
         repeat (go_quiet (fail); try go_wp2)
         go_roundg k1
         case measure => have := HK1.out; omega
         case rel => exact ⟨(wrap64 (x13_1 + 1)), tf_, H', ⟨by have := HK1.out; omega⟩, dr_⟩
        ·
         rw [if_neg c8] at H
         have c8b0 : ((rd l0 x13_1) == (rd l1 x13_1)) = false := beq_eq_false_iff_ne.mpr c8
         have c8b1 : ((rd l0 x13_1) != (rd l1 x13_1)) = true := bne_iff_ne.mpr c8
         obtain rfl := Option.some.inj H
         have p233 : 0 ≤ (x13_1 : Int) := od_
         have q233 : x13_1 < (l0.length : Int) := od_
         obtain ⟨ad233, e233, hx233_0⟩ := Kd.at_int HR0.out x13_1 p233 q233
         cases e233
         replace p233 := eq_true p233
         replace q233 := eq_true q233
         have p234 : 0 ≤ (x13_1 : Int) := od_
         have q234 : x13_1 < (l1.length : Int) := od_
         obtain ⟨ad234, e234, hx234_0⟩ := Kd.at_int HR1.out x13_1 p234 q234
         cases e234
         replace p234 := eq_true p234
         replace q234 := eq_true q234
         go_wp2
         repeat (go_quiet (fail); try go_wp2)
         go_ret
         exact ⟨tf_, dr_⟩
       ·
        rw [if_neg c7] at H
        exact absurd H (by simp)
      ·
       rw [if_neg c6] at H
       exact absurd H (by simp)
     ·
      rw [if_neg c5] at H
      exact absurd H (by simp)
    ·
     rw [if_neg c4] at H
     have c4b0 := decide_eq_false c4
     clear c4
     obtain rfl := Option.some.inj H
     go_wp2
     repeat (go_quiet (fail); try go_wp2)
     go_ret
     exact ⟨tf_, dr_⟩
 ·
  rw [if_neg c3] at H
  have c3b0 : ((l0.length : Int) == (l1.length : Int)) = false := beq_eq_false_iff_ne.mpr c3
  have c3b1 : ((l0.length : Int) != (l1.length : Int)) = true := bne_iff_ne.mpr c3
  have c3b2 : (l0.length == l1.length) = false := by first | simpa using c3 | (simp at c3 ⊢; omega)
  obtain rfl := Option.some.inj H
  go_enter Try.func148, Try.ntmps148
  go_wp2
  repeat (go_quiet (fail); try go_wp2)
  go_ret
  exact ⟨tf_, dr_⟩

/-! ### impl_Board_quiet: function 77 -/
mutual
def impl_Board_quiet.l0 : Nat → List (List Int) → FnT57 → List (List Int) → Int → Int → Int → Int → List Int → Option (Bool)
 | 0, _, _, _, _, _, _, _, _ => none
 | k + 1, x1, x2, x11, x12, x13, x236000, x236001, x236002 => if x13 < x12 then (if 0 ≤ x13 then (if x13 < (x11.length : Int) then (if ((rd_L2 x11 x13).length : Int) = 2 then (if 0 < ((rd_L2 x11 x13).length : Int) then (if 1 < ((rd_L2 x11 x13).length : Int) then ((impl_Board_place.f x236000 x236001 x236002 (rd (rd_L2 x11 x13) 0) (rd (rd_L2 x11 x13) 1)).bind fun t239 => (if t239 = true then ((impl_Board_has.f x236000 x236001 x236002 (rd (rd_L2 x11 x13) 0) (rd (rd_L2 x11 x13) 1)).bind fun t242 => (impl_Board_quiet.j1 k x1 x2 x13 (rd_L2 x11 x13) x11 x12 x13 (!t242) x236000 x236001 x236002)) else (impl_Board_quiet.j1 k x1 x2 x13 (rd_L2 x11 x13) x11 x12 x13 true x236000 x236001 x236002))) else (none)) else (none)) else (impl_Board_quiet.j1 k x1 x2 x13 (rd_L2 x11 x13) x11 x12 x13 true x236000 x236001 x236002)) else (none)) else (none)) else (some true)
def impl_Board_quiet.j1 : Nat → List (List Int) → FnT57 → Int → List Int → List (List Int) → Int → Int → Bool → Int → Int → List Int → Option (Bool)
 | 0, _, _, _, _, _, _, _, _, _, _, _ => none
 | k + 1, x1, x2, x7, x8, x11, x12, x13, x42, x236000, x236001, x236002 => if x42 = true then (some false) else (if 0 ≤ x7 then (if x7 ≤ (x1.length : Int) then ((some (x1.take (x7 : Int).toNat : List (List Int))).bind fun y243 => (impl_Board_quiet.l1 k x1 x2 x8 x11 x12 x13 y243 (y243.length : Int) 0 x236000 x236001 x236002)) else (none)) else (none))
def impl_Board_quiet.l1 : Nat → List (List Int) → FnT57 → List Int → List (List Int) → Int → Int → List (List Int) → Int → Int → Int → Int → List Int → Option (Bool)
 | 0, _, _, _, _, _, _, _, _, _, _, _, _ => none
 | k + 1, x1, x2, x8, x11, x12, x13, x45, x46, x47, x236000, x236001, x236002 => if x47 < x46 then (if 0 ≤ x47 then (if x47 < (x45.length : Int) then ((slices_Equal_int_int.f k x8 (rd_L2 x45 x47)).bind fun t248 => (if t248 = true then (some false) else ((FnCall57.f x8 (rd_L2 x45 x47) x2).bind fun t249 => (if t249 = true then (impl_Board_quiet.l1 k x1 x2 x8 x11 x12 x13 x45 x46 (wrap64 (x47 + 1)) x236000 x236001 x236002) else (some false))))) else (none)) else (none)) else (impl_Board_quiet.l0 k x1 x2 x11 x12 (wrap64 (x13 + 1)) x236000 x236001 x236002)
end
def impl_Board_quiet.f (k : Nat) (a0_0 : Int) (a0_1 : Int) (l0_2 : List Int) (l1 : List (List Int)) (a2 : FnT57) : Option (Bool) := impl_Board_quiet.l0 k l1 a2 l1 (l1.length : Int) 0 a0_0 a0_1 l0_2
theorem impl_Board_quiet.mono_l : ∀ k, (∀ y0 y1 y2 y3 y4 y5 y6 y7, LeO (impl_Board_quiet.l0 k y0 y1 y2 y3 y4 y5 y6 y7) (impl_Board_quiet.l0 (k + 1) y0 y1 y2 y3 y4 y5 y6 y7)) ∧ (∀ y0 y1 y2 y3 y4 y5 y6 y7 y8 y9 y10, LeO (impl_Board_quiet.j1 k y0 y1 y2 y3 y4 y5 y6 y7 y8 y9 y10) (impl_Board_quiet.j1 (k + 1) y0 y1 y2 y3 y4 y5 y6 y7 y8 y9 y10)) ∧ (∀ y0 y1 y2 y3 y4 y5 y6 y7 y8 y9 y10 y11, LeO (impl_Board_quiet.l1 k y0 y1 y2 y3 y4 y5 y6 y7 y8 y9 y10 y11) (impl_Board_quiet.l1 (k + 1) y0 y1 y2 y3 y4 y5 y6 y7 y8 y9 y10 y11))
 | 0 => ⟨fun _ _ _ _ _ _ _ _ r h => by simp [impl_Board_quiet.l0] at h, fun _ _ _ _ _ _ _ _ _ _ _ r h => by simp [impl_Board_quiet.j1] at h, fun _ _ _ _ _ _ _ _ _ _ _ _ r h => by simp [impl_Board_quiet.l1] at h⟩
 | k + 1 => by
  obtain ⟨ih0, ih1, ih2⟩ := impl_Board_quiet.mono_l k
  refine ⟨?_, ?_, ?_⟩
  ·
   intro y0 y1 y2 y3 y4 y5 y6 y7
   unfold impl_Board_quiet.l0
   repeat' first | (with_reducible first | exact ih0 _ _ _ _ _ _ _ _ | exact ih1 _ _ _ _ _ _ _ _ _ _ _ | exact ih2 _ _ _ _ _ _ _ _ _ _ _ _ | exact slices_Equal_int_int.mono _ _ _ | exact LeO.refl _ | exact LeO.none _ | refine LeO.ite ?_ ?_ | refine LeO.bind ?_ (fun _ => ?_)) | exact ih0 _ _ _ _ _ _ _ _ | exact ih1 _ _ _ _ _ _ _ _ _ _ _ | exact ih2 _ _ _ _ _ _ _ _ _ _ _ _ | exact slices_Equal_int_int.mono _ _ _ | exact LeO.none _ | refine LeO.ite ?_ ?_ | refine LeO.bind ?_ (fun _ => ?_)
  ·
   intro y0 y1 y2 y3 y4 y5 y6 y7 y8 y9 y10
   unfold impl_Board_quiet.j1
   repeat' first | (with_reducible first | exact ih0 _ _ _ _ _ _ _ _ | exact ih1 _ _ _ _ _ _ _ _ _ _ _ | exact ih2 _ _ _ _ _ _ _ _ _ _ _ _ | exact slices_Equal_int_int.mono _ _ _ | exact LeO.refl _ | exact LeO.none _ | refine LeO.ite ?_ ?_ | refine LeO.bind ?_ (fun _ => ?_)) | exact ih0 _ _ _ _ _ _ _ _ | exact ih1 _ _ _ _ _ _ _ _ _ _ _ | exact ih2 _ _ _ _ _ _ _ _ _ _ _ _ | exact slices_Equal_int_int.mono _ _ _ | exact LeO.none _ | refine LeO.ite ?_ ?_ | refine LeO.bind ?_ (fun _ => ?_)
  ·
   intro y0 y1 y2 y3 y4 y5 y6 y7 y8 y9 y10 y11
   unfold impl_Board_quiet.l1
   repeat' first | (with_reducible first | exact ih0 _ _ _ _ _ _ _ _ | exact ih1 _ _ _ _ _ _ _ _ _ _ _ | exact ih2 _ _ _ _ _ _ _ _ _ _ _ _ | exact slices_Equal_int_int.mono _ _ _ | exact LeO.refl _ | exact LeO.none _ | refine LeO.ite ?_ ?_ | refine LeO.bind ?_ (fun _ => ?_)) | exact ih0 _ _ _ _ _ _ _ _ | exact ih1 _ _ _ _ _ _ _ _ _ _ _ | exact ih2 _ _ _ _ _ _ _ _ _ _ _ _ | exact slices_Equal_int_int.mono _ _ _ | exact LeO.none _ | refine LeO.ite ?_ ?_ | refine LeO.bind ?_ (fun _ => ?_)
theorem impl_Board_quiet.mono : ∀ a0 a1 a2 a3 a4 k, LeO (impl_Board_quiet.f k a0 a1 a2 a3 a4) (impl_Board_quiet.f (k + 1) a0 a1 a2 a3 a4) := by
 intro a0 a1 a2 a3 a4 k
 obtain ⟨ih0, ih1, ih2⟩ := impl_Board_quiet.mono_l k
 unfold impl_Board_quiet.f
 repeat' first | (with_reducible first | exact ih0 _ _ _ _ _ _ _ _ | exact ih1 _ _ _ _ _ _ _ _ _ _ _ | exact ih2 _ _ _ _ _ _ _ _ _ _ _ _ | exact slices_Equal_int_int.mono _ _ _ | exact LeO.refl _ | exact LeO.none _ | refine LeO.ite ?_ ?_ | refine LeO.bind ?_ (fun _ => ?_)) | exact ih0 _ _ _ _ _ _ _ _ | exact ih1 _ _ _ _ _ _ _ _ _ _ _ | exact ih2 _ _ _ _ _ _ _ _ _ _ _ _ | exact slices_Equal_int_int.mono _ _ _ | exact LeO.none _ | refine LeO.ite ?_ ?_ | refine LeO.bind ?_ (fun _ => ?_)
def impl_Board_quiet.T4 : Bool × List (List Nat × List Nat) := (true, [([], []), ([0], [0]), ([1], [1]), ([2], [2]), ([3], [3]), ([3], [3]), ([5, 3], [3, 5]), ([6, 3], [3, 6]), ([3], [3]), ([8, 3], [3, 8]), ([9, 3], [3, 9]), ([4, 7, 10, 3, 3], [3, 4, 7, 10]), ([11, 3], [3, 11]), ([3, 12], [3, 12]), ([13, 11], [13]), ([14], [14]), ([14], [14]), ([16, 14], [14, 16]), ([17, 14], [14, 17]), ([14], [14]), ([19, 14], [14, 19]), ([20, 14], [14, 20]), ([15, 18, 21, 14, 14], [14, 15, 18, 21]), ([22, 14], [14, 22]), ([14, 23], [14, 23])])
def impl_Board_quiet.B4 : List Nat := [0, 1, 3, 7, 15, 15, 47, 111, 15, 271, 783, 2047, 4095, 8191, 16383, 32767, 32767, 98303, 229375, 32767, 557055, 1605631, 4194303, 8388607, 16777215]
theorem impl_Board_quiet.tab4 : rtab .any (opsOf Try.f77 4) = impl_Board_quiet.T4 := by kernel_rfl
theorem impl_Board_quiet.bits4 : waitsOk impl_Board_quiet.T4.2 impl_Board_quiet.B4 = true := by kernel_rfl
theorem impl_Board_quiet.calls (k : Nat) (a0_0 : Int) (a0_1 : Int) (A0_2 : Option Addr) (c0_2 : Nat) (l0_2 : List Int) (A1 : Option Addr) (c1 : Nat) (l1 : List (List Int)) (v2 : Value) (a2 : FnT57) (r : Bool) (w : World) (hr0_2 : Kd.C (Kd.int .i64) w A0_2 l0_2.length l0_2) (hc0_2 : l0_2.length ≤ c0_2) (hr1 : Kd.C (Kd.slice 3 (Kd.int .i64)) w A1 l1.length l1) (hc1 : l1.length ≤ c1) (hF2 : FnOk57 w v2 a2) (h : impl_Board_quiet.f k a0_0 a0_1 l0_2 l1 a2 = some r) :
  Calls Try.prog 77 #[.agg #[.int .i64 a0_0, .int .i64 a0_1, .slice A0_2 l0_2.length c0_2], .slice A1 l1.length c1, v2] w fun e w' => e = .returned (.bool r) ∧ Below w.heap.size w w' := by
 have hu26 := Try.underlying26
 have HR0_2 := A_ hr0_2
 have HC0_2 := A_ hc0_2
 clear hr0_2 hc0_2
 have HR1 := A_ hr1
 have HC1 := A_ hc1
 clear hr1 hc1
 have HF2 := A_ hF2
 clear hF2
 have HB := A_ (Below.refl w.heap.size w)
 have H : (impl_Board_quiet.l0 k l1 a2 l1 (l1.length : Int) 0 a0_0 a0_1 l0_2) = some r := h
 clear h
 have H' := A_ H
 clear H
 go_enter Try.func77, Try.ntmps77
 go_wp2_with (first | (refine gd_ 3 ?_; refine bx_ 3 #[.int .i64 a0_0, .int .i64 a0_1, .slice A0_2 l0_2.length c0_2] 26 ?_; intro gb235 hg w4 hbox hb; have BK235 := A_ (hbox); have GW235 := A_ ((ts_ hg : w.heap.size ≤ gb235)); have GE235 := A_ ((ts_ hg : w.heap.size ≤ gb235)); replace HB := A_ (below_step tb_ hb); clear hb hbox hg))
 go_loopg [13] k (fun kq v13 w' => ∃ (x13_1 : Int), v13 = .int .i64 x13_1 ∧ Aside0 (impl_Board_quiet.l0 kq l1 a2 l1 (l1.length : Int) x13_1 a0_0 a0_1 l0_2 = some r) ∧ Aside0 (kq ≤ k) ∧ Aside0 (w'.heap[gb235]? = some (.cells #[.int .i64 a0_0, .int .i64 a0_1, (.slice A0_2 l0_2.length c0_2)] 26 (0, 0))) ∧ Aside0 (Below w.heap.size w w'))
 case atStart => exact ⟨(0), tf_, H', ⟨Nat.le_refl _⟩, ⟨tk_ BK235⟩, ⟨tb_⟩⟩
 case round =>
  clear H'
  try clear c1
  try clear p2
  obtain ⟨x13_1, rfl, HA, HK1, BK235, HB⟩ := hrel
  cases gk with
  | zero => exact absurd HA.out (by simp [impl_Board_quiet.l0])
  | succ k1 =>
   have H := HA.out
   clear HA
   simp only [impl_Board_quiet.l0] at H
   by_cases c5 : x13_1 < (l1.length : Int)
   ·
    rw [if_pos c5] at H
    have c5b0 := decide_eq_true c5
    clear c5
    by_cases c6 : 0 ≤ x13_1
    ·
     rw [if_pos c6] at H
     have c6b0 := decide_eq_true c6
     clear c6
     by_cases c7 : x13_1 < (l1.length : Int)
     ·
      rw [if_pos c7] at H
      have c7b0 := decide_eq_true c7
      clear c7
      have HC8 := A_ H
      clear H
      have p236 : 0 ≤ (x13_1 : Int) := od_
      have q236 : x13_1 < (l1.length : Int) := od_
      obtain ⟨ad236, A236_0, c236_0, e236, hx236_0, hl236_0, hi236_0⟩ := at_L2 HR1.out x13_1 p236 q236
      cases e236
      (try replace hx236_0 := (HB.out.cell (World.block_lt_of_cell? w _ hx236_0)).trans hx236_0)
      have HR236_0 := A_ hi236_0
      have HC236_0 := A_ hl236_0
      clear hi236_0 hl236_0
      replace p236 := eq_true p236
      replace q236 := eq_true q236
      go_upto_region 4 with (fail)
      go_cut [42] (fun v42 wc => ∃ (kq : Nat) (x42_7 : Bool), v42 = .bool x42_7 ∧ Aside0 (impl_Board_quiet.j1 kq l1 a2 x13_1 (rd_L2 l1 x13_1) l1 (l1.length : Int) x13_1 x42_7 a0_0 a0_1 l0_2 = some r) ∧ Aside0 (kq ≤ k1) ∧ Aside0 (wc.heap[gb235]? = some (.cells #[.int .i64 a0_0, .int .i64 a0_1, (.slice A0_2 l0_2.length c0_2)] 26 (0, 0))) ∧ Aside0 (Below w.heap.size w wc))
      case first =>
       have H := HC8.out
       clear HC8
       by_cases c9 : ((rd_L2 l1 x13_1).length : Int) = 2
       ·
        rw [if_pos c9] at H
        have c9b0 : (((rd_L2 l1 x13_1).length : Int) == 2) = true := beq_iff_eq.mpr c9
        have c9b1 : (((rd_L2 l1 x13_1).length : Int) != 2) = false := bne_eq_false_iff_eq.mpr c9
        clear c9
        (first | rw [c9b0] | rw [c9b1] | (simp only [i64_w, i32_w]; rw [c9b0]) | skip)
        by_cases c10 : 0 < ((rd_L2 l1 x13_1).length : Int)
        ·
         rw [if_pos c10] at H
         have c10b0 := decide_eq_true c10
         have c10b1 : decide (0 < (rd_L2 l1 x13_1).length) = true := decide_eq_true (by omega)
         clear c10
         by_cases c11 : 1 < ((rd_L2 l1 x13_1).length : Int)
         ·
          rw [if_pos c11] at H
          have c11b0 := decide_eq_true c11
          have c11b1 : decide (1 < (rd_L2 l1 x13_1).length) = true := decide_eq_true (by omega)
          clear c11
          replace H := Option.bind_eq_some_iff.mp H
          obtain ⟨t239, A120, H⟩ := H
          replace H : (if t239 = true then ((impl_Board_has.f a0_0 a0_1 l0_2 (rd (rd_L2 l1 x13_1) 0) (rd (rd_L2 l1 x13_1) 1)).bind fun t242 => (impl_Board_quiet.j1 k1 l1 a2 x13_1 (rd_L2 l1 x13_1) l1 (l1.length : Int) x13_1 (!t242) a0_0 a0_1 l0_2)) else (impl_Board_quiet.j1 k1 l1 a2 x13_1 (rd_L2 l1 x13_1) l1 (l1.length : Int) x13_1 true a0_0 a0_1 l0_2)) = some r := H
          have A12 := A_ A120
          clear A120
          by_cases c13 : t239 = true
          ·
           subst c13
           have H1 : ((impl_Board_has.f a0_0 a0_1 l0_2 (rd (rd_L2 l1 x13_1) 0) (rd (rd_L2 l1 x13_1) 1)).bind fun t242 => (impl_Board_quiet.j1 k1 l1 a2 x13_1 (rd_L2 l1 x13_1) l1 (l1.length : Int) x13_1 (!t242) a0_0 a0_1 l0_2)) = some r := by rw [if_pos rfl] at H; exact H
           clear H
           have H := H1
           clear H1
           replace H := Option.bind_eq_some_iff.mp H
           obtain ⟨t242, A140, H⟩ := H
           replace H : (impl_Board_quiet.j1 k1 l1 a2 x13_1 (rd_L2 l1 x13_1) l1 (l1.length : Int) x13_1 (!t242) a0_0 a0_1 l0_2) = some r := H
           have A14 := A_ A140
           clear A140
           have H' := A_ H
           clear H
           try go_wp2
           have n0_ := A_ (blk_drew BK235.out)
           have n1_ := A_ (below_drew1 HB.out)
           clear BK235
           clear HB
           have BK235 := n0_
           have HB := n1_
           clear n0_ n1_
           have p237 : 0 ≤ (0 : Int) := (by omega)
           have q237 : 0 < ((rd_L2 l1 x13_1).length : Int) := od_
           obtain ⟨ad237, e237, hx237_0⟩ := Kd.at_int HR236_0.out 0 p237 q237
           have hw237_0 := hx237_0
           (try rw [show ((0 : Int)).toNat = 0 from rfl] at hw237_0)
           (try rw [show 0 * 1 = 0 from rfl] at hw237_0)
           (try rw [Addr.add_zero'] at hw237_0)
           cases e237
           have qi237 : (0 < (rd_L2 l1 x13_1).length) = True := eq_true (by omega)
           (try rw [show ((0 : Int)).toNat = 0 from rfl] at hx237_0)
           (try rw [Addr.add_zero'] at hx237_0)
           (try replace hx237_0 := (HB.out.cell (World.block_lt_of_cell? w _ hx237_0)).trans hx237_0)
           replace p237 := eq_true p237
           replace q237 := eq_true q237
           have p238 : 0 ≤ (1 : Int) := (by omega)
           have q238 : 1 < ((rd_L2 l1 x13_1).length : Int) := od_
           obtain ⟨ad238, e238, hx238_0⟩ := Kd.at_int HR236_0.out 1 p238 q238
           have hw238_0 := hx238_0
           (try rw [show ((1 : Int)).toNat = 1 from rfl] at hw238_0)
           (try rw [show 1 * 1 = 1 from rfl] at hw238_0)
           (try simp only [Nat.reduceMul, Nat.reduceEqDiff, Go.Addr.add, ↓reduceIte] at hw238_0)
           obtain rfl : ad237 = ad238 := (by injection e238)
           (try simp only [show (1 : Int).toNat = 1 from rfl, Nat.reduceMul, Nat.reduceEqDiff, Go.Addr.add, ↓reduceIte] at hx238_0)
           have qi238 : (1 < (rd_L2 l1 x13_1).length) = True := eq_true (by omega)
           (try rw [show ((1 : Int)).toNat = 1 from rfl] at hx238_0)
           (try replace hx238_0 := (HB.out.cell (World.block_lt_of_cell? w _ hx238_0)).trans hx238_0)
           replace p238 := eq_true p238
           replace q238 := eq_true q238
           have p240 : 0 ≤ (0 : Int) := (by omega)
           have q240 : 0 < ((rd_L2 l1 x13_1).length : Int) := od_
           obtain ⟨ad240, e240, hx240_0⟩ := Kd.at_int HR236_0.out 0 p240 q240
           have hw240_0 := hx240_0
           (try rw [show ((0 : Int)).toNat = 0 from rfl] at hw240_0)
           (try rw [show 0 * 1 = 0 from rfl] at hw240_0)
           (try rw [Addr.add_zero'] at hw240_0)
           obtain rfl : ad237 = ad240 := (by injection e240)
           have qi240 : (0 < (rd_L2 l1 x13_1).length) = True := eq_true (by omega)
           (try rw [show ((0 : Int)).toNat = 0 from rfl] at hx240_0)
           (try rw [Addr.add_zero'] at hx240_0)
           (try replace hx240_0 := (HB.out.cell (World.block_lt_of_cell? w _ hx240_0)).trans hx240_0)
           replace p240 := eq_true p240
           replace q240 := eq_true q240
           have p241 : 0 ≤ (1 : Int) := (by omega)
           have q241 : 1 < ((rd_L2 l1 x13_1).length : Int) := od_
           obtain ⟨ad241, e241, hx241_0⟩ := Kd.at_int HR236_0.out 1 p241 q241
           have hw241_0 := hx241_0
           (try rw [show ((1 : Int)).toNat = 1 from rfl] at hw241_0)
           (try rw [show 1 * 1 = 1 from rfl] at hw241_0)
           (try simp only [Nat.reduceMul, Nat.reduceEqDiff, Go.Addr.add, ↓reduceIte] at hw241_0)
           obtain rfl : ad237 = ad241 := (by injection e241)
           (try simp only [show (1 : Int).toNat = 1 from rfl, Nat.reduceMul, Nat.reduceEqDiff, Go.Addr.add, ↓reduceIte] at hx241_0)
           have qi241 : (1 < (rd_L2 l1 x13_1).length) = True := eq_true (by omega)
           (try rw [show ((1 : Int)).toNat = 1 from rfl] at hx241_0)
           (try replace hx241_0 := (HB.out.cell (World.block_lt_of_cell? w _ hx241_0)).trans hx241_0)
           replace p241 := eq_true p241
           replace q241 := eq_true q241
           refine start_ (n := 25) (S := fun w' => w'.cell? ⟨gb235, 0, none⟩ = some (.int .i64 a0_0) ∧ w'.cell? ⟨gb235, 1, none⟩ = some (.int .i64 a0_1) ∧ w'.cell? ⟨gb235, 2, none⟩ = some (.slice A0_2 l0_2.length c0_2) ∧ w'.cell? ad237 = some (.int .i64 (rd (rd_L2 l1 x13_1) 0)) ∧ w'.cell? ⟨ad237.block, ad237.off + 1, none⟩ = some (.int .i64 (rd (rd_L2 l1 x13_1) 1)) ∧ w'.cell? ad237 = some (.int .i64 (rd (rd_L2 l1 x13_1) 0)) ∧ w'.cell? ⟨ad237.block, ad237.off + 1, none⟩ = some (.int .i64 (rd (rd_L2 l1 x13_1) 1))) (ds := []) (Fn.bl 25 0) (by kernel_rfl) rfl rfl ⟨(blk_cell BK235.out 0).trans rfl, (blk_cell BK235.out 1).trans rfl, (blk_cell BK235.out 2).trans rfl, (by first | exact ((HB.out.cell (World.block_lt_of_cell? w _ hw237_0)).trans hw237_0) | exact hw237_0 | (obtain ⟨z1_, z2_, z3_⟩ := Kd.at_int HR236_0.out 0 (by first | exact p237 | exact of_eq_true p237) (by first | exact q237 | exact of_eq_true q237); injection z2_ with z2_; subst z2_; first | exact z3_ | (simpa [Addr.add] using z3_))), (by first | exact ((HB.out.cell (World.block_lt_of_cell? w _ hw238_0)).trans hw238_0) | exact hw238_0 | (obtain ⟨z1_, z2_, z3_⟩ := Kd.at_int HR236_0.out 1 (by first | exact p238 | exact of_eq_true p238) (by first | exact q238 | exact of_eq_true q238); injection z2_ with z2_; subst z2_; first | exact z3_ | (simpa [Addr.add] using z3_))), (by first | exact ((HB.out.cell (World.block_lt_of_cell? w _ hw240_0)).trans hw240_0) | exact hw240_0 | (obtain ⟨z1_, z2_, z3_⟩ := Kd.at_int HR236_0.out 0 (by first | exact p240 | exact of_eq_true p240) (by first | exact q240 | exact of_eq_true q240); injection z2_ with z2_; subst z2_; first | exact z3_ | (simpa [Addr.add] using z3_))), (by first | exact ((HB.out.cell (World.block_lt_of_cell? w _ hw241_0)).trans hw241_0) | exact hw241_0 | (obtain ⟨z1_, z2_, z3_⟩ := Kd.at_int HR236_0.out 1 (by first | exact p241 | exact of_eq_true p241) (by first | exact q241 | exact of_eq_true q241); injection z2_ with z2_; subst z2_; first | exact z3_ | (simpa [Addr.add] using z3_)))⟩ (fun hHeld => ?_); refine with_tabW impl_Board_quiet.tab4 impl_Board_quiet.bits4 (fun HT_ HW_ => ?_)
           generalize wr.drew = w15 at BK235 HB hx237_0 hx238_0 hx240_0 hx241_0 hHeld ⊢
           refine pq_ 0 (some 18) (Fn.bl 25 1) HT_.out ?_
           refine pq_ 1 (some 19) (Fn.bl 25 3) HT_.out ?_
           refine pq_ 2 (some 20) (Fn.bl 25 7) HT_.out ?_
           refine pq_ 3 (some 21) (Fn.bl 25 15) HT_.out ?_
           refine pq_ 5 (some 23) (Fn.bl 25 47) HT_.out ?_
           refine pq_ 6 (some 24) (Fn.bl 25 111) HT_.out ?_
           refine pq_ 8 (some 26) (Fn.bl 25 367) HT_.out ?_
           refine pq_ 9 (some 27) (Fn.bl 25 879) HT_.out ?_
           refine tq_ 4 (some 22) (Fn.bl 25 895) HT_.out HW_.out hHeld ?_ (hy0 := by rintro w' ⟨s0, s1, s2, s3, s4, s5, s6⟩; go_simp; with_reducible rfl)
           refine tq_ 7 (some 25) (Fn.bl 25 1023) HT_.out HW_.out hHeld ?_ (hy0 := by rintro w' ⟨s0, s1, s2, s3, s4, s5, s6⟩; go_simp; with_reducible rfl)
           refine tq_ 10 (some 28) (Fn.bl 25 2047) HT_.out HW_.out hHeld ?_ (hy0 := by rintro w' ⟨s0, s1, s2, s3, s4, s5, s6⟩; go_simp; with_reducible rfl)
           refine one_ (i := 11) (N := some 29) (Fn.bl 25 4095) rfl rfl (one_of HT_.out (by kernel_rfl)) (by decide) (fun K hK => ?_)
           refine goes_ Try.func81 (by kernel_rfl) rfl #[.agg #[.int .i64 a0_0, .int .i64 a0_1, .slice A0_2 l0_2.length c0_2], .int .i64 (rd (rd_L2 l1 x13_1) 0), .int .i64 (rd (rd_L2 l1 x13_1) 1)] (by rfl) rfl rfl ta_ ?_
           with_reducible refine (impl_Board_place.calls a0_0 a0_1 _ _ l0_2 (rd (rd_L2 l1 x13_1) 0) (rd (rd_L2 l1 x13_1) 1) true _ ?side1 ?side2 A12.out).mono ?_
           (case side1 => exact tc_ HR0_2.out)
           (case side2 => exact HC0_2.out)
           rintro e w16 ⟨rfl, hb⟩
           refine ⟨_, rfl, ?_⟩
           have n0_ := A_ (blk_below (g := gb235) (o := .cells #[.int .i64 a0_0, .int .i64 a0_1, .slice A0_2 l0_2.length c0_2] 26 (0, 0)) (tk_ BK235) hb)
           have n1_ := A_ (below_step tb_ hb)
           clear BK235
           clear HB
           have BK235 := n0_
           have HB := n1_
           clear n0_ n1_
           (try clear hb)
           (try clear hb2)
           (try clear hk)
           (try clear hi)
           refine hK.out _ _ ⟨(blk_cell BK235.out 0).trans rfl, (blk_cell BK235.out 1).trans rfl, (blk_cell BK235.out 2).trans rfl, (by first | exact ((HB.out.cell (World.block_lt_of_cell? w _ hw237_0)).trans hw237_0) | exact hw237_0 | (obtain ⟨z1_, z2_, z3_⟩ := Kd.at_int HR236_0.out 0 (by first | exact p237 | exact of_eq_true p237) (by first | exact q237 | exact of_eq_true q237); injection z2_ with z2_; subst z2_; first | exact z3_ | (simpa [Addr.add] using z3_))), (by first | exact ((HB.out.cell (World.block_lt_of_cell? w _ hw238_0)).trans hw238_0) | exact hw238_0 | (obtain ⟨z1_, z2_, z3_⟩ := Kd.at_int HR236_0.out 1 (by first | exact p238 | exact of_eq_true p238) (by first | exact q238 | exact of_eq_true q238); injection z2_ with z2_; subst z2_; first | exact z3_ | (simpa [Addr.add] using z3_))), (by first | exact ((HB.out.cell (World.block_lt_of_cell? w _ hw240_0)).trans hw240_0) | exact hw240_0 | (obtain ⟨z1_, z2_, z3_⟩ := Kd.at_int HR236_0.out 0 (by first | exact p240 | exact of_eq_true p240) (by first | exact q240 | exact of_eq_true q240); injection z2_ with z2_; subst z2_; first | exact z3_ | (simpa [Addr.add] using z3_))), (by first | exact ((HB.out.cell (World.block_lt_of_cell? w _ hw241_0)).trans hw241_0) | exact hw241_0 | (obtain ⟨z1_, z2_, z3_⟩ := Kd.at_int HR236_0.out 1 (by first | exact p241 | exact of_eq_true p241) (by first | exact q241 | exact of_eq_true q241); injection z2_ with z2_; subst z2_; first | exact z3_ | (simpa [Addr.add] using z3_)))⟩ (fun hHeld => ?_)
           clear hK K
           refine norm_ (a' := ?_) ?_ ?_
           rotate_left
           ·
            show Act.put _ (some 29) _ = _
            simp only [Act.put, List.setIfInBounds_toArray, List.set_cons_zero, List.set_cons_succ, i64_w, i32_w]
            rfl
           refine pq_ 12 (some 30) (Fn.bl 25 8191) HT_.out ?_
           refine pq_ 13 (some 31) (Fn.bl 25 16383) HT_.out ?_
           refine pq_ 14 (some 32) (Fn.bl 25 32767) HT_.out ?_
           refine pq_ 16 (some 34) (Fn.bl 25 98303) HT_.out ?_
           refine pq_ 17 (some 35) (Fn.bl 25 229375) HT_.out ?_
           refine pq_ 19 (some 37) (Fn.bl 25 753663) HT_.out ?_
           refine pq_ 20 (some 38) (Fn.bl 25 1802239) HT_.out ?_
           refine tq_ 15 (some 33) (Fn.bl 25 1835007) HT_.out HW_.out hHeld ?_ (hy0 := by rintro w' ⟨s0, s1, s2, s3, s4, s5, s6⟩; go_simp; with_reducible rfl)
           refine tq_ 18 (some 36) (Fn.bl 25 2097151) HT_.out HW_.out hHeld ?_ (hy0 := by rintro w' ⟨s0, s1, s2, s3, s4, s5, s6⟩; go_simp; with_reducible rfl)
           refine tq_ 21 (some 39) (Fn.bl 25 4194303) HT_.out HW_.out hHeld ?_ (hy0 := by rintro w' ⟨s0, s1, s2, s3, s4, s5, s6⟩; go_simp; with_reducible rfl)
           refine one_ (i := 22) (N := some 40) (Fn.bl 25 8388607) rfl rfl (one_of HT_.out (by kernel_rfl)) (by decide) (fun K hK => ?_)
           refine goes_ Try.func119 (by kernel_rfl) rfl #[.agg #[.int .i64 a0_0, .int .i64 a0_1, .slice A0_2 l0_2.length c0_2], .int .i64 (rd (rd_L2 l1 x13_1) 0), .int .i64 (rd (rd_L2 l1 x13_1) 1)] (by rfl) rfl rfl ta_ ?_
           with_reducible refine (impl_Board_has.calls a0_0 a0_1 _ _ l0_2 (rd (rd_L2 l1 x13_1) 0) (rd (rd_L2 l1 x13_1) 1) t242 _ ?side1 ?side2 A14.out).mono ?_
           (case side1 => exact tc_ HR0_2.out)
           (case side2 => exact HC0_2.out)
           rintro e w17 ⟨rfl, hb⟩
           refine ⟨_, rfl, ?_⟩
           have n0_ := A_ (blk_below (g := gb235) (o := .cells #[.int .i64 a0_0, .int .i64 a0_1, .slice A0_2 l0_2.length c0_2] 26 (0, 0)) (tk_ BK235) hb)
           have n1_ := A_ (below_step tb_ hb)
           clear BK235
           clear HB
           have BK235 := n0_
           have HB := n1_
           clear n0_ n1_
           (try clear hb)
           (try clear hb2)
           (try clear hk)
           (try clear hi)
           refine hK.out _ _ ⟨(blk_cell BK235.out 0).trans rfl, (blk_cell BK235.out 1).trans rfl, (blk_cell BK235.out 2).trans rfl, (by first | exact ((HB.out.cell (World.block_lt_of_cell? w _ hw237_0)).trans hw237_0) | exact hw237_0 | (obtain ⟨z1_, z2_, z3_⟩ := Kd.at_int HR236_0.out 0 (by first | exact p237 | exact of_eq_true p237) (by first | exact q237 | exact of_eq_true q237); injection z2_ with z2_; subst z2_; first | exact z3_ | (simpa [Addr.add] using z3_))), (by first | exact ((HB.out.cell (World.block_lt_of_cell? w _ hw238_0)).trans hw238_0) | exact hw238_0 | (obtain ⟨z1_, z2_, z3_⟩ := Kd.at_int HR236_0.out 1 (by first | exact p238 | exact of_eq_true p238) (by first | exact q238 | exact of_eq_true q238); injection z2_ with z2_; subst z2_; first | exact z3_ | (simpa [Addr.add] using z3_))), (by first | exact ((HB.out.cell (World.block_lt_of_cell? w _ hw240_0)).trans hw240_0) | exact hw240_0 | (obtain ⟨z1_, z2_, z3_⟩ := Kd.at_int HR236_0.out 0 (by first | exact p240 | exact of_eq_true p240) (by first | exact q240 | exact of_eq_true q240); injection z2_ with z2_; subst z2_; first | exact z3_ | (simpa [Addr.add] using z3_))), (by first | exact ((HB.out.cell (World.block_lt_of_cell? w _ hw241_0)).trans hw241_0) | exact hw241_0 | (obtain ⟨z1_, z2_, z3_⟩ := Kd.at_int HR236_0.out 1 (by first | exact p241 | exact of_eq_true p241) (by first | exact q241 | exact of_eq_true q241); injection z2_ with z2_; subst z2_; first | exact z3_ | (simpa [Addr.add] using z3_)))⟩ (fun hHeld => ?_)
           clear hK K
           refine norm_ (a' := ?_) ?_ ?_
           rotate_left
           ·
            show Act.put _ (some 40) _ = _
            simp only [Act.put, List.setIfInBounds_toArray, List.set_cons_zero, List.set_cons_succ, i64_w, i32_w]
            rfl
           refine pq_ 23 (some 41) (Fn.bl 25 16777215) HT_.out ?_
           refine pq_ 24 (some 42) (Fn.bl 25 33554431) HT_.out ?_
           refine done_ (done_of HT_.out (by kernel_rfl)) ?_
           try go_wp2
           go_meet
           case rel => exact ⟨_, (!t242), tf_, H', ⟨by have := HK1.out; first | omega | exact Nat.le_refl _⟩, ⟨tk_ BK235⟩, ⟨tb_⟩⟩
          ·
           replace c13 := Bool.eq_false_iff.mpr c13
           subst c13
           have H1 : (impl_Board_quiet.j1 k1 l1 a2 x13_1 (rd_L2 l1 x13_1) l1 (l1.length : Int) x13_1 true a0_0 a0_1 l0_2) = some r := by rw [if_neg (show ¬ (false = true) by decide)] at H; exact H
           clear H
           have H := H1
           clear H1
           have H' := A_ H
           clear H
           try go_wp2
           have n0_ := A_ (blk_drew BK235.out)
           have n1_ := A_ (below_drew1 HB.out)
           clear BK235
           clear HB
           have BK235 := n0_
           have HB := n1_
           clear n0_ n1_
           have p237 : 0 ≤ (0 : Int) := (by omega)
           have q237 : 0 < ((rd_L2 l1 x13_1).length : Int) := od_
           obtain ⟨ad237, e237, hx237_0⟩ := Kd.at_int HR236_0.out 0 p237 q237
           have hw237_0 := hx237_0
           (try rw [show ((0 : Int)).toNat = 0 from rfl] at hw237_0)
           (try rw [show 0 * 1 = 0 from rfl] at hw237_0)
           (try rw [Addr.add_zero'] at hw237_0)
           cases e237
           have qi237 : (0 < (rd_L2 l1 x13_1).length) = True := eq_true (by omega)
           (try rw [show ((0 : Int)).toNat = 0 from rfl] at hx237_0)
           (try rw [Addr.add_zero'] at hx237_0)
           (try replace hx237_0 := (HB.out.cell (World.block_lt_of_cell? w _ hx237_0)).trans hx237_0)
           replace p237 := eq_true p237
           replace q237 := eq_true q237
           have p238 : 0 ≤ (1 : Int) := (by omega)
           have q238 : 1 < ((rd_L2 l1 x13_1).length : Int) := od_
           obtain ⟨ad238, e238, hx238_0⟩ := Kd.at_int HR236_0.out 1 p238 q238
           have hw238_0 := hx238_0
           (try rw [show ((1 : Int)).toNat = 1 from rfl] at hw238_0)
           (try rw [show 1 * 1 = 1 from rfl] at hw238_0)
           (try simp only [Nat.reduceMul, Nat.reduceEqDiff, Go.Addr.add, ↓reduceIte] at hw238_0)
           obtain rfl : ad237 = ad238 := (by injection e238)
           (try simp only [show (1 : Int).toNat = 1 from rfl, Nat.reduceMul, Nat.reduceEqDiff, Go.Addr.add, ↓reduceIte] at hx238_0)
           have qi238 : (1 < (rd_L2 l1 x13_1).length) = True := eq_true (by omega)
           (try rw [show ((1 : Int)).toNat = 1 from rfl] at hx238_0)
           (try replace hx238_0 := (HB.out.cell (World.block_lt_of_cell? w _ hx238_0)).trans hx238_0)
           replace p238 := eq_true p238
           replace q238 := eq_true q238
           refine start_ (n := 25) (S := fun w' => w'.cell? ⟨gb235, 0, none⟩ = some (.int .i64 a0_0) ∧ w'.cell? ⟨gb235, 1, none⟩ = some (.int .i64 a0_1) ∧ w'.cell? ⟨gb235, 2, none⟩ = some (.slice A0_2 l0_2.length c0_2) ∧ w'.cell? ad237 = some (.int .i64 (rd (rd_L2 l1 x13_1) 0)) ∧ w'.cell? ⟨ad237.block, ad237.off + 1, none⟩ = some (.int .i64 (rd (rd_L2 l1 x13_1) 1))) (ds := []) (Fn.bl 25 0) (by kernel_rfl) rfl rfl ⟨(blk_cell BK235.out 0).trans rfl, (blk_cell BK235.out 1).trans rfl, (blk_cell BK235.out 2).trans rfl, (by first | exact ((HB.out.cell (World.block_lt_of_cell? w _ hw237_0)).trans hw237_0) | exact hw237_0 | (obtain ⟨z1_, z2_, z3_⟩ := Kd.at_int HR236_0.out 0 (by first | exact p237 | exact of_eq_true p237) (by first | exact q237 | exact of_eq_true q237); injection z2_ with z2_; subst z2_; first | exact z3_ | (simpa [Addr.add] using z3_))), (by first | exact ((HB.out.cell (World.block_lt_of_cell? w _ hw238_0)).trans hw238_0) | exact hw238_0 | (obtain ⟨z1_, z2_, z3_⟩ := Kd.at_int HR236_0.out 1 (by first | exact p238 | exact of_eq_true p238) (by first | exact q238 | exact of_eq_true q238); injection z2_ with z2_; subst z2_; first | exact z3_ | (simpa [Addr.add] using z3_)))⟩ (fun hHeld => ?_); refine with_tabW impl_Board_quiet.tab4 impl_Board_quiet.bits4 (fun HT_ HW_ => ?_)
           generalize wr.drew = w18 at BK235 HB hx237_0 hx238_0 hHeld ⊢
           refine pq_ 0 (some 18) (Fn.bl 25 1) HT_.out ?_
           refine pq_ 1 (some 19) (Fn.bl 25 3) HT_.out ?_
           refine pq_ 2 (some 20) (Fn.bl 25 7) HT_.out ?_
           refine pq_ 3 (some 21) (Fn.bl 25 15) HT_.out ?_
           refine pq_ 5 (some 23) (Fn.bl 25 47) HT_.out ?_
           refine pq_ 6 (some 24) (Fn.bl 25 111) HT_.out ?_
           refine pq_ 8 (some 26) (Fn.bl 25 367) HT_.out ?_
           refine pq_ 9 (some 27) (Fn.bl 25 879) HT_.out ?_
           refine tq_ 4 (some 22) (Fn.bl 25 895) HT_.out HW_.out hHeld ?_ (hy0 := by rintro w' ⟨s0, s1, s2, s3, s4⟩; go_simp; with_reducible rfl)
           refine tq_ 7 (some 25) (Fn.bl 25 1023) HT_.out HW_.out hHeld ?_ (hy0 := by rintro w' ⟨s0, s1, s2, s3, s4⟩; go_simp; with_reducible rfl)
           refine tq_ 10 (some 28) (Fn.bl 25 2047) HT_.out HW_.out hHeld ?_ (hy0 := by rintro w' ⟨s0, s1, s2, s3, s4⟩; go_simp; with_reducible rfl)
           refine one_ (i := 11) (N := some 29) (Fn.bl 25 4095) rfl rfl (one_of HT_.out (by kernel_rfl)) (by decide) (fun K hK => ?_)
           refine goes_ Try.func81 (by kernel_rfl) rfl #[.agg #[.int .i64 a0_0, .int .i64 a0_1, .slice A0_2 l0_2.length c0_2], .int .i64 (rd (rd_L2 l1 x13_1) 0), .int .i64 (rd (rd_L2 l1 x13_1) 1)] (by rfl) rfl rfl ta_ ?_
           with_reducible refine (impl_Board_place.calls a0_0 a0_1 _ _ l0_2 (rd (rd_L2 l1 x13_1) 0) (rd (rd_L2 l1 x13_1) 1) false _ ?side1 ?side2 A12.out).mono ?_
           (case side1 => exact tc_ HR0_2.out)
           (case side2 => exact HC0_2.out)
           rintro e w19 ⟨rfl, hb⟩
           refine ⟨_, rfl, ?_⟩
           have n0_ := A_ (blk_below (g := gb235) (o := .cells #[.int .i64 a0_0, .int .i64 a0_1, .slice A0_2 l0_2.length c0_2] 26 (0, 0)) (tk_ BK235) hb)
           have n1_ := A_ (below_step tb_ hb)
           clear BK235
           clear HB
           have BK235 := n0_
           have HB := n1_
           clear n0_ n1_
           (try clear hb)
           (try clear hb2)
           (try clear hk)
           (try clear hi)
           refine hK.out _ _ ⟨(blk_cell BK235.out 0).trans rfl, (blk_cell BK235.out 1).trans rfl, (blk_cell BK235.out 2).trans rfl, (by first | exact ((HB.out.cell (World.block_lt_of_cell? w _ hw237_0)).trans hw237_0) | exact hw237_0 | (obtain ⟨z1_, z2_, z3_⟩ := Kd.at_int HR236_0.out 0 (by first | exact p237 | exact of_eq_true p237) (by first | exact q237 | exact of_eq_true q237); injection z2_ with z2_; subst z2_; first | exact z3_ | (simpa [Addr.add] using z3_))), (by first | exact ((HB.out.cell (World.block_lt_of_cell? w _ hw238_0)).trans hw238_0) | exact hw238_0 | (obtain ⟨z1_, z2_, z3_⟩ := Kd.at_int HR236_0.out 1 (by first | exact p238 | exact of_eq_true p238) (by first | exact q238 | exact of_eq_true q238); injection z2_ with z2_; subst z2_; first | exact z3_ | (simpa [Addr.add] using z3_)))⟩ (fun hHeld => ?_)
           clear hK K
           refine norm_ (a' := ?_) ?_ ?_
           rotate_left
           ·
            show Act.put _ (some 29) _ = _
            simp only [Act.put, List.setIfInBounds_toArray, List.set_cons_zero, List.set_cons_succ, i64_w, i32_w]
            rfl
           refine pq_ 12 (some 30) (Fn.bl 25 8191) HT_.out ?_
           refine pq_ 13 (some 31) (Fn.bl 25 16383) HT_.out ?_
           refine pq_ 14 (some 32) (Fn.bl 25 32767) HT_.out ?_
           refine pu_ 15 (some 33) (Fn.bl 25 65535) HT_.out ?_
           refine pu_ 16 (some 34) (Fn.bl 25 131071) HT_.out ?_
           refine pu_ 17 (some 35) (Fn.bl 25 262143) HT_.out ?_
           refine pu_ 18 (some 36) (Fn.bl 25 524287) HT_.out ?_
           refine pu_ 19 (some 37) (Fn.bl 25 1048575) HT_.out ?_
           refine pu_ 20 (some 38) (Fn.bl 25 2097151) HT_.out ?_
           refine pu_ 21 (some 39) (Fn.bl 25 4194303) HT_.out ?_
           refine pu_ 22 (some 40) (Fn.bl 25 8388607) HT_.out ?_
           refine pu_ 23 (some 41) (Fn.bl 25 16777215) HT_.out ?_
           refine pq_ 24 (some 42) (Fn.bl 25 33554431) HT_.out ?_
           refine done_ (done_of HT_.out (by kernel_rfl)) ?_
           try go_wp2
           go_meet
           case rel => exact ⟨_, (true), tf_, H', ⟨by have := HK1.out; first | omega | exact Nat.le_refl _⟩, ⟨tk_ BK235⟩, ⟨tb_⟩⟩
         ·
          rw [if_neg c11] at H
          exact absurd H (by simp)
        ·
         rw [if_neg c10] at H
         exact absurd H (by simp)
       ·
        rw [if_neg c9] at H
        have c9b0 : (((rd_L2 l1 x13_1).length : Int) == 2) = false := beq_eq_false_iff_ne.mpr c9
        have c9b1 : (((rd_L2 l1 x13_1).length : Int) != 2) = true := bne_iff_ne.mpr c9
        (first | rw [c9b0] | rw [c9b1] | (simp only [i64_w, i32_w]; rw [c9b0]) | skip)
        have H' := A_ H
        clear H
        try go_wp2
        have n0_ := A_ (blk_drew BK235.out)
        have n1_ := A_ (below_drew1 HB.out)
        clear BK235
        clear HB
        have BK235 := n0_
        have HB := n1_
        clear n0_ n1_
        refine start_ (n := 25) (S := fun w' => True) (ds := []) (Fn.bl 25 0) (by kernel_rfl) rfl rfl trivial (fun hHeld => ?_); refine with_tabW impl_Board_quiet.tab4 impl_Board_quiet.bits4 (fun HT_ HW_ => ?_)
        generalize wr.drew = w20 at BK235 HB hHeld ⊢
        refine pq_ 0 (some 18) (Fn.bl 25 1) HT_.out ?_
        refine pq_ 1 (some 19) (Fn.bl 25 3) HT_.out ?_
        refine pq_ 2 (some 20) (Fn.bl 25 7) HT_.out ?_
        refine pq_ 3 (some 21) (Fn.bl 25 15) HT_.out ?_
        refine pu_ 4 (some 22) (Fn.bl 25 31) HT_.out ?_
        refine pu_ 5 (some 23) (Fn.bl 25 63) HT_.out ?_
        refine pu_ 6 (some 24) (Fn.bl 25 127) HT_.out ?_
        refine pu_ 7 (some 25) (Fn.bl 25 255) HT_.out ?_
        refine pu_ 8 (some 26) (Fn.bl 25 511) HT_.out ?_
        refine pu_ 9 (some 27) (Fn.bl 25 1023) HT_.out ?_
        refine pu_ 10 (some 28) (Fn.bl 25 2047) HT_.out ?_
        refine pu_ 11 (some 29) (Fn.bl 25 4095) HT_.out ?_
        refine pu_ 12 (some 30) (Fn.bl 25 8191) HT_.out ?_
        refine pq_ 13 (some 31) (Fn.bl 25 16383) HT_.out ?_
        refine pq_ 14 (some 32) (Fn.bl 25 32767) HT_.out ?_
        refine pu_ 15 (some 33) (Fn.bl 25 65535) HT_.out ?_
        refine pu_ 16 (some 34) (Fn.bl 25 131071) HT_.out ?_
        refine pu_ 17 (some 35) (Fn.bl 25 262143) HT_.out ?_
        refine pu_ 18 (some 36) (Fn.bl 25 524287) HT_.out ?_
        refine pu_ 19 (some 37) (Fn.bl 25 1048575) HT_.out ?_
        refine pu_ 20 (some 38) (Fn.bl 25 2097151) HT_.out ?_
        refine pu_ 21 (some 39) (Fn.bl 25 4194303) HT_.out ?_
        refine pu_ 22 (some 40) (Fn.bl 25 8388607) HT_.out ?_
        refine pu_ 23 (some 41) (Fn.bl 25 16777215) HT_.out ?_
        refine pq_ 24 (some 42) (Fn.bl 25 33554431) HT_.out ?_
        refine done_ (done_of HT_.out (by kernel_rfl)) ?_
        try go_wp2
        go_meet
        case rel => exact ⟨_, (true), tf_, H', ⟨by have := HK1.out; first | omega | exact Nat.le_refl _⟩, ⟨tk_ BK235⟩, ⟨tb_⟩⟩
      case rest =>
       clear HC8
       try clear c1
       try clear p2
       try clear q2
       try clear hx2
       try clear qi2
       try clear c8
       try clear c9
       try clear c9b0
       try clear c9b1
       try clear c10
       try clear c11
       try clear c13
       try clear hx237_0
       try clear hx238_0
       try clear p237
       try clear p238
       try clear q237
       try clear q238
       obtain ⟨kq, x42_7, rfl, HA, HJ7, BK235, HB⟩ := hcut
       cases kq with
       | zero => exact absurd HA.out (by simp [impl_Board_quiet.j1])
       | succ kj7 =>
        have H := HA.out
        clear HA
        simp only [impl_Board_quiet.j1] at H
        by_cases c21 : x42_7 = true
        ·
         subst c21
         have H1 : (some false) = some r := by rw [if_pos rfl] at H; exact H
         clear H
         have H := H1
         clear H1
         obtain rfl := Option.some.inj H
         go_wp2
         go_ret
         exact ⟨te_, tb_⟩
        ·
         replace c21 := Bool.eq_false_iff.mpr c21
         subst c21
         have H1 : (if 0 ≤ x13_1 then (if x13_1 ≤ (l1.length : Int) then ((some (l1.take (x13_1 : Int).toNat : List (List Int))).bind fun y243 => (impl_Board_quiet.l1 kj7 l1 a2 (rd_L2 l1 x13_1) l1 (l1.length : Int) x13_1 y243 (y243.length : Int) 0 a0_0 a0_1 l0_2)) else (none)) else (none)) = some r := by rw [if_neg (show ¬ (false = true) by decide)] at H; exact H
         clear H
         have H := H1
         clear H1
         by_cases c22 : 0 ≤ x13_1
         ·
          rw [if_pos c22] at H
          have c22b0 := eq_true c22
          have c22b1 := decide_eq_true c22
          clear c22
          by_cases c23 : x13_1 ≤ (l1.length : Int)
          ·
           rw [if_pos c23] at H
           have c23b0 := eq_true c23
           have c23b1 := decide_eq_true c23
           clear c23
           obtain ⟨y243, hy243⟩ : ∃ y_ : List (List Int), y_ = (l1.take (x13_1 : Int).toNat) := ⟨_, rfl⟩
           replace H : (impl_Board_quiet.l1 kj7 l1 a2 (rd_L2 l1 x13_1) l1 (l1.length : Int) x13_1 y243 (y243.length : Int) 0 a0_0 a0_1 l0_2) = some r := ty_ hy243 H
           have Ny243 := A_ hy243
           clear hy243
           have H' := A_ H
           clear H
           have q24 : (x13_1 : Int) ≤ ((l1.length : Int) : Int) := od_
           obtain ⟨i024, hi024, _, hsz24, _⟩ := info_parts info24
           have hroom24 : l1.length ≤ c1 := HC1.out
           have hC24 : Kd.C (Kd.slice 3 (Kd.int .i64)) _ (some ad236) l1.length l1 := HR1.out
           have hcut24 := cut_to (P := Try.prog) 27 24 .i64 Try.underlying27 hi024 (some ad236) l1.length c1 x13_1 (od_) q24 hroom24
           have hr24 := Kd.C_take (m := (x13_1 : Int).toNat) hC24 (by omega)
           have hy24 : y243.length = (x13_1 : Int).toNat := (by rw [Ny243.out, List.length_take]; omega)
           rw [← Ny243.out] at hr24
           rw [← hy24] at hcut24
           have HR246 := A_ hr24
           have HC246 := A_ (show y243.length ≤ c1 from by omega)
           clear hr24 hC24 hroom24 hi024 hsz24
           have KY24 := A_ hy24
           clear hy24
           replace q24 := eq_true q24
           go_wp2
           go_loopg [47] kj7 (fun kq v47 w' => ∃ (x47_3 : Int), v47 = .int .i64 x47_3 ∧ Aside0 (impl_Board_quiet.l1 kq l1 a2 (rd_L2 l1 x13_1) l1 (l1.length : Int) x13_1 y243 (y243.length : Int) x47_3 a0_0 a0_1 l0_2 = some r) ∧ Aside0 (kq ≤ kj7) ∧ Aside0 (w'.heap[gb235]? = some (.cells #[.int .i64 a0_0, .int .i64 a0_1, (.slice A0_2 l0_2.length c0_2)] 26 (0, 0))) ∧ Aside0 (Below w.heap.size w w'))
           case atStart => exact ⟨(0), tf_, H', ⟨Nat.le_refl _⟩, ⟨tk_ BK235⟩, ⟨tb_⟩⟩
           case round =>
            clear H'
            try clear c1
            try clear c2
            try clear p2
            try clear q2
            try clear hx2
            try clear qi2
            try clear c8
            try clear c9
            try clear c9b0
            try clear c9b1
            try clear c10
            try clear c11
            try clear c13
            try clear c21
            try clear c22
            try clear c22b0
            try clear c22b1
            try clear c23
            try clear c23b0
            try clear c23b1
            try clear p23
            try clear q23
            try clear hx23
            try clear qi23
            try clear q24
            try clear hx237_0
            try clear hx238_0
            try clear p2
            try clear p237
            try clear p238
            try clear q2
            try clear q237
            try clear q238
            try clear q24
            obtain ⟨x47_3, rfl, HA, HK3, BK235, HB⟩ := hrel
            cases gk with
            | zero => exact absurd HA.out (by simp [impl_Board_quiet.l1])
            | succ k3 =>
             have H := HA.out
             clear HA
             simp only [impl_Board_quiet.l1] at H
             by_cases c25 : x47_3 < (y243.length : Int)
             ·
              rw [if_pos c25] at H
              have c25b0 := decide_eq_true c25
              clear c25
              by_cases c26 : 0 ≤ x47_3
              ·
               rw [if_pos c26] at H
               have c26b0 := decide_eq_true c26
               clear c26
               by_cases c27 : x47_3 < (y243.length : Int)
               ·
                rw [if_pos c27] at H
                have c27b0 := decide_eq_true c27
                clear c27
                replace H := Option.bind_eq_some_iff.mp H
                obtain ⟨t248, A280, H⟩ := H
                replace H : (if t248 = true then (some false) else ((FnCall57.f (rd_L2 l1 x13_1) (rd_L2 y243 x47_3) a2).bind fun t249 => (if t249 = true then (impl_Board_quiet.l1 k3 l1 a2 (rd_L2 l1 x13_1) l1 (l1.length : Int) x13_1 y243 (y243.length : Int) (wrap64 (x47_3 + 1)) a0_0 a0_1 l0_2) else (some false)))) = some r := H
                have A28 := A_ A280
                clear A280
                by_cases c29 : t248 = true
                ·
                 subst c29
                 have H1 : (some false) = some r := by rw [if_pos rfl] at H; exact H
                 clear H
                 have H := H1
                 clear H1
                 obtain rfl := Option.some.inj H
                 have p247 : 0 ≤ (x47_3 : Int) := od_
                 have q247 : x47_3 < (y243.length : Int) := od_
                 obtain ⟨ad247, A247_0, c247_0, e247, hx247_0, hl247_0, hi247_0⟩ := at_L2 HR246.out x47_3 p247 q247
                 obtain rfl : ad236 = ad247 := (by injection e247)
                 (try replace hx247_0 := (HB.out.cell (World.block_lt_of_cell? w _ hx247_0)).trans hx247_0)
                 have HR247_0 := A_ hi247_0
                 have HC247_0 := A_ hl247_0
                 clear hi247_0 hl247_0
                 replace p247 := eq_true p247
                 replace q247 := eq_true q247
                 go_wp2_with (first | (refine gc_ 148 ?_; refine goesT_ (some 53) Try.func148 #[.slice A236_0 (rd_L2 l1 x13_1).length c236_0, .slice A247_0 (rd_L2 y243 x47_3).length c247_0] ?_; (with_reducible refine (slices_Equal_int_int.calls k3 _ _ (rd_L2 l1 x13_1) _ _ (rd_L2 y243 x47_3) true _ ?side1 ?side2 ?side3 ?side4 A28.out).mono ?_); (case side1 => exact tc_ HR236_0.out); (case side2 => exact HC236_0.out); (case side3 => exact tc_ HR247_0.out); (case side4 => exact HC247_0.out); rintro e w' ⟨rfl, ⟨nd, rfl⟩⟩; refine ⟨_, rfl, ?_⟩))
                 go_ret
                 exact ⟨te_, tb_⟩
                ·
                 replace c29 := Bool.eq_false_iff.mpr c29
                 subst c29
                 have H1 : ((FnCall57.f (rd_L2 l1 x13_1) (rd_L2 y243 x47_3) a2).bind fun t249 => (if t249 = true then (impl_Board_quiet.l1 k3 l1 a2 (rd_L2 l1 x13_1) l1 (l1.length : Int) x13_1 y243 (y243.length : Int) (wrap64 (x47_3 + 1)) a0_0 a0_1 l0_2) else (some false))) = some r := by rw [if_neg (show ¬ (false = true) by decide)] at H; exact H
                 clear H
                 have H := H1
                 clear H1
                 replace H := Option.bind_eq_some_iff.mp H
                 obtain ⟨t249, A300, H⟩ := H
                 replace H : (if t249 = true then (impl_Board_quiet.l1 k3 l1 a2 (rd_L2 l1 x13_1) l1 (l1.length : Int) x13_1 y243 (y243.length : Int) (wrap64 (x47_3 + 1)) a0_0 a0_1 l0_2) else (some false)) = some r := H
                 have A30 := A_ A300
                 clear A300
                 by_cases c31 : t249 = true
                 ·
                  subst c31
                  have H1 : (impl_Board_quiet.l1 k3 l1 a2 (rd_L2 l1 x13_1) l1 (l1.length : Int) x13_1 y243 (y243.length : Int) (wrap64 (x47_3 + 1)) a0_0 a0_1 l0_2) = some r := by rw [if_pos rfl] at H; exact H
                  clear H
                  have H := H1
                  clear H1
                  have H' := A_ H
                  clear H
                  have p247 : 0 ≤ (x47_3 : Int) := od_
                  have q247 : x47_3 < (y243.length : Int) := od_
                  obtain ⟨ad247, A247_0, c247_0, e247, hx247_0, hl247_0, hi247_0⟩ := at_L2 HR246.out x47_3 p247 q247
                  obtain rfl : ad236 = ad247 := (by injection e247)
                  (try replace hx247_0 := (HB.out.cell (World.block_lt_of_cell? w _ hx247_0)).trans hx247_0)
                  have HR247_0 := A_ hi247_0
                  have HC247_0 := A_ hl247_0
                  clear hi247_0 hl247_0
                  replace p247 := eq_true p247
                  replace q247 := eq_true q247
                  go_wp2_with (first | (refine gc_ 148 ?_; refine goesT_ (some 53) Try.func148 #[.slice A236_0 (rd_L2 l1 x13_1).length c236_0, .slice A247_0 (rd_L2 y243 x47_3).length c247_0] ?_; (with_reducible refine (slices_Equal_int_int.calls k3 _ _ (rd_L2 l1 x13_1) _ _ (rd_L2 y243 x47_3) false _ ?side1 ?side2 ?side3 ?side4 A28.out).mono ?_); (case side1 => exact tc_ HR236_0.out); (case side2 => exact HC236_0.out); (case side3 => exact tc_ HR247_0.out); (case side4 => exact HC247_0.out); rintro e w' ⟨rfl, ⟨nd, rfl⟩⟩; refine ⟨_, rfl, ?_⟩) | ((with_reducible refine Fn.gate_value rfl ?_); refine Fn.goesVw_ (some 58) rfl (by first | rfl | (simp [Region.wanted, yielded]; done)) v2 rfl #[.slice A236_0 (rd_L2 l1 x13_1).length c236_0, .slice A247_0 (rd_L2 y243 x47_3).length c247_0] rfl ta_ ?_; (with_reducible refine (FnCall57.calls _ _ (rd_L2 l1 x13_1) _ _ (rd_L2 y243 x47_3) v2 a2 true _ ?side1 ?side2 ?side3 ?side4 ?side5 A30.out).mono ?_); (case side1 => repeat (first | exact (Kd.C_below HR236_0.out tb_) | (with_reducible refine Kd.C_alloc ?_ _) | (with_reducible refine Kd.C_drewN ?_ _) | (with_reducible refine Kd.C_drew ?_))); (case side2 => exact HC236_0.out); (case side3 => repeat (first | exact (Kd.C_below HR247_0.out tb_) | (with_reducible refine Kd.C_alloc ?_ _) | (with_reducible refine Kd.C_drewN ?_ _) | (with_reducible refine Kd.C_drew ?_))); (case side4 => exact HC247_0.out); (case side5 => exact FnOk57.mono HF2.out tb_); rintro e w32 ⟨rfl, hb⟩; refine ⟨_, rfl, ?_⟩; replace BK235 := A_ (blk_below (g := gb235) (o := .cells #[.int .i64 a0_0, .int .i64 a0_1, .slice A0_2 l0_2.length c0_2] 26 (0, 0)) (tk_ BK235) hb); replace HB := A_ (below_step tb_ hb); (try clear hb)))
                  go_roundg k3
                  case measure => have := HK1.out; have := HJ7.out; have := HK3.out; omega
                  case rel => exact ⟨(wrap64 (x47_3 + 1)), tf_, H', ⟨by have := HK1.out; have := HJ7.out; have := HK3.out; omega⟩, ⟨tk_ BK235⟩, ⟨tb_⟩⟩
                 ·
                  replace c31 := Bool.eq_false_iff.mpr c31
                  subst c31
                  have H1 : (some false) = some r := by rw [if_neg (show ¬ (false = true) by decide)] at H; exact H
                  clear H
                  have H := H1
                  clear H1
                  obtain rfl := Option.some.inj H
                  have p247 : 0 ≤ (x47_3 : Int) := od_
                  have q247 : x47_3 < (y243.length : Int) := od_
                  obtain ⟨ad247, A247_0, c247_0, e247, hx247_0, hl247_0, hi247_0⟩ := at_L2 HR246.out x47_3 p247 q247
                  obtain rfl : ad236 = ad247 := (by injection e247)
                  (try replace hx247_0 := (HB.out.cell (World.block_lt_of_cell? w _ hx247_0)).trans hx247_0)
                  have HR247_0 := A_ hi247_0
                  have HC247_0 := A_ hl247_0
                  clear hi247_0 hl247_0
                  replace p247 := eq_true p247
                  replace q247 := eq_true q247
                  go_wp2_with (first | (refine gc_ 148 ?_; refine goesT_ (some 53) Try.func148 #[.slice A236_0 (rd_L2 l1 x13_1).length c236_0, .slice A247_0 (rd_L2 y243 x47_3).length c247_0] ?_; (with_reducible refine (slices_Equal_int_int.calls k3 _ _ (rd_L2 l1 x13_1) _ _ (rd_L2 y243 x47_3) false _ ?side1 ?side2 ?side3 ?side4 A28.out).mono ?_); (case side1 => exact tc_ HR236_0.out); (case side2 => exact HC236_0.out); (case side3 => exact tc_ HR247_0.out); (case side4 => exact HC247_0.out); rintro e w' ⟨rfl, ⟨nd, rfl⟩⟩; refine ⟨_, rfl, ?_⟩) | ((with_reducible refine Fn.gate_value rfl ?_); refine Fn.goesVw_ (some 58) rfl (by first | rfl | (simp [Region.wanted, yielded]; done)) v2 rfl #[.slice A236_0 (rd_L2 l1 x13_1).length c236_0, .slice A247_0 (rd_L2 y243 x47_3).length c247_0] rfl ta_ ?_; (with_reducible refine (FnCall57.calls _ _ (rd_L2 l1 x13_1) _ _ (rd_L2 y243 x47_3) v2 a2 false _ ?side1 ?side2 ?side3 ?side4 ?side5 A30.out).mono ?_); (case side1 => repeat (first | exact (Kd.C_below HR236_0.out tb_) | (with_reducible refine Kd.C_alloc ?_ _) | (with_reducible refine Kd.C_drewN ?_ _) | (with_reducible refine Kd.C_drew ?_))); (case side2 => exact HC236_0.out); (case side3 => repeat (first | exact (Kd.C_below HR247_0.out tb_) | (with_reducible refine Kd.C_alloc ?_ _) | (with_reducible refine Kd.C_drewN ?_ _) | (with_reducible refine Kd.C_drew ?_))); (case side4 => exact HC247_0.out); (case side5 => exact FnOk57.mono HF2.out tb_); rintro e w33 ⟨rfl, hb⟩; refine ⟨_, rfl, ?_⟩; replace BK235 := A_ (blk_below (g := gb235) (o := .cells #[.int .i64 a0_0, .int .i64 a0_1, .slice A0_2 l0_2.length c0_2] 26 (0, 0)) (tk_ BK235) hb); replace HB := A_ (below_step tb_ hb); (try clear hb)))
                  go_ret
                  exact ⟨te_, tb_⟩
               ·
                rw [if_neg c27] at H
                exact absurd H (by simp)
              ·
               rw [if_neg c26] at H
               exact absurd H (by simp)
             ·
              rw [if_neg c25] at H
              have c25b0 := decide_eq_false c25
              clear c25
              have H' := A_ H
              clear H
              go_wp2
              go_roundg k3
              case measure => have := HK1.out; have := HJ7.out; have := HK3.out; omega
              case rel => exact ⟨(wrap64 (x13_1 + 1)), tf_, H', ⟨by have := HK1.out; have := HJ7.out; have := HK3.out; omega⟩, ⟨tk_ BK235⟩, ⟨tb_⟩⟩
          ·
           rw [if_neg c23] at H
           exact absurd H (by simp)
         ·
          rw [if_neg c22] at H
          exact absurd H (by simp)
     ·
      rw [if_neg c7] at H
      exact absurd H (by simp)
    ·
     rw [if_neg c6] at H
     exact absurd H (by simp)
   ·
    rw [if_neg c5] at H
    have c5b0 := decide_eq_false c5
    clear c5
    obtain rfl := Option.some.inj H
    go_wp2
    go_ret
    exact ⟨te_, tb_⟩

/-! ### impl_asBishops: function 78 -/
def impl_asBishops.f (l0 : List Int) (l1 : List Int) : Option (Bool) := if 0 < (l0.length : Int) then (if 1 < (l0.length : Int) then (if 0 < (l1.length : Int) then (if 1 < (l1.length : Int) then (if (wrap64 ((rd l0 0) + (rd l0 1))) = (wrap64 ((rd l1 0) + (rd l1 1))) then (some false) else (some ((wrap64 ((rd l0 0) - (rd l0 1))) != (wrap64 ((rd l1 0) - (rd l1 1)))))) else (none)) else (none)) else (none)) else (none)
theorem impl_asBishops.calls (A0 : Option Addr) (c0 : Nat) (l0 : List Int) (A1 : Option Addr) (c1 : Nat) (l1 : List Int) (r : Bool) (w : World) (hr0 : Kd.C (Kd.int .i64) w A0 l0.length l0) (hc0 : l0.length ≤ c0) (hr1 : Kd.C (Kd.int .i64) w A1 l1.length l1) (hc1 : l1.length ≤ c1) (h : impl_asBishops.f l0 l1 = some r) :
  Calls Try.prog 78 #[.slice A0 l0.length c0, .slice A1 l1.length c1] w fun e w' => e = .returned (.bool r) ∧ Drawn0 w w' := by
 have HR0 := A_ hr0
 have HC0 := A_ hc0
 clear hr0 hc0
 have HR1 := A_ hr1
 have HC1 := A_ hc1
 clear hr1 hc1
 have H : (if 0 < (l0.length : Int) then (if 1 < (l0.length : Int) then (if 0 < (l1.length : Int) then (if 1 < (l1.length : Int) then (if (wrap64 ((rd l0 0) + (rd l0 1))) = (wrap64 ((rd l1 0) + (rd l1 1))) then (some false) else (some ((wrap64 ((rd l0 0) - (rd l0 1))) != (wrap64 ((rd l1 0) - (rd l1 1)))))) else (none)) else (none)) else (none)) else (none)) = some r := h
 clear h
 by_cases c3 : 0 < (l0.length : Int)
 ·
  rw [if_pos c3] at H
  have c3b0 := decide_eq_true c3
  have c3b1 : decide (0 < l0.length) = true := decide_eq_true (by omega)
  clear c3
  by_cases c4 : 1 < (l0.length : Int)
  ·
   rw [if_pos c4] at H
   have c4b0 := decide_eq_true c4
   have c4b1 : decide (1 < l0.length) = true := decide_eq_true (by omega)
   clear c4
   by_cases c5 : 0 < (l1.length : Int)
   ·
    rw [if_pos c5] at H
    have c5b0 := decide_eq_true c5
    have c5b1 : decide (0 < l1.length) = true := decide_eq_true (by omega)
    clear c5
    by_cases c6 : 1 < (l1.length : Int)
    ·
     rw [if_pos c6] at H
     have c6b0 := decide_eq_true c6
     have c6b1 : decide (1 < l1.length) = true := decide_eq_true (by omega)
     clear c6
     by_cases c7 : (wrap64 ((rd l0 0) + (rd l0 1))) = (wrap64 ((rd l1 0) + (rd l1 1)))
     ·
      rw [if_pos c7] at H
      have c7b0 : ((wrap64 ((rd l0 0) + (rd l0 1))) == (wrap64 ((rd l1 0) + (rd l1 1)))) = true := beq_iff_eq.mpr c7
      have c7b1 : ((wrap64 ((rd l0 0) + (rd l0 1))) != (wrap64 ((rd l1 0) + (rd l1 1)))) = false := bne_eq_false_iff_eq.mpr c7
      clear c7
      obtain rfl := Option.some.inj H
      have p250 : 0 ≤ (0 : Int) := (by omega)
      have q250 : 0 < (l0.length : Int) := od_
      obtain ⟨ad250, e250, hx250_0⟩ := Kd.at_int HR0.out 0 p250 q250
      cases e250
      have qi250 : (0 < l0.length) = True := eq_true (by omega)
      (try rw [show ((0 : Int)).toNat = 0 from rfl] at hx250_0)
      (try rw [Addr.add_zero'] at hx250_0)
      replace p250 := eq_true p250
      replace q250 := eq_true q250
      have p251 : 0 ≤ (1 : Int) := (by omega)
      have q251 : 1 < (l0.length : Int) := od_
      obtain ⟨ad251, e251, hx251_0⟩ := Kd.at_int HR0.out 1 p251 q251
      obtain rfl : ad250 = ad251 := (by injection e251)
      (try simp only [show (1 : Int).toNat = 1 from rfl, Nat.reduceMul, Nat.reduceEqDiff, Go.Addr.add, ↓reduceIte] at hx251_0)
      have qi251 : (1 < l0.length) = True := eq_true (by omega)
      (try rw [show ((1 : Int)).toNat = 1 from rfl] at hx251_0)
      replace p251 := eq_true p251
      replace q251 := eq_true q251
      have p252 : 0 ≤ (0 : Int) := (by omega)
      have q252 : 0 < (l1.length : Int) := od_
      obtain ⟨ad252, e252, hx252_0⟩ := Kd.at_int HR1.out 0 p252 q252
      cases e252
      have qi252 : (0 < l1.length) = True := eq_true (by omega)
      (try rw [show ((0 : Int)).toNat = 0 from rfl] at hx252_0)
      (try rw [Addr.add_zero'] at hx252_0)
      replace p252 := eq_true p252
      replace q252 := eq_true q252
      have p253 : 0 ≤ (1 : Int) := (by omega)
      have q253 : 1 < (l1.length : Int) := od_
      obtain ⟨ad253, e253, hx253_0⟩ := Kd.at_int HR1.out 1 p253 q253
      obtain rfl : ad252 = ad253 := (by injection e253)
      (try simp only [show (1 : Int).toNat = 1 from rfl, Nat.reduceMul, Nat.reduceEqDiff, Go.Addr.add, ↓reduceIte] at hx253_0)
      have qi253 : (1 < l1.length) = True := eq_true (by omega)
      (try rw [show ((1 : Int)).toNat = 1 from rfl] at hx253_0)
      replace p253 := eq_true p253
      replace q253 := eq_true q253
      go_enter Try.func78, Try.ntmps78
      go_wp2
      repeat (go_quiet (fail); try go_wp2)
      go_ret
      exact ⟨tf_, dr_⟩
     ·
      rw [if_neg c7] at H
      have c7b0 : ((wrap64 ((rd l0 0) + (rd l0 1))) == (wrap64 ((rd l1 0) + (rd l1 1)))) = false := beq_eq_false_iff_ne.mpr c7
      have c7b1 : ((wrap64 ((rd l0 0) + (rd l0 1))) != (wrap64 ((rd l1 0) + (rd l1 1)))) = true := bne_iff_ne.mpr c7
      obtain rfl := Option.some.inj H
      have p250 : 0 ≤ (0 : Int) := (by omega)
      have q250 : 0 < (l0.length : Int) := od_
      obtain ⟨ad250, e250, hx250_0⟩ := Kd.at_int HR0.out 0 p250 q250
      cases e250
      have qi250 : (0 < l0.length) = True := eq_true (by omega)
      (try rw [show ((0 : Int)).toNat = 0 from rfl] at hx250_0)
      (try rw [Addr.add_zero'] at hx250_0)
      replace p250 := eq_true p250
      replace q250 := eq_true q250
      have p251 : 0 ≤ (1 : Int) := (by omega)
      have q251 : 1 < (l0.length : Int) := od_
      obtain ⟨ad251, e251, hx251_0⟩ := Kd.at_int HR0.out 1 p251 q251
      obtain rfl : ad250 = ad251 := (by injection e251)
      (try simp only [show (1 : Int).toNat = 1 from rfl, Nat.reduceMul, Nat.reduceEqDiff, Go.Addr.add, ↓reduceIte] at hx251_0)
      have qi251 : (1 < l0.length) = True := eq_true (by omega)
      (try rw [show ((1 : Int)).toNat = 1 from rfl] at hx251_0)
      replace p251 := eq_true p251
      replace q251 := eq_true q251
      have p252 : 0 ≤ (0 : Int) := (by omega)
      have q252 : 0 < (l1.length : Int) := od_
      obtain ⟨ad252, e252, hx252_0⟩ := Kd.at_int HR1.out 0 p252 q252
      cases e252
      have qi252 : (0 < l1.length) = True := eq_true (by omega)
      (try rw [show ((0 : Int)).toNat = 0 from rfl] at hx252_0)
      (try rw [Addr.add_zero'] at hx252_0)
      replace p252 := eq_true p252
      replace q252 := eq_true q252
      have p253 : 0 ≤ (1 : Int) := (by omega)
      have q253 : 1 < (l1.length : Int) := od_
      obtain ⟨ad253, e253, hx253_0⟩ := Kd.at_int HR1.out 1 p253 q253
      obtain rfl : ad252 = ad253 := (by injection e253)
      (try simp only [show (1 : Int).toNat = 1 from rfl, Nat.reduceMul, Nat.reduceEqDiff, Go.Addr.add, ↓reduceIte] at hx253_0)
      have qi253 : (1 < l1.length) = True := eq_true (by omega)
      (try rw [show ((1 : Int)).toNat = 1 from rfl] at hx253_0)
      replace p253 := eq_true p253
      replace q253 := eq_true q253
      have p254 : 0 ≤ (0 : Int) := (by omega)
      have q254 : 0 < (l0.length : Int) := od_
      obtain ⟨ad254, e254, hx254_0⟩ := Kd.at_int HR0.out 0 p254 q254
      obtain rfl : ad250 = ad254 := (by injection e254)
      have qi254 : (0 < l0.length) = True := eq_true (by omega)
      (try rw [show ((0 : Int)).toNat = 0 from rfl] at hx254_0)
      (try rw [Addr.add_zero'] at hx254_0)
      replace p254 := eq_true p254
      replace q254 := eq_true q254
      have p255 : 0 ≤ (1 : Int) := (by omega)
      have q255 : 1 < (l0.length : Int) := od_
      obtain ⟨ad255, e255, hx255_0⟩ := Kd.at_int HR0.out 1 p255 q255
      obtain rfl : ad250 = ad255 := (by injection e255)
      (try simp only [show (1 : Int).toNat = 1 from rfl, Nat.reduceMul, Nat.reduceEqDiff, Go.Addr.add, ↓reduceIte] at hx255_0)
      have qi255 : (1 < l0.length) = True := eq_true (by omega)
      (try rw [show ((1 : Int)).toNat = 1 from rfl] at hx255_0)
      replace p255 := eq_true p255
      replace q255 := eq_true q255
      have p256 : 0 ≤ (0 : Int) := (by omega)
      have q256 : 0 < (l1.length : Int) := od_
      obtain ⟨ad256, e256, hx256_0⟩ := Kd.at_int HR1.out 0 p256 q256
      obtain rfl : ad252 = ad256 := (by injection e256)
      have qi256 : (0 < l1.length) = True := eq_true (by omega)
      (try rw [show ((0 : Int)).toNat = 0 from rfl] at hx256_0)
      (try rw [Addr.add_zero'] at hx256_0)
      replace p256 := eq_true p256
      replace q256 := eq_true q256
      have p257 : 0 ≤ (1 : Int) := (by omega)
      have q257 : 1 < (l1.length : Int) := od_
      obtain ⟨ad257, e257, hx257_0⟩ := Kd.at_int HR1.out 1 p257 q257
      obtain rfl : ad252 = ad257 := (by injection e257)
      (try simp only [show (1 : Int).toNat = 1 from rfl, Nat.reduceMul, Nat.reduceEqDiff, Go.Addr.add, ↓reduceIte] at hx257_0)
      have qi257 : (1 < l1.length) = True := eq_true (by omega)
      (try rw [show ((1 : Int)).toNat = 1 from rfl] at hx257_0)
      replace p257 := eq_true p257
      replace q257 := eq_true q257
      go_enter Try.func78, Try.ntmps78
      go_wp2
      repeat (go_quiet (fail); try go_wp2)
      go_ret
      exact ⟨tf_, dr_⟩
    ·
     rw [if_neg c6] at H
     exact absurd H (by simp)
   ·
    rw [if_neg c5] at H
    exact absurd H (by simp)
  ·
   rw [if_neg c4] at H
   exact absurd H (by simp)
 ·
  rw [if_neg c3] at H
  exact absurd H (by simp)

def impl_asBishops.fn : FnT57 := fun l0 l1 => impl_asBishops.f l0 l1
theorem impl_asBishops.fnok (w : World) : FnOk57 w (.func (.func 78) #[] #[]) impl_asBishops.fn := fun A0 c0 l0 A1 c1 l1 r W hr0 hc0 hr1 hc1 h _ => ⟨78, #[], _, rfl, Try.func78, by kernel_rfl, rfl, by simpa using (impl_asBishops.calls A0 c0 l0 A1 c1 l1 r W hr0 hc0 hr1 hc1 h).mono fun e w' ⟨he, hd⟩ => ⟨he, hd.below⟩⟩

/-! ### impl_AreQuietBishops: function 10 -/
def impl_AreQuietBishops.f (k : Nat) (a0_0 : Int) (a0_1 : Int) (l0_2 : List Int) (l1 : List (List Int)) : Option (Bool × Bool) := (impl_IsBoard.f a0_0 a0_1 l0_2).bind fun t259 => (if t259 = true then ((impl_Board_quiet.f k a0_0 a0_1 l0_2 l1 impl_asBishops.fn).bind fun t260 => (some (t260, true))) else (some (false, false)))
theorem impl_AreQuietBishops.mono : ∀ a0 a1 a2 a3 k, LeO (impl_AreQuietBishops.f k a0 a1 a2 a3) (impl_AreQuietBishops.f (k + 1) a0 a1 a2 a3) := by
 intro a0 a1 a2 a3 k
 unfold impl_AreQuietBishops.f
 repeat' first | (with_reducible first | exact impl_Board_quiet.mono _ _ _ _ _ _ | exact LeO.refl _ | exact LeO.none _ | refine LeO.ite ?_ ?_ | refine LeO.bind ?_ (fun _ => ?_)) | exact impl_Board_quiet.mono _ _ _ _ _ _ | exact LeO.none _ | refine LeO.ite ?_ ?_ | refine LeO.bind ?_ (fun _ => ?_)
theorem impl_AreQuietBishops.calls (k : Nat) (a0_0 : Int) (a0_1 : Int) (A0_2 : Option Addr) (c0_2 : Nat) (l0_2 : List Int) (A1 : Option Addr) (c1 : Nat) (l1 : List (List Int)) (r1 : Bool) (r2 : Bool) (w : World) (hr0_2 : Kd.C (Kd.int .i64) w A0_2 l0_2.length l0_2) (hc0_2 : l0_2.length ≤ c0_2) (hr1 : Kd.C (Kd.slice 3 (Kd.int .i64)) w A1 l1.length l1) (hc1 : l1.length ≤ c1) (h : impl_AreQuietBishops.f k a0_0 a0_1 l0_2 l1 = some (r1, r2)) :
  Calls Try.prog 10 #[.agg #[.int .i64 a0_0, .int .i64 a0_1, .slice A0_2 l0_2.length c0_2], .slice A1 l1.length c1] w fun e w' => e = .returned (.tuple #[.bool r1, .bool r2]) ∧ Below w.heap.size w w' := by
 have hu26 := Try.underlying26
 have HR0_2 := A_ hr0_2
 have HC0_2 := A_ hc0_2
 clear hr0_2 hc0_2
 have HR1 := A_ hr1
 have HC1 := A_ hc1
 clear hr1 hc1
 have HB := A_ (Below.refl w.heap.size w)
 have H : ((impl_IsBoard.f a0_0 a0_1 l0_2).bind fun t259 => (if t259 = true then ((impl_Board_quiet.f k a0_0 a0_1 l0_2 l1 impl_asBishops.fn).bind fun t260 => (some (t260, true))) else (some (false, false)))) = some (r1, r2) := h
 clear h
 replace H := Option.bind_eq_some_iff.mp H
 obtain ⟨t259, A30, H⟩ := H
 replace H : (if t259 = true then ((impl_Board_quiet.f k a0_0 a0_1 l0_2 l1 impl_asBishops.fn).bind fun t260 => (some (t260, true))) else (some (false, false))) = some (r1, r2) := H
 have A3 := A_ A30
 clear A30
 by_cases c4 : t259 = true
 ·
  subst c4
  have H1 : ((impl_Board_quiet.f k a0_0 a0_1 l0_2 l1 impl_asBishops.fn).bind fun t260 => (some (t260, true))) = some (r1, r2) := by rw [if_pos rfl] at H; exact H
  clear H
  have H := H1
  clear H1
  replace H := Option.bind_eq_some_iff.mp H
  obtain ⟨t260, A50, H⟩ := H
  replace H : (some (t260, true)) = some (r1, r2) := H
  have A5 := A_ A50
  clear A50
  simp only [Option.some.injEq, Prod.mk.injEq] at H
  obtain ⟨rfl, rfl⟩ := H
  go_enter Try.func10, Try.ntmps10
  go_wp2_with (first | (refine gd_ 2 ?_; refine bx_ 2 #[.int .i64 a0_0, .int .i64 a0_1, .slice A0_2 l0_2.length c0_2] 26 ?_; intro gb258 hg w6 hbox hb; have BK258 := A_ (hbox); have GW258 := A_ ((ts_ hg : w.heap.size ≤ gb258)); have GE258 := A_ ((ts_ hg : w.heap.size ≤ gb258)); replace HB := A_ (below_step tb_ hb); clear hb hbox hg; obtain ⟨hcz7_0, hcz7_1, hcz7_2, hfz7_0, hfz7_1, hfz7_2⟩ := cf3_ BK258.out) | (refine gc_ 76 ?_; refine goesT_ (some 7) Try.func76 #[.agg #[.int .i64 a0_0, .int .i64 a0_1, .slice A0_2 l0_2.length c0_2]] ?_; (with_reducible refine (impl_IsBoard.calls a0_0 a0_1 _ _ l0_2 true _ ?side1 ?side2 A3.out).mono ?_); (case side1 => exact tc_ HR0_2.out); (case side2 => exact HC0_2.out); rintro e w8 ⟨rfl, hb⟩; refine ⟨_, rfl, ?_⟩; replace BK258 := A_ (blk_below (g := gb258) (o := .cells #[.int .i64 a0_0, .int .i64 a0_1, .slice A0_2 l0_2.length c0_2] 26 (0, 0)) (tk_ BK258) hb); replace HB := A_ (below_step tb_ hb); (try clear hb); obtain ⟨hcz9_0, hcz9_1, hcz9_2, hfz9_0, hfz9_1, hfz9_2⟩ := cf3_ BK258.out) | (refine gc_ 77 ?_; refine goesT_ (some 11) Try.func77 #[.agg #[.int .i64 a0_0, .int .i64 a0_1, .slice A0_2 l0_2.length c0_2], .slice A1 l1.length c1, .func (.func 78) #[] #[]] ?_; (with_reducible refine (impl_Board_quiet.calls k a0_0 a0_1 _ _ l0_2 _ _ l1 (.func (.func 78) #[] #[]) impl_asBishops.fn t260 _ ?side1 ?side2 ?side3 ?side4 ?side5 A5.out).mono ?_); (case side1 => exact tc_ HR0_2.out); (case side2 => exact HC0_2.out); (case side3 => exact tc_ HR1.out); (case side4 => exact HC1.out); (case side5 => exact impl_asBishops.fnok _); rintro e w10 ⟨rfl, hb⟩; refine ⟨_, rfl, ?_⟩; replace BK258 := A_ (blk_below (g := gb258) (o := .cells #[.int .i64 a0_0, .int .i64 a0_1, .slice A0_2 l0_2.length c0_2] 26 (0, 0)) (tk_ BK258) hb); replace HB := A_ (below_step tb_ hb); (try clear hb)))
  go_ret2
  exact ⟨te_, tb_⟩
 ·
  replace c4 := Bool.eq_false_iff.mpr c4
  subst c4
  have H1 : (some (false, false)) = some (r1, r2) := by rw [if_neg (show ¬ (false = true) by decide)] at H; exact H
  clear H
  have H := H1
  clear H1
  simp only [Option.some.injEq, Prod.mk.injEq] at H
  obtain ⟨rfl, rfl⟩ := H
  go_enter Try.func10, Try.ntmps10
  go_wp2_with (first | (refine gd_ 2 ?_; refine bx_ 2 #[.int .i64 a0_0, .int .i64 a0_1, .slice A0_2 l0_2.length c0_2] 26 ?_; intro gb258 hg w11 hbox hb; have BK258 := A_ (hbox); have GW258 := A_ ((ts_ hg : w.heap.size ≤ gb258)); have GE258 := A_ ((ts_ hg : w.heap.size ≤ gb258)); replace HB := A_ (below_step tb_ hb); clear hb hbox hg; obtain ⟨hcz12_0, hcz12_1, hcz12_2, hfz12_0, hfz12_1, hfz12_2⟩ := cf3_ BK258.out) | (refine gc_ 76 ?_; refine goesT_ (some 7) Try.func76 #[.agg #[.int .i64 a0_0, .int .i64 a0_1, .slice A0_2 l0_2.length c0_2]] ?_; (with_reducible refine (impl_IsBoard.calls a0_0 a0_1 _ _ l0_2 false _ ?side1 ?side2 A3.out).mono ?_); (case side1 => exact tc_ HR0_2.out); (case side2 => exact HC0_2.out); rintro e w13 ⟨rfl, hb⟩; refine ⟨_, rfl, ?_⟩; replace BK258 := A_ (blk_below (g := gb258) (o := .cells #[.int .i64 a0_0, .int .i64 a0_1, .slice A0_2 l0_2.length c0_2] 26 (0, 0)) (tk_ BK258) hb); replace HB := A_ (below_step tb_ hb); (try clear hb)))
  go_ret2
  exact ⟨te_, tb_⟩

/-! ### spec_boPlace: function 85 -/
def spec_boPlace.f (k : Nat) (a0_0 : Int) (a0_1 : Int) (l0_2 : List Int) (a1 : Int) (a2 : Int) : Option (Bool) := (spec_boGood.f k a0_0 a0_1 l0_2).bind fun t262 => (if t262 = true then ((spec_l1In.f a1 0 (wrap64 (a0_0 - 1))).bind fun t263 => (if t263 = true then ((spec_l1In.f a2 0 (wrap64 (a0_1 - 1))).bind fun t264 => (some t264)) else (some false))) else (some false))
theorem spec_boPlace.mono : ∀ a0 a1 a2 a3 a4 k, LeO (spec_boPlace.f k a0 a1 a2 a3 a4) (spec_boPlace.f (k + 1) a0 a1 a2 a3 a4) := by
 intro a0 a1 a2 a3 a4 k
 unfold spec_boPlace.f
 repeat' first | (with_reducible first | exact spec_boGood.mono _ _ _ _ | exact LeO.refl _ | exact LeO.none _ | refine LeO.ite ?_ ?_ | refine LeO.bind ?_ (fun _ => ?_)) | exact spec_boGood.mono _ _ _ _ | exact LeO.none _ | refine LeO.ite ?_ ?_ | refine LeO.bind ?_ (fun _ => ?_)
theorem spec_boPlace.calls (k : Nat) (a0_0 : Int) (a0_1 : Int) (A0_2 : Option Addr) (c0_2 : Nat) (l0_2 : List Int) (a1 : Int) (a2 : Int) (r : Bool) (w : World) (hr0_2 : Kd.C (Kd.int .i64) w A0_2 l0_2.length l0_2) (hc0_2 : l0_2.length ≤ c0_2) (h : spec_boPlace.f k a0_0 a0_1 l0_2 a1 a2 = some r) :
  Calls Try.prog 85 #[.agg #[.int .i64 a0_0, .int .i64 a0_1, .slice A0_2 l0_2.length c0_2], .int .i64 a1, .int .i64 a2] w fun e w' => e = .returned (.bool r) ∧ Below w.heap.size w w' := by
 have hu26 := Try.underlying26
 have HR0_2 := A_ hr0_2
 have HC0_2 := A_ hc0_2
 clear hr0_2 hc0_2
 have HB := A_ (Below.refl w.heap.size w)
 have H : ((spec_boGood.f k a0_0 a0_1 l0_2).bind fun t262 => (if t262 = true then ((spec_l1In.f a1 0 (wrap64 (a0_0 - 1))).bind fun t263 => (if t263 = true then ((spec_l1In.f a2 0 (wrap64 (a0_1 - 1))).bind fun t264 => (some t264)) else (some false))) else (some false))) = some r := h
 clear h
 replace H := Option.bind_eq_some_iff.mp H
 obtain ⟨t262, A40, H⟩ := H
 replace H : (if t262 = true then ((spec_l1In.f a1 0 (wrap64 (a0_0 - 1))).bind fun t263 => (if t263 = true then ((spec_l1In.f a2 0 (wrap64 (a0_1 - 1))).bind fun t264 => (some t264)) else (some false))) else (some false)) = some r := H
 have A4 := A_ A40
 clear A40
 by_cases c5 : t262 = true
 ·
  subst c5
  have H1 : ((spec_l1In.f a1 0 (wrap64 (a0_0 - 1))).bind fun t263 => (if t263 = true then ((spec_l1In.f a2 0 (wrap64 (a0_1 - 1))).bind fun t264 => (some t264)) else (some false))) = some r := by rw [if_pos rfl] at H; exact H
  clear H
  have H := H1
  clear H1
  replace H := Option.bind_eq_some_iff.mp H
  obtain ⟨t263, A60, H⟩ := H
  replace H : (if t263 = true then ((spec_l1In.f a2 0 (wrap64 (a0_1 - 1))).bind fun t264 => (some t264)) else (some false)) = some r := H
  have A6 := A_ A60
  clear A60
  by_cases c7 : t263 = true
  ·
   subst c7
   have H1 : ((spec_l1In.f a2 0 (wrap64 (a0_1 - 1))).bind fun t264 => (some t264)) = some r := by rw [if_pos rfl] at H; exact H
   clear H
   have H := H1
   clear H1
   replace H := Option.bind_eq_some_iff.mp H
   obtain ⟨t264, A80, H⟩ := H
   replace H : (some t264) = some r := H
   have A8 := A_ A80
   clear A80
   obtain rfl := Option.some.inj H
   go_enter Try.func85, Try.ntmps85
   go_wp2_with (first | (refine gd_ 3 ?_; refine bx_ 3 #[.int .i64 a0_0, .int .i64 a0_1, .slice A0_2 l0_2.length c0_2] 26 ?_; intro gb261 hg w9 hbox hb; have BK261 := A_ (hbox); have GW261 := A_ ((ts_ hg : w.heap.size ≤ gb261)); have GE261 := A_ ((ts_ hg : w.heap.size ≤ gb261)); replace HB := A_ (below_step tb_ hb); clear hb hbox hg; obtain ⟨hcz10_0, hcz10_1, hcz10_2, hfz10_0, hfz10_1, hfz10_2⟩ := cf3_ BK261.out) | (refine gc_ 79 ?_; refine goesT_ (some 8) Try.func79 #[.agg #[.int .i64 a0_0, .int .i64 a0_1, .slice A0_2 l0_2.length c0_2]] ?_; (with_reducible refine (spec_boGood.calls k a0_0 a0_1 _ _ l0_2 true _ ?side1 ?side2 A4.out).mono ?_); (case side1 => exact tc_ HR0_2.out); (case side2 => exact HC0_2.out); rintro e w11 ⟨rfl, hb⟩; refine ⟨_, rfl, ?_⟩; replace BK261 := A_ (blk_below (g := gb261) (o := .cells #[.int .i64 a0_0, .int .i64 a0_1, .slice A0_2 l0_2.length c0_2] 26 (0, 0)) (tk_ BK261) hb); replace HB := A_ (below_step tb_ hb); (try clear hb); obtain ⟨hcz12_0, hcz12_1, hcz12_2, hfz12_0, hfz12_1, hfz12_2⟩ := cf3_ BK261.out) | (go_at_call 105; (with_reducible refine (spec_l1In.calls a1 0 (wrap64 (a0_0 - 1)) true _ A6.out).mono ?_); rintro e w' ⟨rfl, ⟨nd, rfl⟩⟩) | (go_at_call 105; (with_reducible refine (spec_l1In.calls a2 0 (wrap64 (a0_1 - 1)) t264 _ A8.out).mono ?_); rintro e w' ⟨rfl, ⟨nd, rfl⟩⟩))
   go_ret
   exact ⟨te_, tb_⟩
  ·
   replace c7 := Bool.eq_false_iff.mpr c7
   subst c7
   have H1 : (some false) = some r := by rw [if_neg (show ¬ (false = true) by decide)] at H; exact H
   clear H
   have H := H1
   clear H1
   obtain rfl := Option.some.inj H
   go_enter Try.func85, Try.ntmps85
   go_wp2_with (first | (refine gd_ 3 ?_; refine bx_ 3 #[.int .i64 a0_0, .int .i64 a0_1, .slice A0_2 l0_2.length c0_2] 26 ?_; intro gb261 hg w13 hbox hb; have BK261 := A_ (hbox); have GW261 := A_ ((ts_ hg : w.heap.size ≤ gb261)); have GE261 := A_ ((ts_ hg : w.heap.size ≤ gb261)); replace HB := A_ (below_step tb_ hb); clear hb hbox hg; obtain ⟨hcz14_0, hcz14_1, hcz14_2, hfz14_0, hfz14_1, hfz14_2⟩ := cf3_ BK261.out) | (refine gc_ 79 ?_; refine goesT_ (some 8) Try.func79 #[.agg #[.int .i64 a0_0, .int .i64 a0_1, .slice A0_2 l0_2.length c0_2]] ?_; (with_reducible refine (spec_boGood.calls k a0_0 a0_1 _ _ l0_2 true _ ?side1 ?side2 A4.out).mono ?_); (case side1 => exact tc_ HR0_2.out); (case side2 => exact HC0_2.out); rintro e w15 ⟨rfl, hb⟩; refine ⟨_, rfl, ?_⟩; replace BK261 := A_ (blk_below (g := gb261) (o := .cells #[.int .i64 a0_0, .int .i64 a0_1, .slice A0_2 l0_2.length c0_2] 26 (0, 0)) (tk_ BK261) hb); replace HB := A_ (below_step tb_ hb); (try clear hb); obtain ⟨hcz16_0, hcz16_1, hcz16_2, hfz16_0, hfz16_1, hfz16_2⟩ := cf3_ BK261.out) | (go_at_call 105; (with_reducible refine (spec_l1In.calls a1 0 (wrap64 (a0_0 - 1)) false _ A6.out).mono ?_); rintro e w' ⟨rfl, ⟨nd, rfl⟩⟩))
   go_ret
   exact ⟨te_, tb_⟩
 ·
  replace c5 := Bool.eq_false_iff.mpr c5
  subst c5
  have H1 : (some false) = some r := by rw [if_neg (show ¬ (false = true) by decide)] at H; exact H
  clear H
  have H := H1
  clear H1
  obtain rfl := Option.some.inj H
  go_enter Try.func85, Try.ntmps85
  go_wp2_with (first | (refine gd_ 3 ?_; refine bx_ 3 #[.int .i64 a0_0, .int .i64 a0_1, .slice A0_2 l0_2.length c0_2] 26 ?_; intro gb261 hg w17 hbox hb; have BK261 := A_ (hbox); have GW261 := A_ ((ts_ hg : w.heap.size ≤ gb261)); have GE261 := A_ ((ts_ hg : w.heap.size ≤ gb261)); replace HB := A_ (below_step tb_ hb); clear hb hbox hg; obtain ⟨hcz18_0, hcz18_1, hcz18_2, hfz18_0, hfz18_1, hfz18_2⟩ := cf3_ BK261.out) | (refine gc_ 79 ?_; refine goesT_ (some 8) Try.func79 #[.agg #[.int .i64 a0_0, .int .i64 a0_1, .slice A0_2 l0_2.length c0_2]] ?_; (with_reducible refine (spec_boGood.calls k a0_0 a0_1 _ _ l0_2 false _ ?side1 ?side2 A4.out).mono ?_); (case side1 => exact tc_ HR0_2.out); (case side2 => exact HC0_2.out); rintro e w19 ⟨rfl, hb⟩; refine ⟨_, rfl, ?_⟩; replace BK261 := A_ (blk_below (g := gb261) (o := .cells #[.int .i64 a0_0, .int .i64 a0_1, .slice A0_2 l0_2.length c0_2] 26 (0, 0)) (tk_ BK261) hb); replace HB := A_ (below_step tb_ hb); (try clear hb)))
  go_ret
  exact ⟨te_, tb_⟩

end
end Go.Proofs.Ytjjfcghoikdopaa.P
