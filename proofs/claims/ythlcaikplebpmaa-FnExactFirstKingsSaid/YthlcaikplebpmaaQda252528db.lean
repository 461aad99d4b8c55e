-- printed functions (wip/slim.py)
import Derived.Test.YthlcaikplebpmaaPx0
import Derived.Test.YthlcaikplebpmaaQ1f543403c0
import Derived.Test.YthlcaikplebpmaaQ216f379656
import Derived.Test.YthlcaikplebpmaaQc82fb0f20a
import Derived.Test.YthlcaikplebpmaaQc36316452c
namespace Go.Proofs.Ythlcaikplebpmaa.P
noncomputable section
set_option maxHeartbeats 8000000
set_option maxRecDepth 100000
open Go.RowKit Go.Proofs.YthlcaikplebpmaaW.PrintWords Go.Proofs.YthlcaikplebpmaaW.PrintLast Go.Proofs.YthlcaikplebpmaaW.PrintMore
attribute [local go_sem] max2_int min2_int max_two min_two max_three min_three max_four min_four   -- for this text's walks alone
set_option linter.unusedVariables false
set_option linter.unusedSimpArgs false

/-! ### laws_heldIntSS: function 37 -/
def laws_heldIntSS.l0 : Nat → List (List Int) → Int → Int → Option (Int)
 | 0, _, _, _ => none
 | k + 1, x0, x1, x5 => if x5 < (x0.length : Int) then (if 0 ≤ x5 then ((laws_heldIntS.f k (rd_L1 x0 x5) x1).bind fun t787 => (if t787 < 0 then (some (-1)) else (laws_heldIntSS.l0 k x0 t787 (wrap64 (x5 + 1))))) else (none)) else (some x1)
def laws_heldIntSS.f (k : Nat) (l0 : List (List Int)) (a1 : Int) : Option (Int) := laws_heldIntSS.l0 k l0 a1 0
theorem laws_heldIntSS.mono_l : ∀ k, (∀ y0 y1 y2, LeO (laws_heldIntSS.l0 k y0 y1 y2) (laws_heldIntSS.l0 (k + 1) y0 y1 y2))
 | 0 => fun _ _ _ r h => by simp [laws_heldIntSS.l0] at h
 | k + 1 => by
  have ih0 := laws_heldIntSS.mono_l k
  ·
   intro y0 y1 y2
   unfold laws_heldIntSS.l0
   repeat' first | (with_reducible first | exact ih0 _ _ _ | exact laws_heldIntS.mono _ _ _ | exact LeO.refl _ | exact LeO.none _ | refine LeO.ite ?_ ?_ | refine LeO.bind ?_ (fun _ => ?_)) | exact ih0 _ _ _ | exact laws_heldIntS.mono _ _ _ | exact LeO.none _ | refine LeO.ite ?_ ?_ | refine LeO.bind ?_ (fun _ => ?_)
theorem laws_heldIntSS.mono : ∀ a0 a1 k, LeO (laws_heldIntSS.f k a0 a1) (laws_heldIntSS.f (k + 1) a0 a1) := by
 intro a0 a1 k
 have ih0 := laws_heldIntSS.mono_l k
 unfold laws_heldIntSS.f
 repeat' first | (with_reducible first | exact ih0 _ _ _ | exact laws_heldIntS.mono _ _ _ | exact LeO.refl _ | exact LeO.none _ | refine LeO.ite ?_ ?_ | refine LeO.bind ?_ (fun _ => ?_)) | exact ih0 _ _ _ | exact laws_heldIntS.mono _ _ _ | exact LeO.none _ | refine LeO.ite ?_ ?_ | refine LeO.bind ?_ (fun _ => ?_)
theorem laws_heldIntSS.calls (k : Nat) (A0 : Option Addr) (c0 : Nat) (l0 : List (List Int)) (a1 : Int) (r : Int) (w : World) (hr0 : Kd.C (Kd.slice 3 (Kd.int .i64)) w A0 l0.length l0) (hc0 : l0.length ≤ c0) (h : laws_heldIntSS.f k l0 a1 = some r) :
  Calls Try.prog 37 #[.slice A0 l0.length c0, .int .i64 a1] w fun e w' => e = .returned (.int .i64 r) ∧ Drawn0 w w' := by
 have HR0 := A_ hr0
 have HC0 := A_ hc0
 clear hr0 hc0
 have H : (laws_heldIntSS.l0 k l0 a1 0) = some r := h
 clear h
 have H' := A_ H
 clear H
 go_enter Try.func37, Try.ntmps37
 go_wp2
 go_loopg [1, 5] k (fun kq v1 v5 w' => ∃ (x1_1 : Int) (x5_1 : Int), v1 = .int .i64 x1_1 ∧ v5 = .int .i64 x5_1 ∧ Aside0 (laws_heldIntSS.l0 kq l0 x1_1 x5_1 = some r) ∧ Aside0 (kq ≤ k) ∧ Drawn0 w w')
 case atStart => exact ⟨(a1), (0), tf_, tf_, H', ⟨Nat.le_refl _⟩, dr_⟩
 case round =>
  clear H'
  try clear p2
  obtain ⟨x1_1, x5_1, rfl, rfl, HA, HK1, ⟨m1, rfl⟩⟩ := hrel
  cases gk with
  | zero => exact absurd HA.out (by simp [laws_heldIntSS.l0])
  | succ k1 =>
   have H := HA.out
   clear HA
   simp only [laws_heldIntSS.l0] at H
   by_cases c3 : x5_1 < (l0.length : Int)
   ·
    rw [if_pos c3] at H
    have c3b0 := decide_eq_true c3
    clear c3
    by_cases c4 : 0 ≤ x5_1
    ·
     rw [if_pos c4] at H
     have c4b0 := decide_eq_true c4
     clear c4
     replace H := Option.bind_eq_some_iff.mp H
     obtain ⟨t787, A50, H⟩ := H
     replace H : (if t787 < 0 then (some (-1)) else (laws_heldIntSS.l0 k1 l0 t787 (wrap64 (x5_1 + 1)))) = some r := H
     have A5 := A_ A50
     clear A50
     by_cases c6 : t787 < 0
     ·
      rw [if_pos c6] at H
      have c6b0 := decide_eq_true c6
      clear c6
      obtain rfl := Option.some.inj H
      have p786 : 0 ≤ (x5_1 : Int) := od_
      have q786 : x5_1 < (l0.length : Int) := od_
      obtain ⟨ad786, A786_0, c786_0, e786, hx786_0, hl786_0, hi786_0⟩ := at_L1 HR0.out x5_1 p786 q786
      cases e786
      have HR786_0 := A_ hi786_0
      have HC786_0 := A_ hl786_0
      clear hi786_0 hl786_0
      replace p786 := eq_true p786
      replace q786 := eq_true q786
      go_wp2_with (first | (refine gc_ 30 ?_; refine goesT_ (some 17) Try.func30 #[.slice A786_0 (rd_L1 l0 x5_1).length c786_0, .int .i64 x1_1] ?_; (with_reducible refine (laws_heldIntS.calls k1 _ _ (rd_L1 l0 x5_1) x1_1 t787 _ ?side1 ?side2 A5.out).mono ?_); (case side1 => exact tc0_ HR786_0.out); (case side2 => exact HC786_0.out); rintro e w' ⟨rfl, ⟨nd, rfl⟩⟩; refine ⟨_, rfl, ?_⟩))
      go_ret
      exact ⟨tf_, dr_⟩
     ·
      rw [if_neg c6] at H
      have c6b0 := decide_eq_false c6
      clear c6
      have H' := A_ H
      clear H
      have p786 : 0 ≤ (x5_1 : Int) := od_
      have q786 : x5_1 < (l0.length : Int) := od_
      obtain ⟨ad786, A786_0, c786_0, e786, hx786_0, hl786_0, hi786_0⟩ := at_L1 HR0.out x5_1 p786 q786
      cases e786
      have HR786_0 := A_ hi786_0
      have HC786_0 := A_ hl786_0
      clear hi786_0 hl786_0
      replace p786 := eq_true p786
      replace q786 := eq_true q786
      go_wp2_with (first | (refine gc_ 30 ?_; refine goesT_ (some 17) Try.func30 #[.slice A786_0 (rd_L1 l0 x5_1).length c786_0, .int .i64 x1_1] ?_; (with_reducible refine (laws_heldIntS.calls k1 _ _ (rd_L1 l0 x5_1) x1_1 t787 _ ?side1 ?side2 A5.out).mono ?_); (case side1 => exact tc0_ HR786_0.out); (case side2 => exact HC786_0.out); rintro e w' ⟨rfl, ⟨nd, rfl⟩⟩; refine ⟨_, rfl, ?_⟩))
      go_roundg k1
      case measure => have := HK1.out; omega
      case rel => exact ⟨(t787), (wrap64 (x5_1 + 1)), tf_, tf_, H', ⟨by have := HK1.out; omega⟩, dr_⟩
    ·
     rw [if_neg c4] at H
     exact absurd H (by simp)
   ·
    rw [if_neg c3] at H
    have c3b0 := decide_eq_false c3
    clear c3
    obtain rfl := Option.some.inj H
    go_wp2
    go_ret
    exact ⟨tf_, dr_⟩

/-! ### laws_FnExactFirstKings: function 7 -/
def laws_FnExactFirstKings.Tests (k : Nat) (a0_0 : Int) (a0_1 : Int) (l0_2 : List Int) (a1 : Int) : Prop := ∃ s0 : Int, ∃ g0_ : List (List Int), ∃ g1_ : Bool, ∃ m8 : Int, ∃ n8 : List Int, ∃ m10 : Int, ∃ n10 : List (List Int), 0 ≤ s0 ∧ laws_szBoard.f a0_0 a0_1 l0_2 1048576 = some s0 ∧ laws_toBoard.f k a0_0 a0_1 l0_2 = some (a0_0, a0_1, l0_2) ∧ spec_FirstKings.f k a0_0 a0_1 l0_2 a1 = some (g0_, g1_) ∧ impl_FirstKings.f k a0_0 a0_1 l0_2 a1 = some (g0_, g1_) ∧ laws_eqIntSS.f k g0_ g0_ = some true ∧ laws_eqBoard.f k a0_0 a0_1 l0_2 a0_0 a0_1 l0_2 = some true ∧ 0 ≤ m8 ∧ laws_markBoard.f k a0_0 a0_1 l0_2 1 = some (m8, n8) ∧ 0 ≤ m10 ∧ laws_markIntSS.f k g0_ 1 = some (m10, n10) ∧ laws_heldIntSS.f k n10 1 = some m10
open Classical in
noncomputable def laws_FnExactFirstKings.f (k : Nat) (a0_0 : Int) (a0_1 : Int) (l0_2 : List Int) (a1 : Int) : Option Bool := if (∃ s0 : Int, laws_szBoard.f a0_0 a0_1 l0_2 1048576 = some s0 ∧ s0 < 0) then some true else if laws_FnExactFirstKings.Tests k a0_0 a0_1 l0_2 a1 then some true else none
theorem laws_FnExactFirstKings.calls (k : Nat) (a0_0 : Int) (a0_1 : Int) (A0_2 : Option Addr) (c0_2 : Nat) (l0_2 : List Int) (a1 : Int) (r : Bool) (w : World) (hr0_2 : Kd.C (Kd.int .i64) w A0_2 l0_2.length l0_2) (hc0_2 : l0_2.length ≤ c0_2) (h : laws_FnExactFirstKings.f k a0_0 a0_1 l0_2 a1 = some r) :
  Calls Try.prog 7 #[.agg #[.int .i64 a0_0, .int .i64 a0_1, .slice A0_2 l0_2.length c0_2], .int .i64 a1] w fun e w' => e = .returned (.bool r) ∧ Below w.heap.size w w' := by
 have HB := A_ (Below.refl w.heap.size w)
 have HT := A_ (Nat.le_refl w.heap.size)
 have hu24 := Try.underlying24
 have hu26 := Try.underlying26
 unfold laws_FnExactFirstKings.f at h
 by_cases cgz : (∃ s0 : Int, laws_szBoard.f a0_0 a0_1 l0_2 1048576 = some s0 ∧ s0 < 0)
 ·
  rw [if_pos cgz] at h
  obtain rfl := Option.some.inj h
  obtain ⟨s0, hs0, hs1⟩ := cgz
  have T1 := A_ hs0
  have cgb_ := decide_eq_true hs1
  clear h hs0 hs1
  have HR0_2 := A_ hr0_2
  have HC0_2 := A_ hc0_2
  clear hr0_2 hc0_2
  go_enter Try.func7, Try.ntmps7
  go_wp2_with (first | (refine gc_ 17 ?_; refine goesL_ (some 18) rfl rfl Try.func17 (by kernel_rfl) rfl #[.agg #[.int .i64 a0_0, .int .i64 a0_1, .slice A0_2 l0_2.length c0_2], .int .i64 1048576] rfl (by (try simp only [List.map_toArray, List.map_cons, List.map_nil]); first | done | rfl) ?_; obtain ⟨wb_0, hw_⟩ : ∃ x_, x_ = w.alloc (.cells #[.int .i64 a0_0, .int .i64 a0_1, .slice A0_2 l0_2.length c0_2] 24) := ⟨_, rfl⟩; rw [← hw_]; have hb_ := below_alloc (Below.refl _ w) (.cells #[.int .i64 a0_0, .int .i64 a0_1, .slice A0_2 l0_2.length c0_2] 24); rw [← hw_] at hb_; have hk_ := blk_new w (.cells #[.int .i64 a0_0, .int .i64 a0_1, .slice A0_2 l0_2.length c0_2] 24); rw [← hw_] at hk_; have BK0 := A_ hk_; have hs_ : wb_0.heap.size = w.heap.size + 1 := (by rw [hw_]; simp); have HNB_0 := HT.out; clear HT; have HT := A_ (Nat.le_of_eq hs_.symm); have z_ := A_ (below_step tb_ hb_); clear HB; have HB := z_; clear z_; clear hb_ hk_ hs_ hw_; (with_reducible refine (laws_szBoard.calls a0_0 a0_1 A0_2 c0_2 l0_2 1048576 s0 _ ?s0 ?s1 T1.out).mono ?_); (case s0 => exact Kd.C_below HR0_2.out tb_); (case s1 => exact HC0_2.out); rintro e w_0 ⟨rfl, hb⟩; refine ⟨_, rfl, ?_⟩; have z_ := A_ (blk_below (tk_ BK0) hb); clear BK0; have BK0 := z_; clear z_; have hz0_0_0 := blk_cell BK0.out 0; have hz0_0_1 := blk_cell BK0.out 1; have hz0_0_2 := blk_cell BK0.out 2; have z_ := A_ (Nat.le_trans HT.out hb.size); clear HT; have HT := z_; clear z_; have z_ := A_ (below_step tb_ hb); clear HB; have HB := z_; clear z_ hb))
  go_ret
  exact ⟨rfl, tb_⟩
 ·
  rw [if_neg cgz] at h
  clear cgz
  have hT : laws_FnExactFirstKings.Tests k a0_0 a0_1 l0_2 a1 := by
   refine Classical.byContradiction (fun hT => ?_)
   rw [if_neg hT] at h; cases h
  rw [if_pos hT] at h
  obtain rfl := Option.some.inj h
  clear h
  obtain ⟨s0, g0_, g1_, m8, n8, m10, n10, T0, T1, T2, T3, T4, T5, T6, T7, T8, T9, T10, T11⟩ := hT
  have T0b := decide_eq_false (Int.not_lt.mpr T0)
  replace T0 := A_ T0
  replace T1 := A_ T1
  replace T2 := A_ T2
  replace T3 := A_ T3
  replace T4 := A_ T4
  replace T5 := A_ T5
  replace T6 := A_ T6
  have T7b := decide_eq_false (Int.not_lt.mpr T7)
  replace T7 := A_ T7
  replace T8 := A_ T8
  have T9b := decide_eq_false (Int.not_lt.mpr T9)
  replace T9 := A_ T9
  replace T10 := A_ T10
  replace T11 := A_ T11
  have HR0_2 := A_ hr0_2
  have HC0_2 := A_ hc0_2
  clear hr0_2 hc0_2
  go_enter Try.func7, Try.ntmps7
  go_wp2_with (first | (refine gc_ 17 ?_; refine goesL_ (some 18) rfl rfl Try.func17 (by kernel_rfl) rfl #[.agg #[.int .i64 a0_0, .int .i64 a0_1, .slice A0_2 l0_2.length c0_2], .int .i64 1048576] rfl (by (try simp only [List.map_toArray, List.map_cons, List.map_nil]); first | done | rfl) ?_; obtain ⟨wb_0, hw_⟩ : ∃ x_, x_ = w.alloc (.cells #[.int .i64 a0_0, .int .i64 a0_1, .slice A0_2 l0_2.length c0_2] 24) := ⟨_, rfl⟩; rw [← hw_]; have hb_ := below_alloc (Below.refl _ w) (.cells #[.int .i64 a0_0, .int .i64 a0_1, .slice A0_2 l0_2.length c0_2] 24); rw [← hw_] at hb_; have hk_ := blk_new w (.cells #[.int .i64 a0_0, .int .i64 a0_1, .slice A0_2 l0_2.length c0_2] 24); rw [← hw_] at hk_; have BK0 := A_ hk_; have hs_ : wb_0.heap.size = w.heap.size + 1 := (by rw [hw_]; simp); have HNB_0 := HT.out; clear HT; have HT := A_ (Nat.le_of_eq hs_.symm); have z_ := A_ (below_step tb_ hb_); clear HB; have HB := z_; clear z_; clear hb_ hk_ hs_ hw_; (with_reducible refine (laws_szBoard.calls a0_0 a0_1 A0_2 c0_2 l0_2 1048576 s0 _ ?s0 ?s1 T1.out).mono ?_); (case s0 => exact Kd.C_below HR0_2.out tb_); (case s1 => exact HC0_2.out); rintro e w_0 ⟨rfl, hb⟩; refine ⟨_, rfl, ?_⟩; have z_ := A_ (blk_below (tk_ BK0) hb); clear BK0; have BK0 := z_; clear z_; have hz0_0_0 := blk_cell BK0.out 0; have hz0_0_1 := blk_cell BK0.out 1; have hz0_0_2 := blk_cell BK0.out 2; have z_ := A_ (Nat.le_trans HT.out hb.size); clear HT; have HT := z_; clear z_; have z_ := A_ (below_step tb_ hb); clear HB; have HB := z_; clear z_ hb) | (refine gc_ 19 ?_; refine goesL_ (some 23) rfl rfl Try.func19 (by kernel_rfl) rfl #[.agg #[.int .i64 a0_0, .int .i64 a0_1, .slice A0_2 l0_2.length c0_2]] rfl (by (try simp only [List.map_toArray, List.map_cons, List.map_nil]); first | done | rfl) ?_; (with_reducible refine (laws_toBoard.calls k a0_0 a0_1 A0_2 c0_2 l0_2 a0_0 a0_1 l0_2 _ ?s0 ?s1 T2.out).mono ?_); (case s0 => exact Kd.C_below HR0_2.out tb_); (case s1 => exact HC0_2.out); rintro e w_1 ⟨v1_0, rfl, ho0, hb⟩; refine ⟨_, rfl, ?_⟩; have z_ := A_ (blk_below (tk_ BK0) hb); clear BK0; have BK0 := z_; clear z_; have hz1_0_0 := blk_cell BK0.out 0; have hz1_0_1 := blk_cell BK0.out 1; have hz1_0_2 := blk_cell BK0.out 2; obtain ⟨p_1, q_1, hn_, hp_, hq_⟩   := Fn.law_span hb HT.out; have HN_1 := A_ hn_; obtain ⟨A_12, c_12, e_⟩ := Kd.R_slice ho0; subst e_; have HO_12 := A_ (Kd.R_lower (Kd.R_mono (Kd.R_bound ho0) (fun k_ hk_ => (⟨by have := hk_.2.1; omega, by have := hk_.2.2.1; omega⟩ : p_1 ≤ k_ ∧ k_ < q_1))) (below_size tb_)); clear ho0; clear hn_ hp_ HT; have HT := A_ (Nat.le_of_eq hq_); clear hq_; have z_ := A_ (below_step tb_ hb); clear HB; have HB := z_; clear z_ hb) | (refine gc_ 33 ?_; refine goesL_ (some 25) rfl rfl Try.func33 (by kernel_rfl) rfl #[.agg #[.int .i64 a0_0, .int .i64 a0_1, .slice A_12 l0_2.length c_12], .int .i64 a1] rfl (by (try simp only [List.map_toArray, List.map_cons, List.map_nil]); first | done | rfl) ?_; (with_reducible refine (spec_FirstKings.calls k a0_0 a0_1 A_12 c_12 l0_2 a1 g0_ g1_ _ ?s0 ?s1 T3.out).mono ?_); (case s0 => exact (Kd.R_reads' (ts2_x HO_12.out)).2.2); (case s1 => (have h1_ := Kd.R_reads' HO_12.out; have h2_ := h1_.1; have h3_ := h1_.2.1; omega)); rintro e w_2 ⟨v2_0, rfl, ho0, hb⟩; refine ⟨_, rfl, ?_⟩; have z_ := A_ (blk_below (tk_ BK0) hb); clear BK0; have BK0 := z_; clear z_; have hz2_0_0 := blk_cell BK0.out 0; have hz2_0_1 := blk_cell BK0.out 1; have hz2_0_2 := blk_cell BK0.out 2; have z_ := A_ (Kd.R_below (ts2_x HO_12.out) hb); clear HO_12; have HO_12 := z_; clear z_; obtain ⟨p_2, q_2, hn_, hp_, hq_⟩   := Fn.law_span hb HT.out; have HN_2 := A_ hn_; obtain ⟨A_20, c_20, e_⟩ := Kd.S_slice ho0; subst e_; have HO_20 := A_ (Kd.S_lower (Kd.S_mono (Kd.S_bound ho0) (fun k_ hk_ => (⟨by have := hk_.2.1; omega, by have := hk_.2.2.1; omega⟩ : p_2 ≤ k_ ∧ k_ < q_2))) (below_size tb_)); clear ho0; clear hn_ hp_ HT; have HT := A_ (Nat.le_of_eq hq_); clear hq_; have z_ := A_ (below_step tb_ hb); clear HB; have HB := z_; clear z_ hb) | (refine gc_ 19 ?_; refine goesL_ (some 29) rfl rfl Try.func19 (by kernel_rfl) rfl #[.agg #[.int .i64 a0_0, .int .i64 a0_1, .slice A0_2 l0_2.length c0_2]] rfl (by (try simp only [List.map_toArray, List.map_cons, List.map_nil]); first | done | rfl) ?_; (with_reducible refine (laws_toBoard.calls k a0_0 a0_1 A0_2 c0_2 l0_2 a0_0 a0_1 l0_2 _ ?s0 ?s1 T2.out).mono ?_); (case s0 => exact Kd.C_below HR0_2.out tb_); (case s1 => exact HC0_2.out); rintro e w_3 ⟨v3_0, rfl, ho0, hb⟩; refine ⟨_, rfl, ?_⟩; have z_ := A_ (blk_below (tk_ BK0) hb); clear BK0; have BK0 := z_; clear z_; have hz3_0_0 := blk_cell BK0.out 0; have hz3_0_1 := blk_cell BK0.out 1; have hz3_0_2 := blk_cell BK0.out 2; have z_ := A_ (Kd.R_below (ts2_x HO_12.out) hb); clear HO_12; have HO_12 := z_; clear z_; have z_ := A_ (Kd.S_below (ts2_x HO_20.out) hb); clear HO_20; have HO_20 := z_; clear z_; obtain ⟨p_3, q_3, hn_, hp_, hq_⟩   := Fn.law_span hb HT.out; have HN_3 := A_ hn_; obtain ⟨A_32, c_32, e_⟩ := Kd.R_slice ho0; subst e_; have HO_32 := A_ (Kd.R_lower (Kd.R_mono (Kd.R_bound ho0) (fun k_ hk_ => (⟨by have := hk_.2.1; omega, by have := hk_.2.2.1; omega⟩ : p_3 ≤ k_ ∧ k_ < q_3))) (below_size tb_)); clear ho0; clear hn_ hp_ HT; have HT := A_ (Nat.le_of_eq hq_); clear hq_; have z_ := A_ (below_step tb_ hb); clear HB; have HB := z_; clear z_ hb) | (refine gc_ 34 ?_; refine goesL_ (some 33) rfl rfl Try.func34 (by kernel_rfl) rfl #[.agg #[.int .i64 a0_0, .int .i64 a0_1, .slice A_32 l0_2.length c_32], .int .i64 a1] rfl (by (try simp only [List.map_toArray, List.map_cons, List.map_nil]); first | done | rfl) ?_; obtain ⟨wb_1, hw_⟩ : ∃ x_, x_ = w_3.alloc (.cells #[.int .i64 a0_0, .int .i64 a0_1, .slice A_32 l0_2.length c_32] 26) := ⟨_, rfl⟩; rw [← hw_]; have hb_ := below_alloc (Below.refl _ w_3) (.cells #[.int .i64 a0_0, .int .i64 a0_1, .slice A_32 l0_2.length c_32] 26); rw [← hw_] at hb_; have hk_ := blk_new w_3 (.cells #[.int .i64 a0_0, .int .i64 a0_1, .slice A_32 l0_2.length c_32] 26); rw [← hw_] at hk_; have BK1 := A_ hk_; have hs_ : wb_1.heap.size = w_3.heap.size + 1 := (by rw [hw_]; simp); have HNB_1 := HT.out; clear HT; have HT := A_ (Nat.le_of_eq hs_.symm); have z_ := A_ (below_step tb_ hb_); clear HB; have HB := z_; clear z_; have z_ := A_ (Kd.R_below (ts2_x HO_12.out) hb_); clear HO_12; have HO_12 := z_; clear z_; have z_ := A_ (Kd.S_below (ts2_x HO_20.out) hb_); clear HO_20; have HO_20 := z_; clear z_; have z_ := A_ (Kd.R_below (ts2_x HO_32.out) hb_); clear HO_32; have HO_32 := z_; clear z_; have z_ := A_ (blk_below (tk_ BK0) hb_); clear BK0; have BK0 := z_; clear z_; clear hb_ hk_ hs_ hw_; (with_reducible refine (impl_FirstKings.calls k a0_0 a0_1 A_32 c_32 l0_2 a1 g0_ g1_ _ ?s0 ?s1 T4.out).mono ?_); (case s0 => exact (Kd.R_reads' (ts2_x HO_32.out)).2.2); (case s1 => (have h1_ := Kd.R_reads' HO_32.out; have h2_ := h1_.1; have h3_ := h1_.2.1; omega)); rintro e w_4 ⟨v4_0, rfl, ho0, hb⟩; refine ⟨_, rfl, ?_⟩; have z_ := A_ (blk_below (tk_ BK0) hb); clear BK0; have BK0 := z_; clear z_; have hz4_0_0 := blk_cell BK0.out 0; have hz4_0_1 := blk_cell BK0.out 1; have hz4_0_2 := blk_cell BK0.out 2; have z_ := A_ (blk_below (tk_ BK1) hb); clear BK1; have BK1 := z_; clear z_; have hz4_1_0 := blk_cell BK1.out 0; have hz4_1_1 := blk_cell BK1.out 1; have hz4_1_2 := blk_cell BK1.out 2; have z_ := A_ (Kd.R_below (ts2_x HO_12.out) hb); clear HO_12; have HO_12 := z_; clear z_; have z_ := A_ (Kd.S_below (ts2_x HO_20.out) hb); clear HO_20; have HO_20 := z_; clear z_; have z_ := A_ (Kd.R_below (ts2_x HO_32.out) hb); clear HO_32; have HO_32 := z_; clear z_; obtain ⟨p_4, q_4, hn_, hp_, hq_⟩   := Fn.law_span hb HT.out; have HN_4 := A_ hn_; obtain ⟨A_40, c_40, e_⟩ := Kd.S_slice ho0; subst e_; have HO_40 := A_ (Kd.S_lower (Kd.S_mono (Kd.S_bound ho0) (fun k_ hk_ => (⟨by have := hk_.2.1; omega, by have := hk_.2.2.1; omega⟩ : p_4 ≤ k_ ∧ k_ < q_4))) (below_size tb_)); clear ho0; clear hn_ hp_ HT; have HT := A_ (Nat.le_of_eq hq_); clear hq_; have z_ := A_ (below_step tb_ hb); clear HB; have HB := z_; clear z_ hb) | (refine gc_ 35 ?_; refine goesL_ (some 38) rfl rfl Try.func35 (by kernel_rfl) rfl #[.slice A_40 g0_.length c_40, .slice A_20 g0_.length c_20] rfl (by (try simp only [List.map_toArray, List.map_cons, List.map_nil]); first | done | rfl) ?_; (with_reducible refine (laws_eqIntSS.calls k A_40 c_40 g0_ A_20 c_20 g0_ true _ ?s0 ?s1 ?s2 ?s3 T5.out).mono ?_); (case s0 => exact (Kd.S_reads' (ts2_x HO_40.out)).2.2); (case s1 => (have h1_ := Kd.S_reads' HO_40.out; have h2_ := h1_.1; have h3_ := h1_.2.1; omega)); (case s2 => exact (Kd.S_reads' (ts2_x HO_20.out)).2.2); (case s3 => (have h1_ := Kd.S_reads' HO_20.out; have h2_ := h1_.1; have h3_ := h1_.2.1; omega)); rintro e w' ⟨rfl, ⟨nd_5, rfl⟩⟩; refine ⟨_, rfl, ?_⟩))
  have BKS0_ := A_ BK0.out
  have BKS1_ := A_ BK1.out
  refine start_ (n := 5) (S := fun w' => Below w_4.heap.size w_4 w') (ds := []) (Fn.bl 5 0) (by kernel_rfl) rfl rfl (by repeat (first | (with_reducible exact Below.refl _ _) | apply below_drew | apply pw_below_drewN | apply below_drew1)) (fun hHeld => ?_)
  generalize World.drew _ = wd_10 at hHeld ⊢
  have hb := hHeld
  replace BK0 := A_ (blk_below BK0.out hb)
  replace BK1 := A_ (blk_below BK1.out hb)
  replace HO_12 := A_ (Kd.R_below HO_12.out hb)
  replace HO_20 := A_ (Kd.S_below HO_20.out hb)
  replace HO_32 := A_ (Kd.R_below HO_32.out hb)
  replace HO_40 := A_ (Kd.S_below HO_40.out hb)
  replace HT := A_ (Nat.le_trans HT.out hb.size)
  replace HB := A_ (below_step tb_ hb)
  clear hb
  refine take_ (i := 0) (N := some 45) (v := ?_) (a' := ?_) (Fn.bl 5 1) rfl rfl (by kernel_rfl) (fun _ _ _ h => h) (Or.inl ⟨by rfl, ?_⟩) hHeld ?_ ?_
  rotate_left
  ·
   intro w' s0
   have h0_ := blk_cell (blk_below (show w_4.heap[w_3.heap.size]? = _ from BKS1_.out) s0) 0
   have h1_ := blk_cell (blk_below (show w_4.heap[w_3.heap.size]? = _ from BKS1_.out) s0) 1
   have h2_ := blk_cell (blk_below (show w_4.heap[w_3.heap.size]? = _ from BKS1_.out) s0) 2
   go_simp
   with_reducible rfl
  rotate_left
  ·
   simp only [Act.put, List.setIfInBounds_toArray, List.set_cons_zero, List.set_cons_succ, i64_w, i32_w]
   rfl
  refine take_ (i := 1) (N := some 46) (v := ?_) (a' := ?_) (Fn.bl 5 3) rfl rfl (by kernel_rfl) (fun _ _ _ h => h) (Or.inl ⟨by rfl, ?_⟩) hHeld ?_ ?_
  rotate_left
  ·
   intro w' s0
   have h0_ := blk_cell (blk_below (show w_4.heap[w.heap.size]? = _ from BKS0_.out) s0) 0
   have h1_ := blk_cell (blk_below (show w_4.heap[w.heap.size]? = _ from BKS0_.out) s0) 1
   have h2_ := blk_cell (blk_below (show w_4.heap[w.heap.size]? = _ from BKS0_.out) s0) 2
   go_simp
   with_reducible rfl
  rotate_left
  ·
   simp only [Act.put, List.setIfInBounds_toArray, List.set_cons_zero, List.set_cons_succ, i64_w, i32_w]
   rfl
  refine one_ (i := 2) (N := some 47) (Fn.bl 5 7) rfl rfl (by kernel_rfl) (by decide) (fun K hK => ?_)
  refine goes_ Try.func19 (by kernel_rfl) rfl #[.agg #[.int .i64 a0_0, .int .i64 a0_1, .slice A0_2 l0_2.length c0_2]] (by rfl) rfl rfl (by (try simp only [List.map_toArray, List.map_cons, List.map_nil]); first | done | rfl) ?_
  (with_reducible refine (laws_toBoard.calls k a0_0 a0_1 A0_2 c0_2 l0_2 a0_0 a0_1 l0_2 _ ?s0 ?s1 T2.out).mono ?_)
  (case s0 => exact Kd.C_below HR0_2.out tb_)
  (case s1 => exact HC0_2.out)
  rintro e w_6 ⟨v6_0, rfl, ho0, hb⟩
  refine ⟨_, rfl, ?_⟩
  have hS_ := below_then hHeld hHeld.size hb
  clear hHeld
  have z_ := A_ (blk_below (tk_ BK0) hb)
  clear BK0
  have BK0 := z_
  clear z_
  have hz6_0_0 := blk_cell BK0.out 0
  have hz6_0_1 := blk_cell BK0.out 1
  have hz6_0_2 := blk_cell BK0.out 2
  have z_ := A_ (blk_below (tk_ BK1) hb)
  clear BK1
  have BK1 := z_
  clear z_
  have hz6_1_0 := blk_cell BK1.out 0
  have hz6_1_1 := blk_cell BK1.out 1
  have hz6_1_2 := blk_cell BK1.out 2
  have z_ := A_ (Kd.R_below (ts2_x HO_12.out) hb)
  clear HO_12
  have HO_12 := z_
  clear z_
  have z_ := A_ (Kd.S_below (ts2_x HO_20.out) hb)
  clear HO_20
  have HO_20 := z_
  clear z_
  have z_ := A_ (Kd.R_below (ts2_x HO_32.out) hb)
  clear HO_32
  have HO_32 := z_
  clear z_
  have z_ := A_ (Kd.S_below (ts2_x HO_40.out) hb)
  clear HO_40
  have HO_40 := z_
  clear z_
  obtain ⟨p_6, q_6, hn_, hp_, hq_⟩   := Fn.law_span hb HT.out
  have HN_6 := A_ hn_
  obtain ⟨A_62, c_62, e_⟩ := Kd.R_slice ho0
  subst e_
  have HO_62 := A_ (Kd.R_lower (Kd.R_mono (Kd.R_bound ho0) (fun k_ hk_ => (⟨by have := hk_.2.1; omega, by have := hk_.2.2.1; omega⟩ : p_6 ≤ k_ ∧ k_ < q_6))) (below_size tb_))
  clear ho0
  clear hn_ hp_ HT
  have HT := A_ (Nat.le_of_eq hq_)
  clear hq_
  have z_ := A_ (below_step tb_ hb)
  clear HB
  have HB := z_
  clear z_ hb
  refine hK.out _ _ hS_ (fun hHeld => ?_)
  clear hK K
  refine norm_ (a' := ?_) ?_ ?_
  rotate_left
  ·
   show Act.put _ (some 47) _ = _
   simp only [Act.put, List.setIfInBounds_toArray, List.set_cons_zero, List.set_cons_succ, i64_w, i32_w]
   rfl
  refine one_ (i := 3) (N := some 48) (Fn.bl 5 15) rfl rfl (by kernel_rfl) (by decide) (fun K hK => ?_)
  refine goes_ Try.func21 (by kernel_rfl) rfl #[.agg #[.int .i64 a0_0, .int .i64 a0_1, .slice A_32 l0_2.length c_32], .agg #[.int .i64 a0_0, .int .i64 a0_1, .slice A_62 l0_2.length c_62]] (by rfl) rfl rfl (by (try simp only [List.map_toArray, List.map_cons, List.map_nil]); first | done | rfl) ?_
  (with_reducible refine (laws_eqBoard.calls k a0_0 a0_1 A_32 c_32 l0_2 a0_0 a0_1 A_62 c_62 l0_2 true _ ?s0 ?s1 ?s2 ?s3 T6.out).mono ?_)
  (case s0 => exact (Kd.R_reads' (ts2_x HO_32.out)).2.2)
  (case s1 => (have h1_ := Kd.R_reads' HO_32.out; have h2_ := h1_.1; have h3_ := h1_.2.1; omega))
  (case s2 => exact (Kd.R_reads' (ts2_x HO_62.out)).2.2)
  (case s3 => (have h1_ := Kd.R_reads' HO_62.out; have h2_ := h1_.1; have h3_ := h1_.2.1; omega))
  rintro e w_7 ⟨rfl, hb⟩
  refine ⟨_, rfl, ?_⟩
  have hS_ := below_then hHeld hHeld.size hb
  clear hHeld
  have z_ := A_ (blk_below (tk_ BK0) hb)
  clear BK0
  have BK0 := z_
  clear z_
  have hz7_0_0 := blk_cell BK0.out 0
  have hz7_0_1 := blk_cell BK0.out 1
  have hz7_0_2 := blk_cell BK0.out 2
  have z_ := A_ (blk_below (tk_ BK1) hb)
  clear BK1
  have BK1 := z_
  clear z_
  have hz7_1_0 := blk_cell BK1.out 0
  have hz7_1_1 := blk_cell BK1.out 1
  have hz7_1_2 := blk_cell BK1.out 2
  have z_ := A_ (Kd.R_below (ts2_x HO_12.out) hb)
  clear HO_12
  have HO_12 := z_
  clear z_
  have z_ := A_ (Kd.S_below (ts2_x HO_20.out) hb)
  clear HO_20
  have HO_20 := z_
  clear z_
  have z_ := A_ (Kd.R_below (ts2_x HO_32.out) hb)
  clear HO_32
  have HO_32 := z_
  clear z_
  have z_ := A_ (Kd.S_below (ts2_x HO_40.out) hb)
  clear HO_40
  have HO_40 := z_
  clear z_
  have z_ := A_ (Kd.R_below (ts2_x HO_62.out) hb)
  clear HO_62
  have HO_62 := z_
  clear z_
  have z_ := A_ (Nat.le_trans HT.out hb.size)
  clear HT
  have HT := z_
  clear z_
  have z_ := A_ (below_step tb_ hb)
  clear HB
  have HB := z_
  clear z_ hb
  refine hK.out _ _ hS_ (fun hHeld => ?_)
  clear hK K
  refine norm_ (a' := ?_) ?_ ?_
  rotate_left
  ·
   show Act.put _ (some 48) _ = _
   simp only [Act.put, List.setIfInBounds_toArray, List.set_cons_zero, List.set_cons_succ, i64_w, i32_w]
   rfl
  refine take_ (i := 4) (N := some 49) (v := ?_) (a' := ?_) (Fn.bl 5 31) rfl rfl (by kernel_rfl) (fun _ _ _ h => h) (Or.inl ⟨by rfl, ?_⟩) hHeld ?_ ?_
  rotate_left
  ·
   intro w' s0
   go_simp
   with_reducible rfl
  rotate_left
  ·
   simp only [Act.put, List.setIfInBounds_toArray, List.set_cons_zero, List.set_cons_succ, i64_w, i32_w]
   rfl
  refine done_ (by kernel_rfl) ?_
  clear hHeld hS_ BKS0_ BKS1_
  go_wp2_with (first | (refine gc_ 22 ?_; refine goesL_ (some 52) rfl rfl Try.func22 (by kernel_rfl) rfl #[.agg #[.int .i64 a0_0, .int .i64 a0_1, .slice A_32 l0_2.length c_32], .int .i64 1] rfl (by (try simp only [List.map_toArray, List.map_cons, List.map_nil]); first | done | rfl) ?_; (with_reducible refine (laws_markBoard.calls k a0_0 a0_1 (fun k_ => p_3 ≤ k_ ∧ k_ < q_3) (.slice A_32 l0_2.length c_32) l0_2 1 m8 n8 w _ ?s0 ?s1 T8.out).mono ?_); (case s0 => exact tb_); (case s1 => exact (ts2_x HO_32.out)); rintro e w_8 ⟨rfl, ho0, hb, hkp⟩; refine ⟨_, rfl, ?_⟩; have z_ := A_ ((hkp.2 _ (blk_lt (tk_ BK0)) (fun h_ => by have := HN_1.out; have := HN_2.out; have := HN_3.out; have := HN_4.out; have := HN_6.out; have := HNB_0; have := HNB_1; obtain ⟨_, _⟩ := h_; omega)).trans (tk_ BK0)); clear BK0; have BK0 := z_; clear z_; have hz8_0_0 := blk_cell BK0.out 0; have hz8_0_1 := blk_cell BK0.out 1; have hz8_0_2 := blk_cell BK0.out 2; have z_ := A_ ((hkp.2 _ (blk_lt (tk_ BK1)) (fun h_ => by have := HN_1.out; have := HN_2.out; have := HN_3.out; have := HN_4.out; have := HN_6.out; have := HNB_0; have := HNB_1; obtain ⟨_, _⟩ := h_; omega)).trans (tk_ BK1)); clear BK1; have BK1 := z_; clear z_; have z_ := A_ (Kd.S_step (ts2_x HO_20.out) (fun k_ hk_ hlt_ => hkp.2 k_ hlt_ (fun h_ => by have := HN_1.out; have := HN_2.out; have := HN_3.out; have := HN_4.out; have := HN_6.out; obtain ⟨_, _⟩ := hk_; obtain ⟨_, _⟩ := h_; omega))); clear HO_20; have HO_20 := z_; clear z_; have z_ := A_ (Kd.S_step (ts2_x HO_40.out) (fun k_ hk_ hlt_ => hkp.2 k_ hlt_ (fun h_ => by have := HN_1.out; have := HN_2.out; have := HN_3.out; have := HN_4.out; have := HN_6.out; obtain ⟨_, _⟩ := hk_; obtain ⟨_, _⟩ := h_; omega))); clear HO_40; have HO_40 := z_; clear z_; clear ho0; have z_ := A_ (Nat.le_trans HT.out hkp.1); clear HT; have HT := z_; clear z_; clear HB; have HB := A_ hb; clear hb hkp) | (go_at_call 35; (with_reducible refine (laws_eqIntSS.calls k A_40 c_40 g0_ A_20 c_20 g0_ true _ ?s0 ?s1 ?s2 ?s3 T5.out).mono ?_); (case s0 => exact (Kd.S_reads' (ts2_x HO_40.out)).2.2); (case s1 => (have h1_ := Kd.S_reads' HO_40.out; have h2_ := h1_.1; have h3_ := h1_.2.1; omega)); (case s2 => exact (Kd.S_reads' (ts2_x HO_20.out)).2.2); (case s3 => (have h1_ := Kd.S_reads' HO_20.out; have h2_ := h1_.1; have h3_ := h1_.2.1; omega)); rintro e w' ⟨rfl, ⟨nd_9, rfl⟩⟩) | (refine gc_ 36 ?_; refine goesL_ (some 68) rfl rfl Try.func36 (by kernel_rfl) rfl #[.slice A_40 g0_.length c_40, .int .i64 1] rfl (by (try simp only [List.map_toArray, List.map_cons, List.map_nil]); first | done | rfl) ?_; (with_reducible refine (laws_markIntSS.calls k (fun k_ => p_4 ≤ k_ ∧ k_ < q_4) (.slice A_40 g0_.length c_40) g0_ 1 m10 n10 w _ ?s0 ?s1 T10.out).mono ?_); (case s0 => exact tb_); (case s1 => exact (ts2_x HO_40.out)); rintro e w_10 ⟨rfl, ho0, hb, hkp⟩; refine ⟨_, rfl, ?_⟩; have z_ := A_ ((hkp.2 _ (blk_lt (tk_ BK0)) (fun h_ => by have := HN_1.out; have := HN_2.out; have := HN_3.out; have := HN_4.out; have := HN_6.out; have := HNB_0; have := HNB_1; obtain ⟨_, _⟩ := h_; omega)).trans (tk_ BK0)); clear BK0; have BK0 := z_; clear z_; have hz10_0_0 := blk_cell BK0.out 0; have hz10_0_1 := blk_cell BK0.out 1; have hz10_0_2 := blk_cell BK0.out 2; have z_ := A_ (Kd.S_step (ts2_x HO_20.out) (fun k_ hk_ hlt_ => hkp.2 k_ hlt_ (fun h_ => by have := HN_1.out; have := HN_2.out; have := HN_3.out; have := HN_4.out; have := HN_6.out; obtain ⟨_, _⟩ := hk_; obtain ⟨_, _⟩ := h_; omega))); clear HO_20; have HO_20 := z_; clear z_; clear HO_40; have HO_40 := A_ ho0; clear ho0; have e_ := (Kd.S_reads' HO_40.out).1; have HO_40E := A_ e_; clear e_; have z_ := A_ (Nat.le_trans HT.out hkp.1); clear HT; have HT := z_; clear z_; clear HB; have HB := A_ hb; clear hb hkp) | (refine gc_ 37 ?_; refine goesL_ (some 71) rfl rfl Try.func37 (by kernel_rfl) rfl #[.slice A_40 n10.length c_40, .int .i64 1] rfl (by (try simp only [List.map_toArray, List.map_cons, List.map_nil]); first | done | (rw [← HO_40E.out] <;> rfl) | rfl) ?_; (with_reducible refine (laws_heldIntSS.calls k A_40 c_40 n10 1 m10 _ ?s0 ?s1 T11.out).mono ?_); (case s0 => exact (Kd.S_reads' (ts2_x HO_40.out)).2.2); (case s1 => (have h1_ := Kd.S_reads' HO_40.out; have h2_ := h1_.1; have h3_ := h1_.2.1; omega)); rintro e w' ⟨rfl, ⟨nd_11, rfl⟩⟩; refine ⟨_, rfl, ?_⟩) | (refine gc_ 19 ?_; refine goesL_ (some 79) rfl rfl Try.func19 (by kernel_rfl) rfl #[.agg #[.int .i64 a0_0, .int .i64 a0_1, .slice A0_2 l0_2.length c0_2]] rfl (by (try simp only [List.map_toArray, List.map_cons, List.map_nil]); first | done | (rw [← HO_40E.out] <;> rfl) | rfl) ?_; (with_reducible refine (laws_toBoard.calls k a0_0 a0_1 A0_2 c0_2 l0_2 a0_0 a0_1 l0_2 _ ?s0 ?s1 T2.out).mono ?_); (case s0 => exact Kd.C_below HR0_2.out tb_); (case s1 => exact HC0_2.out); rintro e w_12 ⟨v12_0, rfl, ho0, hb⟩; refine ⟨_, rfl, ?_⟩; have z_ := A_ (blk_below (tk_ BK0) hb); clear BK0; have BK0 := z_; clear z_; have z_ := A_ (Kd.S_below (ts2_x HO_20.out) hb); clear HO_20; have HO_20 := z_; clear z_; have z_ := A_ (Kd.S_below (ts2_x HO_40.out) hb); clear HO_40; have HO_40 := z_; clear z_; obtain ⟨p_12, q_12, hn_, hp_, hq_⟩   := Fn.law_span hb HT.out; have HN_12 := A_ hn_; obtain ⟨A_122, c_122, e_⟩ := Kd.R_slice ho0; subst e_; have HO_122 := A_ (Kd.R_lower (Kd.R_mono (Kd.R_bound ho0) (fun k_ hk_ => (⟨by have := hk_.2.1; omega, by have := hk_.2.2.1; omega⟩ : p_12 ≤ k_ ∧ k_ < q_12))) (below_size tb_)); clear ho0; clear hn_ hp_ HT; have HT := A_ (Nat.le_of_eq hq_); clear hq_; have z_ := A_ (below_step tb_ hb); clear HB; have HB := z_; clear z_ hb) | (refine gc_ 34 ?_; refine goesL_ (some 81) rfl rfl Try.func34 (by kernel_rfl) rfl #[.agg #[.int .i64 a0_0, .int .i64 a0_1, .slice A_122 l0_2.length c_122], .int .i64 a1] rfl (by (try simp only [List.map_toArray, List.map_cons, List.map_nil]); first | done | (rw [← HO_40E.out] <;> rfl) | rfl) ?_; (with_reducible refine (impl_FirstKings.calls k a0_0 a0_1 A_122 c_122 l0_2 a1 g0_ g1_ _ ?s0 ?s1 T4.out).mono ?_); (case s0 => exact (Kd.R_reads' (ts2_x HO_122.out)).2.2); (case s1 => (have h1_ := Kd.R_reads' HO_122.out; have h2_ := h1_.1; have h3_ := h1_.2.1; omega)); rintro e w_13 ⟨v13_0, rfl, ho0, hb⟩; refine ⟨_, rfl, ?_⟩; have z_ := A_ (Kd.S_below (ts2_x HO_20.out) hb); clear HO_20; have HO_20 := z_; clear z_; have z_ := A_ (Kd.S_below (ts2_x HO_40.out) hb); clear HO_40; have HO_40 := z_; clear z_; have z_ := A_ (Kd.R_below (ts2_x HO_122.out) hb); clear HO_122; have HO_122 := z_; clear z_; obtain ⟨p_13, q_13, hn_, hp_, hq_⟩   := Fn.law_span hb HT.out; have HN_13 := A_ hn_; obtain ⟨A_130, c_130, e_⟩ := Kd.S_slice ho0; subst e_; have HO_130 := A_ (Kd.S_lower (Kd.S_mono (Kd.S_bound ho0) (fun k_ hk_ => (⟨by have := hk_.2.1; omega, by have := hk_.2.2.1; omega⟩ : p_13 ≤ k_ ∧ k_ < q_13))) (below_size tb_)); clear ho0; clear hn_ hp_ HT; have HT := A_ (Nat.le_of_eq hq_); clear hq_; have z_ := A_ (below_step tb_ hb); clear HB; have HB := z_; clear z_ hb) | (refine gc_ 35 ?_; refine goesL_ (some 86) rfl rfl Try.func35 (by kernel_rfl) rfl #[.slice A_130 g0_.length c_130, .slice A_20 g0_.length c_20] rfl (by (try simp only [List.map_toArray, List.map_cons, List.map_nil]); first | done | (rw [← HO_40E.out] <;> rfl) | rfl) ?_; (with_reducible refine (laws_eqIntSS.calls k A_130 c_130 g0_ A_20 c_20 g0_ true _ ?s0 ?s1 ?s2 ?s3 T5.out).mono ?_); (case s0 => exact (Kd.S_reads' (ts2_x HO_130.out)).2.2); (case s1 => (have h1_ := Kd.S_reads' HO_130.out; have h2_ := h1_.1; have h3_ := h1_.2.1; omega)); (case s2 => exact (Kd.S_reads' (ts2_x HO_20.out)).2.2); (case s3 => (have h1_ := Kd.S_reads' HO_20.out; have h2_ := h1_.1; have h3_ := h1_.2.1; omega)); rintro e w' ⟨rfl, ⟨nd_14, rfl⟩⟩; refine ⟨_, rfl, ?_⟩) | (refine gc_ 37 ?_; refine goesL_ (some 95) rfl rfl Try.func37 (by kernel_rfl) rfl #[.slice A_40 n10.length c_40, .int .i64 1] rfl (by (try simp only [List.map_toArray, List.map_cons, List.map_nil]); first | done | (rw [← HO_40E.out] <;> rfl) | rfl) ?_; (with_reducible refine (laws_heldIntSS.calls k A_40 c_40 n10 1 m10 _ ?s0 ?s1 T11.out).mono ?_); (case s0 => exact (Kd.S_reads' (ts2_x HO_40.out)).2.2); (case s1 => (have h1_ := Kd.S_reads' HO_40.out; have h2_ := h1_.1; have h3_ := h1_.2.1; omega)); rintro e w' ⟨rfl, ⟨nd_15, rfl⟩⟩; refine ⟨_, rfl, ?_⟩))
  go_ret
  exact ⟨by first | rfl | (simp <;> rfl), tb_⟩

def laws_FnExactFirstKings.Pure : Prop := ∀ (a0_0 : Int) (a0_1 : Int) (l0_2 : List Int) (a1 : Int), Fn.okI a0_0 → Fn.okI a0_1 → (Fn.okL Fn.okI) l0_2 → Fn.okI a1 → ∃ k, laws_FnExactFirstKings.f k a0_0 a0_1 l0_2 a1 = some true

end
end Go.Proofs.Ythlcaikplebpmaa.P
