-- printed functions (wip/slim.py)
import Derived.Test.YtdoflpghemgbdaaPx0
import Derived.Test.YtdoflpghemgbdaaQ3ccfaa7f03
import Derived.Test.YtdoflpghemgbdaaQb36bb1925b
import Derived.Test.YtdoflpghemgbdaaQ5ce4f7d3e5
namespace Go.Proofs.Ytdoflpghemgbdaa.P
noncomputable section
set_option maxHeartbeats 8000000
set_option maxRecDepth 100000
open Go.RowKit Go.Proofs.YtdoflpghemgbdaaW.PrintWords Go.Proofs.YtdoflpghemgbdaaW.PrintLast Go.Proofs.YtdoflpghemgbdaaW.PrintMore
attribute [local go_sem] max2_int min2_int max_two min_two max_three min_three max_four min_four   -- for this text's walks alone
set_option linter.unusedVariables false
set_option linter.unusedSimpArgs false

/-! ### laws_FnExactBishopsOf: function 7 -/
def laws_FnExactBishopsOf.Tests (k : Nat) (a0_0 : Int) (a0_1 : Int) (l0_2 : List Int) (a1 : Int) (l2 : List Int) : Prop := ∃ s0 : Int, ∃ g0_ : List (List Int), ∃ g1_ : Bool, ∃ m12 : Int, ∃ n12 : List Int, ∃ m13 : Int, ∃ n13 : List Int, ∃ m15 : Int, ∃ n15 : List (List Int), 0 ≤ s0 ∧ laws_szBoard.f a0_0 a0_1 l0_2 1048576 = some s0 ∧ laws_toBoard.f k a0_0 a0_1 l0_2 = some (a0_0, a0_1, l0_2) ∧ laws_toIntS.f k l2 = some l2 ∧ spec_BishopsOf.f k a0_0 a0_1 l0_2 a1 l2 = some (g0_, g1_) ∧ impl_BishopsOf.f k a0_0 a0_1 l0_2 a1 l2 = some (g0_, g1_) ∧ laws_eqIntSS.f k g0_ g0_ = some true ∧ laws_eqBoard.f k a0_0 a0_1 l0_2 a0_0 a0_1 l0_2 = some true ∧ laws_eqIntS.f k l2 l2 = some true ∧ 0 ≤ m12 ∧ laws_markBoard.f k a0_0 a0_1 l0_2 1 = some (m12, n12) ∧ 0 ≤ m13 ∧ laws_markIntS.f k l2 m12 = some (m13, n13) ∧ 0 ≤ m15 ∧ laws_markIntSS.f k g0_ 1 = some (m15, n15) ∧ laws_heldIntSS.f k n15 1 = some m15
open Classical in
noncomputable def laws_FnExactBishopsOf.f (k : Nat) (a0_0 : Int) (a0_1 : Int) (l0_2 : List Int) (a1 : Int) (l2 : List Int) : Option Bool := if 1048576 < (l2.length : Int) then some true else if (∃ s0 : Int, laws_szBoard.f a0_0 a0_1 l0_2 1048576 = some s0 ∧ s0 < 0) then some true else if laws_FnExactBishopsOf.Tests k a0_0 a0_1 l0_2 a1 l2 then some true else none
theorem laws_FnExactBishopsOf.calls (k : Nat) (a0_0 : Int) (a0_1 : Int) (A0_2 : Option Addr) (c0_2 : Nat) (l0_2 : List Int) (a1 : Int) (A2 : Option Addr) (c2 : Nat) (l2 : List Int) (r : Bool) (w : World) (hr0_2 : Kd.C (Kd.int .i64) w A0_2 l0_2.length l0_2) (hc0_2 : l0_2.length ≤ c0_2) (hr2 : Kd.C (Kd.int .i64) w A2 l2.length l2) (hc2 : l2.length ≤ c2) (h : laws_FnExactBishopsOf.f k a0_0 a0_1 l0_2 a1 l2 = some r) :
  Calls Try.prog 7 #[.agg #[.int .i64 a0_0, .int .i64 a0_1, .slice A0_2 l0_2.length c0_2], .int .i64 a1, .slice A2 l2.length c2] w fun e w' => e = .returned (.bool r) ∧ Below w.heap.size w w' := by
 have HB := A_ (Below.refl w.heap.size w)
 have HT := A_ (Nat.le_refl w.heap.size)
 have hu26 := Try.underlying26
 have hu67 := Try.underlying67
 unfold laws_FnExactBishopsOf.f at h
 by_cases cg0 : 1048576 < (l2.length : Int)
 ·
  rw [if_pos cg0] at h
  obtain rfl := Option.some.inj h
  have cgb0 := decide_eq_true cg0
  have cgc0 : decide ((l2.length : Int) > 1048576) = true := decide_eq_true cg0
  clear cg0 h
  go_enter Try.func7, Try.ntmps7
  go_wp2
  go_ret
  exact ⟨rfl, tb_⟩
 ·
  rw [if_neg cg0] at h
  have cgb0 := decide_eq_false cg0
  have cgc0 : decide ((l2.length : Int) > 1048576) = false := decide_eq_false cg0
  clear cg0
  by_cases cgz : (∃ s0 : Int, laws_szBoard.f a0_0 a0_1 l0_2 1048576 = some s0 ∧ s0 < 0)
  ·
   rw [if_pos cgz] at h
   obtain rfl := Option.some.inj h
   obtain ⟨s0, hs0, hs1⟩ := cgz
   have T1 := A_ hs0
   have cgb_ := decide_eq_true hs1
   clear h hs0 hs1
   have HR0_2 := A_ hr0_2
   have HC0_2 := A_ hc0_2
   clear hr0_2 hc0_2
   have HR2 := A_ hr2
   have HC2 := A_ hc2
   clear hr2 hc2
   go_enter Try.func7, Try.ntmps7
   go_wp2_with (first | (refine gc_ 63 ?_; refine goesL_ (some 24) rfl rfl Try.func63 (by kernel_rfl) rfl #[.agg #[.int .i64 a0_0, .int .i64 a0_1, .slice A0_2 l0_2.length c0_2], .int .i64 1048576] rfl (by (try simp only [List.map_toArray, List.map_cons, List.map_nil]); first | done | rfl) ?_; obtain ⟨wb_0, hw_⟩ : ∃ x_, x_ = w.alloc (.cells #[.int .i64 a0_0, .int .i64 a0_1, .slice A0_2 l0_2.length c0_2] 67) := ⟨_, rfl⟩; rw [← hw_]; have hb_ := below_alloc (Below.refl _ w) (.cells #[.int .i64 a0_0, .int .i64 a0_1, .slice A0_2 l0_2.length c0_2] 67); rw [← hw_] at hb_; have hk_ := blk_new w (.cells #[.int .i64 a0_0, .int .i64 a0_1, .slice A0_2 l0_2.length c0_2] 67); rw [← hw_] at hk_; have BK0 := A_ hk_; have hs_ : wb_0.heap.size = w.heap.size + 1 := (by rw [hw_]; simp); have HNB_0 := HT.out; clear HT; have HT := A_ (Nat.le_of_eq hs_.symm); have z_ := A_ (below_step tb_ hb_); clear HB; have HB := z_; clear z_; clear hb_ hk_ hs_ hw_; (with_reducible refine (laws_szBoard.calls a0_0 a0_1 A0_2 c0_2 l0_2 1048576 s0 _ ?s0 ?s1 T1.out).mono ?_); (case s0 => exact Kd.C_below HR0_2.out tb_); (case s1 => exact HC0_2.out); rintro e w_0 ⟨rfl, hb⟩; refine ⟨_, rfl, ?_⟩; have z_ := A_ (blk_below (tk_ BK0) hb); clear BK0; have BK0 := z_; clear z_; have hz0_0_0 := blk_cell BK0.out 0; have hz0_0_1 := blk_cell BK0.out 1; have hz0_0_2 := blk_cell BK0.out 2; have z_ := A_ (Nat.le_trans HT.out hb.size); clear HT; have HT := z_; clear z_; have z_ := A_ (below_step tb_ hb); clear HB; have HB := z_; clear z_ hb))
   go_ret
   exact ⟨rfl, tb_⟩
  ·
   rw [if_neg cgz] at h
   clear cgz
   have hT : laws_FnExactBishopsOf.Tests k a0_0 a0_1 l0_2 a1 l2 := by
    refine Classical.byContradiction (fun hT => ?_)
    rw [if_neg hT] at h; cases h
   rw [if_pos hT] at h
   obtain rfl := Option.some.inj h
   clear h
   obtain ⟨s0, g0_, g1_, m12, n12, m13, n13, m15, n15, T0, T1, T2, T3, T4, T5, T6, T7, T8, T9, T10, T11, T12, T13, T14, T15⟩ := hT
   have T0b := decide_eq_false (Int.not_lt.mpr T0)
   replace T0 := A_ T0
   replace T1 := A_ T1
   replace T2 := A_ T2
   replace T3 := A_ T3
   replace T4 := A_ T4
   replace T5 := A_ T5
   replace T6 := A_ T6
   replace T7 := A_ T7
   replace T8 := A_ T8
   have T9b := decide_eq_false (Int.not_lt.mpr T9)
   replace T9 := A_ T9
   replace T10 := A_ T10
   have T11b := decide_eq_false (Int.not_lt.mpr T11)
   replace T11 := A_ T11
   replace T12 := A_ T12
   have T13b := decide_eq_false (Int.not_lt.mpr T13)
   replace T13 := A_ T13
   replace T14 := A_ T14
   replace T15 := A_ T15
   have HR0_2 := A_ hr0_2
   have HC0_2 := A_ hc0_2
   clear hr0_2 hc0_2
   have HR2 := A_ hr2
   have HC2 := A_ hc2
   clear hr2 hc2
   go_enter Try.func7, Try.ntmps7
   go_wp2_with (first | (refine gc_ 63 ?_; refine goesL_ (some 24) rfl rfl Try.func63 (by kernel_rfl) rfl #[.agg #[.int .i64 a0_0, .int .i64 a0_1, .slice A0_2 l0_2.length c0_2], .int .i64 1048576] rfl (by (try simp only [List.map_toArray, List.map_cons, List.map_nil]); first | done | rfl) ?_; obtain ⟨wb_0, hw_⟩ : ∃ x_, x_ = w.alloc (.cells #[.int .i64 a0_0, .int .i64 a0_1, .slice A0_2 l0_2.length c0_2] 67) := ⟨_, rfl⟩; rw [← hw_]; have hb_ := below_alloc (Below.refl _ w) (.cells #[.int .i64 a0_0, .int .i64 a0_1, .slice A0_2 l0_2.length c0_2] 67); rw [← hw_] at hb_; have hk_ := blk_new w (.cells #[.int .i64 a0_0, .int .i64 a0_1, .slice A0_2 l0_2.length c0_2] 67); rw [← hw_] at hk_; have BK0 := A_ hk_; have hs_ : wb_0.heap.size = w.heap.size + 1 := (by rw [hw_]; simp); have HNB_0 := HT.out; clear HT; have HT := A_ (Nat.le_of_eq hs_.symm); have z_ := A_ (below_step tb_ hb_); clear HB; have HB := z_; clear z_; clear hb_ hk_ hs_ hw_; (with_reducible refine (laws_szBoard.calls a0_0 a0_1 A0_2 c0_2 l0_2 1048576 s0 _ ?s0 ?s1 T1.out).mono ?_); (case s0 => exact Kd.C_below HR0_2.out tb_); (case s1 => exact HC0_2.out); rintro e w_0 ⟨rfl, hb⟩; refine ⟨_, rfl, ?_⟩; have z_ := A_ (blk_below (tk_ BK0) hb); clear BK0; have BK0 := z_; clear z_; have hz0_0_0 := blk_cell BK0.out 0; have hz0_0_1 := blk_cell BK0.out 1; have hz0_0_2 := blk_cell BK0.out 2; have z_ := A_ (Nat.le_trans HT.out hb.size); clear HT; have HT := z_; clear z_; have z_ := A_ (below_step tb_ hb); clear HB; have HB := z_; clear z_ hb) | (refine gc_ 65 ?_; refine goesL_ (some 29) rfl rfl Try.func65 (by kernel_rfl) rfl #[.agg #[.int .i64 a0_0, .int .i64 a0_1, .slice A0_2 l0_2.length c0_2]] rfl (by (try simp only [List.map_toArray, List.map_cons, List.map_nil]); first | done | rfl) ?_; (with_reducible refine (laws_toBoard.calls k a0_0 a0_1 A0_2 c0_2 l0_2 a0_0 a0_1 l0_2 _ ?s0 ?s1 T2.out).mono ?_); (case s0 => exact Kd.C_below HR0_2.out tb_); (case s1 => exact HC0_2.out); rintro e w_1 ⟨v1_0, rfl, ho0, hb⟩; refine ⟨_, rfl, ?_⟩; have z_ := A_ (blk_below (tk_ BK0) hb); clear BK0; have BK0 := z_; clear z_; have hz1_0_0 := blk_cell BK0.out 0; have hz1_0_1 := blk_cell BK0.out 1; have hz1_0_2 := blk_cell BK0.out 2; obtain ⟨p_1, q_1, hn_, hp_, hq_⟩   := Fn.law_span hb HT.out; have HN_1 := A_ hn_; obtain ⟨A_12, c_12, e_⟩ := Kd.R_slice ho0; subst e_; have HO_12 := A_ (Kd.R_lower (Kd.R_mono (Kd.R_bound ho0) (fun k_ hk_ => (⟨by have := hk_.2.1; omega, by have := hk_.2.2.1; omega⟩ : p_1 ≤ k_ ∧ k_ < q_1))) (below_size tb_)); clear ho0; clear hn_ hp_ HT; have HT := A_ (Nat.le_of_eq hq_); clear hq_; have z_ := A_ (below_step tb_ hb); clear HB; have HB := z_; clear z_ hb) | (refine gc_ 66 ?_; refine goesL_ (some 32) rfl rfl Try.func66 (by kernel_rfl) rfl #[.slice A2 l2.length c2] rfl (by (try simp only [List.map_toArray, List.map_cons, List.map_nil]); first | done | rfl) ?_; (with_reducible refine (laws_toIntS.calls k A2 c2 l2 l2 _ ?s0 ?s1 T3.out).mono ?_); (case s0 => exact Kd.C_below HR2.out tb_); (case s1 => exact HC2.out); rintro e w_2 ⟨v2_0, rfl, ho0, hb⟩; refine ⟨_, rfl, ?_⟩; have z_ := A_ (blk_below (tk_ BK0) hb); clear BK0; have BK0 := z_; clear z_; have hz2_0_0 := blk_cell BK0.out 0; have hz2_0_1 := blk_cell BK0.out 1; have hz2_0_2 := blk_cell BK0.out 2; have z_ := A_ (Kd.R_below (ts2_x HO_12.out) hb); clear HO_12; have HO_12 := z_; clear z_; obtain ⟨p_2, q_2, hn_, hp_, hq_⟩   := Fn.law_span hb HT.out; have HN_2 := A_ hn_; obtain ⟨A_20, c_20, e_⟩ := Kd.R_slice ho0; subst e_; have HO_20 := A_ (Kd.R_lower (Kd.R_mono (Kd.R_bound ho0) (fun k_ hk_ => (⟨by have := hk_.2.1; omega, by have := hk_.2.2.1; omega⟩ : p_2 ≤ k_ ∧ k_ < q_2))) (below_size tb_)); clear ho0; clear hn_ hp_ HT; have HT := A_ (Nat.le_of_eq hq_); clear hq_; have z_ := A_ (below_step tb_ hb); clear HB; have HB := z_; clear z_ hb) | (refine gc_ 64 ?_; refine goesL_ (some 33) rfl rfl Try.func64 (by kernel_rfl) rfl #[.agg #[.int .i64 a0_0, .int .i64 a0_1, .slice A_12 l0_2.length c_12], .int .i64 a1, .slice A_20 l2.length c_20] rfl (by (try simp only [List.map_toArray, List.map_cons, List.map_nil]); first | done | rfl) ?_; (with_reducible refine (spec_BishopsOf.calls k a0_0 a0_1 A_12 c_12 l0_2 a1 A_20 c_20 l2 g0_ g1_ _ ?s0 ?s1 ?s2 ?s3 T4.out).mono ?_); (case s0 => exact (Kd.R_reads' (ts2_x HO_12.out)).2.2); (case s1 => (have h1_ := Kd.R_reads' HO_12.out; have h2_ := h1_.1; have h3_ := h1_.2.1; omega)); (case s2 => exact (Kd.R_reads' (ts2_x HO_20.out)).2.2); (case s3 => (have h1_ := Kd.R_reads' HO_20.out; have h2_ := h1_.1; have h3_ := h1_.2.1; omega)); rintro e w_3 ⟨v3_0, rfl, ho0, hb⟩; refine ⟨_, rfl, ?_⟩; have z_ := A_ (blk_below (tk_ BK0) hb); clear BK0; have BK0 := z_; clear z_; have hz3_0_0 := blk_cell BK0.out 0; have hz3_0_1 := blk_cell BK0.out 1; have hz3_0_2 := blk_cell BK0.out 2; have z_ := A_ (Kd.R_below (ts2_x HO_12.out) hb); clear HO_12; have HO_12 := z_; clear z_; have z_ := A_ (Kd.R_below (ts2_x HO_20.out) hb); clear HO_20; have HO_20 := z_; clear z_; obtain ⟨p_3, q_3, hn_, hp_, hq_⟩   := Fn.law_span hb HT.out; have HN_3 := A_ hn_; obtain ⟨A_30, c_30, e_, hl_, hF_⟩ := Kd.N_V (base' := 0) ho0; subst e_; have HL_30 := A_ hl_; have HO_30 := A_ (Kd.F_mono (Kd.F_bound hF_) (fun k_ hk_ => (⟨by have := hk_.1; omega, by have := hk_.2; omega⟩ : p_3 ≤ k_ ∧ k_ < q_3))); clear hl_ hF_ ho0; clear hn_ hp_ HT; have HT := A_ (Nat.le_of_eq hq_); clear hq_; have z_ := A_ (below_step tb_ hb); clear HB; have HB := z_; clear z_ hb) | (refine gc_ 65 ?_; refine goesL_ (some 37) rfl rfl Try.func65 (by kernel_rfl) rfl #[.agg #[.int .i64 a0_0, .int .i64 a0_1, .slice A0_2 l0_2.length c0_2]] rfl (by (try simp only [List.map_toArray, List.map_cons, List.map_nil]); first | done | rfl) ?_; (with_reducible refine (laws_toBoard.calls k a0_0 a0_1 A0_2 c0_2 l0_2 a0_0 a0_1 l0_2 _ ?s0 ?s1 T2.out).mono ?_); (case s0 => exact Kd.C_below HR0_2.out tb_); (case s1 => exact HC0_2.out); rintro e w_4 ⟨v4_0, rfl, ho0, hb⟩; refine ⟨_, rfl, ?_⟩; have z_ := A_ (blk_below (tk_ BK0) hb); clear BK0; have BK0 := z_; clear z_; have hz4_0_0 := blk_cell BK0.out 0; have hz4_0_1 := blk_cell BK0.out 1; have hz4_0_2 := blk_cell BK0.out 2; have z_ := A_ (Kd.R_below (ts2_x HO_12.out) hb); clear HO_12; have HO_12 := z_; clear z_; have z_ := A_ (Kd.R_below (ts2_x HO_20.out) hb); clear HO_20; have HO_20 := z_; clear z_; have z_ := A_ (Kd.F_below (ts2_x HO_30.out) hb); clear HO_30; have HO_30 := z_; clear z_; obtain ⟨p_4, q_4, hn_, hp_, hq_⟩   := Fn.law_span hb HT.out; have HN_4 := A_ hn_; obtain ⟨A_42, c_42, e_⟩ := Kd.R_slice ho0; subst e_; have HO_42 := A_ (Kd.R_lower (Kd.R_mono (Kd.R_bound ho0) (fun k_ hk_ => (⟨by have := hk_.2.1; omega, by have := hk_.2.2.1; omega⟩ : p_4 ≤ k_ ∧ k_ < q_4))) (below_size tb_)); clear ho0; clear hn_ hp_ HT; have HT := A_ (Nat.le_of_eq hq_); clear hq_; have z_ := A_ (below_step tb_ hb); clear HB; have HB := z_; clear z_ hb) | (refine gc_ 66 ?_; refine goesL_ (some 39) rfl rfl Try.func66 (by kernel_rfl) rfl #[.slice A2 l2.length c2] rfl (by (try simp only [List.map_toArray, List.map_cons, List.map_nil]); first | done | rfl) ?_; obtain ⟨wb_1, hw_⟩ : ∃ x_, x_ = w_4.alloc (.cells #[.int .i64 a0_0, .int .i64 a0_1, .slice A_42 l0_2.length c_42] 26) := ⟨_, rfl⟩; rw [← hw_]; have hb_ := below_alloc (Below.refl _ w_4) (.cells #[.int .i64 a0_0, .int .i64 a0_1, .slice A_42 l0_2.length c_42] 26); rw [← hw_] at hb_; have hk_ := blk_new w_4 (.cells #[.int .i64 a0_0, .int .i64 a0_1, .slice A_42 l0_2.length c_42] 26); rw [← hw_] at hk_; have BK1 := A_ hk_; have hs_ : wb_1.heap.size = w_4.heap.size + 1 := (by rw [hw_]; simp); have HNB_1 := HT.out; clear HT; have HT := A_ (Nat.le_of_eq hs_.symm); have z_ := A_ (below_step tb_ hb_); clear HB; have HB := z_; clear z_; have z_ := A_ (Kd.R_below (ts2_x HO_12.out) hb_); clear HO_12; have HO_12 := z_; clear z_; have z_ := A_ (Kd.R_below (ts2_x HO_20.out) hb_); clear HO_20; have HO_20 := z_; clear z_; have z_ := A_ (Kd.F_below (ts2_x HO_30.out) hb_); clear HO_30; have HO_30 := z_; clear z_; have z_ := A_ (Kd.R_below (ts2_x HO_42.out) hb_); clear HO_42; have HO_42 := z_; clear z_; have z_ := A_ (blk_below (tk_ BK0) hb_); clear BK0; have BK0 := z_; clear z_; clear hb_ hk_ hs_ hw_; (with_reducible refine (laws_toIntS.calls k A2 c2 l2 l2 _ ?s0 ?s1 T3.out).mono ?_); (case s0 => exact Kd.C_below HR2.out tb_); (case s1 => exact HC2.out); rintro e w_5 ⟨v5_0, rfl, ho0, hb⟩; refine ⟨_, rfl, ?_⟩; have z_ := A_ (blk_below (tk_ BK0) hb); clear BK0; have BK0 := z_; clear z_; have hz5_0_0 := blk_cell BK0.out 0; have hz5_0_1 := blk_cell BK0.out 1; have hz5_0_2 := blk_cell BK0.out 2; have z_ := A_ (blk_below (tk_ BK1) hb); clear BK1; have BK1 := z_; clear z_; have hz5_1_0 := blk_cell BK1.out 0; have hz5_1_1 := blk_cell BK1.out 1; have hz5_1_2 := blk_cell BK1.out 2; have z_ := A_ (Kd.R_below (ts2_x HO_12.out) hb); clear HO_12; have HO_12 := z_; clear z_; have z_ := A_ (Kd.R_below (ts2_x HO_20.out) hb); clear HO_20; have HO_20 := z_; clear z_; have z_ := A_ (Kd.F_below (ts2_x HO_30.out) hb); clear HO_30; have HO_30 := z_; clear z_; have z_ := A_ (Kd.R_below (ts2_x HO_42.out) hb); clear HO_42; have HO_42 := z_; clear z_; obtain ⟨p_5, q_5, hn_, hp_, hq_⟩   := Fn.law_span hb HT.out; have HN_5 := A_ hn_; obtain ⟨A_50, c_50, e_⟩ := Kd.R_slice ho0; subst e_; have HO_50 := A_ (Kd.R_lower (Kd.R_mono (Kd.R_bound ho0) (fun k_ hk_ => (⟨by have := hk_.2.1; omega, by have := hk_.2.2.1; omega⟩ : p_5 ≤ k_ ∧ k_ < q_5))) (below_size tb_)); clear ho0; clear hn_ hp_ HT; have HT := A_ (Nat.le_of_eq hq_); clear hq_; have z_ := A_ (below_step tb_ hb); clear HB; have HB := z_; clear z_ hb) | (refine gc_ 67 ?_; refine goesL_ (some 44) rfl rfl Try.func67 (by kernel_rfl) rfl #[.agg #[.int .i64 a0_0, .int .i64 a0_1, .slice A_42 l0_2.length c_42], .int .i64 a1, .slice A_50 l2.length c_50] rfl (by (try simp only [List.map_toArray, List.map_cons, List.map_nil]); first | done | rfl) ?_; (with_reducible refine (impl_BishopsOf.calls k a0_0 a0_1 A_42 c_42 l0_2 a1 A_50 c_50 l2 g0_ g1_ _ ?s0 ?s1 ?s2 ?s3 T5.out).mono ?_); (case s0 => exact (Kd.R_reads' (ts2_x HO_42.out)).2.2); (case s1 => (have h1_ := Kd.R_reads' HO_42.out; have h2_ := h1_.1; have h3_ := h1_.2.1; omega)); (case s2 => exact (Kd.R_reads' (ts2_x HO_50.out)).2.2); (case s3 => (have h1_ := Kd.R_reads' HO_50.out; have h2_ := h1_.1; have h3_ := h1_.2.1; omega)); rintro e w_6 ⟨v6_0, rfl, ho0, hb⟩; refine ⟨_, rfl, ?_⟩; have z_ := A_ (blk_below (tk_ BK0) hb); clear BK0; have BK0 := z_; clear z_; have hz6_0_0 := blk_cell BK0.out 0; have hz6_0_1 := blk_cell BK0.out 1; have hz6_0_2 := blk_cell BK0.out 2; have z_ := A_ (blk_below (tk_ BK1) hb); clear BK1; have BK1 := z_; clear z_; have hz6_1_0 := blk_cell BK1.out 0; have hz6_1_1 := blk_cell BK1.out 1; have hz6_1_2 := blk_cell BK1.out 2; have z_ := A_ (Kd.R_below (ts2_x HO_12.out) hb); clear HO_12; have HO_12 := z_; clear z_; have z_ := A_ (Kd.R_below (ts2_x HO_20.out) hb); clear HO_20; have HO_20 := z_; clear z_; have z_ := A_ (Kd.F_below (ts2_x HO_30.out) hb); clear HO_30; have HO_30 := z_; clear z_; have z_ := A_ (Kd.R_below (ts2_x HO_42.out) hb); clear HO_42; have HO_42 := z_; clear z_; have z_ := A_ (Kd.R_below (ts2_x HO_50.out) hb); clear HO_50; have HO_50 := z_; clear z_; obtain ⟨p_6, q_6, hn_, hp_, hq_⟩   := Fn.law_span hb HT.out; have HN_6 := A_ hn_; obtain ⟨A_60, c_60, e_⟩ := Kd.S_slice ho0; subst e_; have HO_60 := A_ (Kd.S_lower (Kd.S_mono (Kd.S_bound ho0) (fun k_ hk_ => (⟨by have := hk_.2.1; omega, by have := hk_.2.2.1; omega⟩ : p_6 ≤ k_ ∧ k_ < q_6))) (below_size tb_)); clear ho0; clear hn_ hp_ HT; have HT := A_ (Nat.le_of_eq hq_); clear hq_; have z_ := A_ (below_step tb_ hb); clear HB; have HB := z_; clear z_ hb) | (refine gc_ 68 ?_; refine goesL_ (some 49) rfl rfl Try.func68 (by kernel_rfl) rfl #[.slice A_60 g0_.length c_60, .slice A_30 g0_.length c_30] rfl (by (try simp only [List.map_toArray, List.map_cons, List.map_nil]); first | done | rfl) ?_; (with_reducible refine (laws_eqIntSS.calls k A_60 c_60 g0_ A_30 c_30 g0_ true _ ?s0 ?s1 ?s2 ?s3 T6.out).mono ?_); (case s0 => exact (Kd.S_reads' (ts2_x HO_60.out)).2.2); (case s1 => (have h1_ := Kd.S_reads' HO_60.out; have h2_ := h1_.1; have h3_ := h1_.2.1; omega)); (case s2 => exact Kd.F_now (ts2_x HO_30.out)); (case s3 => exact HL_30.out); rintro e w' ⟨rfl, ⟨nd_7, rfl⟩⟩; refine ⟨_, rfl, ?_⟩))
   have BKS0_ := A_ BK0.out
   have BKS1_ := A_ BK1.out
   refine start_ (n := 5) (S := fun w' => Below w_6.heap.size w_6 w') (ds := []) (Fn.bl 5 0) (by kernel_rfl) rfl rfl (by repeat (first | (with_reducible exact Below.refl _ _) | apply below_drew | apply pw_below_drewN | apply below_drew1)) (fun hHeld => ?_)
   generalize World.drew _ = wd_13 at hHeld ⊢
   have hb := hHeld
   replace BK0 := A_ (blk_below BK0.out hb)
   replace BK1 := A_ (blk_below BK1.out hb)
   replace HO_12 := A_ (Kd.R_below HO_12.out hb)
   replace HO_20 := A_ (Kd.R_below HO_20.out hb)
   replace HO_30 := A_ (Kd.F_below HO_30.out hb)
   replace HO_42 := A_ (Kd.R_below HO_42.out hb)
   replace HO_50 := A_ (Kd.R_below HO_50.out hb)
   replace HO_60 := A_ (Kd.S_below HO_60.out hb)
   replace HT := A_ (Nat.le_trans HT.out hb.size)
   replace HB := A_ (below_step tb_ hb)
   clear hb
   refine take_ (i := 0) (N := some 56) (v := ?_) (a' := ?_) (Fn.bl 5 1) rfl rfl (by kernel_rfl) (fun _ _ _ h => h) (Or.inl ⟨by rfl, ?_⟩) hHeld ?_ ?_
   rotate_left
   ·
    intro w' s0
    have h0_ := blk_cell (blk_below (show w_6.heap[w_4.heap.size]? = _ from BKS1_.out) s0) 0
    have h1_ := blk_cell (blk_below (show w_6.heap[w_4.heap.size]? = _ from BKS1_.out) s0) 1
    have h2_ := blk_cell (blk_below (show w_6.heap[w_4.heap.size]? = _ from BKS1_.out) s0) 2
    go_simp
    with_reducible rfl
   rotate_left
   ·
    simp only [Act.put, List.setIfInBounds_toArray, List.set_cons_zero, List.set_cons_succ, i64_w, i32_w]
    rfl
   refine take_ (i := 1) (N := some 57) (v := ?_) (a' := ?_) (Fn.bl 5 3) rfl rfl (by kernel_rfl) (fun _ _ _ h => h) (Or.inl ⟨by rfl, ?_⟩) hHeld ?_ ?_
   rotate_left
   ·
    intro w' s0
    have h0_ := blk_cell (blk_below (show w_6.heap[w.heap.size]? = _ from BKS0_.out) s0) 0
    have h1_ := blk_cell (blk_below (show w_6.heap[w.heap.size]? = _ from BKS0_.out) s0) 1
    have h2_ := blk_cell (blk_below (show w_6.heap[w.heap.size]? = _ from BKS0_.out) s0) 2
    go_simp
    with_reducible rfl
   rotate_left
   ·
    simp only [Act.put, List.setIfInBounds_toArray, List.set_cons_zero, List.set_cons_succ, i64_w, i32_w]
    rfl
   refine one_ (i := 2) (N := some 58) (Fn.bl 5 7) rfl rfl (by kernel_rfl) (by decide) (fun K hK => ?_)
   refine goes_ Try.func65 (by kernel_rfl) rfl #[.agg #[.int .i64 a0_0, .int .i64 a0_1, .slice A0_2 l0_2.length c0_2]] (by rfl) rfl rfl (by (try simp only [List.map_toArray, List.map_cons, List.map_nil]); first | done | rfl) ?_
   (with_reducible refine (laws_toBoard.calls k a0_0 a0_1 A0_2 c0_2 l0_2 a0_0 a0_1 l0_2 _ ?s0 ?s1 T2.out).mono ?_)
   (case s0 => exact Kd.C_below HR0_2.out tb_)
   (case s1 => exact HC0_2.out)
   rintro e w_8 ⟨v8_0, rfl, ho0, hb⟩
   refine ⟨_, rfl, ?_⟩
   have hS_ := below_then hHeld hHeld.size hb
   clear hHeld
   have z_ := A_ (blk_below (tk_ BK0) hb)
   clear BK0
   have BK0 := z_
   clear z_
   have hz8_0_0 := blk_cell BK0.out 0
   have hz8_0_1 := blk_cell BK0.out 1
   have hz8_0_2 := blk_cell BK0.out 2
   have z_ := A_ (blk_below (tk_ BK1) hb)
   clear BK1
   have BK1 := z_
   clear z_
   have hz8_1_0 := blk_cell BK1.out 0
   have hz8_1_1 := blk_cell BK1.out 1
   have hz8_1_2 := blk_cell BK1.out 2
   have z_ := A_ (Kd.R_below (ts2_x HO_12.out) hb)
   clear HO_12
   have HO_12 := z_
   clear z_
   have z_ := A_ (Kd.R_below (ts2_x HO_20.out) hb)
   clear HO_20
   have HO_20 := z_
   clear z_
   have z_ := A_ (Kd.F_below (ts2_x HO_30.out) hb)
   clear HO_30
   have HO_30 := z_
   clear z_
   have z_ := A_ (Kd.R_below (ts2_x HO_42.out) hb)
   clear HO_42
   have HO_42 := z_
   clear z_
   have z_ := A_ (Kd.R_below (ts2_x HO_50.out) hb)
   clear HO_50
   have HO_50 := z_
   clear z_
   have z_ := A_ (Kd.S_below (ts2_x HO_60.out) hb)
   clear HO_60
   have HO_60 := z_
   clear z_
   obtain ⟨p_8, q_8, hn_, hp_, hq_⟩   := Fn.law_span hb HT.out
   have HN_8 := A_ hn_
   obtain ⟨A_82, c_82, e_⟩ := Kd.R_slice ho0
   subst e_
   have HO_82 := A_ (Kd.R_lower (Kd.R_mono (Kd.R_bound ho0) (fun k_ hk_ => (⟨by have := hk_.2.1; omega, by have := hk_.2.2.1; omega⟩ : p_8 ≤ k_ ∧ k_ < q_8))) (below_size tb_))
   clear ho0
   clear hn_ hp_ HT
   have HT := A_ (Nat.le_of_eq hq_)
   clear hq_
   have z_ := A_ (below_step tb_ hb)
   clear HB
   have HB := z_
   clear z_ hb
   refine hK.out _ _ hS_ (fun hHeld => ?_)
   clear hK K
   refine norm_ (a' := ?_) ?_ ?_
   rotate_left
   ·
    show Act.put _ (some 58) _ = _
    simp only [Act.put, List.setIfInBounds_toArray, List.set_cons_zero, List.set_cons_succ, i64_w, i32_w]
    rfl
   refine one_ (i := 3) (N := some 59) (Fn.bl 5 15) rfl rfl (by kernel_rfl) (by decide) (fun K hK => ?_)
   refine goes_ Try.func69 (by kernel_rfl) rfl #[.agg #[.int .i64 a0_0, .int .i64 a0_1, .slice A_42 l0_2.length c_42], .agg #[.int .i64 a0_0, .int .i64 a0_1, .slice A_82 l0_2.length c_82]] (by rfl) rfl rfl (by (try simp only [List.map_toArray, List.map_cons, List.map_nil]); first | done | rfl) ?_
   (with_reducible refine (laws_eqBoard.calls k a0_0 a0_1 A_42 c_42 l0_2 a0_0 a0_1 A_82 c_82 l0_2 true _ ?s0 ?s1 ?s2 ?s3 T7.out).mono ?_)
   (case s0 => exact (Kd.R_reads' (ts2_x HO_42.out)).2.2)
   (case s1 => (have h1_ := Kd.R_reads' HO_42.out; have h2_ := h1_.1; have h3_ := h1_.2.1; omega))
   (case s2 => exact (Kd.R_reads' (ts2_x HO_82.out)).2.2)
   (case s3 => (have h1_ := Kd.R_reads' HO_82.out; have h2_ := h1_.1; have h3_ := h1_.2.1; omega))
   rintro e w_9 ⟨rfl, hb⟩
   refine ⟨_, rfl, ?_⟩
   have hS_ := below_then hHeld hHeld.size hb
   clear hHeld
   have z_ := A_ (blk_below (tk_ BK0) hb)
   clear BK0
   have BK0 := z_
   clear z_
   have hz9_0_0 := blk_cell BK0.out 0
   have hz9_0_1 := blk_cell BK0.out 1
   have hz9_0_2 := blk_cell BK0.out 2
   have z_ := A_ (blk_below (tk_ BK1) hb)
   clear BK1
   have BK1 := z_
   clear z_
   have hz9_1_0 := blk_cell BK1.out 0
   have hz9_1_1 := blk_cell BK1.out 1
   have hz9_1_2 := blk_cell BK1.out 2
   have z_ := A_ (Kd.R_below (ts2_x HO_12.out) hb)
   clear HO_12
   have HO_12 := z_
   clear z_
   have z_ := A_ (Kd.R_below (ts2_x HO_20.out) hb)
   clear HO_20
   have HO_20 := z_
   clear z_
   have z_ := A_ (Kd.F_below (ts2_x HO_30.out) hb)
   clear HO_30
   have HO_30 := z_
   clear z_
   have z_ := A_ (Kd.R_below (ts2_x HO_42.out) hb)
   clear HO_42
   have HO_42 := z_
   clear z_
   have z_ := A_ (Kd.R_below (ts2_x HO_50.out) hb)
   clear HO_50
   have HO_50 := z_
   clear z_
   have z_ := A_ (Kd.S_below (ts2_x HO_60.out) hb)
   clear HO_60
   have HO_60 := z_
   clear z_
   have z_ := A_ (Kd.R_below (ts2_x HO_82.out) hb)
   clear HO_82
   have HO_82 := z_
   clear z_
   have z_ := A_ (Nat.le_trans HT.out hb.size)
   clear HT
   have HT := z_
   clear z_
   have z_ := A_ (below_step tb_ hb)
   clear HB
   have HB := z_
   clear z_ hb
   refine hK.out _ _ hS_ (fun hHeld => ?_)
   clear hK K
   refine norm_ (a' := ?_) ?_ ?_
   rotate_left
   ·
    show Act.put _ (some 59) _ = _
    simp only [Act.put, List.setIfInBounds_toArray, List.set_cons_zero, List.set_cons_succ, i64_w, i32_w]
    rfl
   refine take_ (i := 4) (N := some 60) (v := ?_) (a' := ?_) (Fn.bl 5 31) rfl rfl (by kernel_rfl) (fun _ _ _ h => h) (Or.inl ⟨by rfl, ?_⟩) hHeld ?_ ?_
   rotate_left
   ·
    intro w' s0
    go_simp
    with_reducible rfl
   rotate_left
   ·
    simp only [Act.put, List.setIfInBounds_toArray, List.set_cons_zero, List.set_cons_succ, i64_w, i32_w]
    rfl
   refine done_ (by kernel_rfl) ?_
   clear hHeld hS_ BKS0_ BKS1_
   go_wp2_with (first | (refine gc_ 66 ?_; refine goesL_ (some 63) rfl rfl Try.func66 (by kernel_rfl) rfl #[.slice A2 l2.length c2] rfl (by (try simp only [List.map_toArray, List.map_cons, List.map_nil]); first | done | rfl) ?_; (with_reducible refine (laws_toIntS.calls k A2 c2 l2 l2 _ ?s0 ?s1 T3.out).mono ?_); (case s0 => exact Kd.C_below HR2.out tb_); (case s1 => exact HC2.out); rintro e w_10 ⟨v10_0, rfl, ho0, hb⟩; refine ⟨_, rfl, ?_⟩; have z_ := A_ (blk_below (tk_ BK0) hb); clear BK0; have BK0 := z_; clear z_; have hz10_0_0 := blk_cell BK0.out 0; have hz10_0_1 := blk_cell BK0.out 1; have hz10_0_2 := blk_cell BK0.out 2; have z_ := A_ (blk_below (tk_ BK1) hb); clear BK1; have BK1 := z_; clear z_; have hz10_1_0 := blk_cell BK1.out 0; have hz10_1_1 := blk_cell BK1.out 1; have hz10_1_2 := blk_cell BK1.out 2; have z_ := A_ (Kd.R_below (ts2_x HO_12.out) hb); clear HO_12; have HO_12 := z_; clear z_; have z_ := A_ (Kd.R_below (ts2_x HO_20.out) hb); clear HO_20; have HO_20 := z_; clear z_; have z_ := A_ (Kd.F_below (ts2_x HO_30.out) hb); clear HO_30; have HO_30 := z_; clear z_; have z_ := A_ (Kd.R_below (ts2_x HO_42.out) hb); clear HO_42; have HO_42 := z_; clear z_; have z_ := A_ (Kd.R_below (ts2_x HO_50.out) hb); clear HO_50; have HO_50 := z_; clear z_; have z_ := A_ (Kd.S_below (ts2_x HO_60.out) hb); clear HO_60; have HO_60 := z_; clear z_; have z_ := A_ (Kd.R_below (ts2_x HO_82.out) hb); clear HO_82; have HO_82 := z_; clear z_; obtain ⟨p_10, q_10, hn_, hp_, hq_⟩   := Fn.law_span hb HT.out; have HN_10 := A_ hn_; obtain ⟨A_100, c_100, e_⟩ := Kd.R_slice ho0; subst e_; have HO_100 := A_ (Kd.R_lower (Kd.R_mono (Kd.R_bound ho0) (fun k_ hk_ => (⟨by have := hk_.2.1; omega, by have := hk_.2.2.1; omega⟩ : p_10 ≤ k_ ∧ k_ < q_10))) (below_size tb_)); clear ho0; clear hn_ hp_ HT; have HT := A_ (Nat.le_of_eq hq_); clear hq_; have z_ := A_ (below_step tb_ hb); clear HB; have HB := z_; clear z_ hb) | (refine gc_ 70 ?_; refine goesL_ (some 64) rfl rfl Try.func70 (by kernel_rfl) rfl #[.slice A_50 l2.length c_50, .slice A_100 l2.length c_100] rfl (by (try simp only [List.map_toArray, List.map_cons, List.map_nil]); first | done | rfl) ?_; (with_reducible refine (laws_eqIntS.calls k A_50 c_50 l2 A_100 c_100 l2 true _ ?s0 ?s1 ?s2 ?s3 T8.out).mono ?_); (case s0 => exact (Kd.R_reads' (ts2_x HO_50.out)).2.2); (case s1 => (have h1_ := Kd.R_reads' HO_50.out; have h2_ := h1_.1; have h3_ := h1_.2.1; omega)); (case s2 => exact (Kd.R_reads' (ts2_x HO_100.out)).2.2); (case s3 => (have h1_ := Kd.R_reads' HO_100.out; have h2_ := h1_.1; have h3_ := h1_.2.1; omega)); rintro e w' ⟨rfl, ⟨nd_11, rfl⟩⟩; refine ⟨_, rfl, ?_⟩) | (refine gc_ 71 ?_; refine goesL_ (some 68) rfl rfl Try.func71 (by kernel_rfl) rfl #[.agg #[.int .i64 a0_0, .int .i64 a0_1, .slice A_42 l0_2.length c_42], .int .i64 1] rfl (by (try simp only [List.map_toArray, List.map_cons, List.map_nil]); first | done | rfl) ?_; (with_reducible refine (laws_markBoard.calls k a0_0 a0_1 (fun k_ => p_4 ≤ k_ ∧ k_ < q_4) (.slice A_42 l0_2.length c_42) l0_2 1 m12 n12 w _ ?s0 ?s1 T10.out).mono ?_); (case s0 => exact tb_); (case s1 => exact (ts2_x HO_42.out)); rintro e w_12 ⟨rfl, ho0, hb, hkp⟩; refine ⟨_, rfl, ?_⟩; have z_ := A_ ((hkp.2 _ (blk_lt BK0.out) (fun h_ => by have := HN_1.out; have := HN_2.out; have := HN_3.out; have := HN_4.out; have := HN_5.out; have := HN_6.out; have := HN_8.out; have := HN_10.out; have := HNB_0; have := HNB_1; obtain ⟨_, _⟩ := h_; omega)).trans BK0.out); clear BK0; have BK0 := z_; clear z_; have hz12_0_0 := blk_cell BK0.out 0; have hz12_0_1 := blk_cell BK0.out 1; have hz12_0_2 := blk_cell BK0.out 2; have z_ := A_ ((hkp.2 _ (blk_lt BK1.out) (fun h_ => by have := HN_1.out; have := HN_2.out; have := HN_3.out; have := HN_4.out; have := HN_5.out; have := HN_6.out; have := HN_8.out; have := HN_10.out; have := HNB_0; have := HNB_1; obtain ⟨_, _⟩ := h_; omega)).trans BK1.out); clear BK1; have BK1 := z_; clear z_; have z_ := A_ (Kd.F_step (ts2_x HO_30.out) (fun k_ hk_ hlt_ => hkp.2 k_ hlt_ (fun h_ => by have := HN_1.out; have := HN_2.out; have := HN_3.out; have := HN_4.out; have := HN_5.out; have := HN_6.out; have := HN_8.out; have := HN_10.out; obtain ⟨_, _⟩ := hk_; obtain ⟨_, _⟩ := h_; omega))); clear HO_30; have HO_30 := z_; clear z_; have z_ := A_ (Kd.R_step (ts2_x HO_50.out) (fun k_ hk_ hlt_ => hkp.2 k_ hlt_ (fun h_ => by have := HN_1.out; have := HN_2.out; have := HN_3.out; have := HN_4.out; have := HN_5.out; have := HN_6.out; have := HN_8.out; have := HN_10.out; obtain ⟨_, _⟩ := hk_; obtain ⟨_, _⟩ := h_; omega))); clear HO_50; have HO_50 := z_; clear z_; have z_ := A_ (Kd.S_step (ts2_x HO_60.out) (fun k_ hk_ hlt_ => hkp.2 k_ hlt_ (fun h_ => by have := HN_1.out; have := HN_2.out; have := HN_3.out; have := HN_4.out; have := HN_5.out; have := HN_6.out; have := HN_8.out; have := HN_10.out; obtain ⟨_, _⟩ := hk_; obtain ⟨_, _⟩ := h_; omega))); clear HO_60; have HO_60 := z_; clear z_; clear ho0; have z_ := A_ (Nat.le_trans HT.out hkp.1); clear HT; have HT := z_; clear z_; clear HB; have HB := A_ hb; clear hb hkp) | (refine gc_ 72 ?_; refine goesL_ (some 71) rfl rfl Try.func72 (by kernel_rfl) rfl #[.slice A_50 l2.length c_50, .int .i64 m12] rfl (by (try simp only [List.map_toArray, List.map_cons, List.map_nil]); first | done | rfl) ?_; (with_reducible refine (laws_markIntS.calls k (fun k_ => p_5 ≤ k_ ∧ k_ < q_5) (.slice A_50 l2.length c_50) l2 m12 m13 n13 w _ ?s0 ?s1 T12.out).mono ?_); (case s0 => exact tb_); (case s1 => exact (ts2_x HO_50.out)); rintro e w_13 ⟨rfl, ho0, hb, hkp⟩; refine ⟨_, rfl, ?_⟩; have z_ := A_ ((hkp.2 _ (blk_lt BK0.out) (fun h_ => by have := HN_1.out; have := HN_2.out; have := HN_3.out; have := HN_4.out; have := HN_5.out; have := HN_6.out; have := HN_8.out; have := HN_10.out; have := HNB_0; have := HNB_1; obtain ⟨_, _⟩ := h_; omega)).trans BK0.out); clear BK0; have BK0 := z_; clear z_; have hz13_0_0 := blk_cell BK0.out 0; have hz13_0_1 := blk_cell BK0.out 1; have hz13_0_2 := blk_cell BK0.out 2; have z_ := A_ (Kd.F_step (ts2_x HO_30.out) (fun k_ hk_ hlt_ => hkp.2 k_ hlt_ (fun h_ => by have := HN_1.out; have := HN_2.out; have := HN_3.out; have := HN_4.out; have := HN_5.out; have := HN_6.out; have := HN_8.out; have := HN_10.out; obtain ⟨_, _⟩ := hk_; obtain ⟨_, _⟩ := h_; omega))); clear HO_30; have HO_30 := z_; clear z_; have z_ := A_ (Kd.S_step (ts2_x HO_60.out) (fun k_ hk_ hlt_ => hkp.2 k_ hlt_ (fun h_ => by have := HN_1.out; have := HN_2.out; have := HN_3.out; have := HN_4.out; have := HN_5.out; have := HN_6.out; have := HN_8.out; have := HN_10.out; obtain ⟨_, _⟩ := hk_; obtain ⟨_, _⟩ := h_; omega))); clear HO_60; have HO_60 := z_; clear z_; clear ho0; have z_ := A_ (Nat.le_trans HT.out hkp.1); clear HT; have HT := z_; clear z_; clear HB; have HB := A_ hb; clear hb hkp) | (go_at_call 68; (with_reducible refine (laws_eqIntSS.calls k A_60 c_60 g0_ A_30 c_30 g0_ true _ ?s0 ?s1 ?s2 ?s3 T6.out).mono ?_); (case s0 => exact (Kd.S_reads' (ts2_x HO_60.out)).2.2); (case s1 => (have h1_ := Kd.S_reads' HO_60.out; have h2_ := h1_.1; have h3_ := h1_.2.1; omega)); (case s2 => exact Kd.F_now (ts2_x HO_30.out)); (case s3 => exact HL_30.out); rintro e w' ⟨rfl, ⟨nd_14, rfl⟩⟩) | (refine gc_ 73 ?_; refine goesL_ (some 87) rfl rfl Try.func73 (by kernel_rfl) rfl #[.slice A_60 g0_.length c_60, .int .i64 1] rfl (by (try simp only [List.map_toArray, List.map_cons, List.map_nil]); first | done | rfl) ?_; (with_reducible refine (laws_markIntSS.calls k (fun k_ => p_6 ≤ k_ ∧ k_ < q_6) (.slice A_60 g0_.length c_60) g0_ 1 m15 n15 w _ ?s0 ?s1 T14.out).mono ?_); (case s0 => exact tb_); (case s1 => exact (ts2_x HO_60.out)); rintro e w_15 ⟨rfl, ho0, hb, hkp⟩; refine ⟨_, rfl, ?_⟩; have z_ := A_ ((hkp.2 _ (blk_lt BK0.out) (fun h_ => by have := HN_1.out; have := HN_2.out; have := HN_3.out; have := HN_4.out; have := HN_5.out; have := HN_6.out; have := HN_8.out; have := HN_10.out; have := HNB_0; have := HNB_1; obtain ⟨_, _⟩ := h_; omega)).trans BK0.out); clear BK0; have BK0 := z_; clear z_; have hz15_0_0 := blk_cell BK0.out 0; have hz15_0_1 := blk_cell BK0.out 1; have hz15_0_2 := blk_cell BK0.out 2; have z_ := A_ (Kd.F_step (ts2_x HO_30.out) (fun k_ hk_ hlt_ => hkp.2 k_ hlt_ (fun h_ => by have := HN_1.out; have := HN_2.out; have := HN_3.out; have := HN_4.out; have := HN_5.out; have := HN_6.out; have := HN_8.out; have := HN_10.out; obtain ⟨_, _⟩ := hk_; obtain ⟨_, _⟩ := h_; omega))); clear HO_30; have HO_30 := z_; clear z_; clear HO_60; have HO_60 := A_ ho0; clear ho0; have e_ := (Kd.S_reads' HO_60.out).1; have HO_60E := A_ e_; clear e_; have z_ := A_ (Nat.le_trans HT.out hkp.1); clear HT; have HT := z_; clear z_; clear HB; have HB := A_ hb; clear hb hkp) | (refine gc_ 74 ?_; refine goesL_ (some 90) rfl rfl Try.func74 (by kernel_rfl) rfl #[.slice A_60 n15.length c_60, .int .i64 1] rfl (by (try simp only [List.map_toArray, List.map_cons, List.map_nil]); first | done | (rw [← HO_60E.out] <;> rfl) | rfl) ?_; (with_reducible refine (laws_heldIntSS.calls k A_60 c_60 n15 1 m15 _ ?s0 ?s1 T15.out).mono ?_); (case s0 => exact (Kd.S_reads' (ts2_x HO_60.out)).2.2); (case s1 => (have h1_ := Kd.S_reads' HO_60.out; have h2_ := h1_.1; have h3_ := h1_.2.1; omega)); rintro e w' ⟨rfl, ⟨nd_16, rfl⟩⟩; refine ⟨_, rfl, ?_⟩) | (refine gc_ 65 ?_; refine goesL_ (some 98) rfl rfl Try.func65 (by kernel_rfl) rfl #[.agg #[.int .i64 a0_0, .int .i64 a0_1, .slice A0_2 l0_2.length c0_2]] rfl (by (try simp only [List.map_toArray, List.map_cons, List.map_nil]); first | done | (rw [← HO_60E.out] <;> rfl) | rfl) ?_; (with_reducible refine (laws_toBoard.calls k a0_0 a0_1 A0_2 c0_2 l0_2 a0_0 a0_1 l0_2 _ ?s0 ?s1 T2.out).mono ?_); (case s0 => exact Kd.C_below HR0_2.out tb_); (case s1 => exact HC0_2.out); rintro e w_17 ⟨v17_0, rfl, ho0, hb⟩; refine ⟨_, rfl, ?_⟩; have z_ := A_ (blk_below (tk_ BK0) hb); clear BK0; have BK0 := z_; clear z_; have z_ := A_ (Kd.F_below (ts2_x HO_30.out) hb); clear HO_30; have HO_30 := z_; clear z_; have z_ := A_ (Kd.S_below (ts2_x HO_60.out) hb); clear HO_60; have HO_60 := z_; clear z_; obtain ⟨p_17, q_17, hn_, hp_, hq_⟩   := Fn.law_span hb HT.out; have HN_17 := A_ hn_; obtain ⟨A_172, c_172, e_⟩ := Kd.R_slice ho0; subst e_; have HO_172 := A_ (Kd.R_lower (Kd.R_mono (Kd.R_bound ho0) (fun k_ hk_ => (⟨by have := hk_.2.1; omega, by have := hk_.2.2.1; omega⟩ : p_17 ≤ k_ ∧ k_ < q_17))) (below_size tb_)); clear ho0; clear hn_ hp_ HT; have HT := A_ (Nat.le_of_eq hq_); clear hq_; have z_ := A_ (below_step tb_ hb); clear HB; have HB := z_; clear z_ hb) | (refine gc_ 66 ?_; refine goesL_ (some 101) rfl rfl Try.func66 (by kernel_rfl) rfl #[.slice A2 l2.length c2] rfl (by (try simp only [List.map_toArray, List.map_cons, List.map_nil]); first | done | (rw [← HO_60E.out] <;> rfl) | rfl) ?_; (with_reducible refine (laws_toIntS.calls k A2 c2 l2 l2 _ ?s0 ?s1 T3.out).mono ?_); (case s0 => exact Kd.C_below HR2.out tb_); (case s1 => exact HC2.out); rintro e w_18 ⟨v18_0, rfl, ho0, hb⟩; refine ⟨_, rfl, ?_⟩; have z_ := A_ (Kd.F_below (ts2_x HO_30.out) hb); clear HO_30; have HO_30 := z_; clear z_; have z_ := A_ (Kd.S_below (ts2_x HO_60.out) hb); clear HO_60; have HO_60 := z_; clear z_; have z_ := A_ (Kd.R_below (ts2_x HO_172.out) hb); clear HO_172; have HO_172 := z_; clear z_; obtain ⟨p_18, q_18, hn_, hp_, hq_⟩   := Fn.law_span hb HT.out; have HN_18 := A_ hn_; obtain ⟨A_180, c_180, e_⟩ := Kd.R_slice ho0; subst e_; have HO_180 := A_ (Kd.R_lower (Kd.R_mono (Kd.R_bound ho0) (fun k_ hk_ => (⟨by have := hk_.2.1; omega, by have := hk_.2.2.1; omega⟩ : p_18 ≤ k_ ∧ k_ < q_18))) (below_size tb_)); clear ho0; clear hn_ hp_ HT; have HT := A_ (Nat.le_of_eq hq_); clear hq_; have z_ := A_ (below_step tb_ hb); clear HB; have HB := z_; clear z_ hb) | (refine gc_ 67 ?_; refine goesL_ (some 102) rfl rfl Try.func67 (by kernel_rfl) rfl #[.agg #[.int .i64 a0_0, .int .i64 a0_1, .slice A_172 l0_2.length c_172], .int .i64 a1, .slice A_180 l2.length c_180] rfl (by (try simp only [List.map_toArray, List.map_cons, List.map_nil]); first | done | (rw [← HO_60E.out] <;> rfl) | rfl) ?_; (with_reducible refine (impl_BishopsOf.calls k a0_0 a0_1 A_172 c_172 l0_2 a1 A_180 c_180 l2 g0_ g1_ _ ?s0 ?s1 ?s2 ?s3 T5.out).mono ?_); (case s0 => exact (Kd.R_reads' (ts2_x HO_172.out)).2.2); (case s1 => (have h1_ := Kd.R_reads' HO_172.out; have h2_ := h1_.1; have h3_ := h1_.2.1; omega)); (case s2 => exact (Kd.R_reads' (ts2_x HO_180.out)).2.2); (case s3 => (have h1_ := Kd.R_reads' HO_180.out; have h2_ := h1_.1; have h3_ := h1_.2.1; omega)); rintro e w_19 ⟨v19_0, rfl, ho0, hb⟩; refine ⟨_, rfl, ?_⟩; have z_ := A_ (Kd.F_below (ts2_x HO_30.out) hb); clear HO_30; have HO_30 := z_; clear z_; have z_ := A_ (Kd.S_below (ts2_x HO_60.out) hb); clear HO_60; have HO_60 := z_; clear z_; have z_ := A_ (Kd.R_below (ts2_x HO_172.out) hb); clear HO_172; have HO_172 := z_; clear z_; have z_ := A_ (Kd.R_below (ts2_x HO_180.out) hb); clear HO_180; have HO_180 := z_; clear z_; obtain ⟨p_19, q_19, hn_, hp_, hq_⟩   := Fn.law_span hb HT.out; have HN_19 := A_ hn_; obtain ⟨A_190, c_190, e_⟩ := Kd.S_slice ho0; subst e_; have HO_190 := A_ (Kd.S_lower (Kd.S_mono (Kd.S_bound ho0) (fun k_ hk_ => (⟨by have := hk_.2.1; omega, by have := hk_.2.2.1; omega⟩ : p_19 ≤ k_ ∧ k_ < q_19))) (below_size tb_)); clear ho0; clear hn_ hp_ HT; have HT := A_ (Nat.le_of_eq hq_); clear hq_; have z_ := A_ (below_step tb_ hb); clear HB; have HB := z_; clear z_ hb) | (refine gc_ 68 ?_; refine goesL_ (some 107) rfl rfl Try.func68 (by kernel_rfl) rfl #[.slice A_190 g0_.length c_190, .slice A_30 g0_.length c_30] rfl (by (try simp only [List.map_toArray, List.map_cons, List.map_nil]); first | done | (rw [← HO_60E.out] <;> rfl) | rfl) ?_; (with_reducible refine (laws_eqIntSS.calls k A_190 c_190 g0_ A_30 c_30 g0_ true _ ?s0 ?s1 ?s2 ?s3 T6.out).mono ?_); (case s0 => exact (Kd.S_reads' (ts2_x HO_190.out)).2.2); (case s1 => (have h1_ := Kd.S_reads' HO_190.out; have h2_ := h1_.1; have h3_ := h1_.2.1; omega)); (case s2 => exact Kd.F_now (ts2_x HO_30.out)); (case s3 => exact HL_30.out); rintro e w' ⟨rfl, ⟨nd_20, rfl⟩⟩; refine ⟨_, rfl, ?_⟩) | (refine gc_ 74 ?_; refine goesL_ (some 116) rfl rfl Try.func74 (by kernel_rfl) rfl #[.slice A_60 n15.length c_60, .int .i64 1] rfl (by (try simp only [List.map_toArray, List.map_cons, List.map_nil]); first | done | (rw [← HO_60E.out] <;> rfl) | rfl) ?_; (with_reducible refine (laws_heldIntSS.calls k A_60 c_60 n15 1 m15 _ ?s0 ?s1 T15.out).mono ?_); (case s0 => exact (Kd.S_reads' (ts2_x HO_60.out)).2.2); (case s1 => (have h1_ := Kd.S_reads' HO_60.out; have h2_ := h1_.1; have h3_ := h1_.2.1; omega)); rintro e w' ⟨rfl, ⟨nd_21, rfl⟩⟩; refine ⟨_, rfl, ?_⟩))
   go_ret
   exact ⟨by first | rfl | (simp <;> rfl), tb_⟩

def laws_FnExactBishopsOf.Pure : Prop := ∀ (a0_0 : Int) (a0_1 : Int) (l0_2 : List Int) (a1 : Int) (l2 : List Int), Fn.okI a0_0 → Fn.okI a0_1 → (Fn.okL Fn.okI) l0_2 → Fn.okI a1 → (Fn.okL Fn.okI) l2 → ∃ k, laws_FnExactBishopsOf.f k a0_0 a0_1 l0_2 a1 l2 = some true

end
end Go.Proofs.Ytdoflpghemgbdaa.P
