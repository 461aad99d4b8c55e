-- printed functions (wip/slim.py)
import Derived.Test.YthlcaikplebpmaaPx0
import Derived.Test.YthlcaikplebpmaaQ5ef8b885d4
namespace Go.Proofs.Ythlcaikplebpmaa.P
noncomputable section
set_option maxHeartbeats 8000000
set_option maxRecDepth 100000
open Go.RowKit Go.Proofs.YthlcaikplebpmaaW.PrintWords Go.Proofs.YthlcaikplebpmaaW.PrintLast Go.Proofs.YthlcaikplebpmaaW.PrintMore
attribute [local go_sem] max2_int min2_int max_two min_two max_three min_three max_four min_four   -- for this text's walks alone
set_option linter.unusedVariables false
set_option linter.unusedSimpArgs false

/-! ### spec_biCount: function 99 -/
mutual
def spec_biCount.l0 : Nat → Int → Int → Int → Int → Int → Int → Int → Int → Int → List Int → Option (Int)
 | 0, _, _, _, _, _, _, _, _, _, _ => none
 | k + 1, x1, x2, x3, x4, x5, x13, x14, x676000, x676001, x676002 => if x14 < x676001 then ((spec_biDiagonals.f x676000 x676001 x676002 x1 x14).bind fun bt677 => ((spec_boHas.f x676000 x676001 x676002 x1 x14).bind fun t679 => (if t679 = true then (if 0 ≤ x14 then (if (Int.tmod (shr .i64 x3 x14) 2) = 0 then (if 0 ≤ bt677.1 then (if (Int.tmod (shr .i64 x4 bt677.1) 2) = 0 then (if 0 ≤ bt677.2 then (if (Int.tmod (shr .i64 x5 bt677.2) 2) = 0 then ((spec_biCount.f k x676000 x676001 x676002 (wrap64 (x1 + 1)) (wrap64 (x2 - 1)) (Go.bits .or .i64 x3 (shl .i64 1 x14)) (Go.bits .or .i64 x4 (shl .i64 1 bt677.1)) (Go.bits .or .i64 x5 (shl .i64 1 bt677.2))).bind fun t680 => (spec_biCount.l0 k x1 x2 x3 x4 x5 (wrap64 (x13 + t680)) (wrap64 (x14 + 1)) x676000 x676001 x676002)) else (spec_biCount.l0 k x1 x2 x3 x4 x5 x13 (wrap64 (x14 + 1)) x676000 x676001 x676002)) else (none)) else (spec_biCount.l0 k x1 x2 x3 x4 x5 x13 (wrap64 (x14 + 1)) x676000 x676001 x676002)) else (none)) else (spec_biCount.l0 k x1 x2 x3 x4 x5 x13 (wrap64 (x14 + 1)) x676000 x676001 x676002)) else (none)) else (spec_biCount.l0 k x1 x2 x3 x4 x5 x13 (wrap64 (x14 + 1)) x676000 x676001 x676002)))) else (some x13)
def spec_biCount.f : Nat → Int → Int → List Int → Int → Int → Int → Int → Int → Option (Int)
 | 0, _, _, _, _, _, _, _, _ => none
 | k + 1, a0_0, a0_1, l0_2, a1, a2, a3, a4, a5 => if a2 = 0 then (some 1) else (if (wrap64 (a0_0 - a1)) < a2 then (some 0) else ((spec_biCount.f k a0_0 a0_1 l0_2 (wrap64 (a1 + 1)) a2 a3 a4 a5).bind fun t676 => (spec_biCount.l0 k a1 a2 a3 a4 a5 t676 0 a0_0 a0_1 l0_2)))
end
theorem spec_biCount.mono_l : ∀ k, (∀ y0 y1 y2 y3 y4 y5 y6 y7, LeO (spec_biCount.f k y0 y1 y2 y3 y4 y5 y6 y7) (spec_biCount.f (k + 1) y0 y1 y2 y3 y4 y5 y6 y7)) ∧ (∀ y0 y1 y2 y3 y4 y5 y6 y7 y8 y9, LeO (spec_biCount.l0 k y0 y1 y2 y3 y4 y5 y6 y7 y8 y9) (spec_biCount.l0 (k + 1) y0 y1 y2 y3 y4 y5 y6 y7 y8 y9))
 | 0 => ⟨fun _ _ _ _ _ _ _ _ r h => by simp [spec_biCount.f] at h, fun _ _ _ _ _ _ _ _ _ _ r h => by simp [spec_biCount.l0] at h⟩
 | k + 1 => by
  obtain ⟨ih0, ih1⟩ := spec_biCount.mono_l k
  refine ⟨?_, ?_⟩
  ·
   intro y0 y1 y2 y3 y4 y5 y6 y7
   unfold spec_biCount.f
   repeat' first | (with_reducible first | exact ih0 _ _ _ _ _ _ _ _ | exact ih1 _ _ _ _ _ _ _ _ _ _ | exact LeO.refl _ | exact LeO.none _ | refine LeO.ite ?_ ?_ | refine LeO.bind ?_ (fun _ => ?_)) | exact ih0 _ _ _ _ _ _ _ _ | exact ih1 _ _ _ _ _ _ _ _ _ _ | exact LeO.none _ | refine LeO.ite ?_ ?_ | refine LeO.bind ?_ (fun _ => ?_)
  ·
   intro y0 y1 y2 y3 y4 y5 y6 y7 y8 y9
   unfold spec_biCount.l0
   repeat' first | (with_reducible first | exact ih0 _ _ _ _ _ _ _ _ | exact ih1 _ _ _ _ _ _ _ _ _ _ | exact LeO.refl _ | exact LeO.none _ | refine LeO.ite ?_ ?_ | refine LeO.bind ?_ (fun _ => ?_)) | exact ih0 _ _ _ _ _ _ _ _ | exact ih1 _ _ _ _ _ _ _ _ _ _ | exact LeO.none _ | refine LeO.ite ?_ ?_ | refine LeO.bind ?_ (fun _ => ?_)
theorem spec_biCount.mono : ∀ a0 a1 a2 a3 a4 a5 a6 a7 k, LeO (spec_biCount.f k a0 a1 a2 a3 a4 a5 a6 a7) (spec_biCount.f (k + 1) a0 a1 a2 a3 a4 a5 a6 a7) := by
 intro a0 a1 a2 a3 a4 a5 a6 a7 k
 obtain ⟨ih0, ih1⟩ := spec_biCount.mono_l k
 exact ih0 a0 a1 a2 a3 a4 a5 a6 a7
def spec_biCount.T11 : Bool × List (List Nat × List Nat) := (true, [([], []), ([], []), ([], []), ([2], [2]), ([], []), ([4], [4]), ([], []), ([], []), ([7], [7]), ([6, 8], [6, 8]), ([], []), ([], []), ([11], [11]), ([10, 12], [10, 12]), ([], []), ([], []), ([15], [15]), ([14, 16], [14, 16]), ([1, 3, 5, 9, 13, 17], [1, 3, 5, 9, 13, 17]), ([0, 18], [0, 18]), ([19, 18, 0, 1, 2, 3, 4, 5, 6, 7, 8, 9, 10, 11, 12, 13, 14, 15, 16, 17, 18, 19], [0, 19])])
def spec_biCount.B11 : List Nat := [0, 0, 0, 4, 0, 16, 0, 0, 128, 448, 0, 0, 2048, 7168, 0, 0, 32768, 114688, 262142, 524287, 1048575]
theorem spec_biCount.tab11 : rtab .any (opsOf Try.f99 11) = spec_biCount.T11 := by kernel_rfl
theorem spec_biCount.bits11 : waitsOk spec_biCount.T11.2 spec_biCount.B11 = true := by kernel_rfl
theorem spec_biCount.calls (k : Nat) : ∀ (a0_0 : Int) (a0_1 : Int) (A0_2 : Option Addr) (c0_2 : Nat) (l0_2 : List Int) (a1 : Int) (a2 : Int) (a3 : Int) (a4 : Int) (a5 : Int) (r : Int) (w : World) (hr0_2 : Kd.C (Kd.int .i64) w A0_2 l0_2.length l0_2) (hc0_2 : l0_2.length ≤ c0_2) (h : spec_biCount.f k a0_0 a0_1 l0_2 a1 a2 a3 a4 a5 = some r),
  Calls Try.prog 99 #[.agg #[.int .i64 a0_0, .int .i64 a0_1, .slice A0_2 l0_2.length c0_2], .int .i64 a1, .int .i64 a2, .int .i64 a3, .int .i64 a4, .int .i64 a5] w fun e w' => e = .returned (.int .i64 r) ∧ Below w.heap.size w w' := by
 induction k using Nat.strongRecOn with
 | _ k ih =>
 intro a0_0 a0_1 A0_2 c0_2 l0_2 a1 a2 a3 a4 a5 r w hr0_2 hc0_2 h
 cases k with
 | zero => exact absurd h (by simp [spec_biCount.f])
 | succ k =>
 simp only [spec_biCount.f] at h
 have hu26 := Try.underlying26
 have HR0_2 := A_ hr0_2
 have HC0_2 := A_ hc0_2
 clear hr0_2 hc0_2
 have HB := A_ (Below.refl w.heap.size w)
 have H : (if a2 = 0 then (some 1) else (if (wrap64 (a0_0 - a1)) < a2 then (some 0) else ((spec_biCount.f k a0_0 a0_1 l0_2 (wrap64 (a1 + 1)) a2 a3 a4 a5).bind fun t676 => (spec_biCount.l0 k a1 a2 a3 a4 a5 t676 0 a0_0 a0_1 l0_2)))) = some r := h
 clear h
 by_cases c7 : a2 = 0
 ·
  rw [if_pos c7] at H
  have c7b0 : (a2 == 0) = true := beq_iff_eq.mpr c7
  have c7b1 : (a2 != 0) = false := bne_eq_false_iff_eq.mpr c7
  clear c7
  obtain rfl := Option.some.inj H
  go_enter Try.func99, Try.ntmps99
  go_wp2_with (first | (refine gd_ 6 ?_; refine bx_ 6 #[.int .i64 a0_0, .int .i64 a0_1, .slice A0_2 l0_2.length c0_2] 26 ?_; intro gb675 hg w8 hbox hb; have BK675 := A_ (hbox); have GW675 := A_ ((ts_ hg : w.heap.size ≤ gb675)); have GE675 := A_ ((ts_ hg : w.heap.size ≤ gb675)); replace HB := A_ (below_step tb_ hb); clear hb hbox hg))
  go_ret
  exact ⟨te_, tb_⟩
 ·
  rw [if_neg c7] at H
  have c7b0 : (a2 == 0) = false := beq_eq_false_iff_ne.mpr c7
  have c7b1 : (a2 != 0) = true := bne_iff_ne.mpr c7
  by_cases c9 : (wrap64 (a0_0 - a1)) < a2
  ·
   rw [if_pos c9] at H
   have c9b0 := decide_eq_true c9
   clear c9
   obtain rfl := Option.some.inj H
   go_enter Try.func99, Try.ntmps99
   go_wp2_with (first | (refine gd_ 6 ?_; refine bx_ 6 #[.int .i64 a0_0, .int .i64 a0_1, .slice A0_2 l0_2.length c0_2] 26 ?_; intro gb675 hg w10 hbox hb; have BK675 := A_ (hbox); have GW675 := A_ ((ts_ hg : w.heap.size ≤ gb675)); have GE675 := A_ ((ts_ hg : w.heap.size ≤ gb675)); replace HB := A_ (below_step tb_ hb); clear hb hbox hg; obtain ⟨hcz11_0, hcz11_1, hcz11_2, hfz11_0, hfz11_1, hfz11_2⟩ := cf3_ BK675.out))
   go_ret
   exact ⟨te_, tb_⟩
  ·
   rw [if_neg c9] at H
   have c9b0 := decide_eq_false c9
   clear c9
   replace H := Option.bind_eq_some_iff.mp H
   obtain ⟨t676, A120, H⟩ := H
   replace H : (spec_biCount.l0 k a1 a2 a3 a4 a5 t676 0 a0_0 a0_1 l0_2) = some r := H
   have A12 := A_ A120
   clear A120
   have H' := A_ H
   clear H
   go_enter Try.func99, Try.ntmps99
   go_wp2_with (first | (refine gd_ 6 ?_; refine bx_ 6 #[.int .i64 a0_0, .int .i64 a0_1, .slice A0_2 l0_2.length c0_2] 26 ?_; intro gb675 hg w13 hbox hb; have BK675 := A_ (hbox); have GW675 := A_ ((ts_ hg : w.heap.size ≤ gb675)); have GE675 := A_ ((ts_ hg : w.heap.size ≤ gb675)); replace HB := A_ (below_step tb_ hb); clear hb hbox hg; obtain ⟨hcz14_0, hcz14_1, hcz14_2, hfz14_0, hfz14_1, hfz14_2⟩ := cf3_ BK675.out) | (refine gc_ 99 ?_; refine goesT_ (some 32) Try.func99 #[.agg #[.int .i64 a0_0, .int .i64 a0_1, .slice A0_2 l0_2.length c0_2], .int .i64 (wrap64 (a1 + 1)), .int .i64 a2, .int .i64 a3, .int .i64 a4, .int .i64 a5] ?_; (with_reducible refine (ih k (by omega) a0_0 a0_1 _ _ l0_2 (wrap64 (a1 + 1)) a2 a3 a4 a5 t676 _ ?side1 ?side2 A12.out).mono ?_); (case side1 => exact tc_ HR0_2.out); (case side2 => exact HC0_2.out); rintro e w15 ⟨rfl, hb⟩; refine ⟨_, rfl, ?_⟩; replace BK675 := A_ (blk_below (g := gb675) (o := .cells #[.int .i64 a0_0, .int .i64 a0_1, .slice A0_2 l0_2.length c0_2] 26 (0, 0)) (tk_ BK675) hb); replace HB := A_ (below_step tb_ hb); (try clear hb)))
   go_loopg [13, 14] k (fun kq v13 v14 w' => ∃ (x13_1 : Int) (x14_1 : Int), v13 = .int .i64 x13_1 ∧ v14 = .int .i64 x14_1 ∧ Aside0 (spec_biCount.l0 kq a1 a2 a3 a4 a5 x13_1 x14_1 a0_0 a0_1 l0_2 = some r) ∧ Aside0 (kq ≤ k) ∧ Aside0 (w'.heap[gb675]? = some (.cells #[.int .i64 a0_0, .int .i64 a0_1, (.slice A0_2 l0_2.length c0_2)] 26 (0, 0))) ∧ Aside0 (Below w.heap.size w w'))
   case atStart => exact ⟨(t676), (0), tf_, tf_, H', ⟨Nat.le_refl _⟩, ⟨tk_ BK675⟩, ⟨tb_⟩⟩
   case round =>
    clear H'
    try clear p2
    try clear p6
    try clear c7
    try clear c7b0
    try clear c7b1
    try clear c9
    try clear c9b0
    try clear hcz11_0
    try clear hcz11_1
    try clear hcz11_2
    try clear hcz14_0
    try clear hcz14_1
    try clear hcz14_2
    try clear hfz11_0
    try clear hfz11_1
    try clear hfz11_2
    try clear hfz14_0
    try clear hfz14_1
    try clear hfz14_2
    obtain ⟨x13_1, x14_1, rfl, rfl, HA, HK1, BK675, HB⟩ := hrel
    cases gk with
    | zero => exact absurd HA.out (by simp [spec_biCount.l0])
    | succ k1 =>
     have H := HA.out
     clear HA
     simp only [spec_biCount.l0] at H
     by_cases c16 : x14_1 < a0_1
     ·
      rw [if_pos c16] at H
      have c16b0 := decide_eq_true c16
      clear c16
      replace H := Option.bind_eq_some_iff.mp H
      obtain ⟨⟨t677, t678⟩, A170, H⟩ := H
      replace H : ((spec_boHas.f a0_0 a0_1 l0_2 a1 x14_1).bind fun t679 => (if t679 = true then (if 0 ≤ x14_1 then (if (Int.tmod (shr .i64 a3 x14_1) 2) = 0 then (if 0 ≤ t677 then (if (Int.tmod (shr .i64 a4 t677) 2) = 0 then (if 0 ≤ t678 then (if (Int.tmod (shr .i64 a5 t678) 2) = 0 then ((spec_biCount.f k1 a0_0 a0_1 l0_2 (wrap64 (a1 + 1)) (wrap64 (a2 - 1)) (Go.bits .or .i64 a3 (shl .i64 1 x14_1)) (Go.bits .or .i64 a4 (shl .i64 1 t677)) (Go.bits .or .i64 a5 (shl .i64 1 t678))).bind fun t680 => (spec_biCount.l0 k1 a1 a2 a3 a4 a5 (wrap64 (x13_1 + t680)) (wrap64 (x14_1 + 1)) a0_0 a0_1 l0_2)) else (spec_biCount.l0 k1 a1 a2 a3 a4 a5 x13_1 (wrap64 (x14_1 + 1)) a0_0 a0_1 l0_2)) else (none)) else (spec_biCount.l0 k1 a1 a2 a3 a4 a5 x13_1 (wrap64 (x14_1 + 1)) a0_0 a0_1 l0_2)) else (none)) else (spec_biCount.l0 k1 a1 a2 a3 a4 a5 x13_1 (wrap64 (x14_1 + 1)) a0_0 a0_1 l0_2)) else (none)) else (spec_biCount.l0 k1 a1 a2 a3 a4 a5 x13_1 (wrap64 (x14_1 + 1)) a0_0 a0_1 l0_2))) = some r := H
      have A17 := A_ A170
      clear A170
      replace H := Option.bind_eq_some_iff.mp H
      obtain ⟨t679, A180, H⟩ := H
      replace H : (if t679 = true then (if 0 ≤ x14_1 then (if (Int.tmod (shr .i64 a3 x14_1) 2) = 0 then (if 0 ≤ t677 then (if (Int.tmod (shr .i64 a4 t677) 2) = 0 then (if 0 ≤ t678 then (if (Int.tmod (shr .i64 a5 t678) 2) = 0 then ((spec_biCount.f k1 a0_0 a0_1 l0_2 (wrap64 (a1 + 1)) (wrap64 (a2 - 1)) (Go.bits .or .i64 a3 (shl .i64 1 x14_1)) (Go.bits .or .i64 a4 (shl .i64 1 t677)) (Go.bits .or .i64 a5 (shl .i64 1 t678))).bind fun t680 => (spec_biCount.l0 k1 a1 a2 a3 a4 a5 (wrap64 (x13_1 + t680)) (wrap64 (x14_1 + 1)) a0_0 a0_1 l0_2)) else (spec_biCount.l0 k1 a1 a2 a3 a4 a5 x13_1 (wrap64 (x14_1 + 1)) a0_0 a0_1 l0_2)) else (none)) else (spec_biCount.l0 k1 a1 a2 a3 a4 a5 x13_1 (wrap64 (x14_1 + 1)) a0_0 a0_1 l0_2)) else (none)) else (spec_biCount.l0 k1 a1 a2 a3 a4 a5 x13_1 (wrap64 (x14_1 + 1)) a0_0 a0_1 l0_2)) else (none)) else (spec_biCount.l0 k1 a1 a2 a3 a4 a5 x13_1 (wrap64 (x14_1 + 1)) a0_0 a0_1 l0_2)) = some r := H
      have A18 := A_ A180
      clear A180
      by_cases c19 : t679 = true
      ·
       subst c19
       have H1 : (if 0 ≤ x14_1 then (if (Int.tmod (shr .i64 a3 x14_1) 2) = 0 then (if 0 ≤ t677 then (if (Int.tmod (shr .i64 a4 t677) 2) = 0 then (if 0 ≤ t678 then (if (Int.tmod (shr .i64 a5 t678) 2) = 0 then ((spec_biCount.f k1 a0_0 a0_1 l0_2 (wrap64 (a1 + 1)) (wrap64 (a2 - 1)) (Go.bits .or .i64 a3 (shl .i64 1 x14_1)) (Go.bits .or .i64 a4 (shl .i64 1 t677)) (Go.bits .or .i64 a5 (shl .i64 1 t678))).bind fun t680 => (spec_biCount.l0 k1 a1 a2 a3 a4 a5 (wrap64 (x13_1 + t680)) (wrap64 (x14_1 + 1)) a0_0 a0_1 l0_2)) else (spec_biCount.l0 k1 a1 a2 a3 a4 a5 x13_1 (wrap64 (x14_1 + 1)) a0_0 a0_1 l0_2)) else (none)) else (spec_biCount.l0 k1 a1 a2 a3 a4 a5 x13_1 (wrap64 (x14_1 + 1)) a0_0 a0_1 l0_2)) else (none)) else (spec_biCount.l0 k1 a1 a2 a3 a4 a5 x13_1 (wrap64 (x14_1 + 1)) a0_0 a0_1 l0_2)) else (none)) = some r := by rw [if_pos rfl] at H; exact H
       clear H
       have H := H1
       clear H1
       by_cases c20 : 0 ≤ x14_1
       ·
        rw [if_pos c20] at H
        have c20b0 := eq_true c20
        have c20b1 := decide_eq_true c20
        clear c20
        obtain ⟨ji21, hji21⟩ : ∃ j_ : Int, (shr .i64 a3 x14_1) = j_ := ⟨_, rfl⟩
        replace H : (if (Int.tmod (ji21) 2) = 0 then (if 0 ≤ t677 then (if (Int.tmod (shr .i64 a4 t677) 2) = 0 then (if 0 ≤ t678 then (if (Int.tmod (shr .i64 a5 t678) 2) = 0 then ((spec_biCount.f k1 a0_0 a0_1 l0_2 (wrap64 (a1 + 1)) (wrap64 (a2 - 1)) (Go.bits .or .i64 a3 (shl .i64 1 x14_1)) (Go.bits .or .i64 a4 (shl .i64 1 t677)) (Go.bits .or .i64 a5 (shl .i64 1 t678))).bind fun t680 => (spec_biCount.l0 k1 a1 a2 a3 a4 a5 (wrap64 (x13_1 + t680)) (wrap64 (x14_1 + 1)) a0_0 a0_1 l0_2)) else (spec_biCount.l0 k1 a1 a2 a3 a4 a5 x13_1 (wrap64 (x14_1 + 1)) a0_0 a0_1 l0_2)) else (none)) else (spec_biCount.l0 k1 a1 a2 a3 a4 a5 x13_1 (wrap64 (x14_1 + 1)) a0_0 a0_1 l0_2)) else (none)) else (spec_biCount.l0 k1 a1 a2 a3 a4 a5 x13_1 (wrap64 (x14_1 + 1)) a0_0 a0_1 l0_2)) = some r := by first | (rw [hji21] at H; exact H) | (simp only [hji21] at H ⊢; exact H)
        (try rw [hji21] at A17)
        (try rw [hji21] at A18)
        have hji21_ : (a3 / 2 ^ min x14_1.toNat 64) = ji21 := hji21
        have hji21z : x14_1 ≤ 64 → (a3 / 2 ^ x14_1.toNat) = ji21 := shr_small hji21
        by_cases c22 : (Int.tmod (ji21) 2) = 0
        ·
         rw [if_pos c22] at H
         have c22b0 : ((Int.tmod (ji21) 2) == 0) = true := beq_iff_eq.mpr c22
         have c22b1 : ((Int.tmod (ji21) 2) != 0) = false := bne_eq_false_iff_eq.mpr c22
         clear c22
         by_cases c23 : 0 ≤ t677
         ·
          rw [if_pos c23] at H
          have c23b0 := eq_true c23
          have c23b1 := decide_eq_true c23
          clear c23
          obtain ⟨ji24, hji24⟩ : ∃ j_ : Int, (shr .i64 a4 t677) = j_ := ⟨_, rfl⟩
          replace H : (if (Int.tmod (ji24) 2) = 0 then (if 0 ≤ t678 then (if (Int.tmod (shr .i64 a5 t678) 2) = 0 then ((spec_biCount.f k1 a0_0 a0_1 l0_2 (wrap64 (a1 + 1)) (wrap64 (a2 - 1)) (Go.bits .or .i64 a3 (shl .i64 1 x14_1)) (Go.bits .or .i64 a4 (shl .i64 1 t677)) (Go.bits .or .i64 a5 (shl .i64 1 t678))).bind fun t680 => (spec_biCount.l0 k1 a1 a2 a3 a4 a5 (wrap64 (x13_1 + t680)) (wrap64 (x14_1 + 1)) a0_0 a0_1 l0_2)) else (spec_biCount.l0 k1 a1 a2 a3 a4 a5 x13_1 (wrap64 (x14_1 + 1)) a0_0 a0_1 l0_2)) else (none)) else (spec_biCount.l0 k1 a1 a2 a3 a4 a5 x13_1 (wrap64 (x14_1 + 1)) a0_0 a0_1 l0_2)) = some r := by first | (rw [hji24] at H; exact H) | (simp only [hji24] at H ⊢; exact H)
          (try rw [hji24] at A17)
          (try rw [hji24] at A18)
          have hji24_ : (a4 / 2 ^ min t677.toNat 64) = ji24 := hji24
          have hji24z : t677 ≤ 64 → (a4 / 2 ^ t677.toNat) = ji24 := shr_small hji24
          by_cases c25 : (Int.tmod (ji24) 2) = 0
          ·
           rw [if_pos c25] at H
           have c25b0 : ((Int.tmod (ji24) 2) == 0) = true := beq_iff_eq.mpr c25
           have c25b1 : ((Int.tmod (ji24) 2) != 0) = false := bne_eq_false_iff_eq.mpr c25
           clear c25
           by_cases c26 : 0 ≤ t678
           ·
            rw [if_pos c26] at H
            have c26b0 := eq_true c26
            have c26b1 := decide_eq_true c26
            clear c26
            obtain ⟨ji27, hji27⟩ : ∃ j_ : Int, (shr .i64 a5 t678) = j_ := ⟨_, rfl⟩
            replace H : (if (Int.tmod (ji27) 2) = 0 then ((spec_biCount.f k1 a0_0 a0_1 l0_2 (wrap64 (a1 + 1)) (wrap64 (a2 - 1)) (Go.bits .or .i64 a3 (shl .i64 1 x14_1)) (Go.bits .or .i64 a4 (shl .i64 1 t677)) (Go.bits .or .i64 a5 (shl .i64 1 t678))).bind fun t680 => (spec_biCount.l0 k1 a1 a2 a3 a4 a5 (wrap64 (x13_1 + t680)) (wrap64 (x14_1 + 1)) a0_0 a0_1 l0_2)) else (spec_biCount.l0 k1 a1 a2 a3 a4 a5 x13_1 (wrap64 (x14_1 + 1)) a0_0 a0_1 l0_2)) = some r := by first | (rw [hji27] at H; exact H) | (simp only [hji27] at H ⊢; exact H)
            (try rw [hji27] at A17)
            (try rw [hji27] at A18)
            have hji27_ : (a5 / 2 ^ min t678.toNat 64) = ji27 := hji27
            have hji27z : t678 ≤ 64 → (a5 / 2 ^ t678.toNat) = ji27 := shr_small hji27
            by_cases c28 : (Int.tmod (ji27) 2) = 0
            ·
             rw [if_pos c28] at H
             have c28b0 : ((Int.tmod (ji27) 2) == 0) = true := beq_iff_eq.mpr c28
             have c28b1 : ((Int.tmod (ji27) 2) != 0) = false := bne_eq_false_iff_eq.mpr c28
             clear c28
             have c29b0 := eq_true (od_ : 0 ≤ x14_1)
             obtain ⟨ji30, hji30⟩ : ∃ j_ : Int, (shl .i64 1 x14_1) = j_ := ⟨_, rfl⟩
             replace H : ((spec_biCount.f k1 a0_0 a0_1 l0_2 (wrap64 (a1 + 1)) (wrap64 (a2 - 1)) (Go.bits .or .i64 a3 (ji30)) (Go.bits .or .i64 a4 (shl .i64 1 t677)) (Go.bits .or .i64 a5 (shl .i64 1 t678))).bind fun t680 => (spec_biCount.l0 k1 a1 a2 a3 a4 a5 (wrap64 (x13_1 + t680)) (wrap64 (x14_1 + 1)) a0_0 a0_1 l0_2)) = some r := by first | (rw [hji30] at H; exact H) | (simp only [hji30] at H ⊢; exact H)
             (try rw [hji30] at A17)
             (try rw [hji30] at A18)
             have hji30_ : (IntKind.i64.wrap (1 * 2 ^ min x14_1.toNat 64)) = ji30 := hji30
             have hji30z : x14_1 ≤ 64 → (IntKind.i64.wrap (1 * 2 ^ x14_1.toNat)) = ji30 := shl_small hji30
             have hji30u : (IntKind.i64.wrap (2 ^ min x14_1.toNat 64)) = ji30 := by have h_ := hji30_; rw [Int.one_mul] at h_; exact h_
             have hji30v : x14_1 ≤ 64 → (IntKind.i64.wrap (2 ^ x14_1.toNat)) = ji30 := fun hle_ => by have h_ := hji30z hle_; rw [Int.one_mul] at h_; exact h_
             have hji30y : (wrap64 (1 * 2 ^ min x14_1.toNat 64)) = ji30 := (i64_w _).symm.trans hji30_
             have hji30x : x14_1 ≤ 64 → (wrap64 (1 * 2 ^ x14_1.toNat)) = ji30 := fun h_ => (i64_w _).symm.trans (hji30z h_)
             have c31b0 := eq_true (od_ : 0 ≤ t677)
             obtain ⟨ji32, hji32⟩ : ∃ j_ : Int, (shl .i64 1 t677) = j_ := ⟨_, rfl⟩
             replace H : ((spec_biCount.f k1 a0_0 a0_1 l0_2 (wrap64 (a1 + 1)) (wrap64 (a2 - 1)) (Go.bits .or .i64 a3 (ji30)) (Go.bits .or .i64 a4 (ji32)) (Go.bits .or .i64 a5 (shl .i64 1 t678))).bind fun t680 => (spec_biCount.l0 k1 a1 a2 a3 a4 a5 (wrap64 (x13_1 + t680)) (wrap64 (x14_1 + 1)) a0_0 a0_1 l0_2)) = some r := by first | (rw [hji32] at H; exact H) | (simp only [hji32] at H ⊢; exact H)
             (try rw [hji32] at A17)
             (try rw [hji32] at A18)
             have hji32_ : (IntKind.i64.wrap (1 * 2 ^ min t677.toNat 64)) = ji32 := hji32
             have hji32z : t677 ≤ 64 → (IntKind.i64.wrap (1 * 2 ^ t677.toNat)) = ji32 := shl_small hji32
             have hji32u : (IntKind.i64.wrap (2 ^ min t677.toNat 64)) = ji32 := by have h_ := hji32_; rw [Int.one_mul] at h_; exact h_
             have hji32v : t677 ≤ 64 → (IntKind.i64.wrap (2 ^ t677.toNat)) = ji32 := fun hle_ => by have h_ := hji32z hle_; rw [Int.one_mul] at h_; exact h_
             have hji32y : (wrap64 (1 * 2 ^ min t677.toNat 64)) = ji32 := (i64_w _).symm.trans hji32_
             have hji32x : t677 ≤ 64 → (wrap64 (1 * 2 ^ t677.toNat)) = ji32 := fun h_ => (i64_w _).symm.trans (hji32z h_)
             have c33b0 := eq_true (od_ : 0 ≤ t678)
             obtain ⟨ji34, hji34⟩ : ∃ j_ : Int, (shl .i64 1 t678) = j_ := ⟨_, rfl⟩
             replace H : ((spec_biCount.f k1 a0_0 a0_1 l0_2 (wrap64 (a1 + 1)) (wrap64 (a2 - 1)) (Go.bits .or .i64 a3 (ji30)) (Go.bits .or .i64 a4 (ji32)) (Go.bits .or .i64 a5 (ji34))).bind fun t680 => (spec_biCount.l0 k1 a1 a2 a3 a4 a5 (wrap64 (x13_1 + t680)) (wrap64 (x14_1 + 1)) a0_0 a0_1 l0_2)) = some r := by first | (rw [hji34] at H; exact H) | (simp only [hji34] at H ⊢; exact H)
             (try rw [hji34] at A17)
             (try rw [hji34] at A18)
             have hji34_ : (IntKind.i64.wrap (1 * 2 ^ min t678.toNat 64)) = ji34 := hji34
             have hji34z : t678 ≤ 64 → (IntKind.i64.wrap (1 * 2 ^ t678.toNat)) = ji34 := shl_small hji34
             have hji34u : (IntKind.i64.wrap (2 ^ min t678.toNat 64)) = ji34 := by have h_ := hji34_; rw [Int.one_mul] at h_; exact h_
             have hji34v : t678 ≤ 64 → (IntKind.i64.wrap (2 ^ t678.toNat)) = ji34 := fun hle_ => by have h_ := hji34z hle_; rw [Int.one_mul] at h_; exact h_
             have hji34y : (wrap64 (1 * 2 ^ min t678.toNat 64)) = ji34 := (i64_w _).symm.trans hji34_
             have hji34x : t678 ≤ 64 → (wrap64 (1 * 2 ^ t678.toNat)) = ji34 := fun h_ => (i64_w _).symm.trans (hji34z h_)
             replace H := Option.bind_eq_some_iff.mp H
             obtain ⟨t680, A350, H⟩ := H
             replace H : (spec_biCount.l0 k1 a1 a2 a3 a4 a5 (wrap64 (x13_1 + t680)) (wrap64 (x14_1 + 1)) a0_0 a0_1 l0_2) = some r := H
             have A35 := A_ A350
             clear A350
             have H' := A_ H
             clear H
             obtain ⟨hcz36_0, hcz36_1, hcz36_2, hfz36_0, hfz36_1, hfz36_2⟩ := cf3_ BK675.out
             try go_wp2_with (first | (refine gc_ 162 ?_; refine goesT_ (some 43) Try.func162 #[.agg #[.int .i64 a0_0, .int .i64 a0_1, .slice A0_2 l0_2.length c0_2], .int .i64 a1, .int .i64 x14_1] ?_; (with_reducible refine (spec_biDiagonals.calls a0_0 a0_1 _ _ l0_2 a1 x14_1 t677 t678 _ ?side1 ?side2 A17.out).mono ?_); (case side1 => exact tc_ HR0_2.out); (case side2 => exact HC0_2.out); rintro e w37 ⟨rfl, hb⟩; refine ⟨_, rfl, ?_⟩; replace BK675 := A_ (blk_below (g := gb675) (o := .cells #[.int .i64 a0_0, .int .i64 a0_1, .slice A0_2 l0_2.length c0_2] 26 (0, 0)) (tk_ BK675) hb); replace HB := A_ (below_step tb_ hb); (try clear hb); obtain ⟨hcz38_0, hcz38_1, hcz38_2, hfz38_0, hfz38_1, hfz38_2⟩ := cf3_ BK675.out) | (refine gc_ 182 ?_; refine goesT_ (some 49) Try.func182 #[.agg #[.int .i64 a0_0, .int .i64 a0_1, .slice A0_2 l0_2.length c0_2], .int .i64 a1, .int .i64 x14_1] ?_; (with_reducible refine (spec_boHas.calls a0_0 a0_1 _ _ l0_2 a1 x14_1 true _ ?side1 ?side2 A18.out).mono ?_); (case side1 => exact tc_ HR0_2.out); (case side2 => exact HC0_2.out); rintro e w39 ⟨rfl, hb⟩; refine ⟨_, rfl, ?_⟩; replace BK675 := A_ (blk_below (g := gb675) (o := .cells #[.int .i64 a0_0, .int .i64 a0_1, .slice A0_2 l0_2.length c0_2] 26 (0, 0)) (tk_ BK675) hb); replace HB := A_ (below_step tb_ hb); (try clear hb)))
             have n0_ := A_ (blk_drew BK675.out)
             have n1_ := A_ (below_drew1 HB.out)
             clear BK675
             clear HB
             have BK675 := n0_
             have HB := n1_
             clear n0_ n1_
             refine start_ (n := 21) (S := fun w' => w'.cell? ⟨gb675, 0, none⟩ = some (.int .i64 a0_0) ∧ w'.cell? ⟨gb675, 1, none⟩ = some (.int .i64 a0_1) ∧ w'.cell? ⟨gb675, 2, none⟩ = some (.slice A0_2 l0_2.length c0_2)) (ds := []) (Fn.bl 21 0) (by kernel_rfl) rfl rfl ⟨(blk_cell BK675.out 0).trans rfl, (blk_cell BK675.out 1).trans rfl, (blk_cell BK675.out 2).trans rfl⟩ (fun hHeld => ?_); refine with_tabW spec_biCount.tab11 spec_biCount.bits11 (fun HT_ HW_ => ?_)
             generalize w39.drew = w40 at BK675 HB hHeld ⊢
             refine pq_ 0 (some 71) (Fn.bl 21 1) HT_.out ?_
             refine pq_ 2 (some 73) (Fn.bl 21 5) HT_.out ?_
             refine pq_ 3 (some 74) (Fn.bl 21 13) HT_.out ?_
             refine pq_ 4 (some 75) (Fn.bl 21 29) HT_.out ?_
             refine pq_ 5 (some 76) (Fn.bl 21 61) HT_.out ?_
             refine pq_ 6 (some 77) (Fn.bl 21 125) HT_.out ?_
             refine pq_ 7 (some 78) (Fn.bl 21 253) HT_.out ?_
             refine pq_ 8 (some 79) (Fn.bl 21 509) HT_.out ?_
             refine pq_ 9 (some 80) (Fn.bl 21 1021) HT_.out ?_
             refine pq_ 10 (some 81) (Fn.bl 21 2045) HT_.out ?_
             refine pq_ 11 (some 82) (Fn.bl 21 4093) HT_.out ?_
             refine pq_ 12 (some 83) (Fn.bl 21 8189) HT_.out ?_
             refine pq_ 13 (some 84) (Fn.bl 21 16381) HT_.out ?_
             refine pq_ 14 (some 85) (Fn.bl 21 32765) HT_.out ?_
             refine pq_ 15 (some 86) (Fn.bl 21 65533) HT_.out ?_
             refine pq_ 16 (some 87) (Fn.bl 21 131069) HT_.out ?_
             refine pq_ 17 (some 88) (Fn.bl 21 262141) HT_.out ?_
             refine tq_ 1 (some 72) (Fn.bl 21 262143) HT_.out HW_.out hHeld ?_ (hy0 := by rintro w' ⟨s0, s1, s2⟩; go_simp; with_reducible rfl)
             refine one_ (i := 18) (N := some 89) (Fn.bl 21 524287) rfl rfl (one_of HT_.out (by kernel_rfl)) (by decide) (fun K hK => ?_)
             refine goes_ Try.func99 (by kernel_rfl) rfl #[.agg #[.int .i64 a0_0, .int .i64 a0_1, .slice A0_2 l0_2.length c0_2], .int .i64 (wrap64 (a1 + 1)), .int .i64 (wrap64 (a2 - 1)), .int .i64 (Go.bits .or .i64 a3 (ji30)), .int .i64 (Go.bits .or .i64 a4 (ji32)), .int .i64 (Go.bits .or .i64 a5 (ji34))] (by rfl) rfl rfl (by (try simp only [List.map_toArray, List.map_cons, List.map_nil]); first | done | (simp only [hji30, hji32, hji34]; rfl) | rfl | (simp only [List.length_drop, List.length_take]; rfl)) ?_
             with_reducible refine (ih k1 (by have := HK1.out; omega) a0_0 a0_1 _ _ l0_2 (wrap64 (a1 + 1)) (wrap64 (a2 - 1)) (Go.bits .or .i64 a3 (ji30)) (Go.bits .or .i64 a4 (ji32)) (Go.bits .or .i64 a5 (ji34)) t680 _ ?side1 ?side2 A35.out).mono ?_
             (case side1 => exact tc_ HR0_2.out)
             (case side2 => exact HC0_2.out)
             rintro e w41 ⟨rfl, hb⟩
             refine ⟨_, rfl, ?_⟩
             have n0_ := A_ (blk_below (g := gb675) (o := .cells #[.int .i64 a0_0, .int .i64 a0_1, .slice A0_2 l0_2.length c0_2] 26 (0, 0)) (tk_ BK675) hb)
             have n1_ := A_ (below_step tb_ hb)
             clear BK675
             clear HB
             have BK675 := n0_
             have HB := n1_
             clear n0_ n1_
             (try clear hb)
             (try clear hb2)
             (try clear hk)
             (try clear hi)
             refine hK.out _ _ ⟨(blk_cell BK675.out 0).trans rfl, (blk_cell BK675.out 1).trans rfl, (blk_cell BK675.out 2).trans rfl⟩ (fun hHeld => ?_)
             clear hK K
             refine norm_ (a' := ?_) ?_ ?_
             rotate_left
             ·
              show Act.put _ (some 89) _ = _
              simp only [Act.put, List.setIfInBounds_toArray, List.set_cons_zero, List.set_cons_succ, i64_w, i32_w]
              rfl
             refine pq_ 19 (some 90) (Fn.bl 21 1048575) HT_.out ?_
             refine pq_ 20 (some 13) (Fn.bl 21 2097151) HT_.out ?_
             refine done_ (done_of HT_.out (by kernel_rfl)) ?_
             try go_wp2
             go_roundg k1
             case measure => have := HK1.out; omega
             case rel => exact ⟨(wrap64 (x13_1 + t680)), (wrap64 (x14_1 + 1)), tf_, tf_, H', ⟨by have := HK1.out; omega⟩, ⟨tk_ BK675⟩, ⟨tb_⟩⟩
            ·
             rw [if_neg c28] at H
             have c28b0 : ((Int.tmod (ji27) 2) == 0) = false := beq_eq_false_iff_ne.mpr c28
             have c28b1 : ((Int.tmod (ji27) 2) != 0) = true := bne_iff_ne.mpr c28
             have H' := A_ H
             clear H
             obtain ⟨hcz42_0, hcz42_1, hcz42_2, hfz42_0, hfz42_1, hfz42_2⟩ := cf3_ BK675.out
             go_wp2_with (first | (refine gc_ 162 ?_; refine goesT_ (some 43) Try.func162 #[.agg #[.int .i64 a0_0, .int .i64 a0_1, .slice A0_2 l0_2.length c0_2], .int .i64 a1, .int .i64 x14_1] ?_; (with_reducible refine (spec_biDiagonals.calls a0_0 a0_1 _ _ l0_2 a1 x14_1 t677 t678 _ ?side1 ?side2 A17.out).mono ?_); (case side1 => exact tc_ HR0_2.out); (case side2 => exact HC0_2.out); rintro e w43 ⟨rfl, hb⟩; refine ⟨_, rfl, ?_⟩; replace BK675 := A_ (blk_below (g := gb675) (o := .cells #[.int .i64 a0_0, .int .i64 a0_1, .slice A0_2 l0_2.length c0_2] 26 (0, 0)) (tk_ BK675) hb); replace HB := A_ (below_step tb_ hb); (try clear hb); obtain ⟨hcz44_0, hcz44_1, hcz44_2, hfz44_0, hfz44_1, hfz44_2⟩ := cf3_ BK675.out) | (refine gc_ 182 ?_; refine goesT_ (some 49) Try.func182 #[.agg #[.int .i64 a0_0, .int .i64 a0_1, .slice A0_2 l0_2.length c0_2], .int .i64 a1, .int .i64 x14_1] ?_; (with_reducible refine (spec_boHas.calls a0_0 a0_1 _ _ l0_2 a1 x14_1 true _ ?side1 ?side2 A18.out).mono ?_); (case side1 => exact tc_ HR0_2.out); (case side2 => exact HC0_2.out); rintro e w45 ⟨rfl, hb⟩; refine ⟨_, rfl, ?_⟩; replace BK675 := A_ (blk_below (g := gb675) (o := .cells #[.int .i64 a0_0, .int .i64 a0_1, .slice A0_2 l0_2.length c0_2] 26 (0, 0)) (tk_ BK675) hb); replace HB := A_ (below_step tb_ hb); (try clear hb)))
             go_roundg k1
             case measure => have := HK1.out; omega
             case rel => exact ⟨(x13_1), (wrap64 (x14_1 + 1)), tf_, tf_, H', ⟨by have := HK1.out; omega⟩, ⟨tk_ BK675⟩, ⟨tb_⟩⟩
           ·
            rw [if_neg c26] at H
            exact absurd H (by simp)
          ·
           rw [if_neg c25] at H
           have c25b0 : ((Int.tmod (ji24) 2) == 0) = false := beq_eq_false_iff_ne.mpr c25
           have c25b1 : ((Int.tmod (ji24) 2) != 0) = true := bne_iff_ne.mpr c25
           have H' := A_ H
           clear H
           obtain ⟨hcz46_0, hcz46_1, hcz46_2, hfz46_0, hfz46_1, hfz46_2⟩ := cf3_ BK675.out
           go_wp2_with (first | (refine gc_ 162 ?_; refine goesT_ (some 43) Try.func162 #[.agg #[.int .i64 a0_0, .int .i64 a0_1, .slice A0_2 l0_2.length c0_2], .int .i64 a1, .int .i64 x14_1] ?_; (with_reducible refine (spec_biDiagonals.calls a0_0 a0_1 _ _ l0_2 a1 x14_1 t677 t678 _ ?side1 ?side2 A17.out).mono ?_); (case side1 => exact tc_ HR0_2.out); (case side2 => exact HC0_2.out); rintro e w47 ⟨rfl, hb⟩; refine ⟨_, rfl, ?_⟩; replace BK675 := A_ (blk_below (g := gb675) (o := .cells #[.int .i64 a0_0, .int .i64 a0_1, .slice A0_2 l0_2.length c0_2] 26 (0, 0)) (tk_ BK675) hb); replace HB := A_ (below_step tb_ hb); (try clear hb); obtain ⟨hcz48_0, hcz48_1, hcz48_2, hfz48_0, hfz48_1, hfz48_2⟩ := cf3_ BK675.out) | (refine gc_ 182 ?_; refine goesT_ (some 49) Try.func182 #[.agg #[.int .i64 a0_0, .int .i64 a0_1, .slice A0_2 l0_2.length c0_2], .int .i64 a1, .int .i64 x14_1] ?_; (with_reducible refine (spec_boHas.calls a0_0 a0_1 _ _ l0_2 a1 x14_1 true _ ?side1 ?side2 A18.out).mono ?_); (case side1 => exact tc_ HR0_2.out); (case side2 => exact HC0_2.out); rintro e w49 ⟨rfl, hb⟩; refine ⟨_, rfl, ?_⟩; replace BK675 := A_ (blk_below (g := gb675) (o := .cells #[.int .i64 a0_0, .int .i64 a0_1, .slice A0_2 l0_2.length c0_2] 26 (0, 0)) (tk_ BK675) hb); replace HB := A_ (below_step tb_ hb); (try clear hb)))
           go_roundg k1
           case measure => have := HK1.out; omega
           case rel => exact ⟨(x13_1), (wrap64 (x14_1 + 1)), tf_, tf_, H', ⟨by have := HK1.out; omega⟩, ⟨tk_ BK675⟩, ⟨tb_⟩⟩
         ·
          rw [if_neg c23] at H
          exact absurd H (by simp)
        ·
         rw [if_neg c22] at H
         have c22b0 : ((Int.tmod (ji21) 2) == 0) = false := beq_eq_false_iff_ne.mpr c22
         have c22b1 : ((Int.tmod (ji21) 2) != 0) = true := bne_iff_ne.mpr c22
         have H' := A_ H
         clear H
         obtain ⟨hcz50_0, hcz50_1, hcz50_2, hfz50_0, hfz50_1, hfz50_2⟩ := cf3_ BK675.out
         go_wp2_with (first | (refine gc_ 162 ?_; refine goesT_ (some 43) Try.func162 #[.agg #[.int .i64 a0_0, .int .i64 a0_1, .slice A0_2 l0_2.length c0_2], .int .i64 a1, .int .i64 x14_1] ?_; (with_reducible refine (spec_biDiagonals.calls a0_0 a0_1 _ _ l0_2 a1 x14_1 t677 t678 _ ?side1 ?side2 A17.out).mono ?_); (case side1 => exact tc_ HR0_2.out); (case side2 => exact HC0_2.out); rintro e w51 ⟨rfl, hb⟩; refine ⟨_, rfl, ?_⟩; replace BK675 := A_ (blk_below (g := gb675) (o := .cells #[.int .i64 a0_0, .int .i64 a0_1, .slice A0_2 l0_2.length c0_2] 26 (0, 0)) (tk_ BK675) hb); replace HB := A_ (below_step tb_ hb); (try clear hb); obtain ⟨hcz52_0, hcz52_1, hcz52_2, hfz52_0, hfz52_1, hfz52_2⟩ := cf3_ BK675.out) | (refine gc_ 182 ?_; refine goesT_ (some 49) Try.func182 #[.agg #[.int .i64 a0_0, .int .i64 a0_1, .slice A0_2 l0_2.length c0_2], .int .i64 a1, .int .i64 x14_1] ?_; (with_reducible refine (spec_boHas.calls a0_0 a0_1 _ _ l0_2 a1 x14_1 true _ ?side1 ?side2 A18.out).mono ?_); (case side1 => exact tc_ HR0_2.out); (case side2 => exact HC0_2.out); rintro e w53 ⟨rfl, hb⟩; refine ⟨_, rfl, ?_⟩; replace BK675 := A_ (blk_below (g := gb675) (o := .cells #[.int .i64 a0_0, .int .i64 a0_1, .slice A0_2 l0_2.length c0_2] 26 (0, 0)) (tk_ BK675) hb); replace HB := A_ (below_step tb_ hb); (try clear hb)))
         go_roundg k1
         case measure => have := HK1.out; omega
         case rel => exact ⟨(x13_1), (wrap64 (x14_1 + 1)), tf_, tf_, H', ⟨by have := HK1.out; omega⟩, ⟨tk_ BK675⟩, ⟨tb_⟩⟩
       ·
        rw [if_neg c20] at H
        exact absurd H (by simp)
      ·
       replace c19 := Bool.eq_false_iff.mpr c19
       subst c19
       have H1 : (spec_biCount.l0 k1 a1 a2 a3 a4 a5 x13_1 (wrap64 (x14_1 + 1)) a0_0 a0_1 l0_2) = some r := by rw [if_neg (show ¬ (false = true) by decide)] at H; exact H
       clear H
       have H := H1
       clear H1
       have H' := A_ H
       clear H
       obtain ⟨hcz54_0, hcz54_1, hcz54_2, hfz54_0, hfz54_1, hfz54_2⟩ := cf3_ BK675.out
       go_wp2_with (first | (refine gc_ 162 ?_; refine goesT_ (some 43) Try.func162 #[.agg #[.int .i64 a0_0, .int .i64 a0_1, .slice A0_2 l0_2.length c0_2], .int .i64 a1, .int .i64 x14_1] ?_; (with_reducible refine (spec_biDiagonals.calls a0_0 a0_1 _ _ l0_2 a1 x14_1 t677 t678 _ ?side1 ?side2 A17.out).mono ?_); (case side1 => exact tc_ HR0_2.out); (case side2 => exact HC0_2.out); rintro e w55 ⟨rfl, hb⟩; refine ⟨_, rfl, ?_⟩; replace BK675 := A_ (blk_below (g := gb675) (o := .cells #[.int .i64 a0_0, .int .i64 a0_1, .slice A0_2 l0_2.length c0_2] 26 (0, 0)) (tk_ BK675) hb); replace HB := A_ (below_step tb_ hb); (try clear hb); obtain ⟨hcz56_0, hcz56_1, hcz56_2, hfz56_0, hfz56_1, hfz56_2⟩ := cf3_ BK675.out) | (refine gc_ 182 ?_; refine goesT_ (some 49) Try.func182 #[.agg #[.int .i64 a0_0, .int .i64 a0_1, .slice A0_2 l0_2.length c0_2], .int .i64 a1, .int .i64 x14_1] ?_; (with_reducible refine (spec_boHas.calls a0_0 a0_1 _ _ l0_2 a1 x14_1 false _ ?side1 ?side2 A18.out).mono ?_); (case side1 => exact tc_ HR0_2.out); (case side2 => exact HC0_2.out); rintro e w57 ⟨rfl, hb⟩; refine ⟨_, rfl, ?_⟩; replace BK675 := A_ (blk_below (g := gb675) (o := .cells #[.int .i64 a0_0, .int .i64 a0_1, .slice A0_2 l0_2.length c0_2] 26 (0, 0)) (tk_ BK675) hb); replace HB := A_ (below_step tb_ hb); (try clear hb)))
       go_roundg k1
       case measure => have := HK1.out; omega
       case rel => exact ⟨(x13_1), (wrap64 (x14_1 + 1)), tf_, tf_, H', ⟨by have := HK1.out; omega⟩, ⟨tk_ BK675⟩, ⟨tb_⟩⟩
     ·
      rw [if_neg c16] at H
      have c16b0 := decide_eq_false c16
      clear c16
      obtain rfl := Option.some.inj H
      obtain ⟨hcz58_0, hcz58_1, hcz58_2, hfz58_0, hfz58_1, hfz58_2⟩ := cf3_ BK675.out
      go_wp2
      go_ret
      exact ⟨te_, tb_⟩

/-! ### spec_CountBoth: function 31 -/
def spec_CountBoth.f (k : Nat) (a0_0 : Int) (a0_1 : Int) (l0_2 : List Int) (a1 : Int) : Option (Int × Bool) := (spec_biAsked.f k a0_0 a0_1 l0_2 a1).bind fun t682 => (if t682 = true then ((spec_biCount.f k a0_0 a0_1 l0_2 0 a1 0 0 0).bind fun t683 => (some (t683, true))) else (some (0, false)))
theorem spec_CountBoth.mono : ∀ a0 a1 a2 a3 k, LeO (spec_CountBoth.f k a0 a1 a2 a3) (spec_CountBoth.f (k + 1) a0 a1 a2 a3) := by
 intro a0 a1 a2 a3 k
 unfold spec_CountBoth.f
 repeat' first | (with_reducible first | exact spec_biAsked.mono _ _ _ _ _ | exact spec_biCount.mono _ _ _ _ _ _ _ _ _ | exact LeO.refl _ | exact LeO.none _ | refine LeO.ite ?_ ?_ | refine LeO.bind ?_ (fun _ => ?_)) | exact spec_biAsked.mono _ _ _ _ _ | exact spec_biCount.mono _ _ _ _ _ _ _ _ _ | exact LeO.none _ | refine LeO.ite ?_ ?_ | refine LeO.bind ?_ (fun _ => ?_)
theorem spec_CountBoth.calls (k : Nat) (a0_0 : Int) (a0_1 : Int) (A0_2 : Option Addr) (c0_2 : Nat) (l0_2 : List Int) (a1 : Int) (r1 : Int) (r2 : Bool) (w : World) (hr0_2 : Kd.C (Kd.int .i64) w A0_2 l0_2.length l0_2) (hc0_2 : l0_2.length ≤ c0_2) (h : spec_CountBoth.f k a0_0 a0_1 l0_2 a1 = some (r1, r2)) :
  Calls Try.prog 31 #[.agg #[.int .i64 a0_0, .int .i64 a0_1, .slice A0_2 l0_2.length c0_2], .int .i64 a1] w fun e w' => e = .returned (.tuple #[.int .i64 r1, .bool r2]) ∧ Below w.heap.size w w' := by
 have hu26 := Try.underlying26
 have HR0_2 := A_ hr0_2
 have HC0_2 := A_ hc0_2
 clear hr0_2 hc0_2
 have HB := A_ (Below.refl w.heap.size w)
 have H : ((spec_biAsked.f k a0_0 a0_1 l0_2 a1).bind fun t682 => (if t682 = true then ((spec_biCount.f k a0_0 a0_1 l0_2 0 a1 0 0 0).bind fun t683 => (some (t683, true))) else (some (0, false)))) = some (r1, r2) := h
 clear h
 replace H := Option.bind_eq_some_iff.mp H
 obtain ⟨t682, A30, H⟩ := H
 replace H : (if t682 = true then ((spec_biCount.f k a0_0 a0_1 l0_2 0 a1 0 0 0).bind fun t683 => (some (t683, true))) else (some (0, false))) = some (r1, r2) := H
 have A3 := A_ A30
 clear A30
 by_cases c4 : t682 = true
 ·
  subst c4
  have H1 : ((spec_biCount.f k a0_0 a0_1 l0_2 0 a1 0 0 0).bind fun t683 => (some (t683, true))) = some (r1, r2) := by rw [if_pos rfl] at H; exact H
  clear H
  have H := H1
  clear H1
  replace H := Option.bind_eq_some_iff.mp H
  obtain ⟨t683, A50, H⟩ := H
  replace H : (some (t683, true)) = some (r1, r2) := H
  have A5 := A_ A50
  clear A50
  simp only [Option.some.injEq, Prod.mk.injEq] at H
  obtain ⟨rfl, rfl⟩ := H
  go_enter Try.func31, Try.ntmps31
  go_wp2_with (first | (refine gd_ 2 ?_; refine bx_ 2 #[.int .i64 a0_0, .int .i64 a0_1, .slice A0_2 l0_2.length c0_2] 26 ?_; intro gb681 hg w6 hbox hb; have BK681 := A_ (hbox); have GW681 := A_ ((ts_ hg : w.heap.size ≤ gb681)); have GE681 := A_ ((ts_ hg : w.heap.size ≤ gb681)); replace HB := A_ (below_step tb_ hb); clear hb hbox hg; obtain ⟨hcz7_0, hcz7_1, hcz7_2, hfz7_0, hfz7_1, hfz7_2⟩ := cf3_ BK681.out) | (refine gc_ 98 ?_; refine goesT_ (some 8) Try.func98 #[.agg #[.int .i64 a0_0, .int .i64 a0_1, .slice A0_2 l0_2.length c0_2], .int .i64 a1] ?_; (with_reducible refine (spec_biAsked.calls k a0_0 a0_1 _ _ l0_2 a1 true _ ?side1 ?side2 A3.out).mono ?_); (case side1 => exact tc_ HR0_2.out); (case side2 => exact HC0_2.out); rintro e w8 ⟨rfl, hb⟩; refine ⟨_, rfl, ?_⟩; replace BK681 := A_ (blk_below (g := gb681) (o := .cells #[.int .i64 a0_0, .int .i64 a0_1, .slice A0_2 l0_2.length c0_2] 26 (0, 0)) (tk_ BK681) hb); replace HB := A_ (below_step tb_ hb); (try clear hb); obtain ⟨hcz9_0, hcz9_1, hcz9_2, hfz9_0, hfz9_1, hfz9_2⟩ := cf3_ BK681.out) | (refine gc_ 99 ?_; refine goesT_ (some 12) Try.func99 #[.agg #[.int .i64 a0_0, .int .i64 a0_1, .slice A0_2 l0_2.length c0_2], .int .i64 0, .int .i64 a1, .int .i64 0, .int .i64 0, .int .i64 0] ?_; (with_reducible refine (spec_biCount.calls k a0_0 a0_1 _ _ l0_2 0 a1 0 0 0 t683 _ ?side1 ?side2 A5.out).mono ?_); (case side1 => exact tc_ HR0_2.out); (case side2 => exact HC0_2.out); rintro e w10 ⟨rfl, hb⟩; refine ⟨_, rfl, ?_⟩; replace BK681 := A_ (blk_below (g := gb681) (o := .cells #[.int .i64 a0_0, .int .i64 a0_1, .slice A0_2 l0_2.length c0_2] 26 (0, 0)) (tk_ BK681) hb); replace HB := A_ (below_step tb_ hb); (try clear hb)))
  go_ret2
  exact ⟨te_, tb_⟩
 ·
  replace c4 := Bool.eq_false_iff.mpr c4
  subst c4
  have H1 : (some (0, false)) = some (r1, r2) := by rw [if_neg (show ¬ (false = true) by decide)] at H; exact H
  clear H
  have H := H1
  clear H1
  simp only [Option.some.injEq, Prod.mk.injEq] at H
  obtain ⟨rfl, rfl⟩ := H
  go_enter Try.func31, Try.ntmps31
  go_wp2_with (first | (refine gd_ 2 ?_; refine bx_ 2 #[.int .i64 a0_0, .int .i64 a0_1, .slice A0_2 l0_2.length c0_2] 26 ?_; intro gb681 hg w11 hbox hb; have BK681 := A_ (hbox); have GW681 := A_ ((ts_ hg : w.heap.size ≤ gb681)); have GE681 := A_ ((ts_ hg : w.heap.size ≤ gb681)); replace HB := A_ (below_step tb_ hb); clear hb hbox hg; obtain ⟨hcz12_0, hcz12_1, hcz12_2, hfz12_0, hfz12_1, hfz12_2⟩ := cf3_ BK681.out) | (refine gc_ 98 ?_; refine goesT_ (some 8) Try.func98 #[.agg #[.int .i64 a0_0, .int .i64 a0_1, .slice A0_2 l0_2.length c0_2], .int .i64 a1] ?_; (with_reducible refine (spec_biAsked.calls k a0_0 a0_1 _ _ l0_2 a1 false _ ?side1 ?side2 A3.out).mono ?_); (case side1 => exact tc_ HR0_2.out); (case side2 => exact HC0_2.out); rintro e w13 ⟨rfl, hb⟩; refine ⟨_, rfl, ?_⟩; replace BK681 := A_ (blk_below (g := gb681) (o := .cells #[.int .i64 a0_0, .int .i64 a0_1, .slice A0_2 l0_2.length c0_2] 26 (0, 0)) (tk_ BK681) hb); replace HB := A_ (below_step tb_ hb); (try clear hb)))
  go_ret2
  exact ⟨te_, tb_⟩

/-! ### impl_asBishops: function 110 -/
def impl_asBishops.f (l0 : List Int) (l1 : List Int) : Option (Bool) := if 0 < (l0.length : Int) then (if 1 < (l0.length : Int) then (if 0 < (l1.length : Int) then (if 1 < (l1.length : Int) then (if (wrap64 ((rd l0 0) + (rd l0 1))) = (wrap64 ((rd l1 0) + (rd l1 1))) then (some false) else (some ((wrap64 ((rd l0 0) - (rd l0 1))) != (wrap64 ((rd l1 0) - (rd l1 1)))))) else (none)) else (none)) else (none)) else (none)
theorem impl_asBishops.calls (A0 : Option Addr) (c0 : Nat) (l0 : List Int) (A1 : Option Addr) (c1 : Nat) (l1 : List Int) (r : Bool) (w : World) (hr0 : Kd.C (Kd.int .i64) w A0 l0.length l0) (hc0 : l0.length ≤ c0) (hr1 : Kd.C (Kd.int .i64) w A1 l1.length l1) (hc1 : l1.length ≤ c1) (h : impl_asBishops.f l0 l1 = some r) :
  Calls Try.prog 110 #[.slice A0 l0.length c0, .slice A1 l1.length c1] w fun e w' => e = .returned (.bool r) ∧ Drawn0 w w' := by
 have HR0 := A_ hr0
 have HC0 := A_ hc0
 clear hr0 hc0
 have HR1 := A_ hr1
 have HC1 := A_ hc1
 clear hr1 hc1
 have H : (if 0 < (l0.length : Int) then (if 1 < (l0.length : Int) then (if 0 < (l1.length : Int) then (if 1 < (l1.length : Int) then (if (wrap64 ((rd l0 0) + (rd l0 1))) = (wrap64 ((rd l1 0) + (rd l1 1))) then (some false) else (some ((wrap64 ((rd l0 0) - (rd l0 1))) != (wrap64 ((rd l1 0) - (rd l1 1)))))) else (none)) else (none)) else (none)) else (none)) = some r := h
 clear h
 by_cases c3 : 0 < (l0.length : Int)
 ·
  rw [if_pos c3] at H
  have c3b0 := decide_eq_true c3
  have c3b1 : decide (0 < l0.length) = true := decide_eq_true (by omega)
  clear c3
  by_cases c4 : 1 < (l0.length : Int)
  ·
   rw [if_pos c4] at H
   have c4b0 := decide_eq_true c4
   have c4b1 : decide (1 < l0.length) = true := decide_eq_true (by omega)
   clear c4
   by_cases c5 : 0 < (l1.length : Int)
   ·
    rw [if_pos c5] at H
    have c5b0 := decide_eq_true c5
    have c5b1 : decide (0 < l1.length) = true := decide_eq_true (by omega)
    clear c5
    by_cases c6 : 1 < (l1.length : Int)
    ·
     rw [if_pos c6] at H
     have c6b0 := decide_eq_true c6
     have c6b1 : decide (1 < l1.length) = true := decide_eq_true (by omega)
     clear c6
     by_cases c7 : (wrap64 ((rd l0 0) + (rd l0 1))) = (wrap64 ((rd l1 0) + (rd l1 1)))
     ·
      rw [if_pos c7] at H
      have c7b0 : ((wrap64 ((rd l0 0) + (rd l0 1))) == (wrap64 ((rd l1 0) + (rd l1 1)))) = true := beq_iff_eq.mpr c7
      have c7b1 : ((wrap64 ((rd l0 0) + (rd l0 1))) != (wrap64 ((rd l1 0) + (rd l1 1)))) = false := bne_eq_false_iff_eq.mpr c7
      clear c7
      obtain rfl := Option.some.inj H
      have p684 : 0 ≤ (0 : Int) := (by omega)
      have q684 : 0 < (l0.length : Int) := od_
      obtain ⟨ad684, e684, hx684_0⟩ := Kd.at_int HR0.out 0 p684 q684
      cases e684
      have qi684 : (0 < l0.length) = True := eq_true (by omega)
      (try rw [show ((0 : Int)).toNat = 0 from rfl] at hx684_0)
      (try rw [Addr.add_zero'] at hx684_0)
      replace p684 := eq_true p684
      replace q684 := eq_true q684
      have p685 : 0 ≤ (1 : Int) := (by omega)
      have q685 : 1 < (l0.length : Int) := od_
      obtain ⟨ad685, e685, hx685_0⟩ := Kd.at_int HR0.out 1 p685 q685
      obtain rfl : ad684 = ad685 := (by injection e685)
      (try simp only [show (1 : Int).toNat = 1 from rfl, Nat.reduceMul, Nat.reduceEqDiff, Go.Addr.add, ↓reduceIte] at hx685_0)
      have qi685 : (1 < l0.length) = True := eq_true (by omega)
      (try rw [show ((1 : Int)).toNat = 1 from rfl] at hx685_0)
      replace p685 := eq_true p685
      replace q685 := eq_true q685
      have p686 : 0 ≤ (0 : Int) := (by omega)
      have q686 : 0 < (l1.length : Int) := od_
      obtain ⟨ad686, e686, hx686_0⟩ := Kd.at_int HR1.out 0 p686 q686
      cases e686
      have qi686 : (0 < l1.length) = True := eq_true (by omega)
      (try rw [show ((0 : Int)).toNat = 0 from rfl] at hx686_0)
      (try rw [Addr.add_zero'] at hx686_0)
      replace p686 := eq_true p686
      replace q686 := eq_true q686
      have p687 : 0 ≤ (1 : Int) := (by omega)
      have q687 : 1 < (l1.length : Int) := od_
      obtain ⟨ad687, e687, hx687_0⟩ := Kd.at_int HR1.out 1 p687 q687
      obtain rfl : ad686 = ad687 := (by injection e687)
      (try simp only [show (1 : Int).toNat = 1 from rfl, Nat.reduceMul, Nat.reduceEqDiff, Go.Addr.add, ↓reduceIte] at hx687_0)
      have qi687 : (1 < l1.length) = True := eq_true (by omega)
      (try rw [show ((1 : Int)).toNat = 1 from rfl] at hx687_0)
      replace p687 := eq_true p687
      replace q687 := eq_true q687
      go_enter Try.func110, Try.ntmps110
      go_wp2
      repeat (go_quiet (fail); try go_wp2)
      go_ret
      exact ⟨tf_, dr_⟩
     ·
      rw [if_neg c7] at H
      have c7b0 : ((wrap64 ((rd l0 0) + (rd l0 1))) == (wrap64 ((rd l1 0) + (rd l1 1)))) = false := beq_eq_false_iff_ne.mpr c7
      have c7b1 : ((wrap64 ((rd l0 0) + (rd l0 1))) != (wrap64 ((rd l1 0) + (rd l1 1)))) = true := bne_iff_ne.mpr c7
      obtain rfl := Option.some.inj H
      have p684 : 0 ≤ (0 : Int) := (by omega)
      have q684 : 0 < (l0.length : Int) := od_
      obtain ⟨ad684, e684, hx684_0⟩ := Kd.at_int HR0.out 0 p684 q684
      cases e684
      have qi684 : (0 < l0.length) = True := eq_true (by omega)
      (try rw [show ((0 : Int)).toNat = 0 from rfl] at hx684_0)
      (try rw [Addr.add_zero'] at hx684_0)
      replace p684 := eq_true p684
      replace q684 := eq_true q684
      have p685 : 0 ≤ (1 : Int) := (by omega)
      have q685 : 1 < (l0.length : Int) := od_
      obtain ⟨ad685, e685, hx685_0⟩ := Kd.at_int HR0.out 1 p685 q685
      obtain rfl : ad684 = ad685 := (by injection e685)
      (try simp only [show (1 : Int).toNat = 1 from rfl, Nat.reduceMul, Nat.reduceEqDiff, Go.Addr.add, ↓reduceIte] at hx685_0)
      have qi685 : (1 < l0.length) = True := eq_true (by omega)
      (try rw [show ((1 : Int)).toNat = 1 from rfl] at hx685_0)
      replace p685 := eq_true p685
      replace q685 := eq_true q685
      have p686 : 0 ≤ (0 : Int) := (by omega)
      have q686 : 0 < (l1.length : Int) := od_
      obtain ⟨ad686, e686, hx686_0⟩ := Kd.at_int HR1.out 0 p686 q686
      cases e686
      have qi686 : (0 < l1.length) = True := eq_true (by omega)
      (try rw [show ((0 : Int)).toNat = 0 from rfl] at hx686_0)
      (try rw [Addr.add_zero'] at hx686_0)
      replace p686 := eq_true p686
      replace q686 := eq_true q686
      have p687 : 0 ≤ (1 : Int) := (by omega)
      have q687 : 1 < (l1.length : Int) := od_
      obtain ⟨ad687, e687, hx687_0⟩ := Kd.at_int HR1.out 1 p687 q687
      obtain rfl : ad686 = ad687 := (by injection e687)
      (try simp only [show (1 : Int).toNat = 1 from rfl, Nat.reduceMul, Nat.reduceEqDiff, Go.Addr.add, ↓reduceIte] at hx687_0)
      have qi687 : (1 < l1.length) = True := eq_true (by omega)
      (try rw [show ((1 : Int)).toNat = 1 from rfl] at hx687_0)
      replace p687 := eq_true p687
      replace q687 := eq_true q687
      have p688 : 0 ≤ (0 : Int) := (by omega)
      have q688 : 0 < (l0.length : Int) := od_
      obtain ⟨ad688, e688, hx688_0⟩ := Kd.at_int HR0.out 0 p688 q688
      obtain rfl : ad684 = ad688 := (by injection e688)
      have qi688 : (0 < l0.length) = True := eq_true (by omega)
      (try rw [show ((0 : Int)).toNat = 0 from rfl] at hx688_0)
      (try rw [Addr.add_zero'] at hx688_0)
      replace p688 := eq_true p688
      replace q688 := eq_true q688
      have p689 : 0 ≤ (1 : Int) := (by omega)
      have q689 : 1 < (l0.length : Int) := od_
      obtain ⟨ad689, e689, hx689_0⟩ := Kd.at_int HR0.out 1 p689 q689
      obtain rfl : ad684 = ad689 := (by injection e689)
      (try simp only [show (1 : Int).toNat = 1 from rfl, Nat.reduceMul, Nat.reduceEqDiff, Go.Addr.add, ↓reduceIte] at hx689_0)
      have qi689 : (1 < l0.length) = True := eq_true (by omega)
      (try rw [show ((1 : Int)).toNat = 1 from rfl] at hx689_0)
      replace p689 := eq_true p689
      replace q689 := eq_true q689
      have p690 : 0 ≤ (0 : Int) := (by omega)
      have q690 : 0 < (l1.length : Int) := od_
      obtain ⟨ad690, e690, hx690_0⟩ := Kd.at_int HR1.out 0 p690 q690
      obtain rfl : ad686 = ad690 := (by injection e690)
      have qi690 : (0 < l1.length) = True := eq_true (by omega)
      (try rw [show ((0 : Int)).toNat = 0 from rfl] at hx690_0)
      (try rw [Addr.add_zero'] at hx690_0)
      replace p690 := eq_true p690
      replace q690 := eq_true q690
      have p691 : 0 ≤ (1 : Int) := (by omega)
      have q691 : 1 < (l1.length : Int) := od_
      obtain ⟨ad691, e691, hx691_0⟩ := Kd.at_int HR1.out 1 p691 q691
      obtain rfl : ad686 = ad691 := (by injection e691)
      (try simp only [show (1 : Int).toNat = 1 from rfl, Nat.reduceMul, Nat.reduceEqDiff, Go.Addr.add, ↓reduceIte] at hx691_0)
      have qi691 : (1 < l1.length) = True := eq_true (by omega)
      (try rw [show ((1 : Int)).toNat = 1 from rfl] at hx691_0)
      replace p691 := eq_true p691
      replace q691 := eq_true q691
      go_enter Try.func110, Try.ntmps110
      go_wp2
      repeat (go_quiet (fail); try go_wp2)
      go_ret
      exact ⟨tf_, dr_⟩
    ·
     rw [if_neg c6] at H
     exact absurd H (by simp)
   ·
    rw [if_neg c5] at H
    exact absurd H (by simp)
  ·
   rw [if_neg c4] at H
   exact absurd H (by simp)
 ·
  rw [if_neg c3] at H
  exact absurd H (by simp)

/-! ### impl_asQueens: function 102 -/
def impl_asQueens.f (l0 : List Int) (l1 : List Int) : Option (Bool) := if 0 < (l0.length : Int) then (if 0 < (l1.length : Int) then (if (rd l0 0) = (rd l1 0) then (some false) else (if 1 < (l0.length : Int) then (if 1 < (l1.length : Int) then (if (rd l0 1) = (rd l1 1) then (some false) else ((impl_asBishops.f l0 l1).bind fun t696 => (some t696))) else (none)) else (none))) else (none)) else (none)
theorem impl_asQueens.calls (A0 : Option Addr) (c0 : Nat) (l0 : List Int) (A1 : Option Addr) (c1 : Nat) (l1 : List Int) (r : Bool) (w : World) (hr0 : Kd.C (Kd.int .i64) w A0 l0.length l0) (hc0 : l0.length ≤ c0) (hr1 : Kd.C (Kd.int .i64) w A1 l1.length l1) (hc1 : l1.length ≤ c1) (h : impl_asQueens.f l0 l1 = some r) :
  Calls Try.prog 102 #[.slice A0 l0.length c0, .slice A1 l1.length c1] w fun e w' => e = .returned (.bool r) ∧ Drawn0 w w' := by
 have HR0 := A_ hr0
 have HC0 := A_ hc0
 clear hr0 hc0
 have HR1 := A_ hr1
 have HC1 := A_ hc1
 clear hr1 hc1
 have H : (if 0 < (l0.length : Int) then (if 0 < (l1.length : Int) then (if (rd l0 0) = (rd l1 0) then (some false) else (if 1 < (l0.length : Int) then (if 1 < (l1.length : Int) then (if (rd l0 1) = (rd l1 1) then (some false) else ((impl_asBishops.f l0 l1).bind fun t696 => (some t696))) else (none)) else (none))) else (none)) else (none)) = some r := h
 clear h
 by_cases c3 : 0 < (l0.length : Int)
 ·
  rw [if_pos c3] at H
  have c3b0 := decide_eq_true c3
  have c3b1 : decide (0 < l0.length) = true := decide_eq_true (by omega)
  clear c3
  by_cases c4 : 0 < (l1.length : Int)
  ·
   rw [if_pos c4] at H
   have c4b0 := decide_eq_true c4
   have c4b1 : decide (0 < l1.length) = true := decide_eq_true (by omega)
   clear c4
   by_cases c5 : (rd l0 0) = (rd l1 0)
   ·
    rw [if_pos c5] at H
    have c5b0 : ((rd l0 0) == (rd l1 0)) = true := beq_iff_eq.mpr c5
    have c5b1 : ((rd l0 0) != (rd l1 0)) = false := bne_eq_false_iff_eq.mpr c5
    clear c5
    obtain rfl := Option.some.inj H
    have p692 : 0 ≤ (0 : Int) := (by omega)
    have q692 : 0 < (l0.length : Int) := od_
    obtain ⟨ad692, e692, hx692_0⟩ := Kd.at_int HR0.out 0 p692 q692
    cases e692
    have qi692 : (0 < l0.length) = True := eq_true (by omega)
    (try rw [show ((0 : Int)).toNat = 0 from rfl] at hx692_0)
    (try rw [Addr.add_zero'] at hx692_0)
    replace p692 := eq_true p692
    replace q692 := eq_true q692
    have p693 : 0 ≤ (0 : Int) := (by omega)
    have q693 : 0 < (l1.length : Int) := od_
    obtain ⟨ad693, e693, hx693_0⟩ := Kd.at_int HR1.out 0 p693 q693
    cases e693
    have qi693 : (0 < l1.length) = True := eq_true (by omega)
    (try rw [show ((0 : Int)).toNat = 0 from rfl] at hx693_0)
    (try rw [Addr.add_zero'] at hx693_0)
    replace p693 := eq_true p693
    replace q693 := eq_true q693
    go_enter Try.func102, Try.ntmps102
    go_wp2
    repeat (go_quiet (fail); try go_wp2)
    go_ret
    exact ⟨tf_, dr_⟩
   ·
    rw [if_neg c5] at H
    have c5b0 : ((rd l0 0) == (rd l1 0)) = false := beq_eq_false_iff_ne.mpr c5
    have c5b1 : ((rd l0 0) != (rd l1 0)) = true := bne_iff_ne.mpr c5
    by_cases c6 : 1 < (l0.length : Int)
    ·
     rw [if_pos c6] at H
     have c6b0 := decide_eq_true c6
     have c6b1 : decide (1 < l0.length) = true := decide_eq_true (by omega)
     clear c6
     by_cases c7 : 1 < (l1.length : Int)
     ·
      rw [if_pos c7] at H
      have c7b0 := decide_eq_true c7
      have c7b1 : decide (1 < l1.length) = true := decide_eq_true (by omega)
      clear c7
      by_cases c8 : (rd l0 1) = (rd l1 1)
      ·
       rw [if_pos c8] at H
       have c8b0 : ((rd l0 1) == (rd l1 1)) = true := beq_iff_eq.mpr c8
       have c8b1 : ((rd l0 1) != (rd l1 1)) = false := bne_eq_false_iff_eq.mpr c8
       clear c8
       obtain rfl := Option.some.inj H
       have p692 : 0 ≤ (0 : Int) := (by omega)
       have q692 : 0 < (l0.length : Int) := od_
       obtain ⟨ad692, e692, hx692_0⟩ := Kd.at_int HR0.out 0 p692 q692
       cases e692
       have qi692 : (0 < l0.length) = True := eq_true (by omega)
       (try rw [show ((0 : Int)).toNat = 0 from rfl] at hx692_0)
       (try rw [Addr.add_zero'] at hx692_0)
       replace p692 := eq_true p692
       replace q692 := eq_true q692
       have p693 : 0 ≤ (0 : Int) := (by omega)
       have q693 : 0 < (l1.length : Int) := od_
       obtain ⟨ad693, e693, hx693_0⟩ := Kd.at_int HR1.out 0 p693 q693
       cases e693
       have qi693 : (0 < l1.length) = True := eq_true (by omega)
       (try rw [show ((0 : Int)).toNat = 0 from rfl] at hx693_0)
       (try rw [Addr.add_zero'] at hx693_0)
       replace p693 := eq_true p693
       replace q693 := eq_true q693
       have p694 : 0 ≤ (1 : Int) := (by omega)
       have q694 : 1 < (l0.length : Int) := od_
       obtain ⟨ad694, e694, hx694_0⟩ := Kd.at_int HR0.out 1 p694 q694
       obtain rfl : ad692 = ad694 := (by injection e694)
       (try simp only [show (1 : Int).toNat = 1 from rfl, Nat.reduceMul, Nat.reduceEqDiff, Go.Addr.add, ↓reduceIte] at hx694_0)
       have qi694 : (1 < l0.length) = True := eq_true (by omega)
       (try rw [show ((1 : Int)).toNat = 1 from rfl] at hx694_0)
       replace p694 := eq_true p694
       replace q694 := eq_true q694
       have p695 : 0 ≤ (1 : Int) := (by omega)
       have q695 : 1 < (l1.length : Int) := od_
       obtain ⟨ad695, e695, hx695_0⟩ := Kd.at_int HR1.out 1 p695 q695
       obtain rfl : ad693 = ad695 := (by injection e695)
       (try simp only [show (1 : Int).toNat = 1 from rfl, Nat.reduceMul, Nat.reduceEqDiff, Go.Addr.add, ↓reduceIte] at hx695_0)
       have qi695 : (1 < l1.length) = True := eq_true (by omega)
       (try rw [show ((1 : Int)).toNat = 1 from rfl] at hx695_0)
       replace p695 := eq_true p695
       replace q695 := eq_true q695
       go_enter Try.func102, Try.ntmps102
       go_wp2
       repeat (go_quiet (fail); try go_wp2)
       go_ret
       exact ⟨tf_, dr_⟩
      ·
       rw [if_neg c8] at H
       have c8b0 : ((rd l0 1) == (rd l1 1)) = false := beq_eq_false_iff_ne.mpr c8
       have c8b1 : ((rd l0 1) != (rd l1 1)) = true := bne_iff_ne.mpr c8
       replace H := Option.bind_eq_some_iff.mp H
       obtain ⟨t696, A90, H⟩ := H
       replace H : (some t696) = some r := H
       have A9 := A_ A90
       clear A90
       obtain rfl := Option.some.inj H
       have p692 : 0 ≤ (0 : Int) := (by omega)
       have q692 : 0 < (l0.length : Int) := od_
       obtain ⟨ad692, e692, hx692_0⟩ := Kd.at_int HR0.out 0 p692 q692
       cases e692
       have qi692 : (0 < l0.length) = True := eq_true (by omega)
       (try rw [show ((0 : Int)).toNat = 0 from rfl] at hx692_0)
       (try rw [Addr.add_zero'] at hx692_0)
       replace p692 := eq_true p692
       replace q692 := eq_true q692
       have p693 : 0 ≤ (0 : Int) := (by omega)
       have q693 : 0 < (l1.length : Int) := od_
       obtain ⟨ad693, e693, hx693_0⟩ := Kd.at_int HR1.out 0 p693 q693
       cases e693
       have qi693 : (0 < l1.length) = True := eq_true (by omega)
       (try rw [show ((0 : Int)).toNat = 0 from rfl] at hx693_0)
       (try rw [Addr.add_zero'] at hx693_0)
       replace p693 := eq_true p693
       replace q693 := eq_true q693
       have p694 : 0 ≤ (1 : Int) := (by omega)
       have q694 : 1 < (l0.length : Int) := od_
       obtain ⟨ad694, e694, hx694_0⟩ := Kd.at_int HR0.out 1 p694 q694
       obtain rfl : ad692 = ad694 := (by injection e694)
       (try simp only [show (1 : Int).toNat = 1 from rfl, Nat.reduceMul, Nat.reduceEqDiff, Go.Addr.add, ↓reduceIte] at hx694_0)
       have qi694 : (1 < l0.length) = True := eq_true (by omega)
       (try rw [show ((1 : Int)).toNat = 1 from rfl] at hx694_0)
       replace p694 := eq_true p694
       replace q694 := eq_true q694
       have p695 : 0 ≤ (1 : Int) := (by omega)
       have q695 : 1 < (l1.length : Int) := od_
       obtain ⟨ad695, e695, hx695_0⟩ := Kd.at_int HR1.out 1 p695 q695
       obtain rfl : ad693 = ad695 := (by injection e695)
       (try simp only [show (1 : Int).toNat = 1 from rfl, Nat.reduceMul, Nat.reduceEqDiff, Go.Addr.add, ↓reduceIte] at hx695_0)
       have qi695 : (1 < l1.length) = True := eq_true (by omega)
       (try rw [show ((1 : Int)).toNat = 1 from rfl] at hx695_0)
       replace p695 := eq_true p695
       replace q695 := eq_true q695
       go_enter Try.func102, Try.ntmps102
       go_wp2_with (first | (go_at_call 110; (with_reducible refine (impl_asBishops.calls _ _ l0 _ _ l1 t696 _ ?side1 ?side2 ?side3 ?side4 A9.out).mono ?_); (case side1 => exact tc0_ HR0.out); (case side2 => exact HC0.out); (case side3 => exact tc0_ HR1.out); (case side4 => exact HC1.out); rintro e w' ⟨rfl, ⟨nd, rfl⟩⟩; (try exact dn_)))
       repeat (go_quiet (first | (go_at_call 110; (with_reducible refine (impl_asBishops.calls _ _ l0 _ _ l1 t696 _ ?side1 ?side2 ?side3 ?side4 A9.out).mono ?_); (case side1 => exact tc0_ HR0.out); (case side2 => exact HC0.out); (case side3 => exact tc0_ HR1.out); (case side4 => exact HC1.out); rintro e w' ⟨rfl, ⟨nd, rfl⟩⟩; (try exact dn_))); try go_wp2_with (first | (go_at_call 110; (with_reducible refine (impl_asBishops.calls _ _ l0 _ _ l1 t696 _ ?side1 ?side2 ?side3 ?side4 A9.out).mono ?_); (case side1 => exact tc0_ HR0.out); (case side2 => exact HC0.out); (case side3 => exact tc0_ HR1.out); (case side4 => exact HC1.out); rintro e w' ⟨rfl, ⟨nd, rfl⟩⟩; (try exact dn_))))
       go_ret
       exact ⟨tf_, dr_⟩
     ·
      rw [if_neg c7] at H
      exact absurd H (by simp)
    ·
     rw [if_neg c6] at H
     exact absurd H (by simp)
  ·
   rw [if_neg c4] at H
   exact absurd H (by simp)
 ·
  rw [if_neg c3] at H
  exact absurd H (by simp)

/-! ### impl_isPieces: function 100 -/
def impl_isPieces.f (a0 : Int) : Option (Bool) := (impl_within.f a0 0 12).bind fun t697 => (some t697)
theorem impl_isPieces.calls (a0 : Int) (r : Bool) (w : World) (h : impl_isPieces.f a0 = some r) :
  Calls Try.prog 100 #[.int .i64 a0] w fun e w' => e = .returned (.bool r) ∧ Drawn0 w w' := by
 have H : ((impl_within.f a0 0 12).bind fun t697 => (some t697)) = some r := h
 clear h
 replace H := Option.bind_eq_some_iff.mp H
 obtain ⟨t697, A20, H⟩ := H
 replace H : (some t697) = some r := H
 have A2 := A_ A20
 clear A20
 obtain rfl := Option.some.inj H
 go_enter Try.func100, Try.ntmps100
 go_wp2_with (first | (refine gc_ 113 ?_; refine goesT_ (some 4) Try.func113 #[.int .i64 a0, .int .i64 0, .int .i64 12] ?_; (with_reducible refine (impl_within.calls a0 0 12 t697 _ A2.out).mono ?_); rintro e w' ⟨rfl, ⟨nd, rfl⟩⟩; refine ⟨_, rfl, ?_⟩))
 go_ret
 exact ⟨tf_, dr_⟩

/-! ### impl_CellsOf: function 115 -/
mutual
def impl_CellsOf.l0 : Nat → List (List Int) → Int → Int → Int → Int → List Int → Option ((List (List Int)) × Bool)
 | 0, _, _, _, _, _, _ => none
 | k + 1, x4, x12, x13, x699000, x699001, x699002 => if x13 < x12 then (impl_CellsOf.l1 k x4 x13 x12 x13 x699001 0 x699000 x699001 x699002) else (some (x4, true))
def impl_CellsOf.l1 : Nat → List (List Int) → Int → Int → Int → Int → Int → Int → Int → List Int → Option ((List (List Int)) × Bool)
 | 0, _, _, _, _, _, _, _, _, _ => none
 | k + 1, x4, x5, x12, x13, x17, x18, x699000, x699001, x699002 => if x18 < x17 then ((impl_Board_has.f x699000 x699001 x699002 x5 x18).bind fun t703 => (if t703 = true then (if x4.length < 5864062014805 then (impl_CellsOf.l1 k (x4 ++ [(([x5, x18] : List Int))]) x5 x12 x13 x17 (wrap64 (x18 + 1)) x699000 x699001 x699002) else (none)) else (impl_CellsOf.l1 k x4 x5 x12 x13 x17 (wrap64 (x18 + 1)) x699000 x699001 x699002))) else (impl_CellsOf.l0 k x4 x12 (wrap64 (x13 + 1)) x699000 x699001 x699002)
end
def impl_CellsOf.f (k : Nat) (a0_0 : Int) (a0_1 : Int) (l0_2 : List Int) : Option ((List (List Int)) × Bool) := (impl_IsBoard.f a0_0 a0_1 l0_2).bind fun t699 => (if t699 = true then (impl_CellsOf.l0 k (([] : List (List Int))) a0_0 0 a0_0 a0_1 l0_2) else (some (([] : List (List Int)), false)))
theorem impl_CellsOf.mono_l : ∀ k, (∀ y0 y1 y2 y3 y4 y5, LeO (impl_CellsOf.l0 k y0 y1 y2 y3 y4 y5) (impl_CellsOf.l0 (k + 1) y0 y1 y2 y3 y4 y5)) ∧ (∀ y0 y1 y2 y3 y4 y5 y6 y7 y8, LeO (impl_CellsOf.l1 k y0 y1 y2 y3 y4 y5 y6 y7 y8) (impl_CellsOf.l1 (k + 1) y0 y1 y2 y3 y4 y5 y6 y7 y8))
 | 0 => ⟨fun _ _ _ _ _ _ r h => by simp [impl_CellsOf.l0] at h, fun _ _ _ _ _ _ _ _ _ r h => by simp [impl_CellsOf.l1] at h⟩
 | k + 1 => by
  obtain ⟨ih0, ih1⟩ := impl_CellsOf.mono_l k
  refine ⟨?_, ?_⟩
  ·
   intro y0 y1 y2 y3 y4 y5
   unfold impl_CellsOf.l0
   repeat' first | (with_reducible first | exact ih0 _ _ _ _ _ _ | exact ih1 _ _ _ _ _ _ _ _ _ | exact LeO.refl _ | exact LeO.none _ | refine LeO.ite ?_ ?_ | refine LeO.bind ?_ (fun _ => ?_)) | exact ih0 _ _ _ _ _ _ | exact ih1 _ _ _ _ _ _ _ _ _ | exact LeO.none _ | refine LeO.ite ?_ ?_ | refine LeO.bind ?_ (fun _ => ?_)
  ·
   intro y0 y1 y2 y3 y4 y5 y6 y7 y8
   unfold impl_CellsOf.l1
   repeat' first | (with_reducible first | exact ih0 _ _ _ _ _ _ | exact ih1 _ _ _ _ _ _ _ _ _ | exact LeO.refl _ | exact LeO.none _ | refine LeO.ite ?_ ?_ | refine LeO.bind ?_ (fun _ => ?_)) | exact ih0 _ _ _ _ _ _ | exact ih1 _ _ _ _ _ _ _ _ _ | exact LeO.none _ | refine LeO.ite ?_ ?_ | refine LeO.bind ?_ (fun _ => ?_)
theorem impl_CellsOf.mono : ∀ a0 a1 a2 k, LeO (impl_CellsOf.f k a0 a1 a2) (impl_CellsOf.f (k + 1) a0 a1 a2) := by
 intro a0 a1 a2 k
 obtain ⟨ih0, ih1⟩ := impl_CellsOf.mono_l k
 unfold impl_CellsOf.f
 repeat' first | (with_reducible first | exact ih0 _ _ _ _ _ _ | exact ih1 _ _ _ _ _ _ _ _ _ | exact LeO.refl _ | exact LeO.none _ | refine LeO.ite ?_ ?_ | refine LeO.bind ?_ (fun _ => ?_)) | exact ih0 _ _ _ _ _ _ | exact ih1 _ _ _ _ _ _ _ _ _ | exact LeO.none _ | refine LeO.ite ?_ ?_ | refine LeO.bind ?_ (fun _ => ?_)
theorem impl_CellsOf.calls (k : Nat) (a0_0 : Int) (a0_1 : Int) (A0_2 : Option Addr) (c0_2 : Nat) (l0_2 : List Int) (r1 : List (List Int)) (r2 : Bool) (w : World) (hr0_2 : Kd.C (Kd.int .i64) w A0_2 l0_2.length l0_2) (hc0_2 : l0_2.length ≤ c0_2) (h : impl_CellsOf.f k a0_0 a0_1 l0_2 = some (r1, r2)) :
  Calls Try.prog 115 #[.agg #[.int .i64 a0_0, .int .i64 a0_1, .slice A0_2 l0_2.length c0_2]] w fun e w' => ∃ v0_ : Value, e = .returned (.tuple #[v0_, .bool r2]) ∧ Kd.S (Kd.slice 3 (Kd.int .i64)) 22 w' w.heap.size (fun _ => True) v0_ r1 ∧ Below w.heap.size w w' := by
 have hu26 := Try.underlying26
 have HR0_2 := A_ hr0_2
 have HC0_2 := A_ hc0_2
 clear hr0_2 hc0_2
 have HB := A_ (Below.refl w.heap.size w)
 have H : ((impl_IsBoard.f a0_0 a0_1 l0_2).bind fun t699 => (if t699 = true then (impl_CellsOf.l0 k (([] : List (List Int))) a0_0 0 a0_0 a0_1 l0_2) else (some (([] : List (List Int)), false)))) = some (r1, r2) := h
 clear h
 replace H := Option.bind_eq_some_iff.mp H
 obtain ⟨t699, A20, H⟩ := H
 replace H : (if t699 = true then (impl_CellsOf.l0 k (([] : List (List Int))) a0_0 0 a0_0 a0_1 l0_2) else (some (([] : List (List Int)), false))) = some (r1, r2) := H
 have A2 := A_ A20
 clear A20
 by_cases c3 : t699 = true
 ·
  subst c3
  have H1 : (impl_CellsOf.l0 k (([] : List (List Int))) a0_0 0 a0_0 a0_1 l0_2) = some (r1, r2) := by rw [if_pos rfl] at H; exact H
  clear H
  have H := H1
  clear H1
  obtain ⟨y700, hy700⟩ : ∃ y_ : List (List Int), y_ = (([] : List (List Int))) := ⟨_, rfl⟩
  replace H : (impl_CellsOf.l0 k y700 a0_0 0 a0_0 a0_1 l0_2) = some (r1, r2) := ty_ hy700 H
  have Ny700 := A_ hy700
  clear hy700
  have H' := A_ H
  clear H
  go_enter Try.func115, Try.ntmps115
  go_wp2_with (first | (refine gd_ 1 ?_; refine bx_ 1 #[.int .i64 a0_0, .int .i64 a0_1, .slice A0_2 l0_2.length c0_2] 26 ?_; intro gb698 hg w4 hbox hb; have BK698 := A_ (hbox); have GW698 := A_ ((ts_ hg : w.heap.size ≤ gb698)); have GE698 := A_ ((ts_ hg : w.heap.size ≤ gb698)); replace HB := A_ (below_step tb_ hb); clear hb hbox hg; obtain ⟨hcz5_0, hcz5_1, hcz5_2, hfz5_0, hfz5_1, hfz5_2⟩ := cf3_ BK698.out) | (refine gc_ 93 ?_; refine goesT_ (some 8) Try.func93 #[.agg #[.int .i64 a0_0, .int .i64 a0_1, .slice A0_2 l0_2.length c0_2]] ?_; (with_reducible refine (impl_IsBoard.calls a0_0 a0_1 _ _ l0_2 true _ ?side1 ?side2 A2.out).mono ?_); (case side1 => exact tc_ HR0_2.out); (case side2 => exact HC0_2.out); rintro e w6 ⟨rfl, hb⟩; refine ⟨_, rfl, ?_⟩; replace BK698 := A_ (blk_below (g := gb698) (o := .cells #[.int .i64 a0_0, .int .i64 a0_1, .slice A0_2 l0_2.length c0_2] 26 (0, 0)) (tk_ BK698) hb); replace HB := A_ (below_step tb_ hb); (try clear hb)) | (refine gd_ 10 ?_; refine Kd.S_lit (Kd.slice 3 (Kd.int .i64)) _ 22 ?hg (N := 10) ?hd (xs := ([] : List (List Int))) (inner := []) (ok := fun _ => True) (okp := fun _ => True) ?hr ?hp (fun _ hk => hk) trivial (Below.refl _ _) (Nat.le_refl _) (by simp) ?_; (case hd => rfl); (case hg => rfl); (case hr => first | (go_simp; done) | (go_simp; rfl)); (case hp => exact (Reps.none _ _)); intro v701 w7 ho8 hb hg_ hnew_; clear hg_ hnew_; (first | rw [← Ny700.out] at ho8 | (simp only [Int.reduceToNat] at ho8; rw [← Ny700.out] at ho8)); have HO702 := A_ (Kd.S_lower ho8 (below_size tb_)); replace BK698 := A_ (blk_below (g := gb698) (o := .cells #[.int .i64 a0_0, .int .i64 a0_1, .slice A0_2 l0_2.length c0_2] 26 (0, 0)) (tk_ BK698) hb); replace HB := A_ (below_step tb_ hb); clear hb ho8; obtain ⟨hcz9_0, hcz9_1, hcz9_2, hfz9_0, hfz9_1, hfz9_2⟩ := cf3_ BK698.out))
  go_loopg [4, 13] k (fun kq v4 v13 w' => ∃ (x4_1 : List (List Int)) (x13_1 : Int), v13 = .int .i64 x13_1 ∧ Aside0 (impl_CellsOf.l0 kq x4_1 a0_0 x13_1 a0_0 a0_1 l0_2 = some (r1, r2)) ∧ Aside0 (kq ≤ k) ∧ Aside0 (Kd.S (Kd.slice 3 (Kd.int .i64)) 22 w' w.heap.size (fun _ => True) v4 x4_1) ∧ Aside0 (w'.heap[gb698]? = some (.cells #[.int .i64 a0_0, .int .i64 a0_1, (.slice A0_2 l0_2.length c0_2)] 26 (0, 0))) ∧ Aside0 (Below w.heap.size w w'))
  case atStart => exact ⟨(y700), (0), tf_, H', ⟨Nat.le_refl _⟩, ⟨ts1_x HO702.out⟩, ⟨tk_ BK698⟩, ⟨tb_⟩⟩
  case round =>
   clear H'
   try clear c1
   try clear p2
   try clear c3
   try clear c9
   try clear hcz5_0
   try clear hcz5_1
   try clear hcz5_2
   try clear hcz9_0
   try clear hcz9_1
   try clear hcz9_2
   try clear hfz5_0
   try clear hfz5_1
   try clear hfz5_2
   try clear hfz9_0
   try clear hfz9_1
   try clear hfz9_2
   obtain ⟨x4_1, x13_1, rfl, HA, HK1, HO_4, BK698, HB⟩ := hrel
   cases gk with
   | zero => exact absurd HA.out (by simp [impl_CellsOf.l0])
   | succ k1 =>
    have H := HA.out
    clear HA
    simp only [impl_CellsOf.l0] at H
    by_cases c10 : x13_1 < a0_0
    ·
     rw [if_pos c10] at H
     have c10b0 := decide_eq_true c10
     clear c10
     have H' := A_ H
     clear H
     obtain ⟨hcz11_0, hcz11_1, hcz11_2, hfz11_0, hfz11_1, hfz11_2⟩ := cf3_ BK698.out
     go_wp2
     go_loopg [4, 18] k1 (fun kq v4 v18 w' => ∃ (x4_2 : List (List Int)) (x18_2 : Int), v18 = .int .i64 x18_2 ∧ Aside0 (impl_CellsOf.l1 kq x4_2 x13_1 a0_0 x13_1 a0_1 x18_2 a0_0 a0_1 l0_2 = some (r1, r2)) ∧ Aside0 (kq ≤ k1) ∧ Aside0 (Kd.S (Kd.slice 3 (Kd.int .i64)) 22 w' w.heap.size (fun _ => True) v4 x4_2) ∧ Aside0 (w'.heap[gb698]? = some (.cells #[.int .i64 a0_0, .int .i64 a0_1, (.slice A0_2 l0_2.length c0_2)] 26 (0, 0))) ∧ Aside0 (Below w.heap.size w w'))
     case atStart => exact ⟨(x4_1), (0), tf_, H', ⟨Nat.le_refl _⟩, ⟨ts1_x HO_4.out⟩, ⟨tk_ BK698⟩, ⟨tb_⟩⟩
     case round =>
      clear H'
      try clear c1
      try clear p2
      try clear c3
      try clear c9
      try clear c10
      try clear c10b0
      try clear c11
      try clear hcz11_0
      try clear hcz11_1
      try clear hcz11_2
      try clear hcz5_0
      try clear hcz5_1
      try clear hcz5_2
      try clear hcz9_0
      try clear hcz9_1
      try clear hcz9_2
      try clear hfz11_0
      try clear hfz11_1
      try clear hfz11_2
      try clear hfz5_0
      try clear hfz5_1
      try clear hfz5_2
      try clear hfz9_0
      try clear hfz9_1
      try clear hfz9_2
      try clear p2
      obtain ⟨x4_2, x18_2, rfl, HA, HK2, HO_4, BK698, HB⟩ := hrel
      cases gk with
      | zero => exact absurd HA.out (by simp [impl_CellsOf.l1])
      | succ k2 =>
       have H := HA.out
       clear HA
       simp only [impl_CellsOf.l1] at H
       by_cases c12 : x18_2 < a0_1
       ·
        rw [if_pos c12] at H
        have c12b0 := decide_eq_true c12
        clear c12
        replace H := Option.bind_eq_some_iff.mp H
        obtain ⟨t703, A130, H⟩ := H
        replace H : (if t703 = true then (if x4_2.length < 5864062014805 then (impl_CellsOf.l1 k2 (x4_2 ++ [(([x13_1, x18_2] : List Int))]) x13_1 a0_0 x13_1 a0_1 (wrap64 (x18_2 + 1)) a0_0 a0_1 l0_2) else (none)) else (impl_CellsOf.l1 k2 x4_2 x13_1 a0_0 x13_1 a0_1 (wrap64 (x18_2 + 1)) a0_0 a0_1 l0_2)) = some (r1, r2) := H
        have A13 := A_ A130
        clear A130
        by_cases c14 : t703 = true
        ·
         subst c14
         have H1 : (if x4_2.length < 5864062014805 then (impl_CellsOf.l1 k2 (x4_2 ++ [(([x13_1, x18_2] : List Int))]) x13_1 a0_0 x13_1 a0_1 (wrap64 (x18_2 + 1)) a0_0 a0_1 l0_2) else (none)) = some (r1, r2) := by rw [if_pos rfl] at H; exact H
         clear H
         have H := H1
         clear H1
         obtain ⟨y704, hy704⟩ : ∃ y_ : List Int, y_ = (([x13_1, x18_2] : List Int)) := ⟨_, rfl⟩
         replace H : (if x4_2.length < 5864062014805 then (impl_CellsOf.l1 k2 (x4_2 ++ [y704]) x13_1 a0_0 x13_1 a0_1 (wrap64 (x18_2 + 1)) a0_0 a0_1 l0_2) else (none)) = some (r1, r2) := ty_ hy704 H
         have Ny704 := A_ hy704
         clear hy704
         by_cases c15 : x4_2.length < 5864062014805
         ·
          rw [if_pos c15] at H
          have LMc15 := A_ c15
          clear c15
          obtain ⟨y707, hy707⟩ : ∃ y_ : List (List Int), y_ = (x4_2 ++ [y704]) := ⟨_, rfl⟩
          replace H : (impl_CellsOf.l1 k2 y707 x13_1 a0_0 x13_1 a0_1 (wrap64 (x18_2 + 1)) a0_0 a0_1 l0_2) = some (r1, r2) := ty_ hy707 H
          have Ny707 := A_ hy707
          clear hy707
          have H' := A_ H
          clear H
          obtain ⟨hcz16_0, hcz16_1, hcz16_2, hfz16_0, hfz16_1, hfz16_2⟩ := cf3_ BK698.out
          go_wp2_with (first | (refine gc_ 175 ?_; refine goesT_ (some 24) Try.func175 #[.agg #[.int .i64 a0_0, .int .i64 a0_1, .slice A0_2 l0_2.length c0_2], .int .i64 x13_1, .int .i64 x18_2] ?_; (with_reducible refine (impl_Board_has.calls a0_0 a0_1 _ _ l0_2 x13_1 x18_2 true _ ?side1 ?side2 A13.out).mono ?_); (case side1 => exact tc_ HR0_2.out); (case side2 => exact HC0_2.out); rintro e w17 ⟨rfl, hb⟩; refine ⟨_, rfl, ?_⟩; replace HO_4 := A_ (Kd.S_below (ts1_x HO_4.out) hb); replace BK698 := A_ (blk_below (g := gb698) (o := .cells #[.int .i64 a0_0, .int .i64 a0_1, .slice A0_2 l0_2.length c0_2] 26 (0, 0)) (tk_ BK698) hb); replace HB := A_ (below_step tb_ hb); (try clear hb)) | (refine gd_ 28 ?_; refine Kd.R_lit (Kd.int .i64) _ 3 ?hg (N := 28) ?hd (xs := ([x13_1, x18_2] : List Int)) (inner := [.int .i64 x13_1, .int .i64 x18_2]) (ok := fun _ => True) (okp := fun _ => True) ?hr ?hp (fun _ hk => hk) trivial (Below.refl _ _) (Nat.le_refl _) (by simp) ?_; (case hd => rfl); (case hg => rfl); (case hr => first | (go_simp; done) | (go_simp; rfl)); (case hp => exact (Reps.one (show Kd.M (Kd.int .i64) _ _ _ x13_1 [.int .i64 x13_1] from rfl) (Reps.one (show Kd.M (Kd.int .i64) _ _ _ x18_2 [.int .i64 x18_2] from rfl) (Reps.none _ _)))); intro v705 w18 ho19 hb hg_ hnew_; clear hg_ hnew_; (first | rw [← Ny704.out] at ho19 | (simp only [Int.reduceToNat] at ho19; rw [← Ny704.out] at ho19)); replace HO_4 := A_ (Kd.S_elder' (ts1_x HO_4.out) (Kd.R_base ho19) hb); have HO706 := A_ (Kd.R_lower ho19 (below_size tb_)); replace BK698 := A_ (blk_below (g := gb698) (o := .cells #[.int .i64 a0_0, .int .i64 a0_1, .slice A0_2 l0_2.length c0_2] 26 (0, 0)) (tk_ BK698) hb); replace HB := A_ (below_step tb_ hb); clear hb ho19; obtain ⟨Ao21, co21, eo21⟩ := Kd.R_slice HO706.out; subst eo21) | ((with_reducible refine gate_builtin (b := .append) (xs := #[.tmp 25, .tmp 29]) rfl ?_); at_builtin; refine Kd.S_append (Kd.slice 3 (Kd.int .i64)) (w0 := w) w.heap.size rfl (.tmp 25) (.tmp 29) 41 22 (.slice none 0 0) 24 rfl Try.underlying41 info22 rfl (by decide) (by omega) u4 x4_2 y704 [.slice Ao21 y704.length co21] (fun _ => True) (fun k_ => some k_ = (.slice Ao21 y704.length co21 : Value).ownBlock) rfl rfl ?aP (fun k_ hk_ => ((Kd.R_mono (ok' := fun k_ => ((fun _ => True)) k_ ∧ some k_ ≠ (u4 : Value).ownBlock) (Kd.R_apart' (HO706.out) (Kd.S_typed HO_4.out) (by decide)) (fun k_ hk => ⟨trivial, hk.2⟩))).1 k_ hk_.symm) ?aF ?aO ?aB ?aS ?aL ?_; (case aP => exact Kd.M_row (Kd.R_mono (Kd.R_tight rfl (Kd.R_mono (ok' := fun k_ => ((fun _ => True)) k_ ∧ some k_ ≠ (u4 : Value).ownBlock) (Kd.R_apart' (HO706.out) (Kd.S_typed HO_4.out) (by decide)) (fun k_ hk => ⟨trivial, hk.2⟩))) (fun _ h_ => h_))); (case aB => exact tb_); (case aF => exact (fun _ _ => trivial)); (case aO => exact (ts1_ (h := by exact Kd.S_mono HO_4.out (fun k_ hk => ⟨trivial, fun e_ => hk.2 e_⟩)))); (case aS => exact (below_size tb_)); (case aL => have := LMc15.out; omega); intro v708 w20 ho hb hg hat; rw [← Ny707.out] at ho; have n0_ := A_ (blk_grown (g := gb698) (o := .cells #[.int .i64 a0_0, .int .i64 a0_1, .slice A0_2 l0_2.length c0_2] 26 (0, 0)) (tk_ BK698) hg (Kd.S_ne HO_4.out BK698.out (by decide))); have n1_ := A_ (hb); have n2_ := A_ (ho); clear BK698; clear HB; clear HO_4; clear HO706; have BK698 := n0_; have HB := n1_; have HO709 := n2_; clear n0_ n1_ n2_; clear ho hb hg hat))
          go_roundg k2
          case measure => have := HK1.out; have := HK2.out; omega
          case rel => exact ⟨(y707), (wrap64 (x18_2 + 1)), tf_, H', ⟨by have := HK1.out; have := HK2.out; omega⟩, ⟨ts1_x HO709.out⟩, ⟨tk_ BK698⟩, ⟨tb_⟩⟩
         ·
          rw [if_neg c15] at H
          exact absurd H (by simp)
        ·
         replace c14 := Bool.eq_false_iff.mpr c14
         subst c14
         have H1 : (impl_CellsOf.l1 k2 x4_2 x13_1 a0_0 x13_1 a0_1 (wrap64 (x18_2 + 1)) a0_0 a0_1 l0_2) = some (r1, r2) := by rw [if_neg (show ¬ (false = true) by decide)] at H; exact H
         clear H
         have H := H1
         clear H1
         have H' := A_ H
         clear H
         obtain ⟨hcz22_0, hcz22_1, hcz22_2, hfz22_0, hfz22_1, hfz22_2⟩ := cf3_ BK698.out
         go_wp2_with (first | (refine gc_ 175 ?_; refine goesT_ (some 24) Try.func175 #[.agg #[.int .i64 a0_0, .int .i64 a0_1, .slice A0_2 l0_2.length c0_2], .int .i64 x13_1, .int .i64 x18_2] ?_; (with_reducible refine (impl_Board_has.calls a0_0 a0_1 _ _ l0_2 x13_1 x18_2 false _ ?side1 ?side2 A13.out).mono ?_); (case side1 => exact tc_ HR0_2.out); (case side2 => exact HC0_2.out); rintro e w23 ⟨rfl, hb⟩; refine ⟨_, rfl, ?_⟩; replace HO_4 := A_ (Kd.S_below (ts1_x HO_4.out) hb); replace BK698 := A_ (blk_below (g := gb698) (o := .cells #[.int .i64 a0_0, .int .i64 a0_1, .slice A0_2 l0_2.length c0_2] 26 (0, 0)) (tk_ BK698) hb); replace HB := A_ (below_step tb_ hb); (try clear hb)))
         go_roundg k2
         case measure => have := HK1.out; have := HK2.out; omega
         case rel => exact ⟨(x4_2), (wrap64 (x18_2 + 1)), tf_, H', ⟨by have := HK1.out; have := HK2.out; omega⟩, ⟨ts1_x HO_4.out⟩, ⟨tk_ BK698⟩, ⟨tb_⟩⟩
       ·
        rw [if_neg c12] at H
        have c12b0 := decide_eq_false c12
        clear c12
        have H' := A_ H
        clear H
        go_wp2
        go_roundg k2
        case measure => have := HK1.out; have := HK2.out; omega
        case rel => exact ⟨(x4_2), (wrap64 (x13_1 + 1)), tf_, H', ⟨by have := HK1.out; have := HK2.out; omega⟩, ⟨ts1_x HO_4.out⟩, ⟨tk_ BK698⟩, ⟨tb_⟩⟩
    ·
     rw [if_neg c10] at H
     have c10b0 := decide_eq_false c10
     clear c10
     simp only [Option.some.injEq, Prod.mk.injEq] at H
     obtain ⟨rfl, rfl⟩ := H
     go_wp2
     go_ret2
     exact ⟨_, te_, by (with_reducible repeat (first | apply Kd.S_alloc | apply Kd.S_drewN | apply Kd.S_drew)); exact HO_4.out, tb_⟩
 ·
  replace c3 := Bool.eq_false_iff.mpr c3
  subst c3
  have H1 : (some (([] : List (List Int)), false)) = some (r1, r2) := by rw [if_neg (show ¬ (false = true) by decide)] at H; exact H
  clear H
  have H := H1
  clear H1
  simp only [Option.some.injEq, Prod.mk.injEq] at H
  obtain ⟨rfl, rfl⟩ := H
  go_enter Try.func115, Try.ntmps115
  go_wp2_with (first | (refine gd_ 1 ?_; refine bx_ 1 #[.int .i64 a0_0, .int .i64 a0_1, .slice A0_2 l0_2.length c0_2] 26 ?_; intro gb698 hg w24 hbox hb; have BK698 := A_ (hbox); have GW698 := A_ ((ts_ hg : w.heap.size ≤ gb698)); have GE698 := A_ ((ts_ hg : w.heap.size ≤ gb698)); replace HB := A_ (below_step tb_ hb); clear hb hbox hg; obtain ⟨hcz25_0, hcz25_1, hcz25_2, hfz25_0, hfz25_1, hfz25_2⟩ := cf3_ BK698.out) | (refine gc_ 93 ?_; refine goesT_ (some 8) Try.func93 #[.agg #[.int .i64 a0_0, .int .i64 a0_1, .slice A0_2 l0_2.length c0_2]] ?_; (with_reducible refine (impl_IsBoard.calls a0_0 a0_1 _ _ l0_2 false _ ?side1 ?side2 A2.out).mono ?_); (case side1 => exact tc_ HR0_2.out); (case side2 => exact HC0_2.out); rintro e w26 ⟨rfl, hb⟩; refine ⟨_, rfl, ?_⟩; replace BK698 := A_ (blk_below (g := gb698) (o := .cells #[.int .i64 a0_0, .int .i64 a0_1, .slice A0_2 l0_2.length c0_2] 26 (0, 0)) (tk_ BK698) hb); replace HB := A_ (below_step tb_ hb); (try clear hb)))
  go_ret2
  exact ⟨_, te_, by first | exact Kd.S_nil _ _ _ _ _ | exact Kd.N_nil _ _ _ _ _ | exact Kd.V_nil _ _ _ _ _ | exact Kd.Q_nil _ _ _ _ _ | exact Kd.R_nil _ _ _ _ _, tb_⟩

/-! ### slices_IndexFunc_int_int_191: function 191 -/
def slices_IndexFunc_int_int_191.l0 : Nat → List (List Int) → FnT57 → Int → Int → Option (Int)
 | 0, _, _, _, _ => none
 | k + 1, x0, x1, x7, x8 => if x8 < x7 then (if 0 ≤ x8 then (if x8 < (x0.length : Int) then ((FnCall57.f (rd_L1 x0 x8) x1).bind fun t711 => (if t711 = true then (some x8) else (slices_IndexFunc_int_int_191.l0 k x0 x1 x7 (wrap64 (x8 + 1))))) else (none)) else (none)) else (some (-1))
def slices_IndexFunc_int_int_191.f (k : Nat) (l0 : List (List Int)) (a1 : FnT57) : Option (Int) := slices_IndexFunc_int_int_191.l0 k l0 a1 (l0.length : Int) 0
theorem slices_IndexFunc_int_int_191.mono_l : ∀ k, (∀ y0 y1 y2 y3, LeO (slices_IndexFunc_int_int_191.l0 k y0 y1 y2 y3) (slices_IndexFunc_int_int_191.l0 (k + 1) y0 y1 y2 y3))
 | 0 => fun _ _ _ _ r h => by simp [slices_IndexFunc_int_int_191.l0] at h
 | k + 1 => by
  have ih0 := slices_IndexFunc_int_int_191.mono_l k
  ·
   intro y0 y1 y2 y3
   unfold slices_IndexFunc_int_int_191.l0
   repeat' first | (with_reducible first | exact ih0 _ _ _ _ | exact LeO.refl _ | exact LeO.none _ | refine LeO.ite ?_ ?_ | refine LeO.bind ?_ (fun _ => ?_)) | exact ih0 _ _ _ _ | exact LeO.none _ | refine LeO.ite ?_ ?_ | refine LeO.bind ?_ (fun _ => ?_)
theorem slices_IndexFunc_int_int_191.mono : ∀ a0 a1 k, LeO (slices_IndexFunc_int_int_191.f k a0 a1) (slices_IndexFunc_int_int_191.f (k + 1) a0 a1) := by
 intro a0 a1 k
 have ih0 := slices_IndexFunc_int_int_191.mono_l k
 unfold slices_IndexFunc_int_int_191.f
 repeat' first | (with_reducible first | exact ih0 _ _ _ _ | exact LeO.refl _ | exact LeO.none _ | refine LeO.ite ?_ ?_ | refine LeO.bind ?_ (fun _ => ?_)) | exact ih0 _ _ _ _ | exact LeO.none _ | refine LeO.ite ?_ ?_ | refine LeO.bind ?_ (fun _ => ?_)
theorem slices_IndexFunc_int_int_191.calls (k : Nat) (A0 : Option Addr) (c0 : Nat) (l0 : List (List Int)) (v1 : Value) (a1 : FnT57) (r : Int) (w : World) (hr0 : Kd.C (Kd.slice 3 (Kd.int .i64)) w A0 l0.length l0) (hc0 : l0.length ≤ c0) (hF1 : FnOk57 w v1 a1) (h : slices_IndexFunc_int_int_191.f k l0 a1 = some r) :
  Calls Try.prog 191 #[.slice A0 l0.length c0, v1] w fun e w' => e = .returned (.int .i64 r) ∧ Below w.heap.size w w' := by
 have HR0 := A_ hr0
 have HC0 := A_ hc0
 clear hr0 hc0
 have HF1 := A_ hF1
 clear hF1
 have HB := A_ (Below.refl w.heap.size w)
 have H : (slices_IndexFunc_int_int_191.l0 k l0 a1 (l0.length : Int) 0) = some r := h
 clear h
 have H' := A_ H
 clear H
 go_enter Try.func191, Try.ntmps191
 go_wp2
 go_loopg [8] k (fun kq v8 w' => ∃ (x8_1 : Int), v8 = .int .i64 x8_1 ∧ Aside0 (slices_IndexFunc_int_int_191.l0 kq l0 a1 (l0.length : Int) x8_1 = some r) ∧ Aside0 (kq ≤ k) ∧ Aside0 (Below w.heap.size w w'))
 case atStart => exact ⟨(0), tf_, H', ⟨Nat.le_refl _⟩, ⟨tb_⟩⟩
 case round =>
  clear H'
  try clear c1
  try clear p2
  obtain ⟨x8_1, rfl, HA, HK1, HB⟩ := hrel
  cases gk with
  | zero => exact absurd HA.out (by simp [slices_IndexFunc_int_int_191.l0])
  | succ k1 =>
   have H := HA.out
   clear HA
   simp only [slices_IndexFunc_int_int_191.l0] at H
   by_cases c3 : x8_1 < (l0.length : Int)
   ·
    rw [if_pos c3] at H
    have c3b0 := decide_eq_true c3
    clear c3
    by_cases c4 : 0 ≤ x8_1
    ·
     rw [if_pos c4] at H
     have c4b0 := decide_eq_true c4
     clear c4
     by_cases c5 : x8_1 < (l0.length : Int)
     ·
      rw [if_pos c5] at H
      have c5b0 := decide_eq_true c5
      clear c5
      replace H := Option.bind_eq_some_iff.mp H
      obtain ⟨t711, A60, H⟩ := H
      replace H : (if t711 = true then (some x8_1) else (slices_IndexFunc_int_int_191.l0 k1 l0 a1 (l0.length : Int) (wrap64 (x8_1 + 1)))) = some r := H
      have A6 := A_ A60
      clear A60
      by_cases c7 : t711 = true
      ·
       subst c7
       have H1 : (some x8_1) = some r := by rw [if_pos rfl] at H; exact H
       clear H
       have H := H1
       clear H1
       obtain rfl := Option.some.inj H
       have p710 : 0 ≤ (x8_1 : Int) := od_
       have q710 : x8_1 < (l0.length : Int) := od_
       obtain ⟨ad710, A710_0, c710_0, e710, hx710_0, hl710_0, hi710_0⟩ := at_L1 HR0.out x8_1 p710 q710
       cases e710
       (try replace hx710_0 := (HB.out.cell (World.block_lt_of_cell? w _ hx710_0)).trans hx710_0)
       have HR710_0 := A_ hi710_0
       have HC710_0 := A_ hl710_0
       clear hi710_0 hl710_0
       replace p710 := eq_true p710
       replace q710 := eq_true q710
       go_wp2_with (first | ((with_reducible refine Fn.gate_value rfl ?_); refine Fn.goesVw_ (some 16) rfl (by first | rfl | (simp [Region.wanted, yielded]; done)) v1 rfl #[.slice A710_0 (rd_L1 l0 x8_1).length c710_0] rfl ta_ ?_; (with_reducible refine (FnCall57.calls _ _ (rd_L1 l0 x8_1) v1 a1 true _ ?side1 ?side2 ?side3 A6.out).mono ?_); (case side1 => exact tc_ HR710_0.out); (case side2 => exact HC710_0.out); (case side3 => exact FnOk57.mono HF1.out tb_); rintro e w8 ⟨rfl, hb⟩; refine ⟨_, rfl, ?_⟩; replace HB := A_ (below_step tb_ hb); (try clear hb)))
       go_ret
       exact ⟨te_, tb_⟩
      ·
       replace c7 := Bool.eq_false_iff.mpr c7
       subst c7
       have H1 : (slices_IndexFunc_int_int_191.l0 k1 l0 a1 (l0.length : Int) (wrap64 (x8_1 + 1))) = some r := by rw [if_neg (show ¬ (false = true) by decide)] at H; exact H
       clear H
       have H := H1
       clear H1
       have H' := A_ H
       clear H
       have p710 : 0 ≤ (x8_1 : Int) := od_
       have q710 : x8_1 < (l0.length : Int) := od_
       obtain ⟨ad710, A710_0, c710_0, e710, hx710_0, hl710_0, hi710_0⟩ := at_L1 HR0.out x8_1 p710 q710
       cases e710
       (try replace hx710_0 := (HB.out.cell (World.block_lt_of_cell? w _ hx710_0)).trans hx710_0)
       have HR710_0 := A_ hi710_0
       have HC710_0 := A_ hl710_0
       clear hi710_0 hl710_0
       replace p710 := eq_true p710
       replace q710 := eq_true q710
       go_wp2_with (first | ((with_reducible refine Fn.gate_value rfl ?_); refine Fn.goesVw_ (some 16) rfl (by first | rfl | (simp [Region.wanted, yielded]; done)) v1 rfl #[.slice A710_0 (rd_L1 l0 x8_1).length c710_0] rfl ta_ ?_; (with_reducible refine (FnCall57.calls _ _ (rd_L1 l0 x8_1) v1 a1 false _ ?side1 ?side2 ?side3 A6.out).mono ?_); (case side1 => exact tc_ HR710_0.out); (case side2 => exact HC710_0.out); (case side3 => exact FnOk57.mono HF1.out tb_); rintro e w9 ⟨rfl, hb⟩; refine ⟨_, rfl, ?_⟩; replace HB := A_ (below_step tb_ hb); (try clear hb)))
       go_roundg k1
       case measure => have := HK1.out; omega
       case rel => exact ⟨(wrap64 (x8_1 + 1)), tf_, H', ⟨by have := HK1.out; omega⟩, ⟨tb_⟩⟩
     ·
      rw [if_neg c5] at H
      exact absurd H (by simp)
    ·
     rw [if_neg c4] at H
     exact absurd H (by simp)
   ·
    rw [if_neg c3] at H
    have c3b0 := decide_eq_false c3
    clear c3
    obtain rfl := Option.some.inj H
    go_wp2
    go_ret
    exact ⟨te_, tb_⟩

/-! ### slices_ContainsFunc_int_int_120: function 120 -/
def slices_ContainsFunc_int_int_120.f (k : Nat) (l0 : List (List Int)) (a1 : FnT57) : Option (Bool) := (slices_IndexFunc_int_int_191.f k l0 a1).bind fun t712 => (some (decide (t712 ≥ 0)))
theorem slices_ContainsFunc_int_int_120.mono : ∀ a0 a1 k, LeO (slices_ContainsFunc_int_int_120.f k a0 a1) (slices_ContainsFunc_int_int_120.f (k + 1) a0 a1) := by
 intro a0 a1 k
 unfold slices_ContainsFunc_int_int_120.f
 repeat' first | (with_reducible first | exact slices_IndexFunc_int_int_191.mono _ _ _ | exact LeO.refl _ | exact LeO.none _ | refine LeO.ite ?_ ?_ | refine LeO.bind ?_ (fun _ => ?_)) | exact slices_IndexFunc_int_int_191.mono _ _ _ | exact LeO.none _ | refine LeO.ite ?_ ?_ | refine LeO.bind ?_ (fun _ => ?_)
theorem slices_ContainsFunc_int_int_120.calls (k : Nat) (A0 : Option Addr) (c0 : Nat) (l0 : List (List Int)) (v1 : Value) (a1 : FnT57) (r : Bool) (w : World) (hr0 : Kd.C (Kd.slice 3 (Kd.int .i64)) w A0 l0.length l0) (hc0 : l0.length ≤ c0) (hF1 : FnOk57 w v1 a1) (h : slices_ContainsFunc_int_int_120.f k l0 a1 = some r) :
  Calls Try.prog 120 #[.slice A0 l0.length c0, v1] w fun e w' => e = .returned (.bool r) ∧ Below w.heap.size w w' := by
 have HR0 := A_ hr0
 have HC0 := A_ hc0
 clear hr0 hc0
 have HF1 := A_ hF1
 clear hF1
 have HB := A_ (Below.refl w.heap.size w)
 have H : ((slices_IndexFunc_int_int_191.f k l0 a1).bind fun t712 => (some (decide (t712 ≥ 0)))) = some r := h
 clear h
 replace H := Option.bind_eq_some_iff.mp H
 obtain ⟨t712, A30, H⟩ := H
 replace H : (some (decide (t712 ≥ 0))) = some r := H
 have A3 := A_ A30
 clear A30
 obtain rfl := Option.some.inj H
 go_enter Try.func120, Try.ntmps120
 go_wp2_with (first | (refine gc_ 191 ?_; refine goesT_ (some 7) Try.func191 #[.slice A0 l0.length c0, v1] ?_; (with_reducible refine (slices_IndexFunc_int_int_191.calls k _ _ l0 v1 a1 t712 _ ?side1 ?side2 ?side3 A3.out).mono ?_); (case side1 => exact tc0_ HR0.out); (case side2 => exact HC0.out); (case side3 => exact FnOk57.mono HF1.out tb_); rintro e w4 ⟨rfl, hb⟩; refine ⟨_, rfl, ?_⟩; replace HB := A_ (below_step tb_ hb); (try clear hb)))
 go_ret
 exact ⟨te_, tb_⟩

/-! ### impl_Board_lists_1_1: function 184 -/
def impl_Board_lists_1_1.f (l0 : List Int) (a1 : FnT38) (l2 : List (List Int)) (a3 : Int) : Option (Bool) := if 0 ≤ a3 then (if a3 < (l2.length : Int) then ((FnCall38.f l0 (rd_L1 l2 a3) a1).bind fun t714 => (some (!t714))) else (none)) else (none)
def impl_Board_lists_1_1.T1 : Bool × List (List Nat × List Nat) := (true, [([], []), ([], []), ([], []), ([], []), ([2, 3], [2, 3]), ([4], [4]), ([0, 1, 5], [0, 1, 5]), ([6], [6]), ([7, 6, 0, 1, 2, 3, 4, 5, 6, 7], [7])])
def impl_Board_lists_1_1.B1 : List Nat := [0, 0, 0, 0, 12, 28, 63, 127, 255]
theorem impl_Board_lists_1_1.tab1 : rtab .any (opsOf Try.f184 1) = impl_Board_lists_1_1.T1 := by kernel_rfl
theorem impl_Board_lists_1_1.bits1 : waitsOk impl_Board_lists_1_1.T1.2 impl_Board_lists_1_1.B1 = true := by kernel_rfl
theorem impl_Board_lists_1_1.calls (A0 : Option Addr) (c0 : Nat) (l0 : List Int) (g1 : Nat) (v1 : Value) (a1 : FnT38) (g2 : Nat) (A2 : Option Addr) (c2 : Nat) (l2 : List (List Int)) (g3 : Nat) (a3 : Int) (r : Bool) (w : World) (hr0 : Kd.C (Kd.int .i64) w A0 l0.length l0) (hc0 : l0.length ≤ c0) (hq1 : w.cell? ⟨g1, 0, none⟩ = some (v1)) (hF1 : FnOk38 w v1 a1) (hq2 : w.cell? ⟨g2, 0, none⟩ = some (.slice A2 l2.length c2)) (hr2 : Kd.C (Kd.slice 3 (Kd.int .i64)) w A2 l2.length l2) (hc2 : l2.length ≤ c2) (hq3 : w.cell? ⟨g3, 0, none⟩ = some (.int .i64 a3)) (h : impl_Board_lists_1_1.f l0 a1 l2 a3 = some r) :
  Calls Try.prog 184 #[.slice A0 l0.length c0, .pointer (some ⟨g1, 0, none⟩), .pointer (some ⟨g2, 0, none⟩), .pointer (some ⟨g3, 0, none⟩)] w fun e w' => e = .returned (.bool r) ∧ Below w.heap.size w w' := by
 have HR0 := A_ hr0
 have HC0 := A_ hc0
 clear hr0 hc0
 have HQ1 := A_ hq1
 clear hq1
 have HF1 := A_ hF1
 clear hF1
 have HQ2 := A_ hq2
 clear hq2
 have HR2 := A_ hr2
 have HC2 := A_ hc2
 clear hr2 hc2
 have HQ3 := A_ hq3
 clear hq3
 have HB := A_ (Below.refl w.heap.size w)
 have H : (if 0 ≤ a3 then (if a3 < (l2.length : Int) then ((FnCall38.f l0 (rd_L1 l2 a3) a1).bind fun t714 => (some (!t714))) else (none)) else (none)) = some r := h
 clear h
 by_cases c5 : 0 ≤ a3
 ·
  rw [if_pos c5] at H
  have c5b0 := decide_eq_true c5
  clear c5
  by_cases c6 : a3 < (l2.length : Int)
  ·
   rw [if_pos c6] at H
   have c6b0 := decide_eq_true c6
   clear c6
   replace H := Option.bind_eq_some_iff.mp H
   obtain ⟨t714, A70, H⟩ := H
   replace H : (some (!t714)) = some r := H
   have A7 := A_ A70
   clear A70
   obtain rfl := Option.some.inj H
   go_enter Try.func184, Try.ntmps184
   try go_wp2
   have n0_ := A_ (below_drew1 HB.out)
   clear HB
   have HB := n0_
   clear n0_
   have p713 : 0 ≤ (a3 : Int) := od_
   have q713 : a3 < (l2.length : Int) := od_
   obtain ⟨ad713, A713_0, c713_0, e713, hx713_0, hl713_0, hi713_0⟩ := at_L1 HR2.out a3 p713 q713
   have hw713_0 := hx713_0
   cases e713
   (try replace hx713_0 := (HB.out.cell (World.block_lt_of_cell? w _ hx713_0)).trans hx713_0)
   have HR713_0 := A_ hi713_0
   have HC713_0 := A_ hl713_0
   clear hi713_0 hl713_0
   replace p713 := eq_true p713
   replace q713 := eq_true q713
   refine start_ (n := 9) (S := fun w' => w'.cell? (ad713.add (a3).toNat) = some (.slice A713_0 (rd_L1 l2 a3).length c713_0) ∧ w'.cell? ⟨g1, 0, none⟩ = some (v1) ∧ w'.cell? ⟨g2, 0, none⟩ = some (.slice (some ad713) l2.length c2) ∧ w'.cell? ⟨g3, 0, none⟩ = some (.int .i64 a3)) (ds := []) (Fn.bl 9 0) (by kernel_rfl) rfl rfl ⟨((HB.out.cell (World.block_lt_of_cell? w _ hw713_0)).trans hw713_0), ((HB.out.cell (World.block_lt_of_cell? w _ HQ1.out)).trans HQ1.out), ((HB.out.cell (World.block_lt_of_cell? w _ HQ2.out)).trans HQ2.out), ((HB.out.cell (World.block_lt_of_cell? w _ HQ3.out)).trans HQ3.out)⟩ (fun hHeld => ?_); refine with_tabW impl_Board_lists_1_1.tab1 impl_Board_lists_1_1.bits1 (fun HT_ HW_ => ?_)
   generalize w.drew = w8 at HB HR713_0 hx713_0 hHeld ⊢
   refine pq_ 1 (some 7) (Fn.bl 9 2) HT_.out ?_
   refine tq_ 0 (some 6) (Fn.bl 9 3) HT_.out HW_.out hHeld ?_ (hy0 := by rintro w' ⟨s0, s1, s2, s3⟩; go_simp; with_reducible rfl)
   refine tq_ 2 (some 8) (Fn.bl 9 7) HT_.out HW_.out hHeld ?_ (hy0 := by rintro w' ⟨s0, s1, s2, s3⟩; go_simp; with_reducible rfl)
   refine tq_ 3 (some 9) (Fn.bl 9 15) HT_.out HW_.out hHeld ?_ (hy0 := by rintro w' ⟨s0, s1, s2, s3⟩; go_simp; with_reducible rfl)
   refine pq_ 4 (some 10) (Fn.bl 9 31) HT_.out ?_
   refine tq_ 5 (some 11) (Fn.bl 9 63) HT_.out HW_.out hHeld ?_ (hy0 := by rintro w' ⟨s0, s1, s2, s3⟩; go_simp; with_reducible rfl)
   refine one_ (i := 6) (N := some 12) (Fn.bl 9 127) rfl rfl (one_of HT_.out (by kernel_rfl)) (by decide) (fun K hK => ?_)
   refine Fn.goesVk_ v1 #[.slice A0 l0.length c0, .slice A713_0 (rd_L1 l2 a3).length c713_0] (by rfl) rfl rfl rfl ta_ ?_
   with_reducible refine (FnCall38.calls _ _ l0 _ _ (rd_L1 l2 a3) v1 a1 t714 _ ?side1 ?side2 ?side3 ?side4 ?side5 A7.out).mono ?_
   (case side1 => exact tc_ HR0.out)
   (case side2 => exact HC0.out)
   (case side3 => exact tc_ HR713_0.out)
   (case side4 => exact HC713_0.out)
   (case side5 => exact FnOk38.mono HF1.out tb_)
   rintro e w9 ⟨rfl, hb⟩
   refine ⟨_, rfl, ?_⟩
   have n0_ := A_ (below_step tb_ hb)
   clear HB
   have HB := n0_
   clear n0_
   (try clear hb)
   (try clear hb2)
   (try clear hk)
   (try clear hi)
   refine hK.out _ _ ⟨((HB.out.cell (World.block_lt_of_cell? w _ hw713_0)).trans hw713_0), ((HB.out.cell (World.block_lt_of_cell? w _ HQ1.out)).trans HQ1.out), ((HB.out.cell (World.block_lt_of_cell? w _ HQ2.out)).trans HQ2.out), ((HB.out.cell (World.block_lt_of_cell? w _ HQ3.out)).trans HQ3.out)⟩ (fun hHeld => ?_)
   clear hK K
   refine norm_ (a' := ?_) ?_ ?_
   rotate_left
   ·
    show Act.put _ (some 12) _ = _
    simp only [Act.put, List.setIfInBounds_toArray, List.set_cons_zero, List.set_cons_succ, i64_w, i32_w]
    rfl
   refine pq_ 7 (some 13) (Fn.bl 9 255) HT_.out ?_
   refine pq_ 8 (some 5) (Fn.bl 9 511) HT_.out ?_
   refine done_ (done_of HT_.out (by kernel_rfl)) ?_
   try go_wp2
   go_ret
   exact ⟨te_, tb_⟩
  ·
   rw [if_neg c6] at H
   exact absurd H (by simp)
 ·
  rw [if_neg c5] at H
  exact absurd H (by simp)

end
end Go.Proofs.Ythlcaikplebpmaa.P
