-- printed functions (wip/slim.py)
import Derived.Test.YthlcaikplebpmaaPx0
import Derived.Test.YthlcaikplebpmaaQ887637c60c
namespace Go.Proofs.Ythlcaikplebpmaa.P
noncomputable section
set_option maxHeartbeats 8000000
set_option maxRecDepth 100000
open Go.RowKit Go.Proofs.YthlcaikplebpmaaW.PrintWords Go.Proofs.YthlcaikplebpmaaW.PrintLast Go.Proofs.YthlcaikplebpmaaW.PrintMore
attribute [local go_sem] max2_int min2_int max_two min_two max_three min_three max_four min_four   -- for this text's walks alone
set_option linter.unusedVariables false
set_option linter.unusedSimpArgs false

/-! ### spec_quWatch: function 112 -/
mutual
def spec_quWatch.j0 : Nat → Int → Int → List (List Int) → Int → Option ((List (List Int)) × Bool)
 | 0, _, _, _, _ => none
 | k + 1, x0, x1, x2, x8 => spec_quWatch.l0 k x0 x1 x2 x8
def spec_quWatch.l0 : Nat → Int → Int → List (List Int) → Int → Option ((List (List Int)) × Bool)
 | 0, _, _, _, _ => none
 | k + 1, x0, x1, x2, x10 => if x10 < (wrap64 (x0 * x0)) then ((some (([] : List (List Int)) : List (List Int))).bind fun y857 => (if y857.length + x2.length < 5864062014805 then ((some (y857 ++ x2 : List (List Int))).bind fun y860 => (if x0 = 0 then (none) else ((some (([(([wrap64 (Int.tdiv x10 x0), Int.tmod x10 x0] : List Int))] : List (List Int)) : List (List Int))).bind fun y866 => (if y860.length + y866.length < 5864062014805 then ((spec_quWatch.f k x0 (wrap64 (x1 - 1)) (y860 ++ y866)).bind fun bt872 => (if bt872.2 = true then (some (bt872.1, true)) else (spec_quWatch.l0 k x0 x1 x2 (wrap64 (x10 + 1))))) else (none))))) else (none))) else (some (([] : List (List Int)), false))
def spec_quWatch.f : Nat → Int → Int → List (List Int) → Option ((List (List Int)) × Bool)
 | 0, _, _, _ => none
 | k + 1, a0, a1, l2 => if a1 = 0 then ((spec_quWatched.f k a0 l2).bind fun t853 => (some (l2, t853))) else (if (l2.length : Int) > 0 then (if 0 ≤ (wrap64 ((l2.length : Int) - 1)) then (if (wrap64 ((l2.length : Int) - 1)) < (l2.length : Int) then (if 0 < ((rd_L1 l2 (wrap64 ((l2.length : Int) - 1))).length : Int) then (if 1 < ((rd_L1 l2 (wrap64 ((l2.length : Int) - 1))).length : Int) then (spec_quWatch.j0 k a0 a1 l2 (wrap64 ((wrap64 ((wrap64 ((rd (rd_L1 l2 (wrap64 ((l2.length : Int) - 1))) 0) * a0)) + (rd (rd_L1 l2 (wrap64 ((l2.length : Int) - 1))) 1))) + 1))) else (none)) else (none)) else (none)) else (none)) else (spec_quWatch.j0 k a0 a1 l2 0))
end
theorem spec_quWatch.mono_l : ∀ k, (∀ y0 y1 y2, LeO (spec_quWatch.f k y0 y1 y2) (spec_quWatch.f (k + 1) y0 y1 y2)) ∧ (∀ y0 y1 y2 y3, LeO (spec_quWatch.j0 k y0 y1 y2 y3) (spec_quWatch.j0 (k + 1) y0 y1 y2 y3)) ∧ (∀ y0 y1 y2 y3, LeO (spec_quWatch.l0 k y0 y1 y2 y3) (spec_quWatch.l0 (k + 1) y0 y1 y2 y3))
 | 0 => ⟨fun _ _ _ r h => by simp [spec_quWatch.f] at h, fun _ _ _ _ r h => by simp [spec_quWatch.j0] at h, fun _ _ _ _ r h => by simp [spec_quWatch.l0] at h⟩
 | k + 1 => by
  obtain ⟨ih0, ih1, ih2⟩ := spec_quWatch.mono_l k
  refine ⟨?_, ?_, ?_⟩
  ·
   intro y0 y1 y2
   unfold spec_quWatch.f
   repeat' first | (with_reducible first | exact ih0 _ _ _ | exact ih1 _ _ _ _ | exact ih2 _ _ _ _ | exact spec_quWatched.mono _ _ _ | exact LeO.refl _ | exact LeO.none _ | refine LeO.ite ?_ ?_ | refine LeO.bind ?_ (fun _ => ?_)) | exact ih0 _ _ _ | exact ih1 _ _ _ _ | exact ih2 _ _ _ _ | exact spec_quWatched.mono _ _ _ | exact LeO.none _ | refine LeO.ite ?_ ?_ | refine LeO.bind ?_ (fun _ => ?_)
  ·
   intro y0 y1 y2 y3
   unfold spec_quWatch.j0
   repeat' first | (with_reducible first | exact ih0 _ _ _ | exact ih1 _ _ _ _ | exact ih2 _ _ _ _ | exact spec_quWatched.mono _ _ _ | exact LeO.refl _ | exact LeO.none _ | refine LeO.ite ?_ ?_ | refine LeO.bind ?_ (fun _ => ?_)) | exact ih0 _ _ _ | exact ih1 _ _ _ _ | exact ih2 _ _ _ _ | exact spec_quWatched.mono _ _ _ | exact LeO.none _ | refine LeO.ite ?_ ?_ | refine LeO.bind ?_ (fun _ => ?_)
  ·
   intro y0 y1 y2 y3
   unfold spec_quWatch.l0
   repeat' first | (with_reducible first | exact ih0 _ _ _ | exact ih1 _ _ _ _ | exact ih2 _ _ _ _ | exact spec_quWatched.mono _ _ _ | exact LeO.refl _ | exact LeO.none _ | refine LeO.ite ?_ ?_ | refine LeO.bind ?_ (fun _ => ?_)) | exact ih0 _ _ _ | exact ih1 _ _ _ _ | exact ih2 _ _ _ _ | exact spec_quWatched.mono _ _ _ | exact LeO.none _ | refine LeO.ite ?_ ?_ | refine LeO.bind ?_ (fun _ => ?_)
theorem spec_quWatch.mono : ∀ a0 a1 a2 k, LeO (spec_quWatch.f k a0 a1 a2) (spec_quWatch.f (k + 1) a0 a1 a2) := by
 intro a0 a1 a2 k
 obtain ⟨ih0, ih1, ih2⟩ := spec_quWatch.mono_l k
 exact ih0 a0 a1 a2
def spec_quWatch.T6 : Bool × List (List Nat × List Nat) := (true, [([], []), ([0], [0]), ([1], [1]), ([], []), ([2, 3], [2, 3]), ([], []), ([5], [5]), ([6], [6]), ([4, 7], [4, 7]), ([8], [8]), ([9, 0, 1, 2, 3, 4, 5, 6, 7, 8, 9], [9])])
def spec_quWatch.B6 : List Nat := [0, 1, 3, 0, 15, 0, 32, 96, 255, 511, 1023]
theorem spec_quWatch.tab6 : rtab .any (opsOf Try.f112 6) = spec_quWatch.T6 := by kernel_rfl
theorem spec_quWatch.bits6 : waitsOk spec_quWatch.T6.2 spec_quWatch.B6 = true := by kernel_rfl
def spec_quWatch.T10 : Bool × List (List Nat × List Nat) := (true, [([], []), ([], []), ([0, 1], [0, 1]), ([], []), ([], []), ([3, 4], [3, 4]), ([], []), ([], []), ([6, 7], [6, 7]), ([5, 8], [5, 8]), ([9], [9]), ([2, 10, 2], [2, 10]), ([11, 11, 0, 1, 2, 3, 4, 5, 6, 7, 8, 9, 10, 11], [11])])
def spec_quWatch.B10 : List Nat := [0, 0, 3, 0, 0, 24, 0, 0, 192, 504, 1016, 2047, 4095]
theorem spec_quWatch.tab10 : rtab .any (opsOf Try.f112 10) = spec_quWatch.T10 := by kernel_rfl
theorem spec_quWatch.bits10 : waitsOk spec_quWatch.T10.2 spec_quWatch.B10 = true := by kernel_rfl
theorem spec_quWatch.calls (k : Nat) : ∀ (a0 : Int) (a1 : Int) (P2_ : Nat → Prop) (A2 : Option Addr) (c2 : Nat) (l2 : List (List Int)) (r1 : List (List Int)) (r2 : Bool) (w : World) (hs2 : Kd.V (Kd.slice 3 (Kd.int .i64)) 22 w w.heap.size (fun k_ => P2_ k_) (.slice A2 l2.length c2) l2) (h : spec_quWatch.f k a0 a1 l2 = some (r1, r2)),
  Calls Try.prog 112 #[.int .i64 a0, .int .i64 a1, .slice A2 l2.length c2] w fun e w' => ∃ v0_ : Value, e = .returned (.tuple #[v0_, .bool r2]) ∧ Kd.V (Kd.slice 3 (Kd.int .i64)) 22 w' w.heap.size (fun k_ => (P2_ k_ ∨ w.heap.size ≤ k_)) v0_ r1 ∧ Below w.heap.size w w' := by
 induction k using Nat.strongRecOn with
 | _ k ih =>
 intro a0 a1 P2_ A2 c2 l2 r1 r2 w hs2 h
 cases k with
 | zero => exact absurd h (by simp [spec_quWatch.f])
 | succ k =>
 simp only [spec_quWatch.f] at h
 have HO2 := A_ (show Kd.V (Kd.slice 3 (Kd.int .i64)) 22 w w.heap.size (fun k_ => (P2_ k_ ∨ w.heap.size ≤ k_)) (.slice A2 l2.length c2) l2 from Kd.V_mono hs2 (fun k_ hk => .inl hk))
 have HB := A_ (Below.refl w.heap.size w)
 have H : (if a1 = 0 then ((spec_quWatched.f k a0 l2).bind fun t853 => (some (l2, t853))) else (if (l2.length : Int) > 0 then (if 0 ≤ (wrap64 ((l2.length : Int) - 1)) then (if (wrap64 ((l2.length : Int) - 1)) < (l2.length : Int) then (if 0 < ((rd_L1 l2 (wrap64 ((l2.length : Int) - 1))).length : Int) then (if 1 < ((rd_L1 l2 (wrap64 ((l2.length : Int) - 1))).length : Int) then (spec_quWatch.j0 k a0 a1 l2 (wrap64 ((wrap64 ((wrap64 ((rd (rd_L1 l2 (wrap64 ((l2.length : Int) - 1))) 0) * a0)) + (rd (rd_L1 l2 (wrap64 ((l2.length : Int) - 1))) 1))) + 1))) else (none)) else (none)) else (none)) else (none)) else (spec_quWatch.j0 k a0 a1 l2 0))) = some (r1, r2) := h
 clear h
 by_cases c4 : a1 = 0
 ·
  rw [if_pos c4] at H
  have c4b0 : (a1 == 0) = true := beq_iff_eq.mpr c4
  have c4b1 : (a1 != 0) = false := bne_eq_false_iff_eq.mpr c4
  clear c4
  replace H := Option.bind_eq_some_iff.mp H
  obtain ⟨t853, A50, H⟩ := H
  replace H : (some (l2, t853)) = some (r1, r2) := H
  have A5 := A_ A50
  clear A50
  simp only [Option.some.injEq, Prod.mk.injEq] at H
  obtain ⟨rfl, rfl⟩ := H
  go_enter Try.func112, Try.ntmps112
  go_wp2_with (first | (refine gc_ 127 ?_; refine goesT_ (some 19) Try.func127 #[.int .i64 a0, .slice A2 l2.length c2] ?_; (with_reducible refine (spec_quWatched.calls k a0 _ _ l2 t853 _ ?side1 ?side2 A5.out).mono ?_); (case side1 => repeat (first | exact (Kd.V_reads' HO2.out).2.2 | (with_reducible refine Kd.C_alloc ?_ _) | (with_reducible refine Kd.C_drewN ?_ _) | (with_reducible refine Kd.C_drew ?_))); (case side2 => exact (Kd.V_reads' HO2.out).2.1); rintro e w' ⟨rfl, ⟨nd, rfl⟩⟩; refine ⟨_, rfl, ?_⟩))
  go_ret2
  exact ⟨_, te_, by (with_reducible repeat (first | apply Kd.V_alloc | apply Kd.V_drewN | apply Kd.V_drew)); exact HO2.out, tb_⟩
 ·
  rw [if_neg c4] at H
  have c4b0 : (a1 == 0) = false := beq_eq_false_iff_ne.mpr c4
  have c4b1 : (a1 != 0) = true := bne_iff_ne.mpr c4
  have HC6 := A_ H
  clear H
  go_enter Try.func112, Try.ntmps112
  go_upto_if 22 with (fail)
  go_cut [8] (fun v8 wc => ∃ (kq : Nat) (x8_5 : Int), v8 = .int .i64 x8_5 ∧ Aside0 (spec_quWatch.j0 kq a0 a1 l2 x8_5 = some (r1, r2)) ∧ Aside0 (kq ≤ k) ∧ Aside0 (Kd.V (Kd.slice 3 (Kd.int .i64)) 22 wc w.heap.size (fun k_ => (P2_ k_ ∨ w.heap.size ≤ k_)) (.slice A2 l2.length c2) l2) ∧ Aside0 (Below w.heap.size w wc))
  case first =>
   have H := HC6.out
   clear HC6
   by_cases c7 : (l2.length : Int) > 0
   ·
    rw [if_pos c7] at H
    have c7b0 := decide_eq_true c7
    have c7b1 : decide (0 < l2.length) = true := decide_eq_true (by omega)
    clear c7
    (first | rw [c7b0] | rw [c7b1] | (simp only [i64_w, i32_w]; rw [c7b0]) | skip)
    obtain ⟨ji8, hji8⟩ : ∃ j_ : Int, (wrap64 ((l2.length : Int) - 1)) = j_ := ⟨_, rfl⟩
    replace H : (if 0 ≤ (ji8) then (if (ji8) < (l2.length : Int) then (if 0 < ((rd_L1 l2 (ji8)).length : Int) then (if 1 < ((rd_L1 l2 (ji8)).length : Int) then (spec_quWatch.j0 k a0 a1 l2 (wrap64 ((wrap64 ((wrap64 ((rd (rd_L1 l2 (ji8)) 0) * a0)) + (rd (rd_L1 l2 (ji8)) 1))) + 1))) else (none)) else (none)) else (none)) else (none)) = some (r1, r2) := by first | (rw [hji8] at H; exact H) | (simp only [hji8] at H ⊢; exact H)
    have hji8w : (IntKind.i64.wrap ((l2.length : Int) - 1)) = ji8 := (i64_w _).trans hji8
    by_cases c9 : 0 ≤ (ji8)
    ·
     rw [if_pos c9] at H
     have c9b0 := decide_eq_true c9
     clear c9
     by_cases c10 : (ji8) < (l2.length : Int)
     ·
      rw [if_pos c10] at H
      have c10b0 := decide_eq_true c10
      clear c10
      by_cases c11 : 0 < ((rd_L1 l2 (ji8)).length : Int)
      ·
       rw [if_pos c11] at H
       have c11b0 := decide_eq_true c11
       have c11b1 : decide (0 < (rd_L1 l2 (ji8)).length) = true := decide_eq_true (by omega)
       clear c11
       by_cases c12 : 1 < ((rd_L1 l2 (ji8)).length : Int)
       ·
        rw [if_pos c12] at H
        have c12b0 := decide_eq_true c12
        have c12b1 : decide (1 < (rd_L1 l2 (ji8)).length) = true := decide_eq_true (by omega)
        clear c12
        have H' := A_ H
        clear H
        have p854 : 0 ≤ ((ji8) : Int) := od_
        have q854 : (ji8) < (l2.length : Int) := od_
        obtain ⟨ad854, A854_0, c854_0, e854, hx854_0, hl854_0, hi854_0⟩ := at_L1 (Kd.V_reads' HO2.out).2.2 (ji8) p854 q854
        cases e854
        obtain ⟨ce854, hce854, hMe854, hcc854⟩ := Kd.V_get HO2.out [] (ji8) p854 (by first | exact q854 | exact od_ | (have e_ := (Kd.V_reads' HO2.out).1; omega))
        obtain ⟨ua854_0, uc854_0, rfl, ul854_0, ge854_0⟩ := Kd.FK_slice_open hMe854
        have hv854_0 := hcc854 0 _ rfl
        rw [Nat.add_zero, show ((Kd.slice 3 (Kd.int .i64))).sz = 1 from rfl, Nat.mul_one] at hv854_0
        replace hv854_0 := Option.some.inj (hv854_0.symm.trans hx854_0)
        injection hv854_0 with hva_ hvn_ hvc_
        rw [hva_] at ge854_0
        rw [hvc_] at ul854_0
        have HL854_0 := A_ (show Kd.V (Kd.int .i64) 3 _ w.heap.size _ _ (rd_L1 l2 (ji8)) from Kd.V_mk ul854_0 ge854_0)
        clear hva_ hvn_ hvc_ ge854_0 ul854_0
        clear hcc854 hce854
        have HR854_0 := A_ hi854_0
        have HC854_0 := A_ hl854_0
        clear hi854_0 hl854_0
        replace p854 := eq_true p854
        replace q854 := eq_true q854
        try go_wp2
        have n0_ := A_ (Kd.V_drew HO2.out)
        have n1_ := A_ (Kd.V_drew HL854_0.out)
        have n2_ := A_ (Kd.C_drew HR854_0.out)
        have n3_ := A_ (below_drew1 HB.out)
        clear HO2
        clear HL854_0
        clear HR854_0
        clear HB
        have HO2 := n0_
        have HL854_0 := n1_
        have HR854_0 := n2_
        have HB := n3_
        clear n0_ n1_ n2_ n3_
        have p855 : 0 ≤ (0 : Int) := (by omega)
        have q855 : 0 < ((rd_L1 l2 (ji8)).length : Int) := od_
        obtain ⟨ad855, e855, hx855_0⟩ := Kd.at_int (by repeat (first | (with_reducible exact HR854_0.out) | (with_reducible refine Kd.C_alloc ?_ _) | (with_reducible refine Kd.C_drewN ?_ _) | (with_reducible refine Kd.C_drew ?_) | exact HR854_0.out)) 0 p855 q855
        cases e855
        have qi855 : (0 < (rd_L1 l2 (ji8)).length) = True := eq_true (by omega)
        (try rw [show ((0 : Int)).toNat = 0 from rfl] at hx855_0)
        (try rw [Addr.add_zero'] at hx855_0)
        replace p855 := eq_true p855
        replace q855 := eq_true q855
        have p856 : 0 ≤ (1 : Int) := (by omega)
        have q856 : 1 < ((rd_L1 l2 (ji8)).length : Int) := od_
        obtain ⟨ad856, e856, hx856_0⟩ := Kd.at_int (by repeat (first | (with_reducible exact HR854_0.out) | (with_reducible refine Kd.C_alloc ?_ _) | (with_reducible refine Kd.C_drewN ?_ _) | (with_reducible refine Kd.C_drew ?_) | exact HR854_0.out)) 1 p856 q856
        obtain rfl : ad855 = ad856 := (by injection e856)
        (try simp only [show (1 : Int).toNat = 1 from rfl, Nat.reduceMul, Nat.reduceEqDiff, Go.Addr.add, ↓reduceIte] at hx856_0)
        have qi856 : (1 < (rd_L1 l2 (ji8)).length) = True := eq_true (by omega)
        (try rw [show ((1 : Int)).toNat = 1 from rfl] at hx856_0)
        replace p856 := eq_true p856
        replace q856 := eq_true q856
        refine start_ (n := 11) (S := fun w' => w'.cell? ad855 = some (.int .i64 (rd (rd_L1 l2 (ji8)) 0)) ∧ w'.cell? ⟨ad855.block, ad855.off + 1, none⟩ = some (.int .i64 (rd (rd_L1 l2 (ji8)) 1))) (ds := []) (Fn.bl 11 0) (by kernel_rfl) rfl rfl ⟨hx855_0, hx856_0⟩ (fun hHeld => ?_); refine with_tabW spec_quWatch.tab6 spec_quWatch.bits6 (fun HT_ HW_ => ?_)
        generalize w.drew = w13 at HO2 HL854_0 HR854_0 HB hx855_0 hx856_0 hHeld ⊢
        refine pq_ 0 (some 29) (Fn.bl 11 1) HT_.out ?_
        refine pq_ 1 (some 30) (Fn.bl 11 3) HT_.out ?_
        refine pq_ 3 (some 32) (Fn.bl 11 11) HT_.out ?_
        refine pq_ 5 (some 34) (Fn.bl 11 43) HT_.out ?_
        refine pq_ 6 (some 35) (Fn.bl 11 107) HT_.out ?_
        refine tq_ 2 (some 31) (Fn.bl 11 111) HT_.out HW_.out hHeld ?_ (hy0 := by rintro w' ⟨s0, s1⟩; go_simp; with_reducible rfl)
        refine pq_ 4 (some 33) (Fn.bl 11 127) HT_.out ?_
        refine tq_ 7 (some 36) (Fn.bl 11 255) HT_.out HW_.out hHeld ?_ (hy0 := by rintro w' ⟨s0, s1⟩; go_simp; with_reducible rfl)
        refine pq_ 8 (some 37) (Fn.bl 11 511) HT_.out ?_
        refine pq_ 9 (some 38) (Fn.bl 11 1023) HT_.out ?_
        refine pq_ 10 (some 8) (Fn.bl 11 2047) HT_.out ?_
        refine done_ (done_of HT_.out (by kernel_rfl)) ?_
        try go_wp2
        go_meet
        case rel => exact ⟨_, (wrap64 ((wrap64 ((wrap64 ((rd (rd_L1 l2 (ji8)) 0) * a0)) + (rd (rd_L1 l2 (ji8)) 1))) + 1)), (by first | rfl | (simp; done) | (simp only [← hji8] <;> (first | rfl | simp)) | (simp [*]; done)), H', ⟨by first | omega | exact Nat.le_refl _⟩, ⟨by (with_reducible repeat (first | apply Kd.V_alloc | apply Kd.V_drewN | apply Kd.V_drew)); exact HO2.out⟩, ⟨tb_⟩⟩
       ·
        rw [if_neg c12] at H
        exact absurd H (by simp)
      ·
       rw [if_neg c11] at H
       exact absurd H (by simp)
     ·
      rw [if_neg c10] at H
      exact absurd H (by simp)
    ·
     rw [if_neg c9] at H
     exact absurd H (by simp)
   ·
    rw [if_neg c7] at H
    have c7b0 := decide_eq_false c7
    have c7b1 : decide (0 < l2.length) = false := decide_eq_false (by omega)
    clear c7
    (first | rw [c7b0] | rw [c7b1] | (simp only [i64_w, i32_w]; rw [c7b0]) | skip)
    have H' := A_ H
    clear H
    go_wp2
    go_meet
    case rel => exact ⟨_, (0), tf_, H', ⟨by first | omega | exact Nat.le_refl _⟩, ⟨by (with_reducible repeat (first | apply Kd.V_alloc | apply Kd.V_drewN | apply Kd.V_drew)); exact HO2.out⟩, ⟨tb_⟩⟩
  case rest =>
   clear HC6
   try clear c1
   try clear c2
   try clear p2
   try clear c4
   try clear c4b0
   try clear c4b1
   try clear p6
   try clear c7
   try clear c7b0
   try clear c7b1
   try clear c8
   try clear p8
   try clear q8
   try clear hx8
   try clear qi8
   try clear c9
   try clear c9b0
   try clear c10
   try clear c10b0
   try clear c11
   try clear c11b0
   try clear c11b1
   try clear c12
   try clear c12b0
   try clear c12b1
   try clear hx854_0
   try clear hx855_0
   try clear hx856_0
   try clear p854
   try clear p855
   try clear p856
   try clear q854
   try clear q855
   try clear q856
   obtain ⟨kq, x8_5, rfl, HA, HJ5, HO_2, HB⟩ := hcut
   cases kq with
   | zero => exact absurd HA.out (by simp [spec_quWatch.j0])
   | succ kj5 =>
    have H := HA.out
    clear HA
    simp only [spec_quWatch.j0] at H
    have H' := A_ H
    clear H
    go_wp2
    go_loopg [10] kj5 (fun kq v10 w' => ∃ (x10_2 : Int), v10 = .int .i64 x10_2 ∧ Aside0 (spec_quWatch.l0 kq a0 a1 l2 x10_2 = some (r1, r2)) ∧ Aside0 (kq ≤ kj5) ∧ Aside0 (Kd.V (Kd.slice 3 (Kd.int .i64)) 22 w' w.heap.size (fun k_ => (P2_ k_ ∨ w.heap.size ≤ k_)) (.slice A2 l2.length c2) l2) ∧ Aside0 (Below w.heap.size w w'))
    case atStart => exact ⟨(x8_5), tf_, H', ⟨Nat.le_refl _⟩, ⟨by (with_reducible repeat (first | apply Kd.V_alloc | apply Kd.V_drewN | apply Kd.V_drew)); exact HO_2.out⟩, ⟨tb_⟩⟩
    case round =>
     clear H'
     try clear c1
     try clear c2
     try clear p2
     try clear c4
     try clear c4b0
     try clear c4b1
     try clear p6
     try clear c7
     try clear c7b0
     try clear c7b1
     try clear c8
     try clear p8
     try clear q8
     try clear hx8
     try clear qi8
     try clear c9
     try clear c9b0
     try clear c10
     try clear c10b0
     try clear c11
     try clear c11b0
     try clear c11b1
     try clear c12
     try clear c12b0
     try clear c12b1
     try clear hx854_0
     try clear hx855_0
     try clear hx856_0
     try clear p2
     try clear p6
     try clear p8
     try clear p854
     try clear p855
     try clear p856
     try clear q8
     try clear q854
     try clear q855
     try clear q856
     obtain ⟨x10_2, rfl, HA, HK2, HO_2, HB⟩ := hrel
     cases gk with
     | zero => exact absurd HA.out (by simp [spec_quWatch.l0])
     | succ k2 =>
      have H := HA.out
      clear HA
      simp only [spec_quWatch.l0] at H
      by_cases c14 : x10_2 < (wrap64 (a0 * a0))
      ·
       rw [if_pos c14] at H
       have c14b0 := decide_eq_true c14
       clear c14
       obtain ⟨y857, hy857⟩ : ∃ y_ : List (List Int), y_ = (([] : List (List Int))) := ⟨_, rfl⟩
       replace H : (if y857.length + l2.length < 5864062014805 then ((some (y857 ++ l2 : List (List Int))).bind fun y860 => (if a0 = 0 then (none) else ((some (([(([wrap64 (Int.tdiv x10_2 a0), Int.tmod x10_2 a0] : List Int))] : List (List Int)) : List (List Int))).bind fun y866 => (if y860.length + y866.length < 5864062014805 then ((spec_quWatch.f k2 a0 (wrap64 (a1 - 1)) (y860 ++ y866)).bind fun bt872 => (if bt872.2 = true then (some (bt872.1, true)) else (spec_quWatch.l0 k2 a0 a1 l2 (wrap64 (x10_2 + 1))))) else (none))))) else (none)) = some (r1, r2) := ty_ hy857 H
       have Ny857 := A_ hy857
       clear hy857
       by_cases c15 : y857.length + l2.length < 5864062014805
       ·
        rw [if_pos c15] at H
        have LMc15 := A_ c15
        clear c15
        obtain ⟨y860, hy860⟩ : ∃ y_ : List (List Int), y_ = (y857 ++ l2) := ⟨_, rfl⟩
        replace H : (if a0 = 0 then (none) else ((some (([(([wrap64 (Int.tdiv x10_2 a0), Int.tmod x10_2 a0] : List Int))] : List (List Int)) : List (List Int))).bind fun y866 => (if y860.length + y866.length < 5864062014805 then ((spec_quWatch.f k2 a0 (wrap64 (a1 - 1)) (y860 ++ y866)).bind fun bt872 => (if bt872.2 = true then (some (bt872.1, true)) else (spec_quWatch.l0 k2 a0 a1 l2 (wrap64 (x10_2 + 1))))) else (none)))) = some (r1, r2) := ty_ hy860 H
        have Ny860 := A_ hy860
        clear hy860
        by_cases c16 : a0 = 0
        ·
         rw [if_pos c16] at H
         exact absurd H (by simp)
        ·
         rw [if_neg c16] at H
         have c16b0 : (a0 == 0) = false := beq_eq_false_iff_ne.mpr c16
         have c16b1 : (a0 != 0) = true := bne_iff_ne.mpr c16
         obtain ⟨y863, hy863⟩ : ∃ y_ : List Int, y_ = (([wrap64 (Int.tdiv x10_2 a0), Int.tmod x10_2 a0] : List Int)) := ⟨_, rfl⟩
         replace H : ((some (([y863] : List (List Int)) : List (List Int))).bind fun y866 => (if y860.length + y866.length < 5864062014805 then ((spec_quWatch.f k2 a0 (wrap64 (a1 - 1)) (y860 ++ y866)).bind fun bt872 => (if bt872.2 = true then (some (bt872.1, true)) else (spec_quWatch.l0 k2 a0 a1 l2 (wrap64 (x10_2 + 1))))) else (none))) = some (r1, r2) := ty_ hy863 H
         have Ny863 := A_ hy863
         clear hy863
         obtain ⟨y866, hy866⟩ : ∃ y_ : List (List Int), y_ = (([y863] : List (List Int))) := ⟨_, rfl⟩
         replace H : (if y860.length + y866.length < 5864062014805 then ((spec_quWatch.f k2 a0 (wrap64 (a1 - 1)) (y860 ++ y866)).bind fun bt872 => (if bt872.2 = true then (some (bt872.1, true)) else (spec_quWatch.l0 k2 a0 a1 l2 (wrap64 (x10_2 + 1))))) else (none)) = some (r1, r2) := ty_ hy866 H
         have Ny866 := A_ hy866
         clear hy866
         by_cases c17 : y860.length + y866.length < 5864062014805
         ·
          rw [if_pos c17] at H
          have LMc17 := A_ c17
          clear c17
          obtain ⟨y869, hy869⟩ : ∃ y_ : List (List Int), y_ = (y860 ++ y866) := ⟨_, rfl⟩
          replace H : ((spec_quWatch.f k2 a0 (wrap64 (a1 - 1)) y869).bind fun bt872 => (if bt872.2 = true then (some (bt872.1, true)) else (spec_quWatch.l0 k2 a0 a1 l2 (wrap64 (x10_2 + 1))))) = some (r1, r2) := ty_ hy869 H
          have Ny869 := A_ hy869
          clear hy869
          replace H := Option.bind_eq_some_iff.mp H
          obtain ⟨⟨t872, t875⟩, A180, H⟩ := H
          replace H : (if t875 = true then (some (t872, true)) else (spec_quWatch.l0 k2 a0 a1 l2 (wrap64 (x10_2 + 1)))) = some (r1, r2) := H
          have A18 := A_ A180
          clear A180
          by_cases c19 : t875 = true
          ·
           subst c19
           have H1 : (some (t872, true)) = some (r1, r2) := by rw [if_pos rfl] at H; exact H
           clear H
           have H := H1
           clear H1
           simp only [Option.some.injEq, Prod.mk.injEq] at H
           obtain ⟨rfl, rfl⟩ := H
           try go_wp2
           have n0_ := A_ (Kd.V_drew HO_2.out)
           have n1_ := A_ (below_drew1 HB.out)
           clear HO_2
           clear HB
           have HO_2 := n0_
           have HB := n1_
           clear n0_ n1_
           refine start_ (n := 13) (S := fun w' => True) (ds := []) (Fn.bl 13 0) (by kernel_rfl) rfl rfl trivial (fun hHeld => ?_); refine with_tabW spec_quWatch.tab10 spec_quWatch.bits10 (fun HT_ HW_ => ?_)
           generalize wr.drew = w20 at HO_2 HB hHeld ⊢
           refine pq_ 1 (some 48) (Fn.bl 13 2) HT_.out ?_
           refine pq_ 3 (some 50) (Fn.bl 13 10) HT_.out ?_
           refine pq_ 4 (some 51) (Fn.bl 13 26) HT_.out ?_
           refine pq_ 5 (some 52) (Fn.bl 13 58) HT_.out ?_
           refine pq_ 6 (some 53) (Fn.bl 13 122) HT_.out ?_
           refine pq_ 7 (some 54) (Fn.bl 13 250) HT_.out ?_
           refine pq_ 8 (some 55) (Fn.bl 13 506) HT_.out ?_
           refine join_ (σ := Value × Value × Value × Value) 2 (Fn.bl 13 2047) (fun s_ => [(47, s_.1), (49, s_.2.1), (56, s_.2.2.1), (57, s_.2.2.2)]) (fun s_ w' => (Kd.N (Kd.slice 3 (Kd.int .i64)) 22 w' w.heap.size (fun k_ => (P2_ k_ ∨ w.heap.size ≤ k_) ∧ some k_ ≠ (s_.2.2.2 : Value).ownBlock) s_.2.1 y860) ∧ (Kd.N (Kd.slice 3 (Kd.int .i64)) 22 w' w.heap.size (fun k_ => (P2_ k_ ∨ w.heap.size ≤ k_) ∧ some k_ ≠ (s_.2.1 : Value).ownBlock) s_.2.2.2 y866) ∧ (Kd.V (Kd.slice 3 (Kd.int .i64)) 22 w' w.heap.size (fun k_ => (P2_ k_ ∨ w.heap.size ≤ k_) ∧ some k_ ≠ (s_.2.1 : Value).ownBlock ∧ some k_ ≠ (s_.2.2.2 : Value).ownBlock) (.slice A2 l2.length c2) l2) ∧ (Below w.heap.size w w')) ?_ ?_
           rotate_left
           ·
            intro hJ0_2_9_10
            refine join_ (σ := Value × Value × Value) 3 (Fn.bl 13 1023) (fun s_ => [(47, s_.1), (49, s_.2.1), (56, s_.2.2)]) (fun s_ w' => (Kd.N (Kd.slice 3 (Kd.int .i64)) 22 w' w.heap.size (fun k_ => (P2_ k_ ∨ w.heap.size ≤ k_) ∧ some k_ ≠ (s_.2.2 : Value).ownBlock) s_.2.1 y860) ∧ (Kd.R (Kd.int .i64) 3 w' w.heap.size (fun k_ => (w.heap.size ≤ k_)) s_.2.2 y863) ∧ (Kd.V (Kd.slice 3 (Kd.int .i64)) 22 w' w.heap.size (fun k_ => (P2_ k_ ∨ w.heap.size ≤ k_) ∧ some k_ ≠ (s_.2.1 : Value).ownBlock ∧ some k_ ≠ (s_.2.2 : Value).ownBlock) (.slice A2 l2.length c2) l2) ∧ (Below w.heap.size w w')) ?_ ?_
            rotate_left
            ·
             intro hJ0_2_9
             refine join_ (σ := Value × Value × Value) 3 (Fn.bl 13 2043) (fun s_ => [(47, s_.1), (56, s_.2.1), (57, s_.2.2)]) (fun s_ w' => (Kd.N (Kd.slice 3 (Kd.int .i64)) 22 w' w.heap.size (fun k_ => (P2_ k_ ∨ w.heap.size ≤ k_) ∧ some k_ ≠ (s_.2.2 : Value).ownBlock) s_.1 y857) ∧ (Kd.N (Kd.slice 3 (Kd.int .i64)) 22 w' w.heap.size (fun k_ => (P2_ k_ ∨ w.heap.size ≤ k_) ∧ some k_ ≠ (s_.1 : Value).ownBlock) s_.2.2 y866) ∧ (Kd.V (Kd.slice 3 (Kd.int .i64)) 22 w' w.heap.size (fun k_ => (P2_ k_ ∨ w.heap.size ≤ k_) ∧ some k_ ≠ (s_.1 : Value).ownBlock ∧ some k_ ≠ (s_.2.2 : Value).ownBlock) (.slice A2 l2.length c2) l2) ∧ (Below w.heap.size w w')) ?_ ?_
             rotate_left
             ·
              intro hJ0_9_10
              refine join_ (σ := Value × Value) 4 (Fn.bl 13 511) (fun s_ => [(47, s_.1), (49, s_.2)]) (fun s_ w' => (Kd.N (Kd.slice 3 (Kd.int .i64)) 22 w' w.heap.size (fun k_ => (P2_ k_ ∨ w.heap.size ≤ k_)) s_.2 y860) ∧ (Kd.V (Kd.slice 3 (Kd.int .i64)) 22 w' w.heap.size (fun k_ => (P2_ k_ ∨ w.heap.size ≤ k_) ∧ some k_ ≠ (s_.2 : Value).ownBlock) (.slice A2 l2.length c2) l2) ∧ (Below w.heap.size w w')) ?_ ?_
              rotate_left
              ·
               intro hJ0_2
               refine join_ (σ := Value × Value) 4 (Fn.bl 13 1019) (fun s_ => [(47, s_.1), (56, s_.2)]) (fun s_ w' => (Kd.N (Kd.slice 3 (Kd.int .i64)) 22 w' w.heap.size (fun k_ => (P2_ k_ ∨ w.heap.size ≤ k_) ∧ some k_ ≠ (s_.2 : Value).ownBlock) s_.1 y857) ∧ (Kd.R (Kd.int .i64) 3 w' w.heap.size (fun k_ => (w.heap.size ≤ k_)) s_.2 y863) ∧ (Kd.V (Kd.slice 3 (Kd.int .i64)) 22 w' w.heap.size (fun k_ => (P2_ k_ ∨ w.heap.size ≤ k_) ∧ some k_ ≠ (s_.1 : Value).ownBlock ∧ some k_ ≠ (s_.2 : Value).ownBlock) (.slice A2 l2.length c2) l2) ∧ (Below w.heap.size w w')) ?_ ?_
               rotate_left
               ·
                intro hJ0_9
                refine join_ (σ := Value × Value) 4 (Fn.bl 13 2042) (fun s_ => [(56, s_.1), (57, s_.2)]) (fun s_ w' => (Kd.N (Kd.slice 3 (Kd.int .i64)) 22 w' w.heap.size (fun k_ => (P2_ k_ ∨ w.heap.size ≤ k_)) s_.2 y866) ∧ (Kd.V (Kd.slice 3 (Kd.int .i64)) 22 w' w.heap.size (fun k_ => (P2_ k_ ∨ w.heap.size ≤ k_) ∧ some k_ ≠ (s_.2 : Value).ownBlock) (.slice A2 l2.length c2) l2) ∧ (Below w.heap.size w w')) ?_ ?_
                rotate_left
                ·
                 intro hJ9_10
                 refine join_ (σ := Value) 5 (Fn.bl 13 507) (fun s_ => [(47, s_)]) (fun s_ w' => (Kd.N (Kd.slice 3 (Kd.int .i64)) 22 w' w.heap.size (fun k_ => (P2_ k_ ∨ w.heap.size ≤ k_)) s_ y857) ∧ (Kd.V (Kd.slice 3 (Kd.int .i64)) 22 w' w.heap.size (fun k_ => (P2_ k_ ∨ w.heap.size ≤ k_) ∧ some k_ ≠ (s_ : Value).ownBlock) (.slice A2 l2.length c2) l2) ∧ (Below w.heap.size w w')) ?_ ?_
                 rotate_left
                 ·
                  intro hJ0
                  refine join_ (σ := Value) 5 (Fn.bl 13 1018) (fun s_ => [(56, s_)]) (fun s_ w' => (Kd.R (Kd.int .i64) 3 w' w.heap.size (fun k_ => (w.heap.size ≤ k_)) s_ y863) ∧ (Kd.V (Kd.slice 3 (Kd.int .i64)) 22 w' w.heap.size (fun k_ => (P2_ k_ ∨ w.heap.size ≤ k_) ∧ some k_ ≠ (s_ : Value).ownBlock) (.slice A2 l2.length c2) l2) ∧ (Below w.heap.size w w')) ?_ ?_
                  rotate_left
                  ·
                   intro hJ9
                   refine two_ (i := 0) (j := 9) (Ni := some 47) (Nj := some 56) (Fn.bl 13 507) (Fn.bl 13 1018) rfl rfl rfl rfl (two_of HT_.out (by kernel_rfl)) (by decide) (by decide) (fun K hK => ?_) (fun K hK => ?_)
                   ·
                    skip
                    refine Kd.N_lit_step (Kd.slice 3 (Kd.int .i64)) _ 22 ?hg (N' := 47) ?hd (xs := ([] : List (List Int))) (inner := []) (ok := (fun k_ => (P2_ k_ ∨ w.heap.size ≤ k_))) (okp := (fun k_ => (P2_ k_ ∨ w.heap.size ≤ k_))) ?hr ?hp (fun _ hk => hk) ((show ∀ k_, w20.heap.size ≤ k_ → (fun k_ => (P2_ k_ ∨ w.heap.size ≤ k_)) k_ from fun k_ hk => (.inr (Nat.le_trans (below_size tb_) hk))) _ (Nat.le_refl _)) (Below.refl _ _) (Nat.le_refl _) (by simp) ?_; (case hd => rfl); (case hg => rfl); (case hr => first | (go_simp; done) | (go_simp; rfl)); (case hp => exact (Reps.none _ _))
                    intro v858 w21 ho22 hb hg_ hnew_
                    clear hg_ hnew_
                    (first | rw [← Ny857.out] at ho22 | (simp only [Int.reduceToNat] at ho22; rw [← Ny857.out] at ho22))
                    have n0_ := A_ (Kd.V_elder' (by (with_reducible repeat (first | apply Kd.V_alloc | apply Kd.V_drewN | apply Kd.V_drew)); exact HO_2.out) (by first | exact Kd.N_base ho22 | exact Kd.S_base ho22) hb)
                    have n1_ := A_ (Kd.N_lower ho22 (below_size tb_))
                    have n2_ := A_ (below_step tb_ hb)
                    clear HO_2
                    clear HB
                    have HO_2 := n0_
                    have HO859 := n1_
                    have HB := n2_
                    clear n0_ n1_ n2_
                    clear hb ho22
                    refine hK.out _ _ trivial (fun hHeld => ?_)
                    clear hK K
                    refine norm_ (a' := ?_) ?_ ?_
                    rotate_left
                    ·
                     show Act.put _ (some 47) _ = _
                     simp only [Act.put, List.setIfInBounds_toArray, List.set_cons_zero, List.set_cons_succ, i64_w, i32_w]
                     rfl
                    exact norm_ (by first | (simp only [putAll, Act.put, List.setIfInBounds_toArray, List.set_cons_zero, List.set_cons_succ]; done) | (simp only [putAll, Act.put, List.setIfInBounds_toArray, List.set_cons_zero, List.set_cons_succ]; rfl)) (hJ0 (v858) _ ⟨(by (with_reducible repeat (first | apply Kd.N_alloc | apply Kd.N_drewN | apply Kd.N_drew)); exact HO859.out), (by (with_reducible repeat (first | apply Kd.V_alloc | apply Kd.V_drewN | apply Kd.V_drew)); exact HO_2.out), tb_⟩)
                   ·
                    skip
                    refine Kd.R_lit_step (Kd.int .i64) _ 3 ?hg (N := 56) ?hd (xs := ([wrap64 (Int.tdiv x10_2 a0), Int.tmod x10_2 a0] : List Int)) (inner := [.int .i64 (wrap64 (Int.tdiv x10_2 a0)), .int .i64 (Int.tmod x10_2 a0)]) (ok := fun _ => True) (okp := fun _ => True) ?hr ?hp (fun _ hk => hk) trivial (Below.refl _ _) (Nat.le_refl _) (by simp) ?_; (case hd => rfl); (case hg => rfl); (case hr => first | (go_simp; done) | (go_simp; rfl)); (case hp => exact (Reps.one (show Kd.M (Kd.int .i64) _ _ _ (wrap64 (Int.tdiv x10_2 a0)) [.int .i64 (wrap64 (Int.tdiv x10_2 a0))] from rfl) (Reps.one (show Kd.M (Kd.int .i64) _ _ _ (Int.tmod x10_2 a0) [.int .i64 (Int.tmod x10_2 a0)] from rfl) (Reps.none _ _))))
                    intro v864 w21 ho22 hb hg_ hnew_
                    clear hg_ hnew_
                    (first | rw [← Ny863.out] at ho22 | (simp only [Int.reduceToNat] at ho22; rw [← Ny863.out] at ho22))
                    have n0_ := A_ (Kd.V_elder' (by (with_reducible repeat (first | apply Kd.V_alloc | apply Kd.V_drewN | apply Kd.V_drew)); exact HO_2.out) (Kd.R_base ho22) hb)
                    have n1_ := A_ (Kd.R_lower (Kd.R_newM (M := fun k_ => (w.heap.size ≤ k_)) ho22 (below_size tb_) (fun k_ h_ => h_)) (below_size tb_))
                    have n2_ := A_ (below_step tb_ hb)
                    clear HO_2
                    clear HB
                    have HO_2 := n0_
                    have HO865 := n1_
                    have HB := n2_
                    clear n0_ n1_ n2_
                    clear hb ho22
                    refine hK.out _ _ trivial (fun hHeld => ?_)
                    clear hK K
                    refine norm_ (a' := ?_) ?_ ?_
                    rotate_left
                    ·
                     show Act.put _ (some 56) _ = _
                     simp only [Act.put, List.setIfInBounds_toArray, List.set_cons_zero, List.set_cons_succ, i64_w, i32_w]
                     rfl
                    exact norm_ (by first | (simp only [putAll, Act.put, List.setIfInBounds_toArray, List.set_cons_zero, List.set_cons_succ]; done) | (simp only [putAll, Act.put, List.setIfInBounds_toArray, List.set_cons_zero, List.set_cons_succ]; rfl)) (hJ9 (v864) _ ⟨(tr_ (h := by exact Kd.R_mono HO865.out (fun _ hk => hk.1))), (by (with_reducible repeat (first | apply Kd.V_alloc | apply Kd.V_drewN | apply Kd.V_drew)); exact HO_2.out), tb_⟩)
                  ·
                   skip
                   rintro v864 w23 ⟨h0_, h1_, h2_⟩
                   have n0_ : Aside0 (Kd.R (Kd.int .i64) 3 w23 w.heap.size (fun k_ => (w.heap.size ≤ k_)) v864 y863) := ⟨h0_⟩
                   have n1_ : Aside0 (Kd.V (Kd.slice 3 (Kd.int .i64)) 22 w23 w.heap.size (fun k_ => (P2_ k_ ∨ w.heap.size ≤ k_) ∧ some k_ ≠ (v864 : Value).ownBlock) (.slice A2 l2.length c2) l2) := ⟨h1_⟩
                   have n2_ : Aside0 (Below w.heap.size w w23) := ⟨h2_⟩
                   clear HO_2
                   clear HB
                   clear h0_ h1_ h2_
                   have HO865 := n0_
                   have HO_2 := n1_
                   have HB := n2_
                   clear n0_ n1_ n2_
                   have hHeld := trivial
                   refine norm_ (a' := ?_) ?_ ?_
                   rotate_left
                   ·
                    simp only [putAll, Act.put, List.setIfInBounds_toArray, List.set_cons_zero, List.set_cons_succ]
                    rfl
                   refine two_ (i := 0) (j := 10) (Ni := some 47) (Nj := some 57) (Fn.bl 13 1019) (Fn.bl 13 2042) rfl rfl rfl rfl (two_of HT_.out (by kernel_rfl)) (by decide) (by decide) (fun K hK => ?_) (fun K hK => ?_)
                   ·
                    skip
                    refine Kd.N_lit_step (Kd.slice 3 (Kd.int .i64)) _ 22 ?hg (N' := 47) ?hd (xs := ([] : List (List Int))) (inner := []) (ok := (fun k_ => (P2_ k_ ∨ w.heap.size ≤ k_) ∧ some k_ ≠ (v864 : Value).ownBlock)) (okp := (fun k_ => (P2_ k_ ∨ w.heap.size ≤ k_) ∧ some k_ ≠ (v864 : Value).ownBlock)) ?hr ?hp (fun _ hk => hk) ((show ∀ k_, w23.heap.size ≤ k_ → (fun k_ => (P2_ k_ ∨ w.heap.size ≤ k_) ∧ some k_ ≠ (v864 : Value).ownBlock) k_ from fun k_ hk => ⟨(.inr (Nat.le_trans (below_size tb_) hk)), Kd.fresh' (Kd.R_lt (tr_x HO865.out)) k_ hk⟩) _ (Nat.le_refl _)) (Below.refl _ _) (Nat.le_refl _) (by simp) ?_; (case hd => rfl); (case hg => rfl); (case hr => first | (go_simp; done) | (go_simp; rfl)); (case hp => exact (Reps.none _ _))
                    intro v858 w24 ho25 hb hg_ hnew_
                    clear hg_ hnew_
                    (first | rw [← Ny857.out] at ho25 | (simp only [Int.reduceToNat] at ho25; rw [← Ny857.out] at ho25))
                    have n0_ := A_ (Kd.V_elder' (by (with_reducible repeat (first | apply Kd.V_alloc | apply Kd.V_drewN | apply Kd.V_drew)); exact HO_2.out) (by first | exact Kd.N_base ho25 | exact Kd.S_base ho25) hb)
                    have n1_ := A_ (Kd.R_below (tr_x HO865.out) hb)
                    have n2_ := A_ (Kd.N_lower ho25 (below_size tb_))
                    have n3_ := A_ (below_step tb_ hb)
                    clear HO_2
                    clear HO865
                    clear HB
                    have HO_2 := n0_
                    have HO865 := n1_
                    have HO859 := n2_
                    have HB := n3_
                    clear n0_ n1_ n2_ n3_
                    clear hb ho25
                    refine hK.out _ _ trivial (fun hHeld => ?_)
                    clear hK K
                    refine norm_ (a' := ?_) ?_ ?_
                    rotate_left
                    ·
                     show Act.put _ (some 47) _ = _
                     simp only [Act.put, List.setIfInBounds_toArray, List.set_cons_zero, List.set_cons_succ, i64_w, i32_w]
                     rfl
                    exact norm_ (by first | (simp only [putAll, Act.put, List.setIfInBounds_toArray, List.set_cons_zero, List.set_cons_succ]; done) | (simp only [putAll, Act.put, List.setIfInBounds_toArray, List.set_cons_zero, List.set_cons_succ]; rfl)) (hJ0_9 (v858, v864) _ ⟨(by (with_reducible repeat (first | apply Kd.N_alloc | apply Kd.N_drewN | apply Kd.N_drew)); exact HO859.out), (tr_x HO865.out), (by (with_reducible repeat (first | apply Kd.V_alloc | apply Kd.V_drewN | apply Kd.V_drew)); exact Kd.V_mono HO_2.out om_), tb_⟩)
                   ·
                    skip
                    obtain ⟨Ao24, co24, eo24⟩ := Kd.R_slice HO865.out
                    subst eo24
                    refine Kd.N_lit_step (Kd.slice 3 (Kd.int .i64)) _ 22 ?hg (N' := 57) ?hd (xs := ([y863] : List (List Int))) (inner := [.slice Ao24 y863.length co24]) (ok := (fun k_ => (P2_ k_ ∨ w.heap.size ≤ k_))) (okp := (fun k_ => (P2_ k_ ∨ w.heap.size ≤ k_))) ?hr ?hp (fun _ hk => hk) ((show ∀ k_, w23.heap.size ≤ k_ → (fun k_ => (P2_ k_ ∨ w.heap.size ≤ k_)) k_ from fun k_ hk => (.inr (Nat.le_trans (below_size tb_) hk))) _ (Nat.le_refl _)) (Below.refl _ _) (Nat.le_refl _) (by simp) ?_; (case hd => rfl); (case hg => rfl); (case hr => first | (go_simp; done) | (go_simp; rfl)); (case hp => exact (Reps.one (show Kd.FK (Kd.slice 3 (Kd.int .i64)) _ _ y863 [.slice Ao24 y863.length co24] from (Kd.FK_slice_mk (Kd.R_reads' (Kd.R_mono (ok' := (fun k_ => (P2_ k_ ∨ w.heap.size ≤ k_))) (HO865.out) (fun k_ hk => (.inr (hk))))).2.1 (Kd.R_F (Kd.R_mono (ok' := (fun k_ => (P2_ k_ ∨ w.heap.size ≤ k_))) (HO865.out) (fun k_ hk => (.inr (hk))))))) (Reps.none _ _)))
                    intro v867 w25 ho26 hb hg_ hnew_
                    clear hg_ hnew_
                    (first | rw [← Ny866.out] at ho26 | (simp only [Int.reduceToNat] at ho26; rw [← Ny866.out] at ho26))
                    have n0_ := A_ (Kd.V_elder' (by (with_reducible repeat (first | apply Kd.V_alloc | apply Kd.V_drewN | apply Kd.V_drew)); exact HO_2.out) (by first | exact Kd.N_base ho26 | exact Kd.S_base ho26) hb)
                    have n1_ := A_ (Kd.N_lower ho26 (below_size tb_))
                    have n2_ := A_ (below_step tb_ hb)
                    clear HO_2
                    clear HB
                    clear HO865
                    have HO_2 := n0_
                    have HO868 := n1_
                    have HB := n2_
                    clear n0_ n1_ n2_
                    clear hb ho26
                    refine hK.out _ _ trivial (fun hHeld => ?_)
                    clear hK K
                    refine norm_ (a' := ?_) ?_ ?_
                    rotate_left
                    ·
                     show Act.put _ (some 57) _ = _
                     simp only [Act.put, List.setIfInBounds_toArray, List.set_cons_zero, List.set_cons_succ, i64_w, i32_w]
                     rfl
                    exact norm_ (by first | (simp only [putAll, Act.put, List.setIfInBounds_toArray, List.set_cons_zero, List.set_cons_succ]; done) | (simp only [putAll, Act.put, List.setIfInBounds_toArray, List.set_cons_zero, List.set_cons_succ]; rfl)) (hJ9_10 (.slice Ao24 y863.length co24, v867) _ ⟨(by (with_reducible repeat (first | apply Kd.N_alloc | apply Kd.N_drewN | apply Kd.N_drew)); exact HO868.out), (by (with_reducible repeat (first | apply Kd.V_alloc | apply Kd.V_drewN | apply Kd.V_drew)); exact Kd.V_mono HO_2.out om_), tb_⟩)
                 ·
                  skip
                  rintro v858 w23 ⟨h0_, h1_, h2_⟩
                  have n0_ : Aside0 (Kd.N (Kd.slice 3 (Kd.int .i64)) 22 w23 w.heap.size (fun k_ => (P2_ k_ ∨ w.heap.size ≤ k_)) v858 y857) := ⟨h0_⟩
                  have n1_ : Aside0 (Kd.V (Kd.slice 3 (Kd.int .i64)) 22 w23 w.heap.size (fun k_ => (P2_ k_ ∨ w.heap.size ≤ k_) ∧ some k_ ≠ (v858 : Value).ownBlock) (.slice A2 l2.length c2) l2) := ⟨h1_⟩
                  have n2_ : Aside0 (Below w.heap.size w w23) := ⟨h2_⟩
                  clear HO_2
                  clear HB
                  clear h0_ h1_ h2_
                  have HO859 := n0_
                  have HO_2 := n1_
                  have HB := n2_
                  clear n0_ n1_ n2_
                  have hHeld := trivial
                  refine norm_ (a' := ?_) ?_ ?_
                  rotate_left
                  ·
                   simp only [putAll, Act.put, List.setIfInBounds_toArray, List.set_cons_zero, List.set_cons_succ]
                   rfl
                  refine two_ (i := 2) (j := 9) (Ni := some 49) (Nj := some 56) (Fn.bl 13 511) (Fn.bl 13 1019) rfl rfl rfl rfl (two_of HT_.out (by kernel_rfl)) (by decide) (by decide) (fun K hK => ?_) (fun K hK => ?_)
                  ·
                   skip
                   refine Kd.N_append_rows_step (Kd.slice 3 (Kd.int .i64)) (w0 := w) w.heap.size (by rfl) (.tmp 47) (.tmp 48) 41 22 (.slice none 0 0) 24 rfl Try.underlying41 info22 rfl (by decide) (by omega) v858 y857 l2 _ _ _ (fun k_ => (P2_ k_ ∨ w.heap.size ≤ k_)) (fun k_ => ((fun k_ => (P2_ k_ ∨ w.heap.size ≤ k_))) k_ ∧ some k_ ≠ (v858 : Value).ownBlock) rfl rfl ?aO ?aR (fun _ hk => hk) ?aF ?aB ?aS ?aL ?_
                   (case aR => exact (by skip; exact Kd.V_F (Kd.V_mono (ok' := (fun k_ => ((fun k_ => (P2_ k_ ∨ w.heap.size ≤ k_))) k_ ∧ some k_ ≠ (v858 : Value).ownBlock)) (HO_2.out) (fun k_ hk => ⟨hk.1, hk.2⟩))))
                   (case aB => exact tb_)
                   (case aF => exact (fun k_ hk => (.inr (Nat.le_trans (below_size tb_) hk))))
                   (case aO => exact (by (with_reducible repeat (first | apply Kd.N_alloc | apply Kd.N_drewN | apply Kd.N_drew)); exact HO859.out))
                   (case aS => exact (below_size tb_))
                   (case aL => have := LMc15.out; omega)
                   intro v861 w24 ho hb hg hat
                   rw [← Ny860.out] at ho
                   have n0_ := A_ (Kd.V_afterv (ok := (fun k_ => (P2_ k_ ∨ w.heap.size ≤ k_))) (by (with_reducible repeat (first | apply Kd.V_alloc | apply Kd.V_drewN | apply Kd.V_drew)); exact HO_2.out) hg hat)
                   have n1_ := A_ (hb)
                   have n2_ := A_ (ho)
                   clear HO_2
                   clear HB
                   clear HO859
                   have HO_2 := n0_
                   have HB := n1_
                   have HO862 := n2_
                   clear n0_ n1_ n2_
                   clear ho hb hg hat
                   refine hK.out _ _ trivial (fun hHeld => ?_)
                   clear hK K
                   refine norm_ (a' := ?_) ?_ ?_
                   rotate_left
                   ·
                    show Act.put _ (some 49) _ = _
                    simp only [Act.put, List.setIfInBounds_toArray, List.set_cons_zero, List.set_cons_succ, i64_w, i32_w]
                    rfl
                   exact norm_ (by first | (simp only [putAll, Act.put, List.setIfInBounds_toArray, List.set_cons_zero, List.set_cons_succ]; done) | (simp only [putAll, Act.put, List.setIfInBounds_toArray, List.set_cons_zero, List.set_cons_succ]; rfl)) (hJ0_2 (v858, v861) _ ⟨(by (with_reducible repeat (first | apply Kd.N_alloc | apply Kd.N_drewN | apply Kd.N_drew)); exact HO862.out), (by (with_reducible repeat (first | apply Kd.V_alloc | apply Kd.V_drewN | apply Kd.V_drew)); exact HO_2.out), tb_⟩)
                  ·
                   skip
                   refine Kd.R_lit_step (Kd.int .i64) _ 3 ?hg (N := 56) ?hd (xs := ([wrap64 (Int.tdiv x10_2 a0), Int.tmod x10_2 a0] : List Int)) (inner := [.int .i64 (wrap64 (Int.tdiv x10_2 a0)), .int .i64 (Int.tmod x10_2 a0)]) (ok := fun _ => True) (okp := fun _ => True) ?hr ?hp (fun _ hk => hk) trivial (Below.refl _ _) (Nat.le_refl _) (by simp) ?_; (case hd => rfl); (case hg => rfl); (case hr => first | (go_simp; done) | (go_simp; rfl)); (case hp => exact (Reps.one (show Kd.M (Kd.int .i64) _ _ _ (wrap64 (Int.tdiv x10_2 a0)) [.int .i64 (wrap64 (Int.tdiv x10_2 a0))] from rfl) (Reps.one (show Kd.M (Kd.int .i64) _ _ _ (Int.tmod x10_2 a0) [.int .i64 (Int.tmod x10_2 a0)] from rfl) (Reps.none _ _))))
                   intro v864 w24 ho25 hb hg_ hnew_
                   clear hg_ hnew_
                   (first | rw [← Ny863.out] at ho25 | (simp only [Int.reduceToNat] at ho25; rw [← Ny863.out] at ho25))
                   have n0_ := A_ (Kd.V_elder' (by (with_reducible repeat (first | apply Kd.V_alloc | apply Kd.V_drewN | apply Kd.V_drew)); exact HO_2.out) (Kd.R_base ho25) hb)
                   have n1_ := A_ (Kd.N_elder' (by (with_reducible repeat (first | apply Kd.N_alloc | apply Kd.N_drewN | apply Kd.N_drew)); exact HO859.out) (Kd.R_base ho25) hb)
                   have n2_ := A_ (Kd.R_lower (Kd.R_newM (M := fun k_ => (w.heap.size ≤ k_)) ho25 (below_size tb_) (fun k_ h_ => h_)) (below_size tb_))
                   have n3_ := A_ (below_step tb_ hb)
                   clear HO_2
                   clear HO859
                   clear HB
                   have HO_2 := n0_
                   have HO859 := n1_
                   have HO865 := n2_
                   have HB := n3_
                   clear n0_ n1_ n2_ n3_
                   clear hb ho25
                   refine hK.out _ _ trivial (fun hHeld => ?_)
                   clear hK K
                   refine norm_ (a' := ?_) ?_ ?_
                   rotate_left
                   ·
                    show Act.put _ (some 56) _ = _
                    simp only [Act.put, List.setIfInBounds_toArray, List.set_cons_zero, List.set_cons_succ, i64_w, i32_w]
                    rfl
                   exact norm_ (by first | (simp only [putAll, Act.put, List.setIfInBounds_toArray, List.set_cons_zero, List.set_cons_succ]; done) | (simp only [putAll, Act.put, List.setIfInBounds_toArray, List.set_cons_zero, List.set_cons_succ]; rfl)) (hJ0_9 (v858, v864) _ ⟨(by (with_reducible repeat (first | apply Kd.N_alloc | apply Kd.N_drewN | apply Kd.N_drew)); exact HO859.out), (tr_ (h := by exact Kd.R_mono HO865.out (fun _ hk => hk.1))), (by (with_reducible repeat (first | apply Kd.V_alloc | apply Kd.V_drewN | apply Kd.V_drew)); exact Kd.V_mono HO_2.out om_), tb_⟩)
                ·
                 skip
                 rintro ⟨v864, v867⟩ w26 ⟨h0_, h1_, h2_⟩
                 have n0_ : Aside0 (Kd.N (Kd.slice 3 (Kd.int .i64)) 22 w26 w.heap.size (fun k_ => (P2_ k_ ∨ w.heap.size ≤ k_)) v867 y866) := ⟨h0_⟩
                 have n1_ : Aside0 (Kd.V (Kd.slice 3 (Kd.int .i64)) 22 w26 w.heap.size (fun k_ => (P2_ k_ ∨ w.heap.size ≤ k_) ∧ some k_ ≠ (v867 : Value).ownBlock) (.slice A2 l2.length c2) l2) := ⟨h1_⟩
                 have n2_ : Aside0 (Below w.heap.size w w26) := ⟨h2_⟩
                 clear HO_2
                 clear HB
                 clear h0_ h1_ h2_
                 have HO868 := n0_
                 have HO_2 := n1_
                 have HB := n2_
                 clear n0_ n1_ n2_
                 have hHeld := trivial
                 refine norm_ (a' := ?_) ?_ ?_
                 rotate_left
                 ·
                  simp only [putAll, Act.put, List.setIfInBounds_toArray, List.set_cons_zero, List.set_cons_succ]
                  rfl
                 refine one_ (i := 0) (N := some 47) (Fn.bl 13 2043) rfl rfl (one_of HT_.out (by kernel_rfl)) (by decide) (fun K hK => ?_)
                 refine Kd.N_lit_step (Kd.slice 3 (Kd.int .i64)) _ 22 ?hg (N' := 47) ?hd (xs := ([] : List (List Int))) (inner := []) (ok := (fun k_ => (P2_ k_ ∨ w.heap.size ≤ k_) ∧ some k_ ≠ (v867 : Value).ownBlock)) (okp := (fun k_ => (P2_ k_ ∨ w.heap.size ≤ k_) ∧ some k_ ≠ (v867 : Value).ownBlock)) ?hr ?hp (fun _ hk => hk) ((show ∀ k_, w26.heap.size ≤ k_ → (fun k_ => (P2_ k_ ∨ w.heap.size ≤ k_) ∧ some k_ ≠ (v867 : Value).ownBlock) k_ from fun k_ hk => ⟨(.inr (Nat.le_trans (below_size tb_) hk)), Kd.fresh' (Kd.N_lt (by (with_reducible repeat (first | apply Kd.N_alloc | apply Kd.N_drewN | apply Kd.N_drew)); exact HO868.out)) k_ hk⟩) _ (Nat.le_refl _)) (Below.refl _ _) (Nat.le_refl _) (by simp) ?_; (case hd => rfl); (case hg => rfl); (case hr => first | (go_simp; done) | (go_simp; rfl)); (case hp => exact (Reps.none _ _))
                 intro v858 w27 ho28 hb hg_ hnew_
                 clear hg_ hnew_
                 (first | rw [← Ny857.out] at ho28 | (simp only [Int.reduceToNat] at ho28; rw [← Ny857.out] at ho28))
                 have n0_ := A_ (Kd.V_elder' (by (with_reducible repeat (first | apply Kd.V_alloc | apply Kd.V_drewN | apply Kd.V_drew)); exact HO_2.out) (by first | exact Kd.N_base ho28 | exact Kd.S_base ho28) hb)
                 have n1_ := A_ (Kd.N_elder' (by (with_reducible repeat (first | apply Kd.N_alloc | apply Kd.N_drewN | apply Kd.N_drew)); exact HO868.out) (by first | exact Kd.N_base ho28 | exact Kd.S_base ho28) hb)
                 have n2_ := A_ (Kd.N_lower ho28 (below_size tb_))
                 have n3_ := A_ (below_step tb_ hb)
                 clear HO_2
                 clear HO868
                 clear HB
                 have HO_2 := n0_
                 have HO868 := n1_
                 have HO859 := n2_
                 have HB := n3_
                 clear n0_ n1_ n2_ n3_
                 clear hb ho28
                 refine hK.out _ _ trivial (fun hHeld => ?_)
                 clear hK K
                 refine norm_ (a' := ?_) ?_ ?_
                 rotate_left
                 ·
                  show Act.put _ (some 47) _ = _
                  simp only [Act.put, List.setIfInBounds_toArray, List.set_cons_zero, List.set_cons_succ, i64_w, i32_w]
                  rfl
                 exact norm_ (by first | (simp only [putAll, Act.put, List.setIfInBounds_toArray, List.set_cons_zero, List.set_cons_succ]; done) | (simp only [putAll, Act.put, List.setIfInBounds_toArray, List.set_cons_zero, List.set_cons_succ]; rfl)) (hJ0_9_10 (v858, v864, v867) _ ⟨(by (with_reducible repeat (first | apply Kd.N_alloc | apply Kd.N_drewN | apply Kd.N_drew)); exact HO859.out), (by (with_reducible repeat (first | apply Kd.N_alloc | apply Kd.N_drewN | apply Kd.N_drew)); exact HO868.out), (by (with_reducible repeat (first | apply Kd.V_alloc | apply Kd.V_drewN | apply Kd.V_drew)); exact Kd.V_mono HO_2.out om_), tb_⟩)
               ·
                skip
                rintro ⟨v858, v864⟩ w25 ⟨h0_, h1_, h2_, h3_⟩
                have n0_ : Aside0 (Kd.N (Kd.slice 3 (Kd.int .i64)) 22 w25 w.heap.size (fun k_ => (P2_ k_ ∨ w.heap.size ≤ k_) ∧ some k_ ≠ (v864 : Value).ownBlock) v858 y857) := ⟨h0_⟩
                have n1_ : Aside0 (Kd.R (Kd.int .i64) 3 w25 w.heap.size (fun k_ => (w.heap.size ≤ k_)) v864 y863) := ⟨h1_⟩
                have n2_ : Aside0 (Kd.V (Kd.slice 3 (Kd.int .i64)) 22 w25 w.heap.size (fun k_ => (P2_ k_ ∨ w.heap.size ≤ k_) ∧ some k_ ≠ (v858 : Value).ownBlock ∧ some k_ ≠ (v864 : Value).ownBlock) (.slice A2 l2.length c2) l2) := ⟨h2_⟩
                have n3_ : Aside0 (Below w.heap.size w w25) := ⟨h3_⟩
                clear HO_2
                clear HB
                clear h0_ h1_ h2_ h3_
                have HO859 := n0_
                have HO865 := n1_
                have HO_2 := n2_
                have HB := n3_
                clear n0_ n1_ n2_ n3_
                have hHeld := trivial
                refine norm_ (a' := ?_) ?_ ?_
                rotate_left
                ·
                 simp only [putAll, Act.put, List.setIfInBounds_toArray, List.set_cons_zero, List.set_cons_succ]
                 rfl
                refine two_ (i := 2) (j := 10) (Ni := some 49) (Nj := some 57) (Fn.bl 13 1023) (Fn.bl 13 2043) rfl rfl rfl rfl (two_of HT_.out (by kernel_rfl)) (by decide) (by decide) (fun K hK => ?_) (fun K hK => ?_)
                ·
                 skip
                 refine Kd.N_append_rows_step (Kd.slice 3 (Kd.int .i64)) (w0 := w) w.heap.size (by rfl) (.tmp 47) (.tmp 48) 41 22 (.slice none 0 0) 24 rfl Try.underlying41 info22 rfl (by decide) (by omega) v858 y857 l2 _ _ _ (fun k_ => (P2_ k_ ∨ w.heap.size ≤ k_) ∧ some k_ ≠ (v864 : Value).ownBlock) (fun k_ => ((fun k_ => (P2_ k_ ∨ w.heap.size ≤ k_) ∧ some k_ ≠ (v864 : Value).ownBlock)) k_ ∧ some k_ ≠ (v858 : Value).ownBlock) rfl rfl ?aO ?aR (fun _ hk => hk) ?aF ?aB ?aS ?aL ?_
                 (case aR => exact (by skip; exact Kd.V_F (Kd.V_mono (ok' := (fun k_ => ((fun k_ => (P2_ k_ ∨ w.heap.size ≤ k_) ∧ some k_ ≠ (v864 : Value).ownBlock)) k_ ∧ some k_ ≠ (v858 : Value).ownBlock)) (HO_2.out) (fun k_ hk => ⟨⟨hk.1, hk.2.2⟩, hk.2.1⟩))))
                 (case aB => exact tb_)
                 (case aF => exact (fun k_ hk => ⟨(.inr (Nat.le_trans (below_size tb_) hk)), Kd.fresh' (Kd.R_lt (tr_x HO865.out)) k_ hk⟩))
                 (case aO => exact (by (with_reducible repeat (first | apply Kd.N_alloc | apply Kd.N_drewN | apply Kd.N_drew)); exact HO859.out))
                 (case aS => exact (below_size tb_))
                 (case aL => have := LMc15.out; omega)
                 intro v861 w26 ho hb hg hat
                 rw [← Ny860.out] at ho
                 have n0_ := A_ (Kd.V_afterv (ok := (fun k_ => (P2_ k_ ∨ w.heap.size ≤ k_) ∧ some k_ ≠ (v864 : Value).ownBlock)) (by (with_reducible repeat (first | apply Kd.V_alloc | apply Kd.V_drewN | apply Kd.V_drew)); exact Kd.V_mono HO_2.out om_) hg hat)
                 have n1_ := A_ (Kd.R_over' (tr_x HO865.out) (Kd.N_typed (by (with_reducible repeat (first | apply Kd.N_alloc | apply Kd.N_drewN | apply Kd.N_drew)); exact HO859.out)) (by decide) hg)
                 have n2_ := A_ (hb)
                 have n3_ := A_ (ho)
                 clear HO_2
                 clear HO865
                 clear HB
                 clear HO859
                 have HO_2 := n0_
                 have HO865 := n1_
                 have HB := n2_
                 have HO862 := n3_
                 clear n0_ n1_ n2_ n3_
                 clear ho hb hg hat
                 refine hK.out _ _ trivial (fun hHeld => ?_)
                 clear hK K
                 refine norm_ (a' := ?_) ?_ ?_
                 rotate_left
                 ·
                  show Act.put _ (some 49) _ = _
                  simp only [Act.put, List.setIfInBounds_toArray, List.set_cons_zero, List.set_cons_succ, i64_w, i32_w]
                  rfl
                 exact norm_ (by first | (simp only [putAll, Act.put, List.setIfInBounds_toArray, List.set_cons_zero, List.set_cons_succ]; done) | (simp only [putAll, Act.put, List.setIfInBounds_toArray, List.set_cons_zero, List.set_cons_succ]; rfl)) (hJ0_2_9 (v858, v861, v864) _ ⟨(by (with_reducible repeat (first | apply Kd.N_alloc | apply Kd.N_drewN | apply Kd.N_drew)); exact HO862.out), (tr_x HO865.out), (by (with_reducible repeat (first | apply Kd.V_alloc | apply Kd.V_drewN | apply Kd.V_drew)); exact Kd.V_mono HO_2.out om_), tb_⟩)
                ·
                 skip
                 obtain ⟨Ao26, co26, eo26⟩ := Kd.R_slice HO865.out
                 subst eo26
                 refine Kd.N_lit_step (Kd.slice 3 (Kd.int .i64)) _ 22 ?hg (N' := 57) ?hd (xs := ([y863] : List (List Int))) (inner := [.slice Ao26 y863.length co26]) (ok := (fun k_ => (P2_ k_ ∨ w.heap.size ≤ k_) ∧ some k_ ≠ (v858 : Value).ownBlock)) (okp := (fun k_ => (P2_ k_ ∨ w.heap.size ≤ k_) ∧ some k_ ≠ (v858 : Value).ownBlock)) ?hr ?hp (fun _ hk => hk) ((show ∀ k_, w25.heap.size ≤ k_ → (fun k_ => (P2_ k_ ∨ w.heap.size ≤ k_) ∧ some k_ ≠ (v858 : Value).ownBlock) k_ from fun k_ hk => ⟨(.inr (Nat.le_trans (below_size tb_) hk)), Kd.fresh' (Kd.N_lt (by (with_reducible repeat (first | apply Kd.N_alloc | apply Kd.N_drewN | apply Kd.N_drew)); exact HO859.out)) k_ hk⟩) _ (Nat.le_refl _)) (Below.refl _ _) (Nat.le_refl _) (by simp) ?_; (case hd => rfl); (case hg => rfl); (case hr => first | (go_simp; done) | (go_simp; rfl)); (case hp => exact (Reps.one (show Kd.FK (Kd.slice 3 (Kd.int .i64)) _ _ y863 [.slice Ao26 y863.length co26] from (Kd.FK_slice_mk (Kd.R_reads' (Kd.R_mono (ok' := (fun k_ => (P2_ k_ ∨ w.heap.size ≤ k_) ∧ some k_ ≠ (v858 : Value).ownBlock)) (Kd.R_apart' (HO865.out) (Kd.N_typed HO859.out) (by decide)) (fun k_ hk => ⟨(.inr (hk.1)), hk.2⟩))).2.1 (Kd.R_F (Kd.R_mono (ok' := (fun k_ => (P2_ k_ ∨ w.heap.size ≤ k_) ∧ some k_ ≠ (v858 : Value).ownBlock)) (Kd.R_apart' (HO865.out) (Kd.N_typed HO859.out) (by decide)) (fun k_ hk => ⟨(.inr (hk.1)), hk.2⟩))))) (Reps.none _ _)))
                 intro v867 w27 ho28 hb hg_ hnew_
                 clear hg_ hnew_
                 (first | rw [← Ny866.out] at ho28 | (simp only [Int.reduceToNat] at ho28; rw [← Ny866.out] at ho28))
                 have n0_ := A_ (Kd.V_elder' (by (with_reducible repeat (first | apply Kd.V_alloc | apply Kd.V_drewN | apply Kd.V_drew)); exact HO_2.out) (by first | exact Kd.N_base ho28 | exact Kd.S_base ho28) hb)
                 have n1_ := A_ (Kd.N_elder' (by (with_reducible repeat (first | apply Kd.N_alloc | apply Kd.N_drewN | apply Kd.N_drew)); exact HO859.out) (by first | exact Kd.N_base ho28 | exact Kd.S_base ho28) hb)
                 have n2_ := A_ (Kd.N_lower ho28 (below_size tb_))
                 have n3_ := A_ (below_step tb_ hb)
                 clear HO_2
                 clear HO859
                 clear HB
                 clear HO865
                 have HO_2 := n0_
                 have HO859 := n1_
                 have HO868 := n2_
                 have HB := n3_
                 clear n0_ n1_ n2_ n3_
                 clear hb ho28
                 refine hK.out _ _ trivial (fun hHeld => ?_)
                 clear hK K
                 refine norm_ (a' := ?_) ?_ ?_
                 rotate_left
                 ·
                  show Act.put _ (some 57) _ = _
                  simp only [Act.put, List.setIfInBounds_toArray, List.set_cons_zero, List.set_cons_succ, i64_w, i32_w]
                  rfl
                 exact norm_ (by first | (simp only [putAll, Act.put, List.setIfInBounds_toArray, List.set_cons_zero, List.set_cons_succ]; done) | (simp only [putAll, Act.put, List.setIfInBounds_toArray, List.set_cons_zero, List.set_cons_succ]; rfl)) (hJ0_9_10 (v858, .slice Ao26 y863.length co26, v867) _ ⟨(by (with_reducible repeat (first | apply Kd.N_alloc | apply Kd.N_drewN | apply Kd.N_drew)); exact Kd.N_mono HO859.out om_), (by (with_reducible repeat (first | apply Kd.N_alloc | apply Kd.N_drewN | apply Kd.N_drew)); exact HO868.out), (by (with_reducible repeat (first | apply Kd.V_alloc | apply Kd.V_drewN | apply Kd.V_drew)); exact Kd.V_mono HO_2.out om_), tb_⟩)
              ·
               skip
               rintro ⟨v858, v861⟩ w24 ⟨h0_, h1_, h2_⟩
               have n0_ : Aside0 (Kd.N (Kd.slice 3 (Kd.int .i64)) 22 w24 w.heap.size (fun k_ => (P2_ k_ ∨ w.heap.size ≤ k_)) v861 y860) := ⟨h0_⟩
               have n1_ : Aside0 (Kd.V (Kd.slice 3 (Kd.int .i64)) 22 w24 w.heap.size (fun k_ => (P2_ k_ ∨ w.heap.size ≤ k_) ∧ some k_ ≠ (v861 : Value).ownBlock) (.slice A2 l2.length c2) l2) := ⟨h1_⟩
               have n2_ : Aside0 (Below w.heap.size w w24) := ⟨h2_⟩
               clear HO_2
               clear HB
               clear h0_ h1_ h2_
               have HO862 := n0_
               have HO_2 := n1_
               have HB := n2_
               clear n0_ n1_ n2_
               have hHeld := trivial
               refine norm_ (a' := ?_) ?_ ?_
               rotate_left
               ·
                simp only [putAll, Act.put, List.setIfInBounds_toArray, List.set_cons_zero, List.set_cons_succ]
                rfl
               refine one_ (i := 9) (N := some 56) (Fn.bl 13 1023) rfl rfl (one_of HT_.out (by kernel_rfl)) (by decide) (fun K hK => ?_)
               refine Kd.R_lit_step (Kd.int .i64) _ 3 ?hg (N := 56) ?hd (xs := ([wrap64 (Int.tdiv x10_2 a0), Int.tmod x10_2 a0] : List Int)) (inner := [.int .i64 (wrap64 (Int.tdiv x10_2 a0)), .int .i64 (Int.tmod x10_2 a0)]) (ok := fun _ => True) (okp := fun _ => True) ?hr ?hp (fun _ hk => hk) trivial (Below.refl _ _) (Nat.le_refl _) (by simp) ?_; (case hd => rfl); (case hg => rfl); (case hr => first | (go_simp; done) | (go_simp; rfl)); (case hp => exact (Reps.one (show Kd.M (Kd.int .i64) _ _ _ (wrap64 (Int.tdiv x10_2 a0)) [.int .i64 (wrap64 (Int.tdiv x10_2 a0))] from rfl) (Reps.one (show Kd.M (Kd.int .i64) _ _ _ (Int.tmod x10_2 a0) [.int .i64 (Int.tmod x10_2 a0)] from rfl) (Reps.none _ _))))
               intro v864 w25 ho26 hb hg_ hnew_
               clear hg_ hnew_
               (first | rw [← Ny863.out] at ho26 | (simp only [Int.reduceToNat] at ho26; rw [← Ny863.out] at ho26))
               have n0_ := A_ (Kd.V_elder' (by (with_reducible repeat (first | apply Kd.V_alloc | apply Kd.V_drewN | apply Kd.V_drew)); exact HO_2.out) (Kd.R_base ho26) hb)
               have n1_ := A_ (Kd.N_elder' (by (with_reducible repeat (first | apply Kd.N_alloc | apply Kd.N_drewN | apply Kd.N_drew)); exact HO862.out) (Kd.R_base ho26) hb)
               have n2_ := A_ (Kd.R_lower (Kd.R_newM (M := fun k_ => (w.heap.size ≤ k_)) ho26 (below_size tb_) (fun k_ h_ => h_)) (below_size tb_))
               have n3_ := A_ (below_step tb_ hb)
               clear HO_2
               clear HO862
               clear HB
               have HO_2 := n0_
               have HO862 := n1_
               have HO865 := n2_
               have HB := n3_
               clear n0_ n1_ n2_ n3_
               clear hb ho26
               refine hK.out _ _ trivial (fun hHeld => ?_)
               clear hK K
               refine norm_ (a' := ?_) ?_ ?_
               rotate_left
               ·
                show Act.put _ (some 56) _ = _
                simp only [Act.put, List.setIfInBounds_toArray, List.set_cons_zero, List.set_cons_succ, i64_w, i32_w]
                rfl
               exact norm_ (by first | (simp only [putAll, Act.put, List.setIfInBounds_toArray, List.set_cons_zero, List.set_cons_succ]; done) | (simp only [putAll, Act.put, List.setIfInBounds_toArray, List.set_cons_zero, List.set_cons_succ]; rfl)) (hJ0_2_9 (v858, v861, v864) _ ⟨(by (with_reducible repeat (first | apply Kd.N_alloc | apply Kd.N_drewN | apply Kd.N_drew)); exact HO862.out), (tr_ (h := by exact Kd.R_mono HO865.out (fun _ hk => hk.1))), (by (with_reducible repeat (first | apply Kd.V_alloc | apply Kd.V_drewN | apply Kd.V_drew)); exact Kd.V_mono HO_2.out om_), tb_⟩)
             ·
              skip
              rintro ⟨v858, v864, v867⟩ w28 ⟨h0_, h1_, h2_, h3_⟩
              have n0_ : Aside0 (Kd.N (Kd.slice 3 (Kd.int .i64)) 22 w28 w.heap.size (fun k_ => (P2_ k_ ∨ w.heap.size ≤ k_) ∧ some k_ ≠ (v867 : Value).ownBlock) v858 y857) := ⟨h0_⟩
              have n1_ : Aside0 (Kd.N (Kd.slice 3 (Kd.int .i64)) 22 w28 w.heap.size (fun k_ => (P2_ k_ ∨ w.heap.size ≤ k_) ∧ some k_ ≠ (v858 : Value).ownBlock) v867 y866) := ⟨h1_⟩
              have n2_ : Aside0 (Kd.V (Kd.slice 3 (Kd.int .i64)) 22 w28 w.heap.size (fun k_ => (P2_ k_ ∨ w.heap.size ≤ k_) ∧ some k_ ≠ (v858 : Value).ownBlock ∧ some k_ ≠ (v867 : Value).ownBlock) (.slice A2 l2.length c2) l2) := ⟨h2_⟩
              have n3_ : Aside0 (Below w.heap.size w w28) := ⟨h3_⟩
              clear HO_2
              clear HB
              clear h0_ h1_ h2_ h3_
              have HO859 := n0_
              have HO868 := n1_
              have HO_2 := n2_
              have HB := n3_
              clear n0_ n1_ n2_ n3_
              have hHeld := trivial
              refine norm_ (a' := ?_) ?_ ?_
              rotate_left
              ·
               simp only [putAll, Act.put, List.setIfInBounds_toArray, List.set_cons_zero, List.set_cons_succ]
               rfl
              refine one_ (i := 2) (N := some 49) (Fn.bl 13 2047) rfl rfl (one_of HT_.out (by kernel_rfl)) (by decide) (fun K hK => ?_)
              refine Kd.N_append_rows_step (Kd.slice 3 (Kd.int .i64)) (w0 := w) w.heap.size (by rfl) (.tmp 47) (.tmp 48) 41 22 (.slice none 0 0) 24 rfl Try.underlying41 info22 rfl (by decide) (by omega) v858 y857 l2 _ _ _ (fun k_ => (P2_ k_ ∨ w.heap.size ≤ k_) ∧ some k_ ≠ (v867 : Value).ownBlock) (fun k_ => ((fun k_ => (P2_ k_ ∨ w.heap.size ≤ k_) ∧ some k_ ≠ (v867 : Value).ownBlock)) k_ ∧ some k_ ≠ (v858 : Value).ownBlock) rfl rfl ?aO ?aR (fun _ hk => hk) ?aF ?aB ?aS ?aL ?_
              (case aR => exact (by skip; exact Kd.V_F (Kd.V_mono (ok' := (fun k_ => ((fun k_ => (P2_ k_ ∨ w.heap.size ≤ k_) ∧ some k_ ≠ (v867 : Value).ownBlock)) k_ ∧ some k_ ≠ (v858 : Value).ownBlock)) (HO_2.out) (fun k_ hk => ⟨⟨hk.1, hk.2.2⟩, hk.2.1⟩))))
              (case aB => exact tb_)
              (case aF => exact (fun k_ hk => ⟨(.inr (Nat.le_trans (below_size tb_) hk)), Kd.fresh' (Kd.N_lt (by (with_reducible repeat (first | apply Kd.N_alloc | apply Kd.N_drewN | apply Kd.N_drew)); exact HO868.out)) k_ hk⟩))
              (case aO => exact (by (with_reducible repeat (first | apply Kd.N_alloc | apply Kd.N_drewN | apply Kd.N_drew)); exact HO859.out))
              (case aS => exact (below_size tb_))
              (case aL => have := LMc15.out; omega)
              intro v861 w29 ho hb hg hat
              rw [← Ny860.out] at ho
              have n0_ := A_ (Kd.V_afterv (ok := (fun k_ => (P2_ k_ ∨ w.heap.size ≤ k_) ∧ some k_ ≠ (v867 : Value).ownBlock)) (by (with_reducible repeat (first | apply Kd.V_alloc | apply Kd.V_drewN | apply Kd.V_drew)); exact Kd.V_mono HO_2.out om_) hg hat)
              have n1_ := A_ (Kd.N_afterv (ok := (fun k_ => (P2_ k_ ∨ w.heap.size ≤ k_))) (by (with_reducible repeat (first | apply Kd.N_alloc | apply Kd.N_drewN | apply Kd.N_drew)); exact HO868.out) hg hat)
              have n2_ := A_ (hb)
              have n3_ := A_ (ho)
              clear HO_2
              clear HO868
              clear HB
              clear HO859
              have HO_2 := n0_
              have HO868 := n1_
              have HB := n2_
              have HO862 := n3_
              clear n0_ n1_ n2_ n3_
              clear ho hb hg hat
              refine hK.out _ _ trivial (fun hHeld => ?_)
              clear hK K
              refine norm_ (a' := ?_) ?_ ?_
              rotate_left
              ·
               show Act.put _ (some 49) _ = _
               simp only [Act.put, List.setIfInBounds_toArray, List.set_cons_zero, List.set_cons_succ, i64_w, i32_w]
               rfl
              exact norm_ (by first | (simp only [putAll, Act.put, List.setIfInBounds_toArray, List.set_cons_zero, List.set_cons_succ]; done) | (simp only [putAll, Act.put, List.setIfInBounds_toArray, List.set_cons_zero, List.set_cons_succ]; rfl)) (hJ0_2_9_10 (v858, v861, v864, v867) _ ⟨(by (with_reducible repeat (first | apply Kd.N_alloc | apply Kd.N_drewN | apply Kd.N_drew)); exact HO862.out), (by (with_reducible repeat (first | apply Kd.N_alloc | apply Kd.N_drewN | apply Kd.N_drew)); exact HO868.out), (by (with_reducible repeat (first | apply Kd.V_alloc | apply Kd.V_drewN | apply Kd.V_drew)); exact Kd.V_mono HO_2.out om_), tb_⟩)
            ·
             skip
             rintro ⟨v858, v861, v864⟩ w26 ⟨h0_, h1_, h2_, h3_⟩
             have n0_ : Aside0 (Kd.N (Kd.slice 3 (Kd.int .i64)) 22 w26 w.heap.size (fun k_ => (P2_ k_ ∨ w.heap.size ≤ k_) ∧ some k_ ≠ (v864 : Value).ownBlock) v861 y860) := ⟨h0_⟩
             have n1_ : Aside0 (Kd.R (Kd.int .i64) 3 w26 w.heap.size (fun k_ => (w.heap.size ≤ k_)) v864 y863) := ⟨h1_⟩
             have n2_ : Aside0 (Kd.V (Kd.slice 3 (Kd.int .i64)) 22 w26 w.heap.size (fun k_ => (P2_ k_ ∨ w.heap.size ≤ k_) ∧ some k_ ≠ (v861 : Value).ownBlock ∧ some k_ ≠ (v864 : Value).ownBlock) (.slice A2 l2.length c2) l2) := ⟨h2_⟩
             have n3_ : Aside0 (Below w.heap.size w w26) := ⟨h3_⟩
             clear HO_2
             clear HB
             clear h0_ h1_ h2_ h3_
             have HO862 := n0_
             have HO865 := n1_
             have HO_2 := n2_
             have HB := n3_
             clear n0_ n1_ n2_ n3_
             have hHeld := trivial
             obtain ⟨Ao27, co27, eo27⟩ := Kd.R_slice HO865.out
             (first | subst eo27 | (injection eo27 with f1_ f2_ f3_; have f4_ := f1_.symm; have f5_ := f3_.symm; clear f1_ f2_ f3_; subst f4_; subst f5_))
             refine norm_ (a' := ?_) ?_ ?_
             rotate_left
             ·
              simp only [putAll, Act.put, List.setIfInBounds_toArray, List.set_cons_zero, List.set_cons_succ]
              rfl
             refine one_ (i := 10) (N := some 57) (Fn.bl 13 2047) rfl rfl (one_of HT_.out (by kernel_rfl)) (by decide) (fun K hK => ?_)
             refine Kd.N_lit_step (Kd.slice 3 (Kd.int .i64)) _ 22 ?hg (N' := 57) ?hd (xs := ([y863] : List (List Int))) (inner := [.slice Ao27 y863.length co27]) (ok := (fun k_ => (P2_ k_ ∨ w.heap.size ≤ k_) ∧ some k_ ≠ (v861 : Value).ownBlock)) (okp := (fun k_ => (P2_ k_ ∨ w.heap.size ≤ k_) ∧ some k_ ≠ (v861 : Value).ownBlock)) ?hr ?hp (fun _ hk => hk) ((show ∀ k_, w26.heap.size ≤ k_ → (fun k_ => (P2_ k_ ∨ w.heap.size ≤ k_) ∧ some k_ ≠ (v861 : Value).ownBlock) k_ from fun k_ hk => ⟨(.inr (Nat.le_trans (below_size tb_) hk)), Kd.fresh' (Kd.N_lt (by (with_reducible repeat (first | apply Kd.N_alloc | apply Kd.N_drewN | apply Kd.N_drew)); exact HO862.out)) k_ hk⟩) _ (Nat.le_refl _)) (Below.refl _ _) (Nat.le_refl _) (by simp) ?_; (case hd => rfl); (case hg => rfl); (case hr => first | (go_simp; done) | (go_simp; rfl)); (case hp => exact (Reps.one (show Kd.FK (Kd.slice 3 (Kd.int .i64)) _ _ y863 [.slice Ao27 y863.length co27] from (Kd.FK_slice_mk (Kd.R_reads' (Kd.R_mono (ok' := (fun k_ => (P2_ k_ ∨ w.heap.size ≤ k_) ∧ some k_ ≠ (v861 : Value).ownBlock)) (Kd.R_apart' (HO865.out) (Kd.N_typed HO862.out) (by decide)) (fun k_ hk => ⟨(.inr (hk.1)), hk.2⟩))).2.1 (Kd.R_F (Kd.R_mono (ok' := (fun k_ => (P2_ k_ ∨ w.heap.size ≤ k_) ∧ some k_ ≠ (v861 : Value).ownBlock)) (Kd.R_apart' (HO865.out) (Kd.N_typed HO862.out) (by decide)) (fun k_ hk => ⟨(.inr (hk.1)), hk.2⟩))))) (Reps.none _ _)))
             intro v867 w28 ho29 hb hg_ hnew_
             clear hg_ hnew_
             (first | rw [← Ny866.out] at ho29 | (simp only [Int.reduceToNat] at ho29; rw [← Ny866.out] at ho29))
             have n0_ := A_ (Kd.V_elder' (by (with_reducible repeat (first | apply Kd.V_alloc | apply Kd.V_drewN | apply Kd.V_drew)); exact HO_2.out) (by first | exact Kd.N_base ho29 | exact Kd.S_base ho29) hb)
             have n1_ := A_ (Kd.N_elder' (by (with_reducible repeat (first | apply Kd.N_alloc | apply Kd.N_drewN | apply Kd.N_drew)); exact HO862.out) (by first | exact Kd.N_base ho29 | exact Kd.S_base ho29) hb)
             have n2_ := A_ (Kd.N_lower ho29 (below_size tb_))
             have n3_ := A_ (below_step tb_ hb)
             clear HO_2
             clear HO862
             clear HB
             clear HO865
             have HO_2 := n0_
             have HO862 := n1_
             have HO868 := n2_
             have HB := n3_
             clear n0_ n1_ n2_ n3_
             clear hb ho29
             refine hK.out _ _ trivial (fun hHeld => ?_)
             clear hK K
             refine norm_ (a' := ?_) ?_ ?_
             rotate_left
             ·
              show Act.put _ (some 57) _ = _
              simp only [Act.put, List.setIfInBounds_toArray, List.set_cons_zero, List.set_cons_succ, i64_w, i32_w]
              rfl
             exact norm_ (by first | (simp only [putAll, Act.put, List.setIfInBounds_toArray, List.set_cons_zero, List.set_cons_succ]; done) | (simp only [putAll, Act.put, List.setIfInBounds_toArray, List.set_cons_zero, List.set_cons_succ]; rfl)) (hJ0_2_9_10 (v858, v861, .slice Ao27 y863.length co27, v867) _ ⟨(by (with_reducible repeat (first | apply Kd.N_alloc | apply Kd.N_drewN | apply Kd.N_drew)); exact Kd.N_mono HO862.out om_), (by (with_reducible repeat (first | apply Kd.N_alloc | apply Kd.N_drewN | apply Kd.N_drew)); exact HO868.out), (by (with_reducible repeat (first | apply Kd.V_alloc | apply Kd.V_drewN | apply Kd.V_drew)); exact Kd.V_mono HO_2.out om_), tb_⟩)
           rintro ⟨v858, v861, v864, v867⟩ w29 ⟨h0_, h1_, h2_, h3_⟩
           have n0_ : Aside0 (Kd.N (Kd.slice 3 (Kd.int .i64)) 22 w29 w.heap.size (fun k_ => (P2_ k_ ∨ w.heap.size ≤ k_) ∧ some k_ ≠ (v867 : Value).ownBlock) v861 y860) := ⟨h0_⟩
           have n1_ : Aside0 (Kd.N (Kd.slice 3 (Kd.int .i64)) 22 w29 w.heap.size (fun k_ => (P2_ k_ ∨ w.heap.size ≤ k_) ∧ some k_ ≠ (v861 : Value).ownBlock) v867 y866) := ⟨h1_⟩
           have n2_ : Aside0 (Kd.V (Kd.slice 3 (Kd.int .i64)) 22 w29 w.heap.size (fun k_ => (P2_ k_ ∨ w.heap.size ≤ k_) ∧ some k_ ≠ (v861 : Value).ownBlock ∧ some k_ ≠ (v867 : Value).ownBlock) (.slice A2 l2.length c2) l2) := ⟨h2_⟩
           have n3_ : Aside0 (Below w.heap.size w w29) := ⟨h3_⟩
           clear HO_2
           clear HB
           clear h0_ h1_ h2_ h3_
           have HO862 := n0_
           have HO868 := n1_
           have HO_2 := n2_
           have HB := n3_
           clear n0_ n1_ n2_ n3_
           have hHeld := trivial
           obtain ⟨Ao31, co31, eo31⟩ := Kd.N_slice HO868.out
           (first | subst eo31 | (injection eo31 with f1_ f2_ f3_; have f4_ := f1_.symm; have f5_ := f3_.symm; clear f1_ f2_ f3_; subst f4_; subst f5_))
           refine norm_ (a' := ?_) ?_ ?_
           rotate_left
           ·
            simp only [putAll, Act.put, List.setIfInBounds_toArray, List.set_cons_zero, List.set_cons_succ]
            rfl
           refine one_ (i := 11) (N := some 58) (Fn.bl 13 4095) rfl rfl (one_of HT_.out (by kernel_rfl)) (by decide) (fun K hK => ?_)
           refine Kd.N_append_rows_step (Kd.slice 3 (Kd.int .i64)) (w0 := w) w.heap.size (by rfl) (.tmp 49) (.tmp 57) 41 22 (.slice none 0 0) 24 rfl Try.underlying41 info22 rfl (by decide) (by omega) v861 y860 y866 _ _ _ (fun k_ => (P2_ k_ ∨ w.heap.size ≤ k_)) (fun k_ => ((fun k_ => (P2_ k_ ∨ w.heap.size ≤ k_))) k_ ∧ some k_ ≠ (v861 : Value).ownBlock) rfl rfl ?aO ?aR (fun _ hk => hk) ?aF ?aB ?aS ?aL ?_
           (case aR => exact (by skip; exact Kd.N_F (Kd.N_mono (ok' := (fun k_ => ((fun k_ => (P2_ k_ ∨ w.heap.size ≤ k_))) k_ ∧ some k_ ≠ (v861 : Value).ownBlock)) (HO868.out) (fun k_ hk => ⟨hk.1, hk.2⟩))))
           (case aB => exact tb_)
           (case aF => exact (fun k_ hk => (.inr (Nat.le_trans (below_size tb_) hk))))
           (case aO => exact (by (with_reducible repeat (first | apply Kd.N_alloc | apply Kd.N_drewN | apply Kd.N_drew)); exact Kd.N_mono HO862.out (fun _ hk => hk.1)))
           (case aS => exact (below_size tb_))
           (case aL => have := LMc17.out; omega)
           intro v870 w30 ho hb hg hat
           rw [← Ny869.out] at ho
           have n0_ := A_ (Kd.V_afterv (ok := (fun k_ => (P2_ k_ ∨ w.heap.size ≤ k_) ∧ some k_ ≠ (.slice Ao31 y866.length co31 : Value).ownBlock)) (by (with_reducible repeat (first | apply Kd.V_alloc | apply Kd.V_drewN | apply Kd.V_drew)); exact Kd.V_mono HO_2.out om_) hg hat)
           have n1_ := A_ (Kd.N_afterv (ok := (fun k_ => (P2_ k_ ∨ w.heap.size ≤ k_))) (by (with_reducible repeat (first | apply Kd.N_alloc | apply Kd.N_drewN | apply Kd.N_drew)); exact HO868.out) hg hat)
           have n2_ := A_ (hb)
           have n3_ := A_ (ho)
           clear HO_2
           clear HO868
           clear HB
           clear HO862
           have HO_2 := n0_
           have HO868 := n1_
           have HB := n2_
           have HO871 := n3_
           clear n0_ n1_ n2_ n3_
           clear ho hb hg hat
           refine hK.out _ _ trivial (fun hHeld => ?_)
           clear hK K
           refine norm_ (a' := ?_) ?_ ?_
           rotate_left
           ·
            show Act.put _ (some 58) _ = _
            simp only [Act.put, List.setIfInBounds_toArray, List.set_cons_zero, List.set_cons_succ, i64_w, i32_w]
            rfl
           refine pq_ 12 (some 11) (Fn.bl 13 8191) HT_.out ?_
           refine done_ (done_of HT_.out (by kernel_rfl)) ?_
           obtain ⟨Ao32, co32, eo32⟩ := Kd.N_slice HO871.out
           subst eo32
           try go_wp2_with (first | (refine gc_ 112 ?_; refine goesT_ (some 64) Try.func112 #[.int .i64 a0, .int .i64 (wrap64 (a1 - 1)), .slice Ao32 y869.length co32] ?_; (with_reducible refine (ih k2 (by have := HJ5.out; have := HK2.out; omega) a0 (wrap64 (a1 - 1)) (fun k_ => (P2_ k_ ∨ w.heap.size ≤ k_)) _ _ y869 t872 true _ ?side1 A18.out).mono ?_); (case side1 => exact Kd.N_V (HO871.out)); rintro e w33 ⟨v873, rfl, ho0, hb⟩; refine ⟨_, rfl, ?_⟩; replace HO_2 := A_ (Kd.V_below (by (with_reducible repeat (first | apply Kd.V_alloc | apply Kd.V_drewN | apply Kd.V_drew)); exact HO_2.out) hb); replace HO868 := A_ (Kd.N_below (by (with_reducible repeat (first | apply Kd.N_alloc | apply Kd.N_drewN | apply Kd.N_drew)); exact HO868.out) hb); replace HO871 := A_ (Kd.N_below (by (with_reducible repeat (first | apply Kd.N_alloc | apply Kd.N_drewN | apply Kd.N_drew)); exact HO871.out) hb); have HO874 := A_ (Kd.V_lower (Kd.V_mono (ok' := fun k_ => (P2_ k_ ∨ w.heap.size ≤ k_)) ho0 (fun k_ hk_ => Or.elim hk_ (fun hs_ => hs_) (fun hn_ => (.inr (Nat.le_trans (below_size tb_) hn_))))) (below_size tb_)); replace HB := A_ (below_step tb_ hb); (try clear hb); (try clear ho0)))
           go_ret2
           exact ⟨_, te_, by (with_reducible repeat (first | apply Kd.V_alloc | apply Kd.V_drewN | apply Kd.V_drew)); exact HO874.out, tb_⟩
          ·
           replace c19 := Bool.eq_false_iff.mpr c19
           subst c19
           have H1 : (spec_quWatch.l0 k2 a0 a1 l2 (wrap64 (x10_2 + 1))) = some (r1, r2) := by rw [if_neg (show ¬ (false = true) by decide)] at H; exact H
           clear H
           have H := H1
           clear H1
           have H' := A_ H
           clear H
           try go_wp2
           have n0_ := A_ (Kd.V_drew HO_2.out)
           have n1_ := A_ (below_drew1 HB.out)
           clear HO_2
           clear HB
           have HO_2 := n0_
           have HB := n1_
           clear n0_ n1_
           refine start_ (n := 13) (S := fun w' => True) (ds := []) (Fn.bl 13 0) (by kernel_rfl) rfl rfl trivial (fun hHeld => ?_); refine with_tabW spec_quWatch.tab10 spec_quWatch.bits10 (fun HT_ HW_ => ?_)
           generalize wr.drew = w34 at HO_2 HB hHeld ⊢
           refine pq_ 1 (some 48) (Fn.bl 13 2) HT_.out ?_
           refine pq_ 3 (some 50) (Fn.bl 13 10) HT_.out ?_
           refine pq_ 4 (some 51) (Fn.bl 13 26) HT_.out ?_
           refine pq_ 5 (some 52) (Fn.bl 13 58) HT_.out ?_
           refine pq_ 6 (some 53) (Fn.bl 13 122) HT_.out ?_
           refine pq_ 7 (some 54) (Fn.bl 13 250) HT_.out ?_
           refine pq_ 8 (some 55) (Fn.bl 13 506) HT_.out ?_
           refine join_ (σ := Value × Value × Value × Value) 2 (Fn.bl 13 2047) (fun s_ => [(47, s_.1), (49, s_.2.1), (56, s_.2.2.1), (57, s_.2.2.2)]) (fun s_ w' => (Kd.N (Kd.slice 3 (Kd.int .i64)) 22 w' w.heap.size (fun k_ => (P2_ k_ ∨ w.heap.size ≤ k_) ∧ some k_ ≠ (s_.2.2.2 : Value).ownBlock) s_.2.1 y860) ∧ (Kd.N (Kd.slice 3 (Kd.int .i64)) 22 w' w.heap.size (fun k_ => (P2_ k_ ∨ w.heap.size ≤ k_) ∧ some k_ ≠ (s_.2.1 : Value).ownBlock) s_.2.2.2 y866) ∧ (Kd.V (Kd.slice 3 (Kd.int .i64)) 22 w' w.heap.size (fun k_ => (P2_ k_ ∨ w.heap.size ≤ k_) ∧ some k_ ≠ (s_.2.1 : Value).ownBlock ∧ some k_ ≠ (s_.2.2.2 : Value).ownBlock) (.slice A2 l2.length c2) l2) ∧ (Below w.heap.size w w')) ?_ ?_
           rotate_left
           ·
            intro hJ0_2_9_10
            refine join_ (σ := Value × Value × Value) 3 (Fn.bl 13 1023) (fun s_ => [(47, s_.1), (49, s_.2.1), (56, s_.2.2)]) (fun s_ w' => (Kd.N (Kd.slice 3 (Kd.int .i64)) 22 w' w.heap.size (fun k_ => (P2_ k_ ∨ w.heap.size ≤ k_) ∧ some k_ ≠ (s_.2.2 : Value).ownBlock) s_.2.1 y860) ∧ (Kd.R (Kd.int .i64) 3 w' w.heap.size (fun k_ => (w.heap.size ≤ k_)) s_.2.2 y863) ∧ (Kd.V (Kd.slice 3 (Kd.int .i64)) 22 w' w.heap.size (fun k_ => (P2_ k_ ∨ w.heap.size ≤ k_) ∧ some k_ ≠ (s_.2.1 : Value).ownBlock ∧ some k_ ≠ (s_.2.2 : Value).ownBlock) (.slice A2 l2.length c2) l2) ∧ (Below w.heap.size w w')) ?_ ?_
            rotate_left
            ·
             intro hJ0_2_9
             refine join_ (σ := Value × Value × Value) 3 (Fn.bl 13 2043) (fun s_ => [(47, s_.1), (56, s_.2.1), (57, s_.2.2)]) (fun s_ w' => (Kd.N (Kd.slice 3 (Kd.int .i64)) 22 w' w.heap.size (fun k_ => (P2_ k_ ∨ w.heap.size ≤ k_) ∧ some k_ ≠ (s_.2.2 : Value).ownBlock) s_.1 y857) ∧ (Kd.N (Kd.slice 3 (Kd.int .i64)) 22 w' w.heap.size (fun k_ => (P2_ k_ ∨ w.heap.size ≤ k_) ∧ some k_ ≠ (s_.1 : Value).ownBlock) s_.2.2 y866) ∧ (Kd.V (Kd.slice 3 (Kd.int .i64)) 22 w' w.heap.size (fun k_ => (P2_ k_ ∨ w.heap.size ≤ k_) ∧ some k_ ≠ (s_.1 : Value).ownBlock ∧ some k_ ≠ (s_.2.2 : Value).ownBlock) (.slice A2 l2.length c2) l2) ∧ (Below w.heap.size w w')) ?_ ?_
             rotate_left
             ·
              intro hJ0_9_10
              refine join_ (σ := Value × Value) 4 (Fn.bl 13 511) (fun s_ => [(47, s_.1), (49, s_.2)]) (fun s_ w' => (Kd.N (Kd.slice 3 (Kd.int .i64)) 22 w' w.heap.size (fun k_ => (P2_ k_ ∨ w.heap.size ≤ k_)) s_.2 y860) ∧ (Kd.V (Kd.slice 3 (Kd.int .i64)) 22 w' w.heap.size (fun k_ => (P2_ k_ ∨ w.heap.size ≤ k_) ∧ some k_ ≠ (s_.2 : Value).ownBlock) (.slice A2 l2.length c2) l2) ∧ (Below w.heap.size w w')) ?_ ?_
              rotate_left
              ·
               intro hJ0_2
               refine join_ (σ := Value × Value) 4 (Fn.bl 13 1019) (fun s_ => [(47, s_.1), (56, s_.2)]) (fun s_ w' => (Kd.N (Kd.slice 3 (Kd.int .i64)) 22 w' w.heap.size (fun k_ => (P2_ k_ ∨ w.heap.size ≤ k_) ∧ some k_ ≠ (s_.2 : Value).ownBlock) s_.1 y857) ∧ (Kd.R (Kd.int .i64) 3 w' w.heap.size (fun k_ => (w.heap.size ≤ k_)) s_.2 y863) ∧ (Kd.V (Kd.slice 3 (Kd.int .i64)) 22 w' w.heap.size (fun k_ => (P2_ k_ ∨ w.heap.size ≤ k_) ∧ some k_ ≠ (s_.1 : Value).ownBlock ∧ some k_ ≠ (s_.2 : Value).ownBlock) (.slice A2 l2.length c2) l2) ∧ (Below w.heap.size w w')) ?_ ?_
               rotate_left
               ·
                intro hJ0_9
                refine join_ (σ := Value × Value) 4 (Fn.bl 13 2042) (fun s_ => [(56, s_.1), (57, s_.2)]) (fun s_ w' => (Kd.N (Kd.slice 3 (Kd.int .i64)) 22 w' w.heap.size (fun k_ => (P2_ k_ ∨ w.heap.size ≤ k_)) s_.2 y866) ∧ (Kd.V (Kd.slice 3 (Kd.int .i64)) 22 w' w.heap.size (fun k_ => (P2_ k_ ∨ w.heap.size ≤ k_) ∧ some k_ ≠ (s_.2 : Value).ownBlock) (.slice A2 l2.length c2) l2) ∧ (Below w.heap.size w w')) ?_ ?_
                rotate_left
                ·
                 intro hJ9_10
                 refine join_ (σ := Value) 5 (Fn.bl 13 507) (fun s_ => [(47, s_)]) (fun s_ w' => (Kd.N (Kd.slice 3 (Kd.int .i64)) 22 w' w.heap.size (fun k_ => (P2_ k_ ∨ w.heap.size ≤ k_)) s_ y857) ∧ (Kd.V (Kd.slice 3 (Kd.int .i64)) 22 w' w.heap.size (fun k_ => (P2_ k_ ∨ w.heap.size ≤ k_) ∧ some k_ ≠ (s_ : Value).ownBlock) (.slice A2 l2.length c2) l2) ∧ (Below w.heap.size w w')) ?_ ?_
                 rotate_left
                 ·
                  intro hJ0
                  refine join_ (σ := Value) 5 (Fn.bl 13 1018) (fun s_ => [(56, s_)]) (fun s_ w' => (Kd.R (Kd.int .i64) 3 w' w.heap.size (fun k_ => (w.heap.size ≤ k_)) s_ y863) ∧ (Kd.V (Kd.slice 3 (Kd.int .i64)) 22 w' w.heap.size (fun k_ => (P2_ k_ ∨ w.heap.size ≤ k_) ∧ some k_ ≠ (s_ : Value).ownBlock) (.slice A2 l2.length c2) l2) ∧ (Below w.heap.size w w')) ?_ ?_
                  rotate_left
                  ·
                   intro hJ9
                   refine two_ (i := 0) (j := 9) (Ni := some 47) (Nj := some 56) (Fn.bl 13 507) (Fn.bl 13 1018) rfl rfl rfl rfl (two_of HT_.out (by kernel_rfl)) (by decide) (by decide) (fun K hK => ?_) (fun K hK => ?_)
                   ·
                    skip
                    refine Kd.N_lit_step (Kd.slice 3 (Kd.int .i64)) _ 22 ?hg (N' := 47) ?hd (xs := ([] : List (List Int))) (inner := []) (ok := (fun k_ => (P2_ k_ ∨ w.heap.size ≤ k_))) (okp := (fun k_ => (P2_ k_ ∨ w.heap.size ≤ k_))) ?hr ?hp (fun _ hk => hk) ((show ∀ k_, w34.heap.size ≤ k_ → (fun k_ => (P2_ k_ ∨ w.heap.size ≤ k_)) k_ from fun k_ hk => (.inr (Nat.le_trans (below_size tb_) hk))) _ (Nat.le_refl _)) (Below.refl _ _) (Nat.le_refl _) (by simp) ?_; (case hd => rfl); (case hg => rfl); (case hr => first | (go_simp; done) | (go_simp; rfl)); (case hp => exact (Reps.none _ _))
                    intro v858 w35 ho36 hb hg_ hnew_
                    clear hg_ hnew_
                    (first | rw [← Ny857.out] at ho36 | (simp only [Int.reduceToNat] at ho36; rw [← Ny857.out] at ho36))
                    have n0_ := A_ (Kd.V_elder' (by (with_reducible repeat (first | apply Kd.V_alloc | apply Kd.V_drewN | apply Kd.V_drew)); exact HO_2.out) (by first | exact Kd.N_base ho36 | exact Kd.S_base ho36) hb)
                    have n1_ := A_ (Kd.N_lower ho36 (below_size tb_))
                    have n2_ := A_ (below_step tb_ hb)
                    clear HO_2
                    clear HB
                    have HO_2 := n0_
                    have HO859 := n1_
                    have HB := n2_
                    clear n0_ n1_ n2_
                    clear hb ho36
                    refine hK.out _ _ trivial (fun hHeld => ?_)
                    clear hK K
                    refine norm_ (a' := ?_) ?_ ?_
                    rotate_left
                    ·
                     show Act.put _ (some 47) _ = _
                     simp only [Act.put, List.setIfInBounds_toArray, List.set_cons_zero, List.set_cons_succ, i64_w, i32_w]
                     rfl
                    exact norm_ (by first | (simp only [putAll, Act.put, List.setIfInBounds_toArray, List.set_cons_zero, List.set_cons_succ]; done) | (simp only [putAll, Act.put, List.setIfInBounds_toArray, List.set_cons_zero, List.set_cons_succ]; rfl)) (hJ0 (v858) _ ⟨(by (with_reducible repeat (first | apply Kd.N_alloc | apply Kd.N_drewN | apply Kd.N_drew)); exact HO859.out), (by (with_reducible repeat (first | apply Kd.V_alloc | apply Kd.V_drewN | apply Kd.V_drew)); exact HO_2.out), tb_⟩)
                   ·
                    skip
                    refine Kd.R_lit_step (Kd.int .i64) _ 3 ?hg (N := 56) ?hd (xs := ([wrap64 (Int.tdiv x10_2 a0), Int.tmod x10_2 a0] : List Int)) (inner := [.int .i64 (wrap64 (Int.tdiv x10_2 a0)), .int .i64 (Int.tmod x10_2 a0)]) (ok := fun _ => True) (okp := fun _ => True) ?hr ?hp (fun _ hk => hk) trivial (Below.refl _ _) (Nat.le_refl _) (by simp) ?_; (case hd => rfl); (case hg => rfl); (case hr => first | (go_simp; done) | (go_simp; rfl)); (case hp => exact (Reps.one (show Kd.M (Kd.int .i64) _ _ _ (wrap64 (Int.tdiv x10_2 a0)) [.int .i64 (wrap64 (Int.tdiv x10_2 a0))] from rfl) (Reps.one (show Kd.M (Kd.int .i64) _ _ _ (Int.tmod x10_2 a0) [.int .i64 (Int.tmod x10_2 a0)] from rfl) (Reps.none _ _))))
                    intro v864 w35 ho36 hb hg_ hnew_
                    clear hg_ hnew_
                    (first | rw [← Ny863.out] at ho36 | (simp only [Int.reduceToNat] at ho36; rw [← Ny863.out] at ho36))
                    have n0_ := A_ (Kd.V_elder' (by (with_reducible repeat (first | apply Kd.V_alloc | apply Kd.V_drewN | apply Kd.V_drew)); exact HO_2.out) (Kd.R_base ho36) hb)
                    have n1_ := A_ (Kd.R_lower (Kd.R_newM (M := fun k_ => (w.heap.size ≤ k_)) ho36 (below_size tb_) (fun k_ h_ => h_)) (below_size tb_))
                    have n2_ := A_ (below_step tb_ hb)
                    clear HO_2
                    clear HB
                    have HO_2 := n0_
                    have HO865 := n1_
                    have HB := n2_
                    clear n0_ n1_ n2_
                    clear hb ho36
                    refine hK.out _ _ trivial (fun hHeld => ?_)
                    clear hK K
                    refine norm_ (a' := ?_) ?_ ?_
                    rotate_left
                    ·
                     show Act.put _ (some 56) _ = _
                     simp only [Act.put, List.setIfInBounds_toArray, List.set_cons_zero, List.set_cons_succ, i64_w, i32_w]
                     rfl
                    exact norm_ (by first | (simp only [putAll, Act.put, List.setIfInBounds_toArray, List.set_cons_zero, List.set_cons_succ]; done) | (simp only [putAll, Act.put, List.setIfInBounds_toArray, List.set_cons_zero, List.set_cons_succ]; rfl)) (hJ9 (v864) _ ⟨(tr_ (h := by exact Kd.R_mono HO865.out (fun _ hk => hk.1))), (by (with_reducible repeat (first | apply Kd.V_alloc | apply Kd.V_drewN | apply Kd.V_drew)); exact HO_2.out), tb_⟩)
                  ·
                   skip
                   rintro v864 w37 ⟨h0_, h1_, h2_⟩
                   have n0_ : Aside0 (Kd.R (Kd.int .i64) 3 w37 w.heap.size (fun k_ => (w.heap.size ≤ k_)) v864 y863) := ⟨h0_⟩
                   have n1_ : Aside0 (Kd.V (Kd.slice 3 (Kd.int .i64)) 22 w37 w.heap.size (fun k_ => (P2_ k_ ∨ w.heap.size ≤ k_) ∧ some k_ ≠ (v864 : Value).ownBlock) (.slice A2 l2.length c2) l2) := ⟨h1_⟩
                   have n2_ : Aside0 (Below w.heap.size w w37) := ⟨h2_⟩
                   clear HO_2
                   clear HB
                   clear h0_ h1_ h2_
                   have HO865 := n0_
                   have HO_2 := n1_
                   have HB := n2_
                   clear n0_ n1_ n2_
                   have hHeld := trivial
                   refine norm_ (a' := ?_) ?_ ?_
                   rotate_left
                   ·
                    simp only [putAll, Act.put, List.setIfInBounds_toArray, List.set_cons_zero, List.set_cons_succ]
                    rfl
                   refine two_ (i := 0) (j := 10) (Ni := some 47) (Nj := some 57) (Fn.bl 13 1019) (Fn.bl 13 2042) rfl rfl rfl rfl (two_of HT_.out (by kernel_rfl)) (by decide) (by decide) (fun K hK => ?_) (fun K hK => ?_)
                   ·
                    skip
                    refine Kd.N_lit_step (Kd.slice 3 (Kd.int .i64)) _ 22 ?hg (N' := 47) ?hd (xs := ([] : List (List Int))) (inner := []) (ok := (fun k_ => (P2_ k_ ∨ w.heap.size ≤ k_) ∧ some k_ ≠ (v864 : Value).ownBlock)) (okp := (fun k_ => (P2_ k_ ∨ w.heap.size ≤ k_) ∧ some k_ ≠ (v864 : Value).ownBlock)) ?hr ?hp (fun _ hk => hk) ((show ∀ k_, w37.heap.size ≤ k_ → (fun k_ => (P2_ k_ ∨ w.heap.size ≤ k_) ∧ some k_ ≠ (v864 : Value).ownBlock) k_ from fun k_ hk => ⟨(.inr (Nat.le_trans (below_size tb_) hk)), Kd.fresh' (Kd.R_lt (tr_x HO865.out)) k_ hk⟩) _ (Nat.le_refl _)) (Below.refl _ _) (Nat.le_refl _) (by simp) ?_; (case hd => rfl); (case hg => rfl); (case hr => first | (go_simp; done) | (go_simp; rfl)); (case hp => exact (Reps.none _ _))
                    intro v858 w38 ho39 hb hg_ hnew_
                    clear hg_ hnew_
                    (first | rw [← Ny857.out] at ho39 | (simp only [Int.reduceToNat] at ho39; rw [← Ny857.out] at ho39))
                    have n0_ := A_ (Kd.V_elder' (by (with_reducible repeat (first | apply Kd.V_alloc | apply Kd.V_drewN | apply Kd.V_drew)); exact HO_2.out) (by first | exact Kd.N_base ho39 | exact Kd.S_base ho39) hb)
                    have n1_ := A_ (Kd.R_below (tr_x HO865.out) hb)
                    have n2_ := A_ (Kd.N_lower ho39 (below_size tb_))
                    have n3_ := A_ (below_step tb_ hb)
                    clear HO_2
                    clear HO865
                    clear HB
                    have HO_2 := n0_
                    have HO865 := n1_
                    have HO859 := n2_
                    have HB := n3_
                    clear n0_ n1_ n2_ n3_
                    clear hb ho39
                    refine hK.out _ _ trivial (fun hHeld => ?_)
                    clear hK K
                    refine norm_ (a' := ?_) ?_ ?_
                    rotate_left
                    ·
                     show Act.put _ (some 47) _ = _
                     simp only [Act.put, List.setIfInBounds_toArray, List.set_cons_zero, List.set_cons_succ, i64_w, i32_w]
                     rfl
                    exact norm_ (by first | (simp only [putAll, Act.put, List.setIfInBounds_toArray, List.set_cons_zero, List.set_cons_succ]; done) | (simp only [putAll, Act.put, List.setIfInBounds_toArray, List.set_cons_zero, List.set_cons_succ]; rfl)) (hJ0_9 (v858, v864) _ ⟨(by (with_reducible repeat (first | apply Kd.N_alloc | apply Kd.N_drewN | apply Kd.N_drew)); exact HO859.out), (tr_x HO865.out), (by (with_reducible repeat (first | apply Kd.V_alloc | apply Kd.V_drewN | apply Kd.V_drew)); exact Kd.V_mono HO_2.out om_), tb_⟩)
                   ·
                    skip
                    obtain ⟨Ao38, co38, eo38⟩ := Kd.R_slice HO865.out
                    subst eo38
                    refine Kd.N_lit_step (Kd.slice 3 (Kd.int .i64)) _ 22 ?hg (N' := 57) ?hd (xs := ([y863] : List (List Int))) (inner := [.slice Ao38 y863.length co38]) (ok := (fun k_ => (P2_ k_ ∨ w.heap.size ≤ k_))) (okp := (fun k_ => (P2_ k_ ∨ w.heap.size ≤ k_))) ?hr ?hp (fun _ hk => hk) ((show ∀ k_, w37.heap.size ≤ k_ → (fun k_ => (P2_ k_ ∨ w.heap.size ≤ k_)) k_ from fun k_ hk => (.inr (Nat.le_trans (below_size tb_) hk))) _ (Nat.le_refl _)) (Below.refl _ _) (Nat.le_refl _) (by simp) ?_; (case hd => rfl); (case hg => rfl); (case hr => first | (go_simp; done) | (go_simp; rfl)); (case hp => exact (Reps.one (show Kd.FK (Kd.slice 3 (Kd.int .i64)) _ _ y863 [.slice Ao38 y863.length co38] from (Kd.FK_slice_mk (Kd.R_reads' (Kd.R_mono (ok' := (fun k_ => (P2_ k_ ∨ w.heap.size ≤ k_))) (HO865.out) (fun k_ hk => (.inr (hk))))).2.1 (Kd.R_F (Kd.R_mono (ok' := (fun k_ => (P2_ k_ ∨ w.heap.size ≤ k_))) (HO865.out) (fun k_ hk => (.inr (hk))))))) (Reps.none _ _)))
                    intro v867 w39 ho40 hb hg_ hnew_
                    clear hg_ hnew_
                    (first | rw [← Ny866.out] at ho40 | (simp only [Int.reduceToNat] at ho40; rw [← Ny866.out] at ho40))
                    have n0_ := A_ (Kd.V_elder' (by (with_reducible repeat (first | apply Kd.V_alloc | apply Kd.V_drewN | apply Kd.V_drew)); exact HO_2.out) (by first | exact Kd.N_base ho40 | exact Kd.S_base ho40) hb)
                    have n1_ := A_ (Kd.N_lower ho40 (below_size tb_))
                    have n2_ := A_ (below_step tb_ hb)
                    clear HO_2
                    clear HB
                    clear HO865
                    have HO_2 := n0_
                    have HO868 := n1_
                    have HB := n2_
                    clear n0_ n1_ n2_
                    clear hb ho40
                    refine hK.out _ _ trivial (fun hHeld => ?_)
                    clear hK K
                    refine norm_ (a' := ?_) ?_ ?_
                    rotate_left
                    ·
                     show Act.put _ (some 57) _ = _
                     simp only [Act.put, List.setIfInBounds_toArray, List.set_cons_zero, List.set_cons_succ, i64_w, i32_w]
                     rfl
                    exact norm_ (by first | (simp only [putAll, Act.put, List.setIfInBounds_toArray, List.set_cons_zero, List.set_cons_succ]; done) | (simp only [putAll, Act.put, List.setIfInBounds_toArray, List.set_cons_zero, List.set_cons_succ]; rfl)) (hJ9_10 (.slice Ao38 y863.length co38, v867) _ ⟨(by (with_reducible repeat (first | apply Kd.N_alloc | apply Kd.N_drewN | apply Kd.N_drew)); exact HO868.out), (by (with_reducible repeat (first | apply Kd.V_alloc | apply Kd.V_drewN | apply Kd.V_drew)); exact Kd.V_mono HO_2.out om_), tb_⟩)
                 ·
                  skip
                  rintro v858 w37 ⟨h0_, h1_, h2_⟩
                  have n0_ : Aside0 (Kd.N (Kd.slice 3 (Kd.int .i64)) 22 w37 w.heap.size (fun k_ => (P2_ k_ ∨ w.heap.size ≤ k_)) v858 y857) := ⟨h0_⟩
                  have n1_ : Aside0 (Kd.V (Kd.slice 3 (Kd.int .i64)) 22 w37 w.heap.size (fun k_ => (P2_ k_ ∨ w.heap.size ≤ k_) ∧ some k_ ≠ (v858 : Value).ownBlock) (.slice A2 l2.length c2) l2) := ⟨h1_⟩
                  have n2_ : Aside0 (Below w.heap.size w w37) := ⟨h2_⟩
                  clear HO_2
                  clear HB
                  clear h0_ h1_ h2_
                  have HO859 := n0_
                  have HO_2 := n1_
                  have HB := n2_
                  clear n0_ n1_ n2_
                  have hHeld := trivial
                  refine norm_ (a' := ?_) ?_ ?_
                  rotate_left
                  ·
                   simp only [putAll, Act.put, List.setIfInBounds_toArray, List.set_cons_zero, List.set_cons_succ]
                   rfl
                  refine two_ (i := 2) (j := 9) (Ni := some 49) (Nj := some 56) (Fn.bl 13 511) (Fn.bl 13 1019) rfl rfl rfl rfl (two_of HT_.out (by kernel_rfl)) (by decide) (by decide) (fun K hK => ?_) (fun K hK => ?_)
                  ·
                   skip
                   refine Kd.N_append_rows_step (Kd.slice 3 (Kd.int .i64)) (w0 := w) w.heap.size (by rfl) (.tmp 47) (.tmp 48) 41 22 (.slice none 0 0) 24 rfl Try.underlying41 info22 rfl (by decide) (by omega) v858 y857 l2 _ _ _ (fun k_ => (P2_ k_ ∨ w.heap.size ≤ k_)) (fun k_ => ((fun k_ => (P2_ k_ ∨ w.heap.size ≤ k_))) k_ ∧ some k_ ≠ (v858 : Value).ownBlock) rfl rfl ?aO ?aR (fun _ hk => hk) ?aF ?aB ?aS ?aL ?_
                   (case aR => exact (by skip; exact Kd.V_F (Kd.V_mono (ok' := (fun k_ => ((fun k_ => (P2_ k_ ∨ w.heap.size ≤ k_))) k_ ∧ some k_ ≠ (v858 : Value).ownBlock)) (HO_2.out) (fun k_ hk => ⟨hk.1, hk.2⟩))))
                   (case aB => exact tb_)
                   (case aF => exact (fun k_ hk => (.inr (Nat.le_trans (below_size tb_) hk))))
                   (case aO => exact (by (with_reducible repeat (first | apply Kd.N_alloc | apply Kd.N_drewN | apply Kd.N_drew)); exact HO859.out))
                   (case aS => exact (below_size tb_))
                   (case aL => have := LMc15.out; omega)
                   intro v861 w38 ho hb hg hat
                   rw [← Ny860.out] at ho
                   have n0_ := A_ (Kd.V_afterv (ok := (fun k_ => (P2_ k_ ∨ w.heap.size ≤ k_))) (by (with_reducible repeat (first | apply Kd.V_alloc | apply Kd.V_drewN | apply Kd.V_drew)); exact HO_2.out) hg hat)
                   have n1_ := A_ (hb)
                   have n2_ := A_ (ho)
                   clear HO_2
                   clear HB
                   clear HO859
                   have HO_2 := n0_
                   have HB := n1_
                   have HO862 := n2_
                   clear n0_ n1_ n2_
                   clear ho hb hg hat
                   refine hK.out _ _ trivial (fun hHeld => ?_)
                   clear hK K
                   refine norm_ (a' := ?_) ?_ ?_
                   rotate_left
                   ·
                    show Act.put _ (some 49) _ = _
                    simp only [Act.put, List.setIfInBounds_toArray, List.set_cons_zero, List.set_cons_succ, i64_w, i32_w]
                    rfl
                   exact norm_ (by first | (simp only [putAll, Act.put, List.setIfInBounds_toArray, List.set_cons_zero, List.set_cons_succ]; done) | (simp only [putAll, Act.put, List.setIfInBounds_toArray, List.set_cons_zero, List.set_cons_succ]; rfl)) (hJ0_2 (v858, v861) _ ⟨(by (with_reducible repeat (first | apply Kd.N_alloc | apply Kd.N_drewN | apply Kd.N_drew)); exact HO862.out), (by (with_reducible repeat (first | apply Kd.V_alloc | apply Kd.V_drewN | apply Kd.V_drew)); exact HO_2.out), tb_⟩)
                  ·
                   skip
                   refine Kd.R_lit_step (Kd.int .i64) _ 3 ?hg (N := 56) ?hd (xs := ([wrap64 (Int.tdiv x10_2 a0), Int.tmod x10_2 a0] : List Int)) (inner := [.int .i64 (wrap64 (Int.tdiv x10_2 a0)), .int .i64 (Int.tmod x10_2 a0)]) (ok := fun _ => True) (okp := fun _ => True) ?hr ?hp (fun _ hk => hk) trivial (Below.refl _ _) (Nat.le_refl _) (by simp) ?_; (case hd => rfl); (case hg => rfl); (case hr => first | (go_simp; done) | (go_simp; rfl)); (case hp => exact (Reps.one (show Kd.M (Kd.int .i64) _ _ _ (wrap64 (Int.tdiv x10_2 a0)) [.int .i64 (wrap64 (Int.tdiv x10_2 a0))] from rfl) (Reps.one (show Kd.M (Kd.int .i64) _ _ _ (Int.tmod x10_2 a0) [.int .i64 (Int.tmod x10_2 a0)] from rfl) (Reps.none _ _))))
                   intro v864 w38 ho39 hb hg_ hnew_
                   clear hg_ hnew_
                   (first | rw [← Ny863.out] at ho39 | (simp only [Int.reduceToNat] at ho39; rw [← Ny863.out] at ho39))
                   have n0_ := A_ (Kd.V_elder' (by (with_reducible repeat (first | apply Kd.V_alloc | apply Kd.V_drewN | apply Kd.V_drew)); exact HO_2.out) (Kd.R_base ho39) hb)
                   have n1_ := A_ (Kd.N_elder' (by (with_reducible repeat (first | apply Kd.N_alloc | apply Kd.N_drewN | apply Kd.N_drew)); exact HO859.out) (Kd.R_base ho39) hb)
                   have n2_ := A_ (Kd.R_lower (Kd.R_newM (M := fun k_ => (w.heap.size ≤ k_)) ho39 (below_size tb_) (fun k_ h_ => h_)) (below_size tb_))
                   have n3_ := A_ (below_step tb_ hb)
                   clear HO_2
                   clear HO859
                   clear HB
                   have HO_2 := n0_
                   have HO859 := n1_
                   have HO865 := n2_
                   have HB := n3_
                   clear n0_ n1_ n2_ n3_
                   clear hb ho39
                   refine hK.out _ _ trivial (fun hHeld => ?_)
                   clear hK K
                   refine norm_ (a' := ?_) ?_ ?_
                   rotate_left
                   ·
                    show Act.put _ (some 56) _ = _
                    simp only [Act.put, List.setIfInBounds_toArray, List.set_cons_zero, List.set_cons_succ, i64_w, i32_w]
                    rfl
                   exact norm_ (by first | (simp only [putAll, Act.put, List.setIfInBounds_toArray, List.set_cons_zero, List.set_cons_succ]; done) | (simp only [putAll, Act.put, List.setIfInBounds_toArray, List.set_cons_zero, List.set_cons_succ]; rfl)) (hJ0_9 (v858, v864) _ ⟨(by (with_reducible repeat (first | apply Kd.N_alloc | apply Kd.N_drewN | apply Kd.N_drew)); exact HO859.out), (tr_ (h := by exact Kd.R_mono HO865.out (fun _ hk => hk.1))), (by (with_reducible repeat (first | apply Kd.V_alloc | apply Kd.V_drewN | apply Kd.V_drew)); exact Kd.V_mono HO_2.out om_), tb_⟩)
                ·
                 skip
                 rintro ⟨v864, v867⟩ w40 ⟨h0_, h1_, h2_⟩
                 have n0_ : Aside0 (Kd.N (Kd.slice 3 (Kd.int .i64)) 22 w40 w.heap.size (fun k_ => (P2_ k_ ∨ w.heap.size ≤ k_)) v867 y866) := ⟨h0_⟩
                 have n1_ : Aside0 (Kd.V (Kd.slice 3 (Kd.int .i64)) 22 w40 w.heap.size (fun k_ => (P2_ k_ ∨ w.heap.size ≤ k_) ∧ some k_ ≠ (v867 : Value).ownBlock) (.slice A2 l2.length c2) l2) := ⟨h1_⟩
                 have n2_ : Aside0 (Below w.heap.size w w40) := ⟨h2_⟩
                 clear HO_2
                 clear HB
                 clear h0_ h1_ h2_
                 have HO868 := n0_
                 have HO_2 := n1_
                 have HB := n2_
                 clear n0_ n1_ n2_
                 have hHeld := trivial
                 refine norm_ (a' := ?_) ?_ ?_
                 rotate_left
                 ·
                  simp only [putAll, Act.put, List.setIfInBounds_toArray, List.set_cons_zero, List.set_cons_succ]
                  rfl
                 refine one_ (i := 0) (N := some 47) (Fn.bl 13 2043) rfl rfl (one_of HT_.out (by kernel_rfl)) (by decide) (fun K hK => ?_)
                 refine Kd.N_lit_step (Kd.slice 3 (Kd.int .i64)) _ 22 ?hg (N' := 47) ?hd (xs := ([] : List (List Int))) (inner := []) (ok := (fun k_ => (P2_ k_ ∨ w.heap.size ≤ k_) ∧ some k_ ≠ (v867 : Value).ownBlock)) (okp := (fun k_ => (P2_ k_ ∨ w.heap.size ≤ k_) ∧ some k_ ≠ (v867 : Value).ownBlock)) ?hr ?hp (fun _ hk => hk) ((show ∀ k_, w40.heap.size ≤ k_ → (fun k_ => (P2_ k_ ∨ w.heap.size ≤ k_) ∧ some k_ ≠ (v867 : Value).ownBlock) k_ from fun k_ hk => ⟨(.inr (Nat.le_trans (below_size tb_) hk)), Kd.fresh' (Kd.N_lt (by (with_reducible repeat (first | apply Kd.N_alloc | apply Kd.N_drewN | apply Kd.N_drew)); exact HO868.out)) k_ hk⟩) _ (Nat.le_refl _)) (Below.refl _ _) (Nat.le_refl _) (by simp) ?_; (case hd => rfl); (case hg => rfl); (case hr => first | (go_simp; done) | (go_simp; rfl)); (case hp => exact (Reps.none _ _))
                 intro v858 w41 ho42 hb hg_ hnew_
                 clear hg_ hnew_
                 (first | rw [← Ny857.out] at ho42 | (simp only [Int.reduceToNat] at ho42; rw [← Ny857.out] at ho42))
                 have n0_ := A_ (Kd.V_elder' (by (with_reducible repeat (first | apply Kd.V_alloc | apply Kd.V_drewN | apply Kd.V_drew)); exact HO_2.out) (by first | exact Kd.N_base ho42 | exact Kd.S_base ho42) hb)
                 have n1_ := A_ (Kd.N_elder' (by (with_reducible repeat (first | apply Kd.N_alloc | apply Kd.N_drewN | apply Kd.N_drew)); exact HO868.out) (by first | exact Kd.N_base ho42 | exact Kd.S_base ho42) hb)
                 have n2_ := A_ (Kd.N_lower ho42 (below_size tb_))
                 have n3_ := A_ (below_step tb_ hb)
                 clear HO_2
                 clear HO868
                 clear HB
                 have HO_2 := n0_
                 have HO868 := n1_
                 have HO859 := n2_
                 have HB := n3_
                 clear n0_ n1_ n2_ n3_
                 clear hb ho42
                 refine hK.out _ _ trivial (fun hHeld => ?_)
                 clear hK K
                 refine norm_ (a' := ?_) ?_ ?_
                 rotate_left
                 ·
                  show Act.put _ (some 47) _ = _
                  simp only [Act.put, List.setIfInBounds_toArray, List.set_cons_zero, List.set_cons_succ, i64_w, i32_w]
                  rfl
                 exact norm_ (by first | (simp only [putAll, Act.put, List.setIfInBounds_toArray, List.set_cons_zero, List.set_cons_succ]; done) | (simp only [putAll, Act.put, List.setIfInBounds_toArray, List.set_cons_zero, List.set_cons_succ]; rfl)) (hJ0_9_10 (v858, v864, v867) _ ⟨(by (with_reducible repeat (first | apply Kd.N_alloc | apply Kd.N_drewN | apply Kd.N_drew)); exact HO859.out), (by (with_reducible repeat (first | apply Kd.N_alloc | apply Kd.N_drewN | apply Kd.N_drew)); exact HO868.out), (by (with_reducible repeat (first | apply Kd.V_alloc | apply Kd.V_drewN | apply Kd.V_drew)); exact Kd.V_mono HO_2.out om_), tb_⟩)
               ·
                skip
                rintro ⟨v858, v864⟩ w39 ⟨h0_, h1_, h2_, h3_⟩
                have n0_ : Aside0 (Kd.N (Kd.slice 3 (Kd.int .i64)) 22 w39 w.heap.size (fun k_ => (P2_ k_ ∨ w.heap.size ≤ k_) ∧ some k_ ≠ (v864 : Value).ownBlock) v858 y857) := ⟨h0_⟩
                have n1_ : Aside0 (Kd.R (Kd.int .i64) 3 w39 w.heap.size (fun k_ => (w.heap.size ≤ k_)) v864 y863) := ⟨h1_⟩
                have n2_ : Aside0 (Kd.V (Kd.slice 3 (Kd.int .i64)) 22 w39 w.heap.size (fun k_ => (P2_ k_ ∨ w.heap.size ≤ k_) ∧ some k_ ≠ (v858 : Value).ownBlock ∧ some k_ ≠ (v864 : Value).ownBlock) (.slice A2 l2.length c2) l2) := ⟨h2_⟩
                have n3_ : Aside0 (Below w.heap.size w w39) := ⟨h3_⟩
                clear HO_2
                clear HB
                clear h0_ h1_ h2_ h3_
                have HO859 := n0_
                have HO865 := n1_
                have HO_2 := n2_
                have HB := n3_
                clear n0_ n1_ n2_ n3_
                have hHeld := trivial
                refine norm_ (a' := ?_) ?_ ?_
                rotate_left
                ·
                 simp only [putAll, Act.put, List.setIfInBounds_toArray, List.set_cons_zero, List.set_cons_succ]
                 rfl
                refine two_ (i := 2) (j := 10) (Ni := some 49) (Nj := some 57) (Fn.bl 13 1023) (Fn.bl 13 2043) rfl rfl rfl rfl (two_of HT_.out (by kernel_rfl)) (by decide) (by decide) (fun K hK => ?_) (fun K hK => ?_)
                ·
                 skip
                 refine Kd.N_append_rows_step (Kd.slice 3 (Kd.int .i64)) (w0 := w) w.heap.size (by rfl) (.tmp 47) (.tmp 48) 41 22 (.slice none 0 0) 24 rfl Try.underlying41 info22 rfl (by decide) (by omega) v858 y857 l2 _ _ _ (fun k_ => (P2_ k_ ∨ w.heap.size ≤ k_) ∧ some k_ ≠ (v864 : Value).ownBlock) (fun k_ => ((fun k_ => (P2_ k_ ∨ w.heap.size ≤ k_) ∧ some k_ ≠ (v864 : Value).ownBlock)) k_ ∧ some k_ ≠ (v858 : Value).ownBlock) rfl rfl ?aO ?aR (fun _ hk => hk) ?aF ?aB ?aS ?aL ?_
                 (case aR => exact (by skip; exact Kd.V_F (Kd.V_mono (ok' := (fun k_ => ((fun k_ => (P2_ k_ ∨ w.heap.size ≤ k_) ∧ some k_ ≠ (v864 : Value).ownBlock)) k_ ∧ some k_ ≠ (v858 : Value).ownBlock)) (HO_2.out) (fun k_ hk => ⟨⟨hk.1, hk.2.2⟩, hk.2.1⟩))))
                 (case aB => exact tb_)
                 (case aF => exact (fun k_ hk => ⟨(.inr (Nat.le_trans (below_size tb_) hk)), Kd.fresh' (Kd.R_lt (tr_x HO865.out)) k_ hk⟩))
                 (case aO => exact (by (with_reducible repeat (first | apply Kd.N_alloc | apply Kd.N_drewN | apply Kd.N_drew)); exact HO859.out))
                 (case aS => exact (below_size tb_))
                 (case aL => have := LMc15.out; omega)
                 intro v861 w40 ho hb hg hat
                 rw [← Ny860.out] at ho
                 have n0_ := A_ (Kd.V_afterv (ok := (fun k_ => (P2_ k_ ∨ w.heap.size ≤ k_) ∧ some k_ ≠ (v864 : Value).ownBlock)) (by (with_reducible repeat (first | apply Kd.V_alloc | apply Kd.V_drewN | apply Kd.V_drew)); exact Kd.V_mono HO_2.out om_) hg hat)
                 have n1_ := A_ (Kd.R_over' (tr_x HO865.out) (Kd.N_typed (by (with_reducible repeat (first | apply Kd.N_alloc | apply Kd.N_drewN | apply Kd.N_drew)); exact HO859.out)) (by decide) hg)
                 have n2_ := A_ (hb)
                 have n3_ := A_ (ho)
                 clear HO_2
                 clear HO865
                 clear HB
                 clear HO859
                 have HO_2 := n0_
                 have HO865 := n1_
                 have HB := n2_
                 have HO862 := n3_
                 clear n0_ n1_ n2_ n3_
                 clear ho hb hg hat
                 refine hK.out _ _ trivial (fun hHeld => ?_)
                 clear hK K
                 refine norm_ (a' := ?_) ?_ ?_
                 rotate_left
                 ·
                  show Act.put _ (some 49) _ = _
                  simp only [Act.put, List.setIfInBounds_toArray, List.set_cons_zero, List.set_cons_succ, i64_w, i32_w]
                  rfl
                 exact norm_ (by first | (simp only [putAll, Act.put, List.setIfInBounds_toArray, List.set_cons_zero, List.set_cons_succ]; done) | (simp only [putAll, Act.put, List.setIfInBounds_toArray, List.set_cons_zero, List.set_cons_succ]; rfl)) (hJ0_2_9 (v858, v861, v864) _ ⟨(by (with_reducible repeat (first | apply Kd.N_alloc | apply Kd.N_drewN | apply Kd.N_drew)); exact HO862.out), (tr_x HO865.out), (by (with_reducible repeat (first | apply Kd.V_alloc | apply Kd.V_drewN | apply Kd.V_drew)); exact Kd.V_mono HO_2.out om_), tb_⟩)
                ·
                 skip
                 obtain ⟨Ao40, co40, eo40⟩ := Kd.R_slice HO865.out
                 subst eo40
                 refine Kd.N_lit_step (Kd.slice 3 (Kd.int .i64)) _ 22 ?hg (N' := 57) ?hd (xs := ([y863] : List (List Int))) (inner := [.slice Ao40 y863.length co40]) (ok := (fun k_ => (P2_ k_ ∨ w.heap.size ≤ k_) ∧ some k_ ≠ (v858 : Value).ownBlock)) (okp := (fun k_ => (P2_ k_ ∨ w.heap.size ≤ k_) ∧ some k_ ≠ (v858 : Value).ownBlock)) ?hr ?hp (fun _ hk => hk) ((show ∀ k_, w39.heap.size ≤ k_ → (fun k_ => (P2_ k_ ∨ w.heap.size ≤ k_) ∧ some k_ ≠ (v858 : Value).ownBlock) k_ from fun k_ hk => ⟨(.inr (Nat.le_trans (below_size tb_) hk)), Kd.fresh' (Kd.N_lt (by (with_reducible repeat (first | apply Kd.N_alloc | apply Kd.N_drewN | apply Kd.N_drew)); exact HO859.out)) k_ hk⟩) _ (Nat.le_refl _)) (Below.refl _ _) (Nat.le_refl _) (by simp) ?_; (case hd => rfl); (case hg => rfl); (case hr => first | (go_simp; done) | (go_simp; rfl)); (case hp => exact (Reps.one (show Kd.FK (Kd.slice 3 (Kd.int .i64)) _ _ y863 [.slice Ao40 y863.length co40] from (Kd.FK_slice_mk (Kd.R_reads' (Kd.R_mono (ok' := (fun k_ => (P2_ k_ ∨ w.heap.size ≤ k_) ∧ some k_ ≠ (v858 : Value).ownBlock)) (Kd.R_apart' (HO865.out) (Kd.N_typed HO859.out) (by decide)) (fun k_ hk => ⟨(.inr (hk.1)), hk.2⟩))).2.1 (Kd.R_F (Kd.R_mono (ok' := (fun k_ => (P2_ k_ ∨ w.heap.size ≤ k_) ∧ some k_ ≠ (v858 : Value).ownBlock)) (Kd.R_apart' (HO865.out) (Kd.N_typed HO859.out) (by decide)) (fun k_ hk => ⟨(.inr (hk.1)), hk.2⟩))))) (Reps.none _ _)))
                 intro v867 w41 ho42 hb hg_ hnew_
                 clear hg_ hnew_
                 (first | rw [← Ny866.out] at ho42 | (simp only [Int.reduceToNat] at ho42; rw [← Ny866.out] at ho42))
                 have n0_ := A_ (Kd.V_elder' (by (with_reducible repeat (first | apply Kd.V_alloc | apply Kd.V_drewN | apply Kd.V_drew)); exact HO_2.out) (by first | exact Kd.N_base ho42 | exact Kd.S_base ho42) hb)
                 have n1_ := A_ (Kd.N_elder' (by (with_reducible repeat (first | apply Kd.N_alloc | apply Kd.N_drewN | apply Kd.N_drew)); exact HO859.out) (by first | exact Kd.N_base ho42 | exact Kd.S_base ho42) hb)
                 have n2_ := A_ (Kd.N_lower ho42 (below_size tb_))
                 have n3_ := A_ (below_step tb_ hb)
                 clear HO_2
                 clear HO859
                 clear HB
                 clear HO865
                 have HO_2 := n0_
                 have HO859 := n1_
                 have HO868 := n2_
                 have HB := n3_
                 clear n0_ n1_ n2_ n3_
                 clear hb ho42
                 refine hK.out _ _ trivial (fun hHeld => ?_)
                 clear hK K
                 refine norm_ (a' := ?_) ?_ ?_
                 rotate_left
                 ·
                  show Act.put _ (some 57) _ = _
                  simp only [Act.put, List.setIfInBounds_toArray, List.set_cons_zero, List.set_cons_succ, i64_w, i32_w]
                  rfl
                 exact norm_ (by first | (simp only [putAll, Act.put, List.setIfInBounds_toArray, List.set_cons_zero, List.set_cons_succ]; done) | (simp only [putAll, Act.put, List.setIfInBounds_toArray, List.set_cons_zero, List.set_cons_succ]; rfl)) (hJ0_9_10 (v858, .slice Ao40 y863.length co40, v867) _ ⟨(by (with_reducible repeat (first | apply Kd.N_alloc | apply Kd.N_drewN | apply Kd.N_drew)); exact Kd.N_mono HO859.out om_), (by (with_reducible repeat (first | apply Kd.N_alloc | apply Kd.N_drewN | apply Kd.N_drew)); exact HO868.out), (by (with_reducible repeat (first | apply Kd.V_alloc | apply Kd.V_drewN | apply Kd.V_drew)); exact Kd.V_mono HO_2.out om_), tb_⟩)
              ·
               skip
               rintro ⟨v858, v861⟩ w38 ⟨h0_, h1_, h2_⟩
               have n0_ : Aside0 (Kd.N (Kd.slice 3 (Kd.int .i64)) 22 w38 w.heap.size (fun k_ => (P2_ k_ ∨ w.heap.size ≤ k_)) v861 y860) := ⟨h0_⟩
               have n1_ : Aside0 (Kd.V (Kd.slice 3 (Kd.int .i64)) 22 w38 w.heap.size (fun k_ => (P2_ k_ ∨ w.heap.size ≤ k_) ∧ some k_ ≠ (v861 : Value).ownBlock) (.slice A2 l2.length c2) l2) := ⟨h1_⟩
               have n2_ : Aside0 (Below w.heap.size w w38) := ⟨h2_⟩
               clear HO_2
               clear HB
               clear h0_ h1_ h2_
               have HO862 := n0_
               have HO_2 := n1_
               have HB := n2_
               clear n0_ n1_ n2_
               have hHeld := trivial
               refine norm_ (a' := ?_) ?_ ?_
               rotate_left
               ·
                simp only [putAll, Act.put, List.setIfInBounds_toArray, List.set_cons_zero, List.set_cons_succ]
                rfl
               refine one_ (i := 9) (N := some 56) (Fn.bl 13 1023) rfl rfl (one_of HT_.out (by kernel_rfl)) (by decide) (fun K hK => ?_)
               refine Kd.R_lit_step (Kd.int .i64) _ 3 ?hg (N := 56) ?hd (xs := ([wrap64 (Int.tdiv x10_2 a0), Int.tmod x10_2 a0] : List Int)) (inner := [.int .i64 (wrap64 (Int.tdiv x10_2 a0)), .int .i64 (Int.tmod x10_2 a0)]) (ok := fun _ => True) (okp := fun _ => True) ?hr ?hp (fun _ hk => hk) trivial (Below.refl _ _) (Nat.le_refl _) (by simp) ?_; (case hd => rfl); (case hg => rfl); (case hr => first | (go_simp; done) | (go_simp; rfl)); (case hp => exact (Reps.one (show Kd.M (Kd.int .i64) _ _ _ (wrap64 (Int.tdiv x10_2 a0)) [.int .i64 (wrap64 (Int.tdiv x10_2 a0))] from rfl) (Reps.one (show Kd.M (Kd.int .i64) _ _ _ (Int.tmod x10_2 a0) [.int .i64 (Int.tmod x10_2 a0)] from rfl) (Reps.none _ _))))
               intro v864 w39 ho40 hb hg_ hnew_
               clear hg_ hnew_
               (first | rw [← Ny863.out] at ho40 | (simp only [Int.reduceToNat] at ho40; rw [← Ny863.out] at ho40))
               have n0_ := A_ (Kd.V_elder' (by (with_reducible repeat (first | apply Kd.V_alloc | apply Kd.V_drewN | apply Kd.V_drew)); exact HO_2.out) (Kd.R_base ho40) hb)
               have n1_ := A_ (Kd.N_elder' (by (with_reducible repeat (first | apply Kd.N_alloc | apply Kd.N_drewN | apply Kd.N_drew)); exact HO862.out) (Kd.R_base ho40) hb)
               have n2_ := A_ (Kd.R_lower (Kd.R_newM (M := fun k_ => (w.heap.size ≤ k_)) ho40 (below_size tb_) (fun k_ h_ => h_)) (below_size tb_))
               have n3_ := A_ (below_step tb_ hb)
               clear HO_2
               clear HO862
               clear HB
               have HO_2 := n0_
               have HO862 := n1_
               have HO865 := n2_
               have HB := n3_
               clear n0_ n1_ n2_ n3_
               clear hb ho40
               refine hK.out _ _ trivial (fun hHeld => ?_)
               clear hK K
               refine norm_ (a' := ?_) ?_ ?_
               rotate_left
               ·
                show Act.put _ (some 56) _ = _
                simp only [Act.put, List.setIfInBounds_toArray, List.set_cons_zero, List.set_cons_succ, i64_w, i32_w]
                rfl
               exact norm_ (by first | (simp only [putAll, Act.put, List.setIfInBounds_toArray, List.set_cons_zero, List.set_cons_succ]; done) | (simp only [putAll, Act.put, List.setIfInBounds_toArray, List.set_cons_zero, List.set_cons_succ]; rfl)) (hJ0_2_9 (v858, v861, v864) _ ⟨(by (with_reducible repeat (first | apply Kd.N_alloc | apply Kd.N_drewN | apply Kd.N_drew)); exact HO862.out), (tr_ (h := by exact Kd.R_mono HO865.out (fun _ hk => hk.1))), (by (with_reducible repeat (first | apply Kd.V_alloc | apply Kd.V_drewN | apply Kd.V_drew)); exact Kd.V_mono HO_2.out om_), tb_⟩)
             ·
              skip
              rintro ⟨v858, v864, v867⟩ w42 ⟨h0_, h1_, h2_, h3_⟩
              have n0_ : Aside0 (Kd.N (Kd.slice 3 (Kd.int .i64)) 22 w42 w.heap.size (fun k_ => (P2_ k_ ∨ w.heap.size ≤ k_) ∧ some k_ ≠ (v867 : Value).ownBlock) v858 y857) := ⟨h0_⟩
              have n1_ : Aside0 (Kd.N (Kd.slice 3 (Kd.int .i64)) 22 w42 w.heap.size (fun k_ => (P2_ k_ ∨ w.heap.size ≤ k_) ∧ some k_ ≠ (v858 : Value).ownBlock) v867 y866) := ⟨h1_⟩
              have n2_ : Aside0 (Kd.V (Kd.slice 3 (Kd.int .i64)) 22 w42 w.heap.size (fun k_ => (P2_ k_ ∨ w.heap.size ≤ k_) ∧ some k_ ≠ (v858 : Value).ownBlock ∧ some k_ ≠ (v867 : Value).ownBlock) (.slice A2 l2.length c2) l2) := ⟨h2_⟩
              have n3_ : Aside0 (Below w.heap.size w w42) := ⟨h3_⟩
              clear HO_2
              clear HB
              clear h0_ h1_ h2_ h3_
              have HO859 := n0_
              have HO868 := n1_
              have HO_2 := n2_
              have HB := n3_
              clear n0_ n1_ n2_ n3_
              have hHeld := trivial
              refine norm_ (a' := ?_) ?_ ?_
              rotate_left
              ·
               simp only [putAll, Act.put, List.setIfInBounds_toArray, List.set_cons_zero, List.set_cons_succ]
               rfl
              refine one_ (i := 2) (N := some 49) (Fn.bl 13 2047) rfl rfl (one_of HT_.out (by kernel_rfl)) (by decide) (fun K hK => ?_)
              refine Kd.N_append_rows_step (Kd.slice 3 (Kd.int .i64)) (w0 := w) w.heap.size (by rfl) (.tmp 47) (.tmp 48) 41 22 (.slice none 0 0) 24 rfl Try.underlying41 info22 rfl (by decide) (by omega) v858 y857 l2 _ _ _ (fun k_ => (P2_ k_ ∨ w.heap.size ≤ k_) ∧ some k_ ≠ (v867 : Value).ownBlock) (fun k_ => ((fun k_ => (P2_ k_ ∨ w.heap.size ≤ k_) ∧ some k_ ≠ (v867 : Value).ownBlock)) k_ ∧ some k_ ≠ (v858 : Value).ownBlock) rfl rfl ?aO ?aR (fun _ hk => hk) ?aF ?aB ?aS ?aL ?_
              (case aR => exact (by skip; exact Kd.V_F (Kd.V_mono (ok' := (fun k_ => ((fun k_ => (P2_ k_ ∨ w.heap.size ≤ k_) ∧ some k_ ≠ (v867 : Value).ownBlock)) k_ ∧ some k_ ≠ (v858 : Value).ownBlock)) (HO_2.out) (fun k_ hk => ⟨⟨hk.1, hk.2.2⟩, hk.2.1⟩))))
              (case aB => exact tb_)
              (case aF => exact (fun k_ hk => ⟨(.inr (Nat.le_trans (below_size tb_) hk)), Kd.fresh' (Kd.N_lt (by (with_reducible repeat (first | apply Kd.N_alloc | apply Kd.N_drewN | apply Kd.N_drew)); exact HO868.out)) k_ hk⟩))
              (case aO => exact (by (with_reducible repeat (first | apply Kd.N_alloc | apply Kd.N_drewN | apply Kd.N_drew)); exact HO859.out))
              (case aS => exact (below_size tb_))
              (case aL => have := LMc15.out; omega)
              intro v861 w43 ho hb hg hat
              rw [← Ny860.out] at ho
              have n0_ := A_ (Kd.V_afterv (ok := (fun k_ => (P2_ k_ ∨ w.heap.size ≤ k_) ∧ some k_ ≠ (v867 : Value).ownBlock)) (by (with_reducible repeat (first | apply Kd.V_alloc | apply Kd.V_drewN | apply Kd.V_drew)); exact Kd.V_mono HO_2.out om_) hg hat)
              have n1_ := A_ (Kd.N_afterv (ok := (fun k_ => (P2_ k_ ∨ w.heap.size ≤ k_))) (by (with_reducible repeat (first | apply Kd.N_alloc | apply Kd.N_drewN | apply Kd.N_drew)); exact HO868.out) hg hat)
              have n2_ := A_ (hb)
              have n3_ := A_ (ho)
              clear HO_2
              clear HO868
              clear HB
              clear HO859
              have HO_2 := n0_
              have HO868 := n1_
              have HB := n2_
              have HO862 := n3_
              clear n0_ n1_ n2_ n3_
              clear ho hb hg hat
              refine hK.out _ _ trivial (fun hHeld => ?_)
              clear hK K
              refine norm_ (a' := ?_) ?_ ?_
              rotate_left
              ·
               show Act.put _ (some 49) _ = _
               simp only [Act.put, List.setIfInBounds_toArray, List.set_cons_zero, List.set_cons_succ, i64_w, i32_w]
               rfl
              exact norm_ (by first | (simp only [putAll, Act.put, List.setIfInBounds_toArray, List.set_cons_zero, List.set_cons_succ]; done) | (simp only [putAll, Act.put, List.setIfInBounds_toArray, List.set_cons_zero, List.set_cons_succ]; rfl)) (hJ0_2_9_10 (v858, v861, v864, v867) _ ⟨(by (with_reducible repeat (first | apply Kd.N_alloc | apply Kd.N_drewN | apply Kd.N_drew)); exact HO862.out), (by (with_reducible repeat (first | apply Kd.N_alloc | apply Kd.N_drewN | apply Kd.N_drew)); exact HO868.out), (by (with_reducible repeat (first | apply Kd.V_alloc | apply Kd.V_drewN | apply Kd.V_drew)); exact Kd.V_mono HO_2.out om_), tb_⟩)
            ·
             skip
             rintro ⟨v858, v861, v864⟩ w40 ⟨h0_, h1_, h2_, h3_⟩
             have n0_ : Aside0 (Kd.N (Kd.slice 3 (Kd.int .i64)) 22 w40 w.heap.size (fun k_ => (P2_ k_ ∨ w.heap.size ≤ k_) ∧ some k_ ≠ (v864 : Value).ownBlock) v861 y860) := ⟨h0_⟩
             have n1_ : Aside0 (Kd.R (Kd.int .i64) 3 w40 w.heap.size (fun k_ => (w.heap.size ≤ k_)) v864 y863) := ⟨h1_⟩
             have n2_ : Aside0 (Kd.V (Kd.slice 3 (Kd.int .i64)) 22 w40 w.heap.size (fun k_ => (P2_ k_ ∨ w.heap.size ≤ k_) ∧ some k_ ≠ (v861 : Value).ownBlock ∧ some k_ ≠ (v864 : Value).ownBlock) (.slice A2 l2.length c2) l2) := ⟨h2_⟩
             have n3_ : Aside0 (Below w.heap.size w w40) := ⟨h3_⟩
             clear HO_2
             clear HB
             clear h0_ h1_ h2_ h3_
             have HO862 := n0_
             have HO865 := n1_
             have HO_2 := n2_
             have HB := n3_
             clear n0_ n1_ n2_ n3_
             have hHeld := trivial
             obtain ⟨Ao41, co41, eo41⟩ := Kd.R_slice HO865.out
             (first | subst eo41 | (injection eo41 with f1_ f2_ f3_; have f4_ := f1_.symm; have f5_ := f3_.symm; clear f1_ f2_ f3_; subst f4_; subst f5_))
             refine norm_ (a' := ?_) ?_ ?_
             rotate_left
             ·
              simp only [putAll, Act.put, List.setIfInBounds_toArray, List.set_cons_zero, List.set_cons_succ]
              rfl
             refine one_ (i := 10) (N := some 57) (Fn.bl 13 2047) rfl rfl (one_of HT_.out (by kernel_rfl)) (by decide) (fun K hK => ?_)
             refine Kd.N_lit_step (Kd.slice 3 (Kd.int .i64)) _ 22 ?hg (N' := 57) ?hd (xs := ([y863] : List (List Int))) (inner := [.slice Ao41 y863.length co41]) (ok := (fun k_ => (P2_ k_ ∨ w.heap.size ≤ k_) ∧ some k_ ≠ (v861 : Value).ownBlock)) (okp := (fun k_ => (P2_ k_ ∨ w.heap.size ≤ k_) ∧ some k_ ≠ (v861 : Value).ownBlock)) ?hr ?hp (fun _ hk => hk) ((show ∀ k_, w40.heap.size ≤ k_ → (fun k_ => (P2_ k_ ∨ w.heap.size ≤ k_) ∧ some k_ ≠ (v861 : Value).ownBlock) k_ from fun k_ hk => ⟨(.inr (Nat.le_trans (below_size tb_) hk)), Kd.fresh' (Kd.N_lt (by (with_reducible repeat (first | apply Kd.N_alloc | apply Kd.N_drewN | apply Kd.N_drew)); exact HO862.out)) k_ hk⟩) _ (Nat.le_refl _)) (Below.refl _ _) (Nat.le_refl _) (by simp) ?_; (case hd => rfl); (case hg => rfl); (case hr => first | (go_simp; done) | (go_simp; rfl)); (case hp => exact (Reps.one (show Kd.FK (Kd.slice 3 (Kd.int .i64)) _ _ y863 [.slice Ao41 y863.length co41] from (Kd.FK_slice_mk (Kd.R_reads' (Kd.R_mono (ok' := (fun k_ => (P2_ k_ ∨ w.heap.size ≤ k_) ∧ some k_ ≠ (v861 : Value).ownBlock)) (Kd.R_apart' (HO865.out) (Kd.N_typed HO862.out) (by decide)) (fun k_ hk => ⟨(.inr (hk.1)), hk.2⟩))).2.1 (Kd.R_F (Kd.R_mono (ok' := (fun k_ => (P2_ k_ ∨ w.heap.size ≤ k_) ∧ some k_ ≠ (v861 : Value).ownBlock)) (Kd.R_apart' (HO865.out) (Kd.N_typed HO862.out) (by decide)) (fun k_ hk => ⟨(.inr (hk.1)), hk.2⟩))))) (Reps.none _ _)))
             intro v867 w42 ho43 hb hg_ hnew_
             clear hg_ hnew_
             (first | rw [← Ny866.out] at ho43 | (simp only [Int.reduceToNat] at ho43; rw [← Ny866.out] at ho43))
             have n0_ := A_ (Kd.V_elder' (by (with_reducible repeat (first | apply Kd.V_alloc | apply Kd.V_drewN | apply Kd.V_drew)); exact HO_2.out) (by first | exact Kd.N_base ho43 | exact Kd.S_base ho43) hb)
             have n1_ := A_ (Kd.N_elder' (by (with_reducible repeat (first | apply Kd.N_alloc | apply Kd.N_drewN | apply Kd.N_drew)); exact HO862.out) (by first | exact Kd.N_base ho43 | exact Kd.S_base ho43) hb)
             have n2_ := A_ (Kd.N_lower ho43 (below_size tb_))
             have n3_ := A_ (below_step tb_ hb)
             clear HO_2
             clear HO862
             clear HB
             clear HO865
             have HO_2 := n0_
             have HO862 := n1_
             have HO868 := n2_
             have HB := n3_
             clear n0_ n1_ n2_ n3_
             clear hb ho43
             refine hK.out _ _ trivial (fun hHeld => ?_)
             clear hK K
             refine norm_ (a' := ?_) ?_ ?_
             rotate_left
             ·
              show Act.put _ (some 57) _ = _
              simp only [Act.put, List.setIfInBounds_toArray, List.set_cons_zero, List.set_cons_succ, i64_w, i32_w]
              rfl
             exact norm_ (by first | (simp only [putAll, Act.put, List.setIfInBounds_toArray, List.set_cons_zero, List.set_cons_succ]; done) | (simp only [putAll, Act.put, List.setIfInBounds_toArray, List.set_cons_zero, List.set_cons_succ]; rfl)) (hJ0_2_9_10 (v858, v861, .slice Ao41 y863.length co41, v867) _ ⟨(by (with_reducible repeat (first | apply Kd.N_alloc | apply Kd.N_drewN | apply Kd.N_drew)); exact Kd.N_mono HO862.out om_), (by (with_reducible repeat (first | apply Kd.N_alloc | apply Kd.N_drewN | apply Kd.N_drew)); exact HO868.out), (by (with_reducible repeat (first | apply Kd.V_alloc | apply Kd.V_drewN | apply Kd.V_drew)); exact Kd.V_mono HO_2.out om_), tb_⟩)
           rintro ⟨v858, v861, v864, v867⟩ w43 ⟨h0_, h1_, h2_, h3_⟩
           have n0_ : Aside0 (Kd.N (Kd.slice 3 (Kd.int .i64)) 22 w43 w.heap.size (fun k_ => (P2_ k_ ∨ w.heap.size ≤ k_) ∧ some k_ ≠ (v867 : Value).ownBlock) v861 y860) := ⟨h0_⟩
           have n1_ : Aside0 (Kd.N (Kd.slice 3 (Kd.int .i64)) 22 w43 w.heap.size (fun k_ => (P2_ k_ ∨ w.heap.size ≤ k_) ∧ some k_ ≠ (v861 : Value).ownBlock) v867 y866) := ⟨h1_⟩
           have n2_ : Aside0 (Kd.V (Kd.slice 3 (Kd.int .i64)) 22 w43 w.heap.size (fun k_ => (P2_ k_ ∨ w.heap.size ≤ k_) ∧ some k_ ≠ (v861 : Value).ownBlock ∧ some k_ ≠ (v867 : Value).ownBlock) (.slice A2 l2.length c2) l2) := ⟨h2_⟩
           have n3_ : Aside0 (Below w.heap.size w w43) := ⟨h3_⟩
           clear HO_2
           clear HB
           clear h0_ h1_ h2_ h3_
           have HO862 := n0_
           have HO868 := n1_
           have HO_2 := n2_
           have HB := n3_
           clear n0_ n1_ n2_ n3_
           have hHeld := trivial
           obtain ⟨Ao45, co45, eo45⟩ := Kd.N_slice HO868.out
           (first | subst eo45 | (injection eo45 with f1_ f2_ f3_; have f4_ := f1_.symm; have f5_ := f3_.symm; clear f1_ f2_ f3_; subst f4_; subst f5_))
           refine norm_ (a' := ?_) ?_ ?_
           rotate_left
           ·
            simp only [putAll, Act.put, List.setIfInBounds_toArray, List.set_cons_zero, List.set_cons_succ]
            rfl
           refine one_ (i := 11) (N := some 58) (Fn.bl 13 4095) rfl rfl (one_of HT_.out (by kernel_rfl)) (by decide) (fun K hK => ?_)
           refine Kd.N_append_rows_step (Kd.slice 3 (Kd.int .i64)) (w0 := w) w.heap.size (by rfl) (.tmp 49) (.tmp 57) 41 22 (.slice none 0 0) 24 rfl Try.underlying41 info22 rfl (by decide) (by omega) v861 y860 y866 _ _ _ (fun k_ => (P2_ k_ ∨ w.heap.size ≤ k_)) (fun k_ => ((fun k_ => (P2_ k_ ∨ w.heap.size ≤ k_))) k_ ∧ some k_ ≠ (v861 : Value).ownBlock) rfl rfl ?aO ?aR (fun _ hk => hk) ?aF ?aB ?aS ?aL ?_
           (case aR => exact (by skip; exact Kd.N_F (Kd.N_mono (ok' := (fun k_ => ((fun k_ => (P2_ k_ ∨ w.heap.size ≤ k_))) k_ ∧ some k_ ≠ (v861 : Value).ownBlock)) (HO868.out) (fun k_ hk => ⟨hk.1, hk.2⟩))))
           (case aB => exact tb_)
           (case aF => exact (fun k_ hk => (.inr (Nat.le_trans (below_size tb_) hk))))
           (case aO => exact (by (with_reducible repeat (first | apply Kd.N_alloc | apply Kd.N_drewN | apply Kd.N_drew)); exact Kd.N_mono HO862.out (fun _ hk => hk.1)))
           (case aS => exact (below_size tb_))
           (case aL => have := LMc17.out; omega)
           intro v870 w44 ho hb hg hat
           rw [← Ny869.out] at ho
           have n0_ := A_ (Kd.V_afterv (ok := (fun k_ => (P2_ k_ ∨ w.heap.size ≤ k_) ∧ some k_ ≠ (.slice Ao45 y866.length co45 : Value).ownBlock)) (by (with_reducible repeat (first | apply Kd.V_alloc | apply Kd.V_drewN | apply Kd.V_drew)); exact Kd.V_mono HO_2.out om_) hg hat)
           have n1_ := A_ (Kd.N_afterv (ok := (fun k_ => (P2_ k_ ∨ w.heap.size ≤ k_))) (by (with_reducible repeat (first | apply Kd.N_alloc | apply Kd.N_drewN | apply Kd.N_drew)); exact HO868.out) hg hat)
           have n2_ := A_ (hb)
           have n3_ := A_ (ho)
           clear HO_2
           clear HO868
           clear HB
           clear HO862
           have HO_2 := n0_
           have HO868 := n1_
           have HB := n2_
           have HO871 := n3_
           clear n0_ n1_ n2_ n3_
           clear ho hb hg hat
           refine hK.out _ _ trivial (fun hHeld => ?_)
           clear hK K
           refine norm_ (a' := ?_) ?_ ?_
           rotate_left
           ·
            show Act.put _ (some 58) _ = _
            simp only [Act.put, List.setIfInBounds_toArray, List.set_cons_zero, List.set_cons_succ, i64_w, i32_w]
            rfl
           refine pq_ 12 (some 11) (Fn.bl 13 8191) HT_.out ?_
           refine done_ (done_of HT_.out (by kernel_rfl)) ?_
           obtain ⟨Ao46, co46, eo46⟩ := Kd.N_slice HO871.out
           subst eo46
           try go_wp2_with (first | (refine gc_ 112 ?_; refine goesT_ (some 64) Try.func112 #[.int .i64 a0, .int .i64 (wrap64 (a1 - 1)), .slice Ao46 y869.length co46] ?_; (with_reducible refine (ih k2 (by have := HJ5.out; have := HK2.out; omega) a0 (wrap64 (a1 - 1)) (fun k_ => (P2_ k_ ∨ w.heap.size ≤ k_)) _ _ y869 t872 false _ ?side1 A18.out).mono ?_); (case side1 => exact Kd.N_V (HO871.out)); rintro e w47 ⟨v873, rfl, ho0, hb⟩; refine ⟨_, rfl, ?_⟩; replace HO_2 := A_ (Kd.V_below (by (with_reducible repeat (first | apply Kd.V_alloc | apply Kd.V_drewN | apply Kd.V_drew)); exact HO_2.out) hb); replace HO868 := A_ (Kd.N_below (by (with_reducible repeat (first | apply Kd.N_alloc | apply Kd.N_drewN | apply Kd.N_drew)); exact HO868.out) hb); replace HO871 := A_ (Kd.N_below (by (with_reducible repeat (first | apply Kd.N_alloc | apply Kd.N_drewN | apply Kd.N_drew)); exact HO871.out) hb); have HO874 := A_ (Kd.V_lower (Kd.V_mono (ok' := fun k_ => (P2_ k_ ∨ w.heap.size ≤ k_)) ho0 (fun k_ hk_ => Or.elim hk_ (fun hs_ => hs_) (fun hn_ => (.inr (Nat.le_trans (below_size tb_) hn_))))) (below_size tb_)); replace HB := A_ (below_step tb_ hb); (try clear hb); (try clear ho0)))
           go_roundg k2
           case measure => have := HJ5.out; have := HK2.out; omega
           case rel => exact ⟨(wrap64 (x10_2 + 1)), tf_, H', ⟨by have := HJ5.out; have := HK2.out; omega⟩, ⟨by (with_reducible repeat (first | apply Kd.V_alloc | apply Kd.V_drewN | apply Kd.V_drew)); exact Kd.V_mono HO_2.out (fun _ hk => hk.1.1)⟩, ⟨tb_⟩⟩
         ·
          rw [if_neg c17] at H
          exact absurd H (by simp)
       ·
        rw [if_neg c15] at H
        exact absurd H (by simp)
      ·
       rw [if_neg c14] at H
       have c14b0 := decide_eq_false c14
       clear c14
       simp only [Option.some.injEq, Prod.mk.injEq] at H
       obtain ⟨rfl, rfl⟩ := H
       go_wp2
       go_ret2
       first | exact ⟨_, te_, Kd.N_V (by first | exact Kd.S_nil _ _ _ _ _ | exact Kd.N_nil _ _ _ _ _ | exact Kd.V_nil _ _ _ _ _ | exact Kd.Q_nil _ _ _ _ _ | exact Kd.R_nil _ _ _ _ _), tb_⟩ | exact ⟨(.slice none 0 0), te_, Kd.V_nil _ _ _ _ _, tb_⟩

end
end Go.Proofs.Ythlcaikplebpmaa.P
