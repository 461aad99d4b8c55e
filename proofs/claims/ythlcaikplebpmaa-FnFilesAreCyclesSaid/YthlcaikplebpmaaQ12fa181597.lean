-- printed functions (wip/slim.py)
import Derived.Test.YthlcaikplebpmaaPx0
import Derived.Test.YthlcaikplebpmaaQ1e97019e3e
namespace Go.Proofs.Ythlcaikplebpmaa.P
noncomputable section
set_option maxHeartbeats 8000000
set_option maxRecDepth 100000
open Go.RowKit Go.Proofs.YthlcaikplebpmaaW.PrintWords Go.Proofs.YthlcaikplebpmaaW.PrintLast Go.Proofs.YthlcaikplebpmaaW.PrintMore
attribute [local go_sem] max2_int min2_int max_two min_two max_three min_three max_four min_four   -- for this text's walks alone
set_option linter.unusedVariables false
set_option linter.unusedSimpArgs false

/-! ### impl_areBlocks: function 145 -/
def impl_areBlocks.l0 : Nat → List (List Int) → Bool → List Int → List (List Int) → Int → Int → Option (Bool)
 | 0, _, _, _, _, _, _ => none
 | k + 1, x0, x1, x5, x9, x10, x11 => if x11 < x10 then (if 0 ≤ x11 then (if x11 < (x9.length : Int) then (if ((rd_L1 x9 x11).length : Int) = 0 then (some false) else (if (wrap64 ((x5.length : Int) + ((rd_L1 x9 x11).length : Int))) > 6 then (some false) else ((slices_Min_int_int.f k (rd_L1 x9 x11)).bind fun t1224 => (if 0 < ((rd_L1 x9 x11).length : Int) then (if t1224 = (rd (rd_L1 x9 x11) 0) then (if x1 = true then ((slices_IsSorted_int_int.f k (rd_L1 x9 x11)).bind fun t1226 => (if t1226 = true then (if x11 > 0 then (if 0 ≤ (wrap64 (x11 - 1)) then (if (wrap64 (x11 - 1)) < (x0.length : Int) then (if 0 < ((rd_L1 x0 (wrap64 (x11 - 1))).length : Int) then (if (rd (rd_L1 x9 x11) 0) ≤ (rd (rd_L1 x0 (wrap64 (x11 - 1))) 0) then (some false) else (if x5.length + (rd_L1 x9 x11).length < 17592186044416 then (impl_areBlocks.l0 k x0 x1 (x5 ++ (rd_L1 x9 x11)) x9 x10 (wrap64 (x11 + 1))) else (none))) else (none)) else (none)) else (none)) else (if x5.length + (rd_L1 x9 x11).length < 17592186044416 then (impl_areBlocks.l0 k x0 x1 (x5 ++ (rd_L1 x9 x11)) x9 x10 (wrap64 (x11 + 1))) else (none))) else (some false))) else (if x11 > 0 then (if 0 ≤ (wrap64 (x11 - 1)) then (if (wrap64 (x11 - 1)) < (x0.length : Int) then (if 0 < ((rd_L1 x0 (wrap64 (x11 - 1))).length : Int) then (if (rd (rd_L1 x9 x11) 0) ≤ (rd (rd_L1 x0 (wrap64 (x11 - 1))) 0) then (some false) else (if x5.length + (rd_L1 x9 x11).length < 17592186044416 then (impl_areBlocks.l0 k x0 x1 (x5 ++ (rd_L1 x9 x11)) x9 x10 (wrap64 (x11 + 1))) else (none))) else (none)) else (none)) else (none)) else (if x5.length + (rd_L1 x9 x11).length < 17592186044416 then (impl_areBlocks.l0 k x0 x1 (x5 ++ (rd_L1 x9 x11)) x9 x10 (wrap64 (x11 + 1))) else (none)))) else (some false)) else (none))))) else (none)) else (none)) else ((impl_isThings.f (x5.length : Int)).bind fun t1221 => (if t1221 = true then ((impl_isPerm.f k x5 (x5.length : Int)).bind fun t1222 => (some t1222)) else (some false)))
def impl_areBlocks.f (k : Nat) (l0 : List (List Int)) (a1 : Bool) : Option (Bool) := impl_areBlocks.l0 k l0 a1 (([] : List Int)) l0 (l0.length : Int) 0
theorem impl_areBlocks.mono_l : ∀ k, (∀ y0 y1 y2 y3 y4 y5, LeO (impl_areBlocks.l0 k y0 y1 y2 y3 y4 y5) (impl_areBlocks.l0 (k + 1) y0 y1 y2 y3 y4 y5))
 | 0 => fun _ _ _ _ _ _ r h => by simp [impl_areBlocks.l0] at h
 | k + 1 => by
  have ih0 := impl_areBlocks.mono_l k
  ·
   intro y0 y1 y2 y3 y4 y5
   unfold impl_areBlocks.l0
   repeat' first | (with_reducible first | exact ih0 _ _ _ _ _ _ | exact impl_isPerm.mono _ _ _ | exact slices_IsSorted_int_int.mono _ _ | exact slices_Min_int_int.mono _ _ | exact LeO.refl _ | exact LeO.none _ | refine LeO.ite ?_ ?_ | refine LeO.bind ?_ (fun _ => ?_)) | exact ih0 _ _ _ _ _ _ | exact impl_isPerm.mono _ _ _ | exact slices_IsSorted_int_int.mono _ _ | exact slices_Min_int_int.mono _ _ | exact LeO.none _ | refine LeO.ite ?_ ?_ | refine LeO.bind ?_ (fun _ => ?_)
theorem impl_areBlocks.mono : ∀ a0 a1 k, LeO (impl_areBlocks.f k a0 a1) (impl_areBlocks.f (k + 1) a0 a1) := by
 intro a0 a1 k
 have ih0 := impl_areBlocks.mono_l k
 unfold impl_areBlocks.f
 repeat' first | (with_reducible first | exact ih0 _ _ _ _ _ _ | exact impl_isPerm.mono _ _ _ | exact slices_IsSorted_int_int.mono _ _ | exact slices_Min_int_int.mono _ _ | exact LeO.refl _ | exact LeO.none _ | refine LeO.ite ?_ ?_ | refine LeO.bind ?_ (fun _ => ?_)) | exact ih0 _ _ _ _ _ _ | exact impl_isPerm.mono _ _ _ | exact slices_IsSorted_int_int.mono _ _ | exact slices_Min_int_int.mono _ _ | exact LeO.none _ | refine LeO.ite ?_ ?_ | refine LeO.bind ?_ (fun _ => ?_)
def impl_areBlocks.T5 : Bool × List (List Nat × List Nat) := (true, [([], []), ([0], [0]), ([1], [1]), ([2], [2]), ([3], [3]), ([4, 3], [3, 4]), ([3], [3]), ([6, 3], [3, 6]), ([5, 7, 3], [3, 5, 7]), ([8, 3], [3, 8]), ([3, 9], [3, 9]), ([10, 3], [10]), ([11], [11]), ([12, 11, 11], [11, 12]), ([11], [11]), ([14, 11], [11, 14]), ([15, 11], [11, 15]), ([13, 16, 11], [11, 13, 16]), ([11, 17], [11, 17]), ([18, 13], [18]), ([19], [19]), ([20, 19, 19], [19, 20]), ([21], [21]), ([22, 21, 21], [21, 22]), ([23, 21], [21, 23]), ([21, 24, 19], [19, 21, 24]), ([19, 25], [19, 25]), ([26, 23], [26]), ([27], [27]), ([28, 27], [27, 28]), ([29, 27, 27], [27, 29]), ([30], [30]), ([31, 30], [30, 31]), ([32, 30], [30, 32]), ([30], [30]), ([30], [30]), ([35, 30], [30, 35]), ([34, 36, 30], [30, 34, 36]), ([37, 30], [30, 37]), ([38, 30], [30, 38]), ([39, 30], [30, 39]), ([33, 40, 30], [30, 33, 40]), ([30, 41, 27], [27, 30, 41]), ([27, 42], [27, 42])])
def impl_areBlocks.B5 : List Nat := [0, 1, 3, 7, 15, 31, 15, 79, 255, 511, 1023, 2047, 4095, 8191, 4095, 20479, 53247, 131071, 262143, 524287, 1048575, 2097151, 4194303, 8388607, 16777215, 33554431, 67108863, 134217727, 268435455, 536870911, 1073741823, 2147483647, 4294967295, 8589934591, 2147483647, 2147483647, 36507222015, 122406567935, 259845521407, 534723428351, 1084479242239, 2199023255551, 4398046511103, 8796093022207]
theorem impl_areBlocks.tab5 : rtab .any (opsOf Try.f145 5) = impl_areBlocks.T5 := by kernel_rfl
theorem impl_areBlocks.bits5 : waitsOk impl_areBlocks.T5.2 impl_areBlocks.B5 = true := by kernel_rfl
theorem impl_areBlocks.calls (k : Nat) (A0 : Option Addr) (c0 : Nat) (l0 : List (List Int)) (a1 : Bool) (r : Bool) (w : World) (hr0 : Kd.C (Kd.slice 3 (Kd.int .i64)) w A0 l0.length l0) (hc0 : l0.length ≤ c0) (h : impl_areBlocks.f k l0 a1 = some r) :
  Calls Try.prog 145 #[.slice A0 l0.length c0, .bool a1] w fun e w' => e = .returned (.bool r) ∧ Below w.heap.size w w' := by
 have HR0 := A_ hr0
 have HC0 := A_ hc0
 clear hr0 hc0
 have HB := A_ (Below.refl w.heap.size w)
 have H : (impl_areBlocks.l0 k l0 a1 (([] : List Int)) l0 (l0.length : Int) 0) = some r := h
 clear h
 obtain ⟨y1218, hy1218⟩ : ∃ y_ : List Int, y_ = (([] : List Int)) := ⟨_, rfl⟩
 replace H : (impl_areBlocks.l0 k l0 a1 y1218 l0 (l0.length : Int) 0) = some r := ty_ hy1218 H
 have Ny1218 := A_ hy1218
 clear hy1218
 have H' := A_ H
 clear H
 go_enter Try.func145, Try.ntmps145
 go_wp2_with (first | (refine gd_ 8 ?_; (try (refine gate_guard (by rfl) ?_; dsimp only)); refine Kd.R_lit (Kd.int .i64) _ 3 ?hg (N := 8) ?hd (xs := ([] : List Int)) (inner := []) (ok := fun _ => True) (okp := fun _ => True) ?hr ?hp (fun _ hk => hk) trivial (Below.refl _ _) (Nat.le_refl _) (by simp) ?_; (case hd => rfl); (case hg => rfl); (case hr => first | (go_simp; done) | (go_simp; rfl)); (case hp => exact (Reps.none _ _)); intro v1219 w3 ho4 hb hg_ hnew_; clear hg_ hnew_; (first | rw [← Ny1218.out] at ho4 | (simp only [Int.reduceToNat] at ho4; rw [← Ny1218.out] at ho4)); have HO1220 := A_ (Kd.R_lower ho4 (below_size tb_)); replace HB := A_ (below_step tb_ hb); clear hb ho4))
 go_loopg [5, 11] k (fun kq v5 v11 w' => ∃ (x5_1 : List Int) (x11_1 : Int), v11 = .int .i64 x11_1 ∧ Aside0 (impl_areBlocks.l0 kq l0 a1 x5_1 l0 (l0.length : Int) x11_1 = some r) ∧ Aside0 (kq ≤ k) ∧ Aside0 (Kd.R (Kd.int .i64) 3 w' w.heap.size (fun _ => True) v5 x5_1) ∧ Aside0 (Below w.heap.size w w'))
 case atStart => exact ⟨(y1218), (0), tf_, H', ⟨Nat.le_refl _⟩, ⟨tr_x HO1220.out⟩, ⟨tb_⟩⟩
 case round =>
  clear H'
  try clear c1
  try clear p2
  obtain ⟨x5_1, x11_1, rfl, HA, HK1, HO_5, HB⟩ := hrel
  cases gk with
  | zero => exact absurd HA.out (by simp [impl_areBlocks.l0])
  | succ k1 =>
   have H := HA.out
   clear HA
   simp only [impl_areBlocks.l0] at H
   by_cases c5 : x11_1 < (l0.length : Int)
   ·
    rw [if_pos c5] at H
    have c5b0 := decide_eq_true c5
    clear c5
    by_cases c6 : 0 ≤ x11_1
    ·
     rw [if_pos c6] at H
     have c6b0 := decide_eq_true c6
     clear c6
     by_cases c7 : x11_1 < (l0.length : Int)
     ·
      rw [if_pos c7] at H
      have c7b0 := decide_eq_true c7
      clear c7
      by_cases c8 : ((rd_L1 l0 x11_1).length : Int) = 0
      ·
       rw [if_pos c8] at H
       have c8b0 : (((rd_L1 l0 x11_1).length : Int) == 0) = true := beq_iff_eq.mpr c8
       have c8b1 : (((rd_L1 l0 x11_1).length : Int) != 0) = false := bne_eq_false_iff_eq.mpr c8
       clear c8
       obtain rfl := Option.some.inj H
       have p1223 : 0 ≤ (x11_1 : Int) := od_
       have q1223 : x11_1 < (l0.length : Int) := od_
       obtain ⟨ad1223, A1223_0, c1223_0, e1223, hx1223_0, hl1223_0, hi1223_0⟩ := at_L1 HR0.out x11_1 p1223 q1223
       cases e1223
       (try replace hx1223_0 := (HB.out.cell (World.block_lt_of_cell? w _ hx1223_0)).trans hx1223_0)
       have HR1223_0 := A_ hi1223_0
       have HC1223_0 := A_ hl1223_0
       clear hi1223_0 hl1223_0
       replace p1223 := eq_true p1223
       replace q1223 := eq_true q1223
       try go_wp2
       have n0_ := A_ (Kd.R_drew HO_5.out)
       have n1_ := A_ (below_drew1 HB.out)
       clear HO_5
       clear HB
       have HO_5 := n0_
       have HB := n1_
       clear n0_ n1_
       refine start_ (n := 44) (S := fun w' => True) (ds := []) (Fn.bl 44 0) (by kernel_rfl) rfl rfl trivial (fun hHeld => ?_); refine with_tabW impl_areBlocks.tab5 impl_areBlocks.bits5 (fun HT_ HW_ => ?_)
       generalize wr.drew = w9 at HO_5 HB hHeld ⊢
       refine pq_ 0 (some 16) (Fn.bl 44 1) HT_.out ?_
       refine pq_ 1 (some 17) (Fn.bl 44 3) HT_.out ?_
       refine pq_ 2 (some 18) (Fn.bl 44 7) HT_.out ?_
       refine pq_ 3 (some 19) (Fn.bl 44 15) HT_.out ?_
       refine pu_ 4 (some 20) (Fn.bl 44 31) HT_.out ?_
       refine pu_ 5 (some 21) (Fn.bl 44 63) HT_.out ?_
       refine pu_ 6 (some 22) (Fn.bl 44 127) HT_.out ?_
       refine pu_ 7 (some 23) (Fn.bl 44 255) HT_.out ?_
       refine pu_ 8 (some 24) (Fn.bl 44 511) HT_.out ?_
       refine pu_ 9 (some 25) (Fn.bl 44 1023) HT_.out ?_
       refine pq_ 10 (some 26) (Fn.bl 44 2047) HT_.out ?_
       refine pq_ 11 (some 27) (Fn.bl 44 4095) HT_.out ?_
       refine pu_ 12 (some 28) (Fn.bl 44 8191) HT_.out ?_
       refine pu_ 13 (some 29) (Fn.bl 44 16383) HT_.out ?_
       refine pu_ 14 (some 30) (Fn.bl 44 32767) HT_.out ?_
       refine pu_ 15 (some 31) (Fn.bl 44 65535) HT_.out ?_
       refine pu_ 16 (some 32) (Fn.bl 44 131071) HT_.out ?_
       refine pu_ 17 (some 33) (Fn.bl 44 262143) HT_.out ?_
       refine pq_ 18 (some 34) (Fn.bl 44 524287) HT_.out ?_
       refine pq_ 19 (some 35) (Fn.bl 44 1048575) HT_.out ?_
       refine pu_ 20 (some 36) (Fn.bl 44 2097151) HT_.out ?_
       refine pu_ 21 (some 37) (Fn.bl 44 4194303) HT_.out ?_
       refine pu_ 22 (some 38) (Fn.bl 44 8388607) HT_.out ?_
       refine pu_ 23 (some 39) (Fn.bl 44 16777215) HT_.out ?_
       refine pu_ 24 (some 40) (Fn.bl 44 33554431) HT_.out ?_
       refine pu_ 25 (some 41) (Fn.bl 44 67108863) HT_.out ?_
       refine pq_ 26 (some 42) (Fn.bl 44 134217727) HT_.out ?_
       refine pq_ 27 (some 43) (Fn.bl 44 268435455) HT_.out ?_
       refine pu_ 28 (some 44) (Fn.bl 44 536870911) HT_.out ?_
       refine pu_ 29 (some 45) (Fn.bl 44 1073741823) HT_.out ?_
       refine pu_ 30 (some 46) (Fn.bl 44 2147483647) HT_.out ?_
       refine pu_ 31 (some 47) (Fn.bl 44 4294967295) HT_.out ?_
       refine pu_ 32 (some 48) (Fn.bl 44 8589934591) HT_.out ?_
       refine pu_ 33 (some 49) (Fn.bl 44 17179869183) HT_.out ?_
       refine pu_ 34 (some 50) (Fn.bl 44 34359738367) HT_.out ?_
       refine pu_ 35 (some 51) (Fn.bl 44 68719476735) HT_.out ?_
       refine pu_ 36 (some 52) (Fn.bl 44 137438953471) HT_.out ?_
       refine pu_ 37 (some 53) (Fn.bl 44 274877906943) HT_.out ?_
       refine pu_ 38 (some 54) (Fn.bl 44 549755813887) HT_.out ?_
       refine pu_ 39 (some 55) (Fn.bl 44 1099511627775) HT_.out ?_
       refine pu_ 40 (some 56) (Fn.bl 44 2199023255551) HT_.out ?_
       refine pu_ 41 (some 57) (Fn.bl 44 4398046511103) HT_.out ?_
       refine pu_ 42 (some 58) (Fn.bl 44 8796093022207) HT_.out ?_
       refine pq_ 43 (some 59) (Fn.bl 44 17592186044415) HT_.out ?_
       refine done_ (done_of HT_.out (by kernel_rfl)) ?_
       try go_wp2
       go_ret
       exact ⟨te_, tb_⟩
      ·
       rw [if_neg c8] at H
       have c8b0 : (((rd_L1 l0 x11_1).length : Int) == 0) = false := beq_eq_false_iff_ne.mpr c8
       have c8b1 : (((rd_L1 l0 x11_1).length : Int) != 0) = true := bne_iff_ne.mpr c8
       have c8b2 : ¬ ((rd_L1 l0 x11_1) = []) := fun h_ => c8 (by rw [h_]; rfl)
       by_cases c10 : (wrap64 ((x5_1.length : Int) + ((rd_L1 l0 x11_1).length : Int))) > 6
       ·
        rw [if_pos c10] at H
        have c10b0 := decide_eq_true c10
        clear c10
        obtain rfl := Option.some.inj H
        have p1223 : 0 ≤ (x11_1 : Int) := od_
        have q1223 : x11_1 < (l0.length : Int) := od_
        obtain ⟨ad1223, A1223_0, c1223_0, e1223, hx1223_0, hl1223_0, hi1223_0⟩ := at_L1 HR0.out x11_1 p1223 q1223
        cases e1223
        (try replace hx1223_0 := (HB.out.cell (World.block_lt_of_cell? w _ hx1223_0)).trans hx1223_0)
        have HR1223_0 := A_ hi1223_0
        have HC1223_0 := A_ hl1223_0
        clear hi1223_0 hl1223_0
        replace p1223 := eq_true p1223
        replace q1223 := eq_true q1223
        try go_wp2
        have n0_ := A_ (Kd.R_drew HO_5.out)
        have n1_ := A_ (below_drew1 HB.out)
        clear HO_5
        clear HB
        have HO_5 := n0_
        have HB := n1_
        clear n0_ n1_
        obtain ⟨Ao12, co12, eo12⟩ := Kd.R_slice HO_5.out
        (first | subst eo12 | (injection eo12 with f1_ f2_ f3_; have f4_ := f1_.symm; have f5_ := f3_.symm; clear f1_ f2_ f3_; subst f4_; subst f5_))
        refine start_ (n := 44) (S := fun w' => True) (ds := []) (Fn.bl 44 0) (by kernel_rfl) rfl rfl trivial (fun hHeld => ?_); refine with_tabW impl_areBlocks.tab5 impl_areBlocks.bits5 (fun HT_ HW_ => ?_)
        generalize wr.drew = w11 at HO_5 HB hHeld ⊢
        refine pq_ 0 (some 16) (Fn.bl 44 1) HT_.out ?_
        refine pq_ 1 (some 17) (Fn.bl 44 3) HT_.out ?_
        refine pq_ 2 (some 18) (Fn.bl 44 7) HT_.out ?_
        refine pq_ 3 (some 19) (Fn.bl 44 15) HT_.out ?_
        refine pq_ 4 (some 20) (Fn.bl 44 31) HT_.out ?_
        refine pq_ 5 (some 21) (Fn.bl 44 63) HT_.out ?_
        refine pq_ 6 (some 22) (Fn.bl 44 127) HT_.out ?_
        refine pq_ 7 (some 23) (Fn.bl 44 255) HT_.out ?_
        refine pq_ 8 (some 24) (Fn.bl 44 511) HT_.out ?_
        refine pq_ 9 (some 25) (Fn.bl 44 1023) HT_.out ?_
        refine pq_ 10 (some 26) (Fn.bl 44 2047) HT_.out ?_
        refine pq_ 11 (some 27) (Fn.bl 44 4095) HT_.out ?_
        refine pu_ 12 (some 28) (Fn.bl 44 8191) HT_.out ?_
        refine pu_ 13 (some 29) (Fn.bl 44 16383) HT_.out ?_
        refine pu_ 14 (some 30) (Fn.bl 44 32767) HT_.out ?_
        refine pu_ 15 (some 31) (Fn.bl 44 65535) HT_.out ?_
        refine pu_ 16 (some 32) (Fn.bl 44 131071) HT_.out ?_
        refine pu_ 17 (some 33) (Fn.bl 44 262143) HT_.out ?_
        refine pq_ 18 (some 34) (Fn.bl 44 524287) HT_.out ?_
        refine pq_ 19 (some 35) (Fn.bl 44 1048575) HT_.out ?_
        refine pu_ 20 (some 36) (Fn.bl 44 2097151) HT_.out ?_
        refine pu_ 21 (some 37) (Fn.bl 44 4194303) HT_.out ?_
        refine pu_ 22 (some 38) (Fn.bl 44 8388607) HT_.out ?_
        refine pu_ 23 (some 39) (Fn.bl 44 16777215) HT_.out ?_
        refine pu_ 24 (some 40) (Fn.bl 44 33554431) HT_.out ?_
        refine pu_ 25 (some 41) (Fn.bl 44 67108863) HT_.out ?_
        refine pq_ 26 (some 42) (Fn.bl 44 134217727) HT_.out ?_
        refine pq_ 27 (some 43) (Fn.bl 44 268435455) HT_.out ?_
        refine pu_ 28 (some 44) (Fn.bl 44 536870911) HT_.out ?_
        refine pu_ 29 (some 45) (Fn.bl 44 1073741823) HT_.out ?_
        refine pu_ 30 (some 46) (Fn.bl 44 2147483647) HT_.out ?_
        refine pu_ 31 (some 47) (Fn.bl 44 4294967295) HT_.out ?_
        refine pu_ 32 (some 48) (Fn.bl 44 8589934591) HT_.out ?_
        refine pu_ 33 (some 49) (Fn.bl 44 17179869183) HT_.out ?_
        refine pu_ 34 (some 50) (Fn.bl 44 34359738367) HT_.out ?_
        refine pu_ 35 (some 51) (Fn.bl 44 68719476735) HT_.out ?_
        refine pu_ 36 (some 52) (Fn.bl 44 137438953471) HT_.out ?_
        refine pu_ 37 (some 53) (Fn.bl 44 274877906943) HT_.out ?_
        refine pu_ 38 (some 54) (Fn.bl 44 549755813887) HT_.out ?_
        refine pu_ 39 (some 55) (Fn.bl 44 1099511627775) HT_.out ?_
        refine pu_ 40 (some 56) (Fn.bl 44 2199023255551) HT_.out ?_
        refine pu_ 41 (some 57) (Fn.bl 44 4398046511103) HT_.out ?_
        refine pu_ 42 (some 58) (Fn.bl 44 8796093022207) HT_.out ?_
        refine pq_ 43 (some 59) (Fn.bl 44 17592186044415) HT_.out ?_
        refine done_ (done_of HT_.out (by kernel_rfl)) ?_
        try go_wp2
        go_ret
        exact ⟨te_, tb_⟩
       ·
        rw [if_neg c10] at H
        have c10b0 := decide_eq_false c10
        clear c10
        replace H := Option.bind_eq_some_iff.mp H
        obtain ⟨t1224, A130, H⟩ := H
        replace H : (if 0 < ((rd_L1 l0 x11_1).length : Int) then (if t1224 = (rd (rd_L1 l0 x11_1) 0) then (if a1 = true then ((slices_IsSorted_int_int.f k1 (rd_L1 l0 x11_1)).bind fun t1226 => (if t1226 = true then (if x11_1 > 0 then (if 0 ≤ (wrap64 (x11_1 - 1)) then (if (wrap64 (x11_1 - 1)) < (l0.length : Int) then (if 0 < ((rd_L1 l0 (wrap64 (x11_1 - 1))).length : Int) then (if (rd (rd_L1 l0 x11_1) 0) ≤ (rd (rd_L1 l0 (wrap64 (x11_1 - 1))) 0) then (some false) else (if x5_1.length + (rd_L1 l0 x11_1).length < 17592186044416 then (impl_areBlocks.l0 k1 l0 a1 (x5_1 ++ (rd_L1 l0 x11_1)) l0 (l0.length : Int) (wrap64 (x11_1 + 1))) else (none))) else (none)) else (none)) else (none)) else (if x5_1.length + (rd_L1 l0 x11_1).length < 17592186044416 then (impl_areBlocks.l0 k1 l0 a1 (x5_1 ++ (rd_L1 l0 x11_1)) l0 (l0.length : Int) (wrap64 (x11_1 + 1))) else (none))) else (some false))) else (if x11_1 > 0 then (if 0 ≤ (wrap64 (x11_1 - 1)) then (if (wrap64 (x11_1 - 1)) < (l0.length : Int) then (if 0 < ((rd_L1 l0 (wrap64 (x11_1 - 1))).length : Int) then (if (rd (rd_L1 l0 x11_1) 0) ≤ (rd (rd_L1 l0 (wrap64 (x11_1 - 1))) 0) then (some false) else (if x5_1.length + (rd_L1 l0 x11_1).length < 17592186044416 then (impl_areBlocks.l0 k1 l0 a1 (x5_1 ++ (rd_L1 l0 x11_1)) l0 (l0.length : Int) (wrap64 (x11_1 + 1))) else (none))) else (none)) else (none)) else (none)) else (if x5_1.length + (rd_L1 l0 x11_1).length < 17592186044416 then (impl_areBlocks.l0 k1 l0 a1 (x5_1 ++ (rd_L1 l0 x11_1)) l0 (l0.length : Int) (wrap64 (x11_1 + 1))) else (none)))) else (some false)) else (none)) = some r := H
        have A13 := A_ A130
        clear A130
        by_cases c14 : 0 < ((rd_L1 l0 x11_1).length : Int)
        ·
         rw [if_pos c14] at H
         have c14b0 := decide_eq_true c14
         have c14b1 : decide (0 < (rd_L1 l0 x11_1).length) = true := decide_eq_true (by omega)
         clear c14
         by_cases c15 : t1224 = (rd (rd_L1 l0 x11_1) 0)
         ·
          rw [if_pos c15] at H
          have c15b0 : (t1224 == (rd (rd_L1 l0 x11_1) 0)) = true := beq_iff_eq.mpr c15
          have c15b1 : (t1224 != (rd (rd_L1 l0 x11_1) 0)) = false := bne_eq_false_iff_eq.mpr c15
          clear c15
          by_cases c16 : a1 = true
          ·
           subst c16
           have H1 : ((slices_IsSorted_int_int.f k1 (rd_L1 l0 x11_1)).bind fun t1226 => (if t1226 = true then (if x11_1 > 0 then (if 0 ≤ (wrap64 (x11_1 - 1)) then (if (wrap64 (x11_1 - 1)) < (l0.length : Int) then (if 0 < ((rd_L1 l0 (wrap64 (x11_1 - 1))).length : Int) then (if (rd (rd_L1 l0 x11_1) 0) ≤ (rd (rd_L1 l0 (wrap64 (x11_1 - 1))) 0) then (some false) else (if x5_1.length + (rd_L1 l0 x11_1).length < 17592186044416 then (impl_areBlocks.l0 k1 l0 true (x5_1 ++ (rd_L1 l0 x11_1)) l0 (l0.length : Int) (wrap64 (x11_1 + 1))) else (none))) else (none)) else (none)) else (none)) else (if x5_1.length + (rd_L1 l0 x11_1).length < 17592186044416 then (impl_areBlocks.l0 k1 l0 true (x5_1 ++ (rd_L1 l0 x11_1)) l0 (l0.length : Int) (wrap64 (x11_1 + 1))) else (none))) else (some false))) = some r := by rw [if_pos rfl] at H; exact H
           clear H
           have H := H1
           clear H1
           replace H := Option.bind_eq_some_iff.mp H
           obtain ⟨t1226, A170, H⟩ := H
           replace H : (if t1226 = true then (if x11_1 > 0 then (if 0 ≤ (wrap64 (x11_1 - 1)) then (if (wrap64 (x11_1 - 1)) < (l0.length : Int) then (if 0 < ((rd_L1 l0 (wrap64 (x11_1 - 1))).length : Int) then (if (rd (rd_L1 l0 x11_1) 0) ≤ (rd (rd_L1 l0 (wrap64 (x11_1 - 1))) 0) then (some false) else (if x5_1.length + (rd_L1 l0 x11_1).length < 17592186044416 then (impl_areBlocks.l0 k1 l0 true (x5_1 ++ (rd_L1 l0 x11_1)) l0 (l0.length : Int) (wrap64 (x11_1 + 1))) else (none))) else (none)) else (none)) else (none)) else (if x5_1.length + (rd_L1 l0 x11_1).length < 17592186044416 then (impl_areBlocks.l0 k1 l0 true (x5_1 ++ (rd_L1 l0 x11_1)) l0 (l0.length : Int) (wrap64 (x11_1 + 1))) else (none))) else (some false)) = some r := H
           have A17 := A_ A170
           clear A170
           by_cases c18 : t1226 = true
           ·
            subst c18
            have H1 : (if x11_1 > 0 then (if 0 ≤ (wrap64 (x11_1 - 1)) then (if (wrap64 (x11_1 - 1)) < (l0.length : Int) then (if 0 < ((rd_L1 l0 (wrap64 (x11_1 - 1))).length : Int) then (if (rd (rd_L1 l0 x11_1) 0) ≤ (rd (rd_L1 l0 (wrap64 (x11_1 - 1))) 0) then (some false) else (if x5_1.length + (rd_L1 l0 x11_1).length < 17592186044416 then (impl_areBlocks.l0 k1 l0 true (x5_1 ++ (rd_L1 l0 x11_1)) l0 (l0.length : Int) (wrap64 (x11_1 + 1))) else (none))) else (none)) else (none)) else (none)) else (if x5_1.length + (rd_L1 l0 x11_1).length < 17592186044416 then (impl_areBlocks.l0 k1 l0 true (x5_1 ++ (rd_L1 l0 x11_1)) l0 (l0.length : Int) (wrap64 (x11_1 + 1))) else (none))) = some r := by rw [if_pos rfl] at H; exact H
            clear H
            have H := H1
            clear H1
            by_cases c19 : x11_1 > 0
            ·
             rw [if_pos c19] at H
             have c19b0 := decide_eq_true c19
             clear c19
             obtain ⟨ji20, hji20⟩ : ∃ j_ : Int, (wrap64 (x11_1 - 1)) = j_ := ⟨_, rfl⟩
             replace H : (if 0 ≤ (ji20) then (if (ji20) < (l0.length : Int) then (if 0 < ((rd_L1 l0 (ji20)).length : Int) then (if (rd (rd_L1 l0 x11_1) 0) ≤ (rd (rd_L1 l0 (ji20)) 0) then (some false) else (if x5_1.length + (rd_L1 l0 x11_1).length < 17592186044416 then (impl_areBlocks.l0 k1 l0 true (x5_1 ++ (rd_L1 l0 x11_1)) l0 (l0.length : Int) (wrap64 (x11_1 + 1))) else (none))) else (none)) else (none)) else (none)) = some r := by first | (rw [hji20] at H; exact H) | (simp only [hji20] at H ⊢; exact H)
             (try rw [hji20] at A13)
             (try rw [hji20] at A17)
             have hji20w : (IntKind.i64.wrap (x11_1 - 1)) = ji20 := (i64_w _).trans hji20
             by_cases c21 : 0 ≤ (ji20)
             ·
              rw [if_pos c21] at H
              have c21b0 := decide_eq_true c21
              clear c21
              by_cases c22 : (ji20) < (l0.length : Int)
              ·
               rw [if_pos c22] at H
               have c22b0 := decide_eq_true c22
               clear c22
               by_cases c23 : 0 < ((rd_L1 l0 (ji20)).length : Int)
               ·
                rw [if_pos c23] at H
                have c23b0 := decide_eq_true c23
                have c23b1 : decide (0 < (rd_L1 l0 (ji20)).length) = true := decide_eq_true (by omega)
                clear c23
                by_cases c24 : (rd (rd_L1 l0 x11_1) 0) ≤ (rd (rd_L1 l0 (ji20)) 0)
                ·
                 rw [if_pos c24] at H
                 have c24b0 := decide_eq_true c24
                 clear c24
                 obtain rfl := Option.some.inj H
                 have p1223 : 0 ≤ (x11_1 : Int) := od_
                 have q1223 : x11_1 < (l0.length : Int) := od_
                 obtain ⟨ad1223, A1223_0, c1223_0, e1223, hx1223_0, hl1223_0, hi1223_0⟩ := at_L1 HR0.out x11_1 p1223 q1223
                 cases e1223
                 (try replace hx1223_0 := (HB.out.cell (World.block_lt_of_cell? w _ hx1223_0)).trans hx1223_0)
                 have HR1223_0 := A_ hi1223_0
                 have HC1223_0 := A_ hl1223_0
                 clear hi1223_0 hl1223_0
                 replace p1223 := eq_true p1223
                 replace q1223 := eq_true q1223
                 try go_wp2
                 have n0_ := A_ (Kd.R_drew HO_5.out)
                 have n1_ := A_ (below_drew1 HB.out)
                 clear HO_5
                 clear HB
                 have HO_5 := n0_
                 have HB := n1_
                 clear n0_ n1_
                 obtain ⟨Ao26, co26, eo26⟩ := Kd.R_slice HO_5.out
                 (first | subst eo26 | (injection eo26 with f1_ f2_ f3_; have f4_ := f1_.symm; have f5_ := f3_.symm; clear f1_ f2_ f3_; subst f4_; subst f5_))
                 have p1225 : 0 ≤ (0 : Int) := (by omega)
                 have q1225 : 0 < ((rd_L1 l0 x11_1).length : Int) := od_
                 obtain ⟨ad1225, e1225, hx1225_0⟩ := Kd.at_int HR1223_0.out 0 p1225 q1225
                 have hw1225_0 := hx1225_0
                 (try rw [show ((0 : Int)).toNat = 0 from rfl] at hw1225_0)
                 (try rw [show 0 * 1 = 0 from rfl] at hw1225_0)
                 (try rw [Addr.add_zero'] at hw1225_0)
                 cases e1225
                 have qi1225 : (0 < (rd_L1 l0 x11_1).length) = True := eq_true (by omega)
                 (try rw [show ((0 : Int)).toNat = 0 from rfl] at hx1225_0)
                 (try rw [Addr.add_zero'] at hx1225_0)
                 (try replace hx1225_0 := (HB.out.cell (World.block_lt_of_cell? w _ hx1225_0)).trans hx1225_0)
                 replace p1225 := eq_true p1225
                 replace q1225 := eq_true q1225
                 have p1227 : 0 ≤ (0 : Int) := (by omega)
                 have q1227 : 0 < ((rd_L1 l0 x11_1).length : Int) := od_
                 obtain ⟨ad1227, e1227, hx1227_0⟩ := Kd.at_int HR1223_0.out 0 p1227 q1227
                 have hw1227_0 := hx1227_0
                 (try rw [show ((0 : Int)).toNat = 0 from rfl] at hw1227_0)
                 (try rw [show 0 * 1 = 0 from rfl] at hw1227_0)
                 (try rw [Addr.add_zero'] at hw1227_0)
                 obtain rfl : ad1225 = ad1227 := (by injection e1227)
                 have qi1227 : (0 < (rd_L1 l0 x11_1).length) = True := eq_true (by omega)
                 (try rw [show ((0 : Int)).toNat = 0 from rfl] at hx1227_0)
                 (try rw [Addr.add_zero'] at hx1227_0)
                 (try replace hx1227_0 := (HB.out.cell (World.block_lt_of_cell? w _ hx1227_0)).trans hx1227_0)
                 replace p1227 := eq_true p1227
                 replace q1227 := eq_true q1227
                 have p1228 : 0 ≤ ((ji20) : Int) := od_
                 have q1228 : (ji20) < (l0.length : Int) := od_
                 obtain ⟨ad1228, A1228_0, c1228_0, e1228, hx1228_0, hl1228_0, hi1228_0⟩ := at_L1 HR0.out (ji20) p1228 q1228
                 have hw1228_0 := hx1228_0
                 obtain rfl : ad1223 = ad1228 := (by injection e1228)
                 (try replace hx1228_0 := (HB.out.cell (World.block_lt_of_cell? w _ hx1228_0)).trans hx1228_0)
                 have HR1228_0 := A_ hi1228_0
                 have HC1228_0 := A_ hl1228_0
                 clear hi1228_0 hl1228_0
                 replace p1228 := eq_true p1228
                 replace q1228 := eq_true q1228
                 have p1229 : 0 ≤ (0 : Int) := (by omega)
                 have q1229 : 0 < ((rd_L1 l0 (ji20)).length : Int) := od_
                 obtain ⟨ad1229, e1229, hx1229_0⟩ := Kd.at_int HR1228_0.out 0 p1229 q1229
                 have hw1229_0 := hx1229_0
                 (try rw [show ((0 : Int)).toNat = 0 from rfl] at hw1229_0)
                 (try rw [show 0 * 1 = 0 from rfl] at hw1229_0)
                 (try rw [Addr.add_zero'] at hw1229_0)
                 cases e1229
                 have qi1229 : (0 < (rd_L1 l0 (ji20)).length) = True := eq_true (by omega)
                 (try rw [show ((0 : Int)).toNat = 0 from rfl] at hx1229_0)
                 (try rw [Addr.add_zero'] at hx1229_0)
                 (try replace hx1229_0 := (HB.out.cell (World.block_lt_of_cell? w _ hx1229_0)).trans hx1229_0)
                 replace p1229 := eq_true p1229
                 replace q1229 := eq_true q1229
                 refine start_ (n := 44) (S := fun w' => w'.cell? ad1225 = some (.int .i64 (rd (rd_L1 l0 x11_1) 0)) ∧ w'.cell? ad1225 = some (.int .i64 (rd (rd_L1 l0 x11_1) 0)) ∧ w'.cell? (ad1223.add ((ji20)).toNat) = some (.slice (some ad1229) (rd_L1 l0 (ji20)).length c1228_0) ∧ w'.cell? ad1229 = some (.int .i64 (rd (rd_L1 l0 (ji20)) 0))) (ds := []) (Fn.bl 44 0) (by kernel_rfl) rfl rfl ⟨((HB.out.cell (World.block_lt_of_cell? w _ hw1225_0)).trans hw1225_0), ((HB.out.cell (World.block_lt_of_cell? w _ hw1227_0)).trans hw1227_0), ((HB.out.cell (World.block_lt_of_cell? w _ hw1228_0)).trans hw1228_0), ((HB.out.cell (World.block_lt_of_cell? w _ hw1229_0)).trans hw1229_0)⟩ (fun hHeld => ?_); refine with_tabW impl_areBlocks.tab5 impl_areBlocks.bits5 (fun HT_ HW_ => ?_)
                 generalize wr.drew = w25 at HO_5 HB HR1228_0 hx1225_0 hx1227_0 hx1228_0 hx1229_0 hHeld ⊢
                 refine pq_ 0 (some 16) (Fn.bl 44 1) HT_.out ?_
                 refine pq_ 1 (some 17) (Fn.bl 44 3) HT_.out ?_
                 refine pq_ 2 (some 18) (Fn.bl 44 7) HT_.out ?_
                 refine pq_ 3 (some 19) (Fn.bl 44 15) HT_.out ?_
                 refine pq_ 4 (some 20) (Fn.bl 44 31) HT_.out ?_
                 refine pq_ 5 (some 21) (Fn.bl 44 63) HT_.out ?_
                 refine pq_ 6 (some 22) (Fn.bl 44 127) HT_.out ?_
                 refine pq_ 7 (some 23) (Fn.bl 44 255) HT_.out ?_
                 refine pq_ 8 (some 24) (Fn.bl 44 511) HT_.out ?_
                 refine pq_ 9 (some 25) (Fn.bl 44 1023) HT_.out ?_
                 refine pq_ 10 (some 26) (Fn.bl 44 2047) HT_.out ?_
                 refine pq_ 11 (some 27) (Fn.bl 44 4095) HT_.out ?_
                 refine pq_ 12 (some 28) (Fn.bl 44 8191) HT_.out ?_
                 refine pq_ 14 (some 30) (Fn.bl 44 24575) HT_.out ?_
                 refine pq_ 15 (some 31) (Fn.bl 44 57343) HT_.out ?_
                 refine tq_ 16 (some 32) (Fn.bl 44 122879) HT_.out HW_.out hHeld ?_ (hy0 := by rintro w' ⟨s0, s1, s2, s3⟩; go_simp; with_reducible rfl)
                 refine one_ (i := 13) (N := some 29) (Fn.bl 44 131071) rfl rfl (one_of HT_.out (by kernel_rfl)) (by decide) (fun K hK => ?_)
                 refine goes_ Try.func197 (by kernel_rfl) rfl #[.slice (some ad1225) (rd_L1 l0 x11_1).length c1223_0] (by rfl) rfl rfl ta_ ?_
                 with_reducible refine (slices_Min_int_int.calls k1 _ _ (rd_L1 l0 x11_1) t1224 _ ?side1 ?side2 A13.out).mono ?_
                 (case side1 => exact tc_ HR1223_0.out)
                 (case side2 => exact HC1223_0.out)
                 rintro e w27 ⟨rfl, hb⟩
                 refine ⟨_, rfl, ?_⟩
                 have n0_ := A_ (Kd.R_below (tr_x HO_5.out) hb)
                 have n1_ := A_ (below_step tb_ hb)
                 clear HO_5
                 clear HB
                 have HO_5 := n0_
                 have HB := n1_
                 clear n0_ n1_
                 (try clear hb)
                 (try clear hb2)
                 (try clear hk)
                 (try clear hi)
                 refine hK.out _ _ ⟨((HB.out.cell (World.block_lt_of_cell? w _ hw1225_0)).trans hw1225_0), ((HB.out.cell (World.block_lt_of_cell? w _ hw1227_0)).trans hw1227_0), ((HB.out.cell (World.block_lt_of_cell? w _ hw1228_0)).trans hw1228_0), ((HB.out.cell (World.block_lt_of_cell? w _ hw1229_0)).trans hw1229_0)⟩ (fun hHeld => ?_)
                 clear hK K
                 refine norm_ (a' := ?_) ?_ ?_
                 rotate_left
                 ·
                  show Act.put _ (some 29) _ = _
                  simp only [Act.put, List.setIfInBounds_toArray, List.set_cons_zero, List.set_cons_succ, i64_w, i32_w]
                  rfl
                 refine pq_ 17 (some 33) (Fn.bl 44 262143) HT_.out ?_
                 refine pq_ 18 (some 34) (Fn.bl 44 524287) HT_.out ?_
                 refine pq_ 19 (some 35) (Fn.bl 44 1048575) HT_.out ?_
                 refine pq_ 20 (some 36) (Fn.bl 44 2097151) HT_.out ?_
                 refine pq_ 21 (some 37) (Fn.bl 44 4194303) HT_.out ?_
                 refine pq_ 22 (some 38) (Fn.bl 44 8388607) HT_.out ?_
                 refine one_ (i := 23) (N := some 39) (Fn.bl 44 16777215) rfl rfl (one_of HT_.out (by kernel_rfl)) (by decide) (fun K hK => ?_)
                 refine goes_ Try.func198 (by kernel_rfl) rfl #[.slice (some ad1225) (rd_L1 l0 x11_1).length c1223_0] (by rfl) rfl rfl ta_ ?_
                 with_reducible refine (slices_IsSorted_int_int.calls k1 _ _ (rd_L1 l0 x11_1) true _ ?side1 ?side2 A17.out).mono ?_
                 (case side1 => exact tc_ HR1223_0.out)
                 (case side2 => exact HC1223_0.out)
                 rintro e w' ⟨rfl, ⟨nd, rfl⟩⟩
                 refine ⟨_, rfl, ?_⟩
                 refine hK.out _ _ ⟨((HB.out.cell (World.block_lt_of_cell? w _ hw1225_0)).trans hw1225_0), ((HB.out.cell (World.block_lt_of_cell? w _ hw1227_0)).trans hw1227_0), ((HB.out.cell (World.block_lt_of_cell? w _ hw1228_0)).trans hw1228_0), ((HB.out.cell (World.block_lt_of_cell? w _ hw1229_0)).trans hw1229_0)⟩ (fun hHeld => ?_)
                 clear hK K
                 refine norm_ (a' := ?_) ?_ ?_
                 rotate_left
                 ·
                  show Act.put _ (some 39) _ = _
                  simp only [Act.put, List.setIfInBounds_toArray, List.set_cons_zero, List.set_cons_succ, i64_w, i32_w]
                  rfl
                 refine pq_ 24 (some 40) (Fn.bl 44 33554431) HT_.out ?_
                 refine pq_ 25 (some 41) (Fn.bl 44 67108863) HT_.out ?_
                 refine pq_ 26 (some 42) (Fn.bl 44 134217727) HT_.out ?_
                 refine pq_ 27 (some 43) (Fn.bl 44 268435455) HT_.out ?_
                 refine pq_ 28 (some 44) (Fn.bl 44 536870911) HT_.out ?_
                 refine pq_ 29 (some 45) (Fn.bl 44 1073741823) HT_.out ?_
                 refine pq_ 30 (some 46) (Fn.bl 44 2147483647) HT_.out ?_
                 refine pq_ 31 (some 47) (Fn.bl 44 4294967295) HT_.out ?_
                 refine pq_ 32 (some 48) (Fn.bl 44 8589934591) HT_.out ?_
                 refine pq_ 34 (some 50) (Fn.bl 44 25769803775) HT_.out ?_
                 refine pq_ 35 (some 51) (Fn.bl 44 60129542143) HT_.out ?_
                 refine pq_ 36 (some 52) (Fn.bl 44 128849018879) HT_.out ?_
                 refine pq_ 37 (some 53) (Fn.bl 44 266287972351) HT_.out ?_
                 refine tq_ 33 (some 49) (Fn.bl 44 274877906943) HT_.out HW_.out hHeld ?_ (hy0 := by rintro w' ⟨s0, s1, s2, s3⟩; go_simp; with_reducible rfl)
                 refine tq_ 38 (some 54) (Fn.bl 44 549755813887) HT_.out HW_.out hHeld ?_ (hy0 := by rintro w' ⟨s0, s1, s2, s3⟩; go_simp; with_reducible rfl)
                 refine pq_ 39 (some 55) (Fn.bl 44 1099511627775) HT_.out ?_
                 refine tq_ 40 (some 56) (Fn.bl 44 2199023255551) HT_.out HW_.out hHeld ?_ (hy0 := by rintro w' ⟨s0, s1, s2, s3⟩; go_simp; with_reducible rfl)
                 refine pq_ 41 (some 57) (Fn.bl 44 4398046511103) HT_.out ?_
                 refine pq_ 42 (some 58) (Fn.bl 44 8796093022207) HT_.out ?_
                 refine pq_ 43 (some 59) (Fn.bl 44 17592186044415) HT_.out ?_
                 refine done_ (done_of HT_.out (by kernel_rfl)) ?_
                 try go_wp2
                 go_ret
                 exact ⟨by first | rfl | (simp [errW_none, errW_some] <;> rfl) | (simp only [← hji20]; first | rfl | (simp [errW_none, errW_some] <;> rfl)) | (simp [*, errW_none, errW_some] <;> rfl), tb_⟩
                ·
                 rw [if_neg c24] at H
                 have c24b0 := decide_eq_false c24
                 clear c24
                 by_cases c28 : x5_1.length + (rd_L1 l0 x11_1).length < 17592186044416
                 ·
                  rw [if_pos c28] at H
                  have LMc28 := A_ c28
                  clear c28
                  obtain ⟨y1230, hy1230⟩ : ∃ y_ : List Int, y_ = (x5_1 ++ (rd_L1 l0 x11_1)) := ⟨_, rfl⟩
                  replace H : (impl_areBlocks.l0 k1 l0 true y1230 l0 (l0.length : Int) (wrap64 (x11_1 + 1))) = some r := ty_ hy1230 H
                  have Ny1230 := A_ hy1230
                  clear hy1230
                  have H' := A_ H
                  clear H
                  have p1223 : 0 ≤ (x11_1 : Int) := od_
                  have q1223 : x11_1 < (l0.length : Int) := od_
                  obtain ⟨ad1223, A1223_0, c1223_0, e1223, hx1223_0, hl1223_0, hi1223_0⟩ := at_L1 HR0.out x11_1 p1223 q1223
                  cases e1223
                  (try replace hx1223_0 := (HB.out.cell (World.block_lt_of_cell? w _ hx1223_0)).trans hx1223_0)
                  have HR1223_0 := A_ hi1223_0
                  have HC1223_0 := A_ hl1223_0
                  clear hi1223_0 hl1223_0
                  replace p1223 := eq_true p1223
                  replace q1223 := eq_true q1223
                  try go_wp2
                  have n0_ := A_ (Kd.R_drew HO_5.out)
                  have n1_ := A_ (below_drew1 HB.out)
                  clear HO_5
                  clear HB
                  have HO_5 := n0_
                  have HB := n1_
                  clear n0_ n1_
                  obtain ⟨Ao30, co30, eo30⟩ := Kd.R_slice HO_5.out
                  (first | subst eo30 | (injection eo30 with f1_ f2_ f3_; have f4_ := f1_.symm; have f5_ := f3_.symm; clear f1_ f2_ f3_; subst f4_; subst f5_))
                  have p1225 : 0 ≤ (0 : Int) := (by omega)
                  have q1225 : 0 < ((rd_L1 l0 x11_1).length : Int) := od_
                  obtain ⟨ad1225, e1225, hx1225_0⟩ := Kd.at_int HR1223_0.out 0 p1225 q1225
                  have hw1225_0 := hx1225_0
                  (try rw [show ((0 : Int)).toNat = 0 from rfl] at hw1225_0)
                  (try rw [show 0 * 1 = 0 from rfl] at hw1225_0)
                  (try rw [Addr.add_zero'] at hw1225_0)
                  cases e1225
                  have qi1225 : (0 < (rd_L1 l0 x11_1).length) = True := eq_true (by omega)
                  (try rw [show ((0 : Int)).toNat = 0 from rfl] at hx1225_0)
                  (try rw [Addr.add_zero'] at hx1225_0)
                  (try replace hx1225_0 := (HB.out.cell (World.block_lt_of_cell? w _ hx1225_0)).trans hx1225_0)
                  replace p1225 := eq_true p1225
                  replace q1225 := eq_true q1225
                  have p1227 : 0 ≤ (0 : Int) := (by omega)
                  have q1227 : 0 < ((rd_L1 l0 x11_1).length : Int) := od_
                  obtain ⟨ad1227, e1227, hx1227_0⟩ := Kd.at_int HR1223_0.out 0 p1227 q1227
                  have hw1227_0 := hx1227_0
                  (try rw [show ((0 : Int)).toNat = 0 from rfl] at hw1227_0)
                  (try rw [show 0 * 1 = 0 from rfl] at hw1227_0)
                  (try rw [Addr.add_zero'] at hw1227_0)
                  obtain rfl : ad1225 = ad1227 := (by injection e1227)
                  have qi1227 : (0 < (rd_L1 l0 x11_1).length) = True := eq_true (by omega)
                  (try rw [show ((0 : Int)).toNat = 0 from rfl] at hx1227_0)
                  (try rw [Addr.add_zero'] at hx1227_0)
                  (try replace hx1227_0 := (HB.out.cell (World.block_lt_of_cell? w _ hx1227_0)).trans hx1227_0)
                  replace p1227 := eq_true p1227
                  replace q1227 := eq_true q1227
                  have p1228 : 0 ≤ ((ji20) : Int) := od_
                  have q1228 : (ji20) < (l0.length : Int) := od_
                  obtain ⟨ad1228, A1228_0, c1228_0, e1228, hx1228_0, hl1228_0, hi1228_0⟩ := at_L1 HR0.out (ji20) p1228 q1228
                  have hw1228_0 := hx1228_0
                  obtain rfl : ad1223 = ad1228 := (by injection e1228)
                  (try replace hx1228_0 := (HB.out.cell (World.block_lt_of_cell? w _ hx1228_0)).trans hx1228_0)
                  have HR1228_0 := A_ hi1228_0
                  have HC1228_0 := A_ hl1228_0
                  clear hi1228_0 hl1228_0
                  replace p1228 := eq_true p1228
                  replace q1228 := eq_true q1228
                  have p1229 : 0 ≤ (0 : Int) := (by omega)
                  have q1229 : 0 < ((rd_L1 l0 (ji20)).length : Int) := od_
                  obtain ⟨ad1229, e1229, hx1229_0⟩ := Kd.at_int HR1228_0.out 0 p1229 q1229
                  have hw1229_0 := hx1229_0
                  (try rw [show ((0 : Int)).toNat = 0 from rfl] at hw1229_0)
                  (try rw [show 0 * 1 = 0 from rfl] at hw1229_0)
                  (try rw [Addr.add_zero'] at hw1229_0)
                  cases e1229
                  have qi1229 : (0 < (rd_L1 l0 (ji20)).length) = True := eq_true (by omega)
                  (try rw [show ((0 : Int)).toNat = 0 from rfl] at hx1229_0)
                  (try rw [Addr.add_zero'] at hx1229_0)
                  (try replace hx1229_0 := (HB.out.cell (World.block_lt_of_cell? w _ hx1229_0)).trans hx1229_0)
                  replace p1229 := eq_true p1229
                  replace q1229 := eq_true q1229
                  refine start_ (n := 44) (S := fun w' => w'.cell? ad1225 = some (.int .i64 (rd (rd_L1 l0 x11_1) 0)) ∧ w'.cell? ad1225 = some (.int .i64 (rd (rd_L1 l0 x11_1) 0)) ∧ w'.cell? (ad1223.add ((ji20)).toNat) = some (.slice (some ad1229) (rd_L1 l0 (ji20)).length c1228_0) ∧ w'.cell? ad1229 = some (.int .i64 (rd (rd_L1 l0 (ji20)) 0))) (ds := []) (Fn.bl 44 0) (by kernel_rfl) rfl rfl ⟨((HB.out.cell (World.block_lt_of_cell? w _ hw1225_0)).trans hw1225_0), ((HB.out.cell (World.block_lt_of_cell? w _ hw1227_0)).trans hw1227_0), ((HB.out.cell (World.block_lt_of_cell? w _ hw1228_0)).trans hw1228_0), ((HB.out.cell (World.block_lt_of_cell? w _ hw1229_0)).trans hw1229_0)⟩ (fun hHeld => ?_); refine with_tabW impl_areBlocks.tab5 impl_areBlocks.bits5 (fun HT_ HW_ => ?_)
                  generalize wr.drew = w29 at HO_5 HB HR1228_0 hx1225_0 hx1227_0 hx1228_0 hx1229_0 hHeld ⊢
                  refine pq_ 0 (some 16) (Fn.bl 44 1) HT_.out ?_
                  refine pq_ 1 (some 17) (Fn.bl 44 3) HT_.out ?_
                  refine pq_ 2 (some 18) (Fn.bl 44 7) HT_.out ?_
                  refine pq_ 3 (some 19) (Fn.bl 44 15) HT_.out ?_
                  refine pq_ 4 (some 20) (Fn.bl 44 31) HT_.out ?_
                  refine pq_ 5 (some 21) (Fn.bl 44 63) HT_.out ?_
                  refine pq_ 6 (some 22) (Fn.bl 44 127) HT_.out ?_
                  refine pq_ 7 (some 23) (Fn.bl 44 255) HT_.out ?_
                  refine pq_ 8 (some 24) (Fn.bl 44 511) HT_.out ?_
                  refine pq_ 9 (some 25) (Fn.bl 44 1023) HT_.out ?_
                  refine pq_ 10 (some 26) (Fn.bl 44 2047) HT_.out ?_
                  refine pq_ 11 (some 27) (Fn.bl 44 4095) HT_.out ?_
                  refine pq_ 12 (some 28) (Fn.bl 44 8191) HT_.out ?_
                  refine pq_ 14 (some 30) (Fn.bl 44 24575) HT_.out ?_
                  refine pq_ 15 (some 31) (Fn.bl 44 57343) HT_.out ?_
                  refine tq_ 16 (some 32) (Fn.bl 44 122879) HT_.out HW_.out hHeld ?_ (hy0 := by rintro w' ⟨s0, s1, s2, s3⟩; go_simp; with_reducible rfl)
                  refine one_ (i := 13) (N := some 29) (Fn.bl 44 131071) rfl rfl (one_of HT_.out (by kernel_rfl)) (by decide) (fun K hK => ?_)
                  refine goes_ Try.func197 (by kernel_rfl) rfl #[.slice (some ad1225) (rd_L1 l0 x11_1).length c1223_0] (by rfl) rfl rfl ta_ ?_
                  with_reducible refine (slices_Min_int_int.calls k1 _ _ (rd_L1 l0 x11_1) t1224 _ ?side1 ?side2 A13.out).mono ?_
                  (case side1 => exact tc_ HR1223_0.out)
                  (case side2 => exact HC1223_0.out)
                  rintro e w31 ⟨rfl, hb⟩
                  refine ⟨_, rfl, ?_⟩
                  have n0_ := A_ (Kd.R_below (tr_x HO_5.out) hb)
                  have n1_ := A_ (below_step tb_ hb)
                  clear HO_5
                  clear HB
                  have HO_5 := n0_
                  have HB := n1_
                  clear n0_ n1_
                  (try clear hb)
                  (try clear hb2)
                  (try clear hk)
                  (try clear hi)
                  refine hK.out _ _ ⟨((HB.out.cell (World.block_lt_of_cell? w _ hw1225_0)).trans hw1225_0), ((HB.out.cell (World.block_lt_of_cell? w _ hw1227_0)).trans hw1227_0), ((HB.out.cell (World.block_lt_of_cell? w _ hw1228_0)).trans hw1228_0), ((HB.out.cell (World.block_lt_of_cell? w _ hw1229_0)).trans hw1229_0)⟩ (fun hHeld => ?_)
                  clear hK K
                  refine norm_ (a' := ?_) ?_ ?_
                  rotate_left
                  ·
                   show Act.put _ (some 29) _ = _
                   simp only [Act.put, List.setIfInBounds_toArray, List.set_cons_zero, List.set_cons_succ, i64_w, i32_w]
                   rfl
                  refine pq_ 17 (some 33) (Fn.bl 44 262143) HT_.out ?_
                  refine pq_ 18 (some 34) (Fn.bl 44 524287) HT_.out ?_
                  refine pq_ 19 (some 35) (Fn.bl 44 1048575) HT_.out ?_
                  refine pq_ 20 (some 36) (Fn.bl 44 2097151) HT_.out ?_
                  refine pq_ 21 (some 37) (Fn.bl 44 4194303) HT_.out ?_
                  refine pq_ 22 (some 38) (Fn.bl 44 8388607) HT_.out ?_
                  refine one_ (i := 23) (N := some 39) (Fn.bl 44 16777215) rfl rfl (one_of HT_.out (by kernel_rfl)) (by decide) (fun K hK => ?_)
                  refine goes_ Try.func198 (by kernel_rfl) rfl #[.slice (some ad1225) (rd_L1 l0 x11_1).length c1223_0] (by rfl) rfl rfl ta_ ?_
                  with_reducible refine (slices_IsSorted_int_int.calls k1 _ _ (rd_L1 l0 x11_1) true _ ?side1 ?side2 A17.out).mono ?_
                  (case side1 => exact tc_ HR1223_0.out)
                  (case side2 => exact HC1223_0.out)
                  rintro e w' ⟨rfl, ⟨nd, rfl⟩⟩
                  refine ⟨_, rfl, ?_⟩
                  refine hK.out _ _ ⟨((HB.out.cell (World.block_lt_of_cell? w _ hw1225_0)).trans hw1225_0), ((HB.out.cell (World.block_lt_of_cell? w _ hw1227_0)).trans hw1227_0), ((HB.out.cell (World.block_lt_of_cell? w _ hw1228_0)).trans hw1228_0), ((HB.out.cell (World.block_lt_of_cell? w _ hw1229_0)).trans hw1229_0)⟩ (fun hHeld => ?_)
                  clear hK K
                  refine norm_ (a' := ?_) ?_ ?_
                  rotate_left
                  ·
                   show Act.put _ (some 39) _ = _
                   simp only [Act.put, List.setIfInBounds_toArray, List.set_cons_zero, List.set_cons_succ, i64_w, i32_w]
                   rfl
                  refine pq_ 24 (some 40) (Fn.bl 44 33554431) HT_.out ?_
                  refine pq_ 25 (some 41) (Fn.bl 44 67108863) HT_.out ?_
                  refine pq_ 26 (some 42) (Fn.bl 44 134217727) HT_.out ?_
                  refine pq_ 27 (some 43) (Fn.bl 44 268435455) HT_.out ?_
                  refine pq_ 28 (some 44) (Fn.bl 44 536870911) HT_.out ?_
                  refine pq_ 29 (some 45) (Fn.bl 44 1073741823) HT_.out ?_
                  refine pq_ 30 (some 46) (Fn.bl 44 2147483647) HT_.out ?_
                  refine pq_ 31 (some 47) (Fn.bl 44 4294967295) HT_.out ?_
                  refine pq_ 32 (some 48) (Fn.bl 44 8589934591) HT_.out ?_
                  refine pq_ 34 (some 50) (Fn.bl 44 25769803775) HT_.out ?_
                  refine pq_ 35 (some 51) (Fn.bl 44 60129542143) HT_.out ?_
                  refine pq_ 36 (some 52) (Fn.bl 44 128849018879) HT_.out ?_
                  refine pq_ 37 (some 53) (Fn.bl 44 266287972351) HT_.out ?_
                  refine tq_ 33 (some 49) (Fn.bl 44 274877906943) HT_.out HW_.out hHeld ?_ (hy0 := by rintro w' ⟨s0, s1, s2, s3⟩; go_simp; with_reducible rfl)
                  refine tq_ 38 (some 54) (Fn.bl 44 549755813887) HT_.out HW_.out hHeld ?_ (hy0 := by rintro w' ⟨s0, s1, s2, s3⟩; go_simp; with_reducible rfl)
                  refine pq_ 39 (some 55) (Fn.bl 44 1099511627775) HT_.out ?_
                  refine tq_ 40 (some 56) (Fn.bl 44 2199023255551) HT_.out HW_.out hHeld ?_ (hy0 := by rintro w' ⟨s0, s1, s2, s3⟩; go_simp; with_reducible rfl)
                  refine pq_ 41 (some 57) (Fn.bl 44 4398046511103) HT_.out ?_
                  refine pq_ 42 (some 58) (Fn.bl 44 8796093022207) HT_.out ?_
                  refine pq_ 43 (some 59) (Fn.bl 44 17592186044415) HT_.out ?_
                  refine done_ (done_of HT_.out (by kernel_rfl)) ?_
                  try go_wp2_with (first | ((with_reducible refine gate_builtin (b := .append) (xs := #[.tmp 60, .tmp 61]) rfl ?_); (try (refine gate_guard (by rfl) ?_; dsimp only)); at_builtin; refine Kd.R_append_rows (Kd.int .i64) (w0 := w) w.heap.size rfl (.tmp 60) (.tmp 61) 22 3 (.int .i64 0) 8 rfl Try.underlying22 info3 rfl (by decide) (by omega) (.slice Ao30 x5_1.length co30) x5_1 (rd_L1 l0 x11_1) _ _ _ (fun _ => True) (fun _ => False) rfl rfl ?aO ?aR (fun _ _ h => h) (fun _ h => h.elim) ?aF ?aB ?aS ?aL ?_; (case aR => repeat (first | exact (Kd.C_below HR1223_0.out tb_) | (with_reducible refine Kd.C_alloc ?_ _) | (with_reducible refine Kd.C_drewN ?_ _) | (with_reducible refine Kd.C_drew ?_))); (case aB => exact tb_); (case aF => exact (fun _ _ => trivial)); (case aO => exact (tr_x HO_5.out)); (case aS => exact (below_size tb_)); (case aL => have := LMc28.out; omega); intro v1231 w32 ho hb hg hat; rw [← Ny1230.out] at ho; have n0_ := A_ (hb); have n1_ := A_ (ho); clear HB; clear HO_5; have HB := n0_; have HO1232 := n1_; clear n0_ n1_; clear ho hb hg hat))
                  go_roundg k1
                  case measure => have := HK1.out; omega
                  case rel => exact ⟨(y1230), (wrap64 (x11_1 + 1)), tf_, H', ⟨by have := HK1.out; omega⟩, ⟨tr_x HO1232.out⟩, ⟨tb_⟩⟩
                 ·
                  rw [if_neg c28] at H
                  exact absurd H (by simp)
               ·
                rw [if_neg c23] at H
                exact absurd H (by simp)
              ·
               rw [if_neg c22] at H
               exact absurd H (by simp)
             ·
              rw [if_neg c21] at H
              exact absurd H (by simp)
            ·
             rw [if_neg c19] at H
             have c19b0 := decide_eq_false c19
             clear c19
             by_cases c33 : x5_1.length + (rd_L1 l0 x11_1).length < 17592186044416
             ·
              rw [if_pos c33] at H
              have LMc33 := A_ c33
              clear c33
              obtain ⟨y1233, hy1233⟩ : ∃ y_ : List Int, y_ = (x5_1 ++ (rd_L1 l0 x11_1)) := ⟨_, rfl⟩
              replace H : (impl_areBlocks.l0 k1 l0 true y1233 l0 (l0.length : Int) (wrap64 (x11_1 + 1))) = some r := ty_ hy1233 H
              have Ny1233 := A_ hy1233
              clear hy1233
              have H' := A_ H
              clear H
              have p1223 : 0 ≤ (x11_1 : Int) := od_
              have q1223 : x11_1 < (l0.length : Int) := od_
              obtain ⟨ad1223, A1223_0, c1223_0, e1223, hx1223_0, hl1223_0, hi1223_0⟩ := at_L1 HR0.out x11_1 p1223 q1223
              cases e1223
              (try replace hx1223_0 := (HB.out.cell (World.block_lt_of_cell? w _ hx1223_0)).trans hx1223_0)
              have HR1223_0 := A_ hi1223_0
              have HC1223_0 := A_ hl1223_0
              clear hi1223_0 hl1223_0
              replace p1223 := eq_true p1223
              replace q1223 := eq_true q1223
              try go_wp2
              have n0_ := A_ (Kd.R_drew HO_5.out)
              have n1_ := A_ (below_drew1 HB.out)
              clear HO_5
              clear HB
              have HO_5 := n0_
              have HB := n1_
              clear n0_ n1_
              obtain ⟨Ao35, co35, eo35⟩ := Kd.R_slice HO_5.out
              (first | subst eo35 | (injection eo35 with f1_ f2_ f3_; have f4_ := f1_.symm; have f5_ := f3_.symm; clear f1_ f2_ f3_; subst f4_; subst f5_))
              have p1225 : 0 ≤ (0 : Int) := (by omega)
              have q1225 : 0 < ((rd_L1 l0 x11_1).length : Int) := od_
              obtain ⟨ad1225, e1225, hx1225_0⟩ := Kd.at_int HR1223_0.out 0 p1225 q1225
              have hw1225_0 := hx1225_0
              (try rw [show ((0 : Int)).toNat = 0 from rfl] at hw1225_0)
              (try rw [show 0 * 1 = 0 from rfl] at hw1225_0)
              (try rw [Addr.add_zero'] at hw1225_0)
              cases e1225
              have qi1225 : (0 < (rd_L1 l0 x11_1).length) = True := eq_true (by omega)
              (try rw [show ((0 : Int)).toNat = 0 from rfl] at hx1225_0)
              (try rw [Addr.add_zero'] at hx1225_0)
              (try replace hx1225_0 := (HB.out.cell (World.block_lt_of_cell? w _ hx1225_0)).trans hx1225_0)
              replace p1225 := eq_true p1225
              replace q1225 := eq_true q1225
              refine start_ (n := 44) (S := fun w' => w'.cell? ad1225 = some (.int .i64 (rd (rd_L1 l0 x11_1) 0))) (ds := []) (Fn.bl 44 0) (by kernel_rfl) rfl rfl (((HB.out.cell (World.block_lt_of_cell? w _ hw1225_0)).trans hw1225_0)) (fun hHeld => ?_); refine with_tabW impl_areBlocks.tab5 impl_areBlocks.bits5 (fun HT_ HW_ => ?_)
              generalize wr.drew = w34 at HO_5 HB hx1225_0 hHeld ⊢
              refine pq_ 0 (some 16) (Fn.bl 44 1) HT_.out ?_
              refine pq_ 1 (some 17) (Fn.bl 44 3) HT_.out ?_
              refine pq_ 2 (some 18) (Fn.bl 44 7) HT_.out ?_
              refine pq_ 3 (some 19) (Fn.bl 44 15) HT_.out ?_
              refine pq_ 4 (some 20) (Fn.bl 44 31) HT_.out ?_
              refine pq_ 5 (some 21) (Fn.bl 44 63) HT_.out ?_
              refine pq_ 6 (some 22) (Fn.bl 44 127) HT_.out ?_
              refine pq_ 7 (some 23) (Fn.bl 44 255) HT_.out ?_
              refine pq_ 8 (some 24) (Fn.bl 44 511) HT_.out ?_
              refine pq_ 9 (some 25) (Fn.bl 44 1023) HT_.out ?_
              refine pq_ 10 (some 26) (Fn.bl 44 2047) HT_.out ?_
              refine pq_ 11 (some 27) (Fn.bl 44 4095) HT_.out ?_
              refine pq_ 12 (some 28) (Fn.bl 44 8191) HT_.out ?_
              refine pq_ 14 (some 30) (Fn.bl 44 24575) HT_.out ?_
              refine pq_ 15 (some 31) (Fn.bl 44 57343) HT_.out ?_
              refine take_ (i := 16) (N := some 32) (v := ?_) (a' := ?_) (Fn.bl 44 122879) rfl rfl (take_ofW HT_.out HW_.out (by kernel_rfl)) (fun _ _ _ h => h) (Or.inl ⟨by rfl, ?_⟩) hHeld ?_ ?_
              rotate_left
              ·
               intro w' s0
               go_simp
               with_reducible rfl
              rotate_left
              ·
               simp only [Act.put, List.setIfInBounds_toArray, List.set_cons_zero, List.set_cons_succ, i64_w, i32_w]
               rfl
              refine one_ (i := 13) (N := some 29) (Fn.bl 44 131071) rfl rfl (one_of HT_.out (by kernel_rfl)) (by decide) (fun K hK => ?_)
              refine goes_ Try.func197 (by kernel_rfl) rfl #[.slice (some ad1225) (rd_L1 l0 x11_1).length c1223_0] (by rfl) rfl rfl ta_ ?_
              with_reducible refine (slices_Min_int_int.calls k1 _ _ (rd_L1 l0 x11_1) t1224 _ ?side1 ?side2 A13.out).mono ?_
              (case side1 => exact tc_ HR1223_0.out)
              (case side2 => exact HC1223_0.out)
              rintro e w36 ⟨rfl, hb⟩
              refine ⟨_, rfl, ?_⟩
              have n0_ := A_ (Kd.R_below (tr_x HO_5.out) hb)
              have n1_ := A_ (below_step tb_ hb)
              clear HO_5
              clear HB
              have HO_5 := n0_
              have HB := n1_
              clear n0_ n1_
              (try clear hb)
              (try clear hb2)
              (try clear hk)
              (try clear hi)
              refine hK.out _ _ (((HB.out.cell (World.block_lt_of_cell? w _ hw1225_0)).trans hw1225_0)) (fun hHeld => ?_)
              clear hK K
              refine norm_ (a' := ?_) ?_ ?_
              rotate_left
              ·
               show Act.put _ (some 29) _ = _
               simp only [Act.put, List.setIfInBounds_toArray, List.set_cons_zero, List.set_cons_succ, i64_w, i32_w]
               rfl
              refine pq_ 17 (some 33) (Fn.bl 44 262143) HT_.out ?_
              refine pq_ 18 (some 34) (Fn.bl 44 524287) HT_.out ?_
              refine pq_ 19 (some 35) (Fn.bl 44 1048575) HT_.out ?_
              refine pq_ 20 (some 36) (Fn.bl 44 2097151) HT_.out ?_
              refine pq_ 21 (some 37) (Fn.bl 44 4194303) HT_.out ?_
              refine pq_ 22 (some 38) (Fn.bl 44 8388607) HT_.out ?_
              refine one_ (i := 23) (N := some 39) (Fn.bl 44 16777215) rfl rfl (one_of HT_.out (by kernel_rfl)) (by decide) (fun K hK => ?_)
              refine goes_ Try.func198 (by kernel_rfl) rfl #[.slice (some ad1225) (rd_L1 l0 x11_1).length c1223_0] (by rfl) rfl rfl ta_ ?_
              with_reducible refine (slices_IsSorted_int_int.calls k1 _ _ (rd_L1 l0 x11_1) true _ ?side1 ?side2 A17.out).mono ?_
              (case side1 => exact tc_ HR1223_0.out)
              (case side2 => exact HC1223_0.out)
              rintro e w' ⟨rfl, ⟨nd, rfl⟩⟩
              refine ⟨_, rfl, ?_⟩
              refine hK.out _ _ (((HB.out.cell (World.block_lt_of_cell? w _ hw1225_0)).trans hw1225_0)) (fun hHeld => ?_)
              clear hK K
              refine norm_ (a' := ?_) ?_ ?_
              rotate_left
              ·
               show Act.put _ (some 39) _ = _
               simp only [Act.put, List.setIfInBounds_toArray, List.set_cons_zero, List.set_cons_succ, i64_w, i32_w]
               rfl
              refine pq_ 24 (some 40) (Fn.bl 44 33554431) HT_.out ?_
              refine pq_ 25 (some 41) (Fn.bl 44 67108863) HT_.out ?_
              refine pq_ 26 (some 42) (Fn.bl 44 134217727) HT_.out ?_
              refine pq_ 27 (some 43) (Fn.bl 44 268435455) HT_.out ?_
              refine pq_ 28 (some 44) (Fn.bl 44 536870911) HT_.out ?_
              refine pq_ 29 (some 45) (Fn.bl 44 1073741823) HT_.out ?_
              refine pq_ 30 (some 46) (Fn.bl 44 2147483647) HT_.out ?_
              refine pu_ 31 (some 47) (Fn.bl 44 4294967295) HT_.out ?_
              refine pu_ 32 (some 48) (Fn.bl 44 8589934591) HT_.out ?_
              refine pu_ 33 (some 49) (Fn.bl 44 17179869183) HT_.out ?_
              refine pu_ 34 (some 50) (Fn.bl 44 34359738367) HT_.out ?_
              refine pu_ 35 (some 51) (Fn.bl 44 68719476735) HT_.out ?_
              refine pu_ 36 (some 52) (Fn.bl 44 137438953471) HT_.out ?_
              refine pu_ 37 (some 53) (Fn.bl 44 274877906943) HT_.out ?_
              refine pu_ 38 (some 54) (Fn.bl 44 549755813887) HT_.out ?_
              refine pu_ 39 (some 55) (Fn.bl 44 1099511627775) HT_.out ?_
              refine pu_ 40 (some 56) (Fn.bl 44 2199023255551) HT_.out ?_
              refine pu_ 41 (some 57) (Fn.bl 44 4398046511103) HT_.out ?_
              refine pq_ 42 (some 58) (Fn.bl 44 8796093022207) HT_.out ?_
              refine pq_ 43 (some 59) (Fn.bl 44 17592186044415) HT_.out ?_
              refine done_ (done_of HT_.out (by kernel_rfl)) ?_
              try go_wp2_with (first | ((with_reducible refine gate_builtin (b := .append) (xs := #[.tmp 60, .tmp 61]) rfl ?_); (try (refine gate_guard (by rfl) ?_; dsimp only)); at_builtin; refine Kd.R_append_rows (Kd.int .i64) (w0 := w) w.heap.size rfl (.tmp 60) (.tmp 61) 22 3 (.int .i64 0) 8 rfl Try.underlying22 info3 rfl (by decide) (by omega) (.slice Ao35 x5_1.length co35) x5_1 (rd_L1 l0 x11_1) _ _ _ (fun _ => True) (fun _ => False) rfl rfl ?aO ?aR (fun _ _ h => h) (fun _ h => h.elim) ?aF ?aB ?aS ?aL ?_; (case aR => repeat (first | exact (Kd.C_below HR1223_0.out tb_) | (with_reducible refine Kd.C_alloc ?_ _) | (with_reducible refine Kd.C_drewN ?_ _) | (with_reducible refine Kd.C_drew ?_))); (case aB => exact tb_); (case aF => exact (fun _ _ => trivial)); (case aO => exact (tr_x HO_5.out)); (case aS => exact (below_size tb_)); (case aL => have := LMc33.out; omega); intro v1234 w37 ho hb hg hat; rw [← Ny1233.out] at ho; have n0_ := A_ (hb); have n1_ := A_ (ho); clear HB; clear HO_5; have HB := n0_; have HO1235 := n1_; clear n0_ n1_; clear ho hb hg hat))
              go_roundg k1
              case measure => have := HK1.out; omega
              case rel => exact ⟨(y1233), (wrap64 (x11_1 + 1)), tf_, H', ⟨by have := HK1.out; omega⟩, ⟨tr_x HO1235.out⟩, ⟨tb_⟩⟩
             ·
              rw [if_neg c33] at H
              exact absurd H (by simp)
           ·
            replace c18 := Bool.eq_false_iff.mpr c18
            subst c18
            have H1 : (some false) = some r := by rw [if_neg (show ¬ (false = true) by decide)] at H; exact H
            clear H
            have H := H1
            clear H1
            obtain rfl := Option.some.inj H
            have p1223 : 0 ≤ (x11_1 : Int) := od_
            have q1223 : x11_1 < (l0.length : Int) := od_
            obtain ⟨ad1223, A1223_0, c1223_0, e1223, hx1223_0, hl1223_0, hi1223_0⟩ := at_L1 HR0.out x11_1 p1223 q1223
            cases e1223
            (try replace hx1223_0 := (HB.out.cell (World.block_lt_of_cell? w _ hx1223_0)).trans hx1223_0)
            have HR1223_0 := A_ hi1223_0
            have HC1223_0 := A_ hl1223_0
            clear hi1223_0 hl1223_0
            replace p1223 := eq_true p1223
            replace q1223 := eq_true q1223
            try go_wp2
            have n0_ := A_ (Kd.R_drew HO_5.out)
            have n1_ := A_ (below_drew1 HB.out)
            clear HO_5
            clear HB
            have HO_5 := n0_
            have HB := n1_
            clear n0_ n1_
            obtain ⟨Ao39, co39, eo39⟩ := Kd.R_slice HO_5.out
            (first | subst eo39 | (injection eo39 with f1_ f2_ f3_; have f4_ := f1_.symm; have f5_ := f3_.symm; clear f1_ f2_ f3_; subst f4_; subst f5_))
            have p1225 : 0 ≤ (0 : Int) := (by omega)
            have q1225 : 0 < ((rd_L1 l0 x11_1).length : Int) := od_
            obtain ⟨ad1225, e1225, hx1225_0⟩ := Kd.at_int HR1223_0.out 0 p1225 q1225
            have hw1225_0 := hx1225_0
            (try rw [show ((0 : Int)).toNat = 0 from rfl] at hw1225_0)
            (try rw [show 0 * 1 = 0 from rfl] at hw1225_0)
            (try rw [Addr.add_zero'] at hw1225_0)
            cases e1225
            have qi1225 : (0 < (rd_L1 l0 x11_1).length) = True := eq_true (by omega)
            (try rw [show ((0 : Int)).toNat = 0 from rfl] at hx1225_0)
            (try rw [Addr.add_zero'] at hx1225_0)
            (try replace hx1225_0 := (HB.out.cell (World.block_lt_of_cell? w _ hx1225_0)).trans hx1225_0)
            replace p1225 := eq_true p1225
            replace q1225 := eq_true q1225
            refine start_ (n := 44) (S := fun w' => w'.cell? ad1225 = some (.int .i64 (rd (rd_L1 l0 x11_1) 0))) (ds := []) (Fn.bl 44 0) (by kernel_rfl) rfl rfl (((HB.out.cell (World.block_lt_of_cell? w _ hw1225_0)).trans hw1225_0)) (fun hHeld => ?_); refine with_tabW impl_areBlocks.tab5 impl_areBlocks.bits5 (fun HT_ HW_ => ?_)
            generalize wr.drew = w38 at HO_5 HB hx1225_0 hHeld ⊢
            refine pq_ 0 (some 16) (Fn.bl 44 1) HT_.out ?_
            refine pq_ 1 (some 17) (Fn.bl 44 3) HT_.out ?_
            refine pq_ 2 (some 18) (Fn.bl 44 7) HT_.out ?_
            refine pq_ 3 (some 19) (Fn.bl 44 15) HT_.out ?_
            refine pq_ 4 (some 20) (Fn.bl 44 31) HT_.out ?_
            refine pq_ 5 (some 21) (Fn.bl 44 63) HT_.out ?_
            refine pq_ 6 (some 22) (Fn.bl 44 127) HT_.out ?_
            refine pq_ 7 (some 23) (Fn.bl 44 255) HT_.out ?_
            refine pq_ 8 (some 24) (Fn.bl 44 511) HT_.out ?_
            refine pq_ 9 (some 25) (Fn.bl 44 1023) HT_.out ?_
            refine pq_ 10 (some 26) (Fn.bl 44 2047) HT_.out ?_
            refine pq_ 11 (some 27) (Fn.bl 44 4095) HT_.out ?_
            refine pq_ 12 (some 28) (Fn.bl 44 8191) HT_.out ?_
            refine pq_ 14 (some 30) (Fn.bl 44 24575) HT_.out ?_
            refine pq_ 15 (some 31) (Fn.bl 44 57343) HT_.out ?_
            refine take_ (i := 16) (N := some 32) (v := ?_) (a' := ?_) (Fn.bl 44 122879) rfl rfl (take_ofW HT_.out HW_.out (by kernel_rfl)) (fun _ _ _ h => h) (Or.inl ⟨by rfl, ?_⟩) hHeld ?_ ?_
            rotate_left
            ·
             intro w' s0
             go_simp
             with_reducible rfl
            rotate_left
            ·
             simp only [Act.put, List.setIfInBounds_toArray, List.set_cons_zero, List.set_cons_succ, i64_w, i32_w]
             rfl
            refine one_ (i := 13) (N := some 29) (Fn.bl 44 131071) rfl rfl (one_of HT_.out (by kernel_rfl)) (by decide) (fun K hK => ?_)
            refine goes_ Try.func197 (by kernel_rfl) rfl #[.slice (some ad1225) (rd_L1 l0 x11_1).length c1223_0] (by rfl) rfl rfl ta_ ?_
            with_reducible refine (slices_Min_int_int.calls k1 _ _ (rd_L1 l0 x11_1) t1224 _ ?side1 ?side2 A13.out).mono ?_
            (case side1 => exact tc_ HR1223_0.out)
            (case side2 => exact HC1223_0.out)
            rintro e w40 ⟨rfl, hb⟩
            refine ⟨_, rfl, ?_⟩
            have n0_ := A_ (Kd.R_below (tr_x HO_5.out) hb)
            have n1_ := A_ (below_step tb_ hb)
            clear HO_5
            clear HB
            have HO_5 := n0_
            have HB := n1_
            clear n0_ n1_
            (try clear hb)
            (try clear hb2)
            (try clear hk)
            (try clear hi)
            refine hK.out _ _ (((HB.out.cell (World.block_lt_of_cell? w _ hw1225_0)).trans hw1225_0)) (fun hHeld => ?_)
            clear hK K
            refine norm_ (a' := ?_) ?_ ?_
            rotate_left
            ·
             show Act.put _ (some 29) _ = _
             simp only [Act.put, List.setIfInBounds_toArray, List.set_cons_zero, List.set_cons_succ, i64_w, i32_w]
             rfl
            refine pq_ 17 (some 33) (Fn.bl 44 262143) HT_.out ?_
            refine pq_ 18 (some 34) (Fn.bl 44 524287) HT_.out ?_
            refine pq_ 19 (some 35) (Fn.bl 44 1048575) HT_.out ?_
            refine pq_ 20 (some 36) (Fn.bl 44 2097151) HT_.out ?_
            refine pq_ 21 (some 37) (Fn.bl 44 4194303) HT_.out ?_
            refine pq_ 22 (some 38) (Fn.bl 44 8388607) HT_.out ?_
            refine one_ (i := 23) (N := some 39) (Fn.bl 44 16777215) rfl rfl (one_of HT_.out (by kernel_rfl)) (by decide) (fun K hK => ?_)
            refine goes_ Try.func198 (by kernel_rfl) rfl #[.slice (some ad1225) (rd_L1 l0 x11_1).length c1223_0] (by rfl) rfl rfl ta_ ?_
            with_reducible refine (slices_IsSorted_int_int.calls k1 _ _ (rd_L1 l0 x11_1) false _ ?side1 ?side2 A17.out).mono ?_
            (case side1 => exact tc_ HR1223_0.out)
            (case side2 => exact HC1223_0.out)
            rintro e w' ⟨rfl, ⟨nd, rfl⟩⟩
            refine ⟨_, rfl, ?_⟩
            refine hK.out _ _ (((HB.out.cell (World.block_lt_of_cell? w _ hw1225_0)).trans hw1225_0)) (fun hHeld => ?_)
            clear hK K
            refine norm_ (a' := ?_) ?_ ?_
            rotate_left
            ·
             show Act.put _ (some 39) _ = _
             simp only [Act.put, List.setIfInBounds_toArray, List.set_cons_zero, List.set_cons_succ, i64_w, i32_w]
             rfl
            refine pq_ 24 (some 40) (Fn.bl 44 33554431) HT_.out ?_
            refine pq_ 25 (some 41) (Fn.bl 44 67108863) HT_.out ?_
            refine pq_ 26 (some 42) (Fn.bl 44 134217727) HT_.out ?_
            refine pq_ 27 (some 43) (Fn.bl 44 268435455) HT_.out ?_
            refine pu_ 28 (some 44) (Fn.bl 44 536870911) HT_.out ?_
            refine pu_ 29 (some 45) (Fn.bl 44 1073741823) HT_.out ?_
            refine pu_ 30 (some 46) (Fn.bl 44 2147483647) HT_.out ?_
            refine pu_ 31 (some 47) (Fn.bl 44 4294967295) HT_.out ?_
            refine pu_ 32 (some 48) (Fn.bl 44 8589934591) HT_.out ?_
            refine pu_ 33 (some 49) (Fn.bl 44 17179869183) HT_.out ?_
            refine pu_ 34 (some 50) (Fn.bl 44 34359738367) HT_.out ?_
            refine pu_ 35 (some 51) (Fn.bl 44 68719476735) HT_.out ?_
            refine pu_ 36 (some 52) (Fn.bl 44 137438953471) HT_.out ?_
            refine pu_ 37 (some 53) (Fn.bl 44 274877906943) HT_.out ?_
            refine pu_ 38 (some 54) (Fn.bl 44 549755813887) HT_.out ?_
            refine pu_ 39 (some 55) (Fn.bl 44 1099511627775) HT_.out ?_
            refine pu_ 40 (some 56) (Fn.bl 44 2199023255551) HT_.out ?_
            refine pu_ 41 (some 57) (Fn.bl 44 4398046511103) HT_.out ?_
            refine pu_ 42 (some 58) (Fn.bl 44 8796093022207) HT_.out ?_
            refine pq_ 43 (some 59) (Fn.bl 44 17592186044415) HT_.out ?_
            refine done_ (done_of HT_.out (by kernel_rfl)) ?_
            try go_wp2
            go_ret
            exact ⟨te_, tb_⟩
          ·
           replace c16 := Bool.eq_false_iff.mpr c16
           subst c16
           have H1 : (if x11_1 > 0 then (if 0 ≤ (wrap64 (x11_1 - 1)) then (if (wrap64 (x11_1 - 1)) < (l0.length : Int) then (if 0 < ((rd_L1 l0 (wrap64 (x11_1 - 1))).length : Int) then (if (rd (rd_L1 l0 x11_1) 0) ≤ (rd (rd_L1 l0 (wrap64 (x11_1 - 1))) 0) then (some false) else (if x5_1.length + (rd_L1 l0 x11_1).length < 17592186044416 then (impl_areBlocks.l0 k1 l0 false (x5_1 ++ (rd_L1 l0 x11_1)) l0 (l0.length : Int) (wrap64 (x11_1 + 1))) else (none))) else (none)) else (none)) else (none)) else (if x5_1.length + (rd_L1 l0 x11_1).length < 17592186044416 then (impl_areBlocks.l0 k1 l0 false (x5_1 ++ (rd_L1 l0 x11_1)) l0 (l0.length : Int) (wrap64 (x11_1 + 1))) else (none))) = some r := by rw [if_neg (show ¬ (false = true) by decide)] at H; exact H
           clear H
           have H := H1
           clear H1
           by_cases c41 : x11_1 > 0
           ·
            rw [if_pos c41] at H
            have c41b0 := decide_eq_true c41
            clear c41
            obtain ⟨ji42, hji42⟩ : ∃ j_ : Int, (wrap64 (x11_1 - 1)) = j_ := ⟨_, rfl⟩
            replace H : (if 0 ≤ (ji42) then (if (ji42) < (l0.length : Int) then (if 0 < ((rd_L1 l0 (ji42)).length : Int) then (if (rd (rd_L1 l0 x11_1) 0) ≤ (rd (rd_L1 l0 (ji42)) 0) then (some false) else (if x5_1.length + (rd_L1 l0 x11_1).length < 17592186044416 then (impl_areBlocks.l0 k1 l0 false (x5_1 ++ (rd_L1 l0 x11_1)) l0 (l0.length : Int) (wrap64 (x11_1 + 1))) else (none))) else (none)) else (none)) else (none)) = some r := by first | (rw [hji42] at H; exact H) | (simp only [hji42] at H ⊢; exact H)
            (try rw [hji42] at A13)
            have hji42w : (IntKind.i64.wrap (x11_1 - 1)) = ji42 := (i64_w _).trans hji42
            by_cases c43 : 0 ≤ (ji42)
            ·
             rw [if_pos c43] at H
             have c43b0 := decide_eq_true c43
             clear c43
             by_cases c44 : (ji42) < (l0.length : Int)
             ·
              rw [if_pos c44] at H
              have c44b0 := decide_eq_true c44
              clear c44
              by_cases c45 : 0 < ((rd_L1 l0 (ji42)).length : Int)
              ·
               rw [if_pos c45] at H
               have c45b0 := decide_eq_true c45
               have c45b1 : decide (0 < (rd_L1 l0 (ji42)).length) = true := decide_eq_true (by omega)
               clear c45
               by_cases c46 : (rd (rd_L1 l0 x11_1) 0) ≤ (rd (rd_L1 l0 (ji42)) 0)
               ·
                rw [if_pos c46] at H
                have c46b0 := decide_eq_true c46
                clear c46
                obtain rfl := Option.some.inj H
                have p1223 : 0 ≤ (x11_1 : Int) := od_
                have q1223 : x11_1 < (l0.length : Int) := od_
                obtain ⟨ad1223, A1223_0, c1223_0, e1223, hx1223_0, hl1223_0, hi1223_0⟩ := at_L1 HR0.out x11_1 p1223 q1223
                cases e1223
                (try replace hx1223_0 := (HB.out.cell (World.block_lt_of_cell? w _ hx1223_0)).trans hx1223_0)
                have HR1223_0 := A_ hi1223_0
                have HC1223_0 := A_ hl1223_0
                clear hi1223_0 hl1223_0
                replace p1223 := eq_true p1223
                replace q1223 := eq_true q1223
                try go_wp2
                have n0_ := A_ (Kd.R_drew HO_5.out)
                have n1_ := A_ (below_drew1 HB.out)
                clear HO_5
                clear HB
                have HO_5 := n0_
                have HB := n1_
                clear n0_ n1_
                obtain ⟨Ao48, co48, eo48⟩ := Kd.R_slice HO_5.out
                (first | subst eo48 | (injection eo48 with f1_ f2_ f3_; have f4_ := f1_.symm; have f5_ := f3_.symm; clear f1_ f2_ f3_; subst f4_; subst f5_))
                have p1225 : 0 ≤ (0 : Int) := (by omega)
                have q1225 : 0 < ((rd_L1 l0 x11_1).length : Int) := od_
                obtain ⟨ad1225, e1225, hx1225_0⟩ := Kd.at_int HR1223_0.out 0 p1225 q1225
                have hw1225_0 := hx1225_0
                (try rw [show ((0 : Int)).toNat = 0 from rfl] at hw1225_0)
                (try rw [show 0 * 1 = 0 from rfl] at hw1225_0)
                (try rw [Addr.add_zero'] at hw1225_0)
                cases e1225
                have qi1225 : (0 < (rd_L1 l0 x11_1).length) = True := eq_true (by omega)
                (try rw [show ((0 : Int)).toNat = 0 from rfl] at hx1225_0)
                (try rw [Addr.add_zero'] at hx1225_0)
                (try replace hx1225_0 := (HB.out.cell (World.block_lt_of_cell? w _ hx1225_0)).trans hx1225_0)
                replace p1225 := eq_true p1225
                replace q1225 := eq_true q1225
                have p1236 : 0 ≤ (0 : Int) := (by omega)
                have q1236 : 0 < ((rd_L1 l0 x11_1).length : Int) := od_
                obtain ⟨ad1236, e1236, hx1236_0⟩ := Kd.at_int HR1223_0.out 0 p1236 q1236
                have hw1236_0 := hx1236_0
                (try rw [show ((0 : Int)).toNat = 0 from rfl] at hw1236_0)
                (try rw [show 0 * 1 = 0 from rfl] at hw1236_0)
                (try rw [Addr.add_zero'] at hw1236_0)
                obtain rfl : ad1225 = ad1236 := (by injection e1236)
                have qi1236 : (0 < (rd_L1 l0 x11_1).length) = True := eq_true (by omega)
                (try rw [show ((0 : Int)).toNat = 0 from rfl] at hx1236_0)
                (try rw [Addr.add_zero'] at hx1236_0)
                (try replace hx1236_0 := (HB.out.cell (World.block_lt_of_cell? w _ hx1236_0)).trans hx1236_0)
                replace p1236 := eq_true p1236
                replace q1236 := eq_true q1236
                have p1237 : 0 ≤ ((ji42) : Int) := od_
                have q1237 : (ji42) < (l0.length : Int) := od_
                obtain ⟨ad1237, A1237_0, c1237_0, e1237, hx1237_0, hl1237_0, hi1237_0⟩ := at_L1 HR0.out (ji42) p1237 q1237
                have hw1237_0 := hx1237_0
                obtain rfl : ad1223 = ad1237 := (by injection e1237)
                (try replace hx1237_0 := (HB.out.cell (World.block_lt_of_cell? w _ hx1237_0)).trans hx1237_0)
                have HR1237_0 := A_ hi1237_0
                have HC1237_0 := A_ hl1237_0
                clear hi1237_0 hl1237_0
                replace p1237 := eq_true p1237
                replace q1237 := eq_true q1237
                have p1238 : 0 ≤ (0 : Int) := (by omega)
                have q1238 : 0 < ((rd_L1 l0 (ji42)).length : Int) := od_
                obtain ⟨ad1238, e1238, hx1238_0⟩ := Kd.at_int HR1237_0.out 0 p1238 q1238
                have hw1238_0 := hx1238_0
                (try rw [show ((0 : Int)).toNat = 0 from rfl] at hw1238_0)
                (try rw [show 0 * 1 = 0 from rfl] at hw1238_0)
                (try rw [Addr.add_zero'] at hw1238_0)
                cases e1238
                have qi1238 : (0 < (rd_L1 l0 (ji42)).length) = True := eq_true (by omega)
                (try rw [show ((0 : Int)).toNat = 0 from rfl] at hx1238_0)
                (try rw [Addr.add_zero'] at hx1238_0)
                (try replace hx1238_0 := (HB.out.cell (World.block_lt_of_cell? w _ hx1238_0)).trans hx1238_0)
                replace p1238 := eq_true p1238
                replace q1238 := eq_true q1238
                refine start_ (n := 44) (S := fun w' => w'.cell? ad1225 = some (.int .i64 (rd (rd_L1 l0 x11_1) 0)) ∧ w'.cell? ad1225 = some (.int .i64 (rd (rd_L1 l0 x11_1) 0)) ∧ w'.cell? (ad1223.add ((ji42)).toNat) = some (.slice (some ad1238) (rd_L1 l0 (ji42)).length c1237_0) ∧ w'.cell? ad1238 = some (.int .i64 (rd (rd_L1 l0 (ji42)) 0))) (ds := []) (Fn.bl 44 0) (by kernel_rfl) rfl rfl ⟨((HB.out.cell (World.block_lt_of_cell? w _ hw1225_0)).trans hw1225_0), ((HB.out.cell (World.block_lt_of_cell? w _ hw1236_0)).trans hw1236_0), ((HB.out.cell (World.block_lt_of_cell? w _ hw1237_0)).trans hw1237_0), ((HB.out.cell (World.block_lt_of_cell? w _ hw1238_0)).trans hw1238_0)⟩ (fun hHeld => ?_); refine with_tabW impl_areBlocks.tab5 impl_areBlocks.bits5 (fun HT_ HW_ => ?_)
                generalize wr.drew = w47 at HO_5 HB HR1237_0 hx1225_0 hx1236_0 hx1237_0 hx1238_0 hHeld ⊢
                refine pq_ 0 (some 16) (Fn.bl 44 1) HT_.out ?_
                refine pq_ 1 (some 17) (Fn.bl 44 3) HT_.out ?_
                refine pq_ 2 (some 18) (Fn.bl 44 7) HT_.out ?_
                refine pq_ 3 (some 19) (Fn.bl 44 15) HT_.out ?_
                refine pq_ 4 (some 20) (Fn.bl 44 31) HT_.out ?_
                refine pq_ 5 (some 21) (Fn.bl 44 63) HT_.out ?_
                refine pq_ 6 (some 22) (Fn.bl 44 127) HT_.out ?_
                refine pq_ 7 (some 23) (Fn.bl 44 255) HT_.out ?_
                refine pq_ 8 (some 24) (Fn.bl 44 511) HT_.out ?_
                refine pq_ 9 (some 25) (Fn.bl 44 1023) HT_.out ?_
                refine pq_ 10 (some 26) (Fn.bl 44 2047) HT_.out ?_
                refine pq_ 11 (some 27) (Fn.bl 44 4095) HT_.out ?_
                refine pq_ 12 (some 28) (Fn.bl 44 8191) HT_.out ?_
                refine pq_ 14 (some 30) (Fn.bl 44 24575) HT_.out ?_
                refine pq_ 15 (some 31) (Fn.bl 44 57343) HT_.out ?_
                refine tq_ 16 (some 32) (Fn.bl 44 122879) HT_.out HW_.out hHeld ?_ (hy0 := by rintro w' ⟨s0, s1, s2, s3⟩; go_simp; with_reducible rfl)
                refine one_ (i := 13) (N := some 29) (Fn.bl 44 131071) rfl rfl (one_of HT_.out (by kernel_rfl)) (by decide) (fun K hK => ?_)
                refine goes_ Try.func197 (by kernel_rfl) rfl #[.slice (some ad1225) (rd_L1 l0 x11_1).length c1223_0] (by rfl) rfl rfl ta_ ?_
                with_reducible refine (slices_Min_int_int.calls k1 _ _ (rd_L1 l0 x11_1) t1224 _ ?side1 ?side2 A13.out).mono ?_
                (case side1 => exact tc_ HR1223_0.out)
                (case side2 => exact HC1223_0.out)
                rintro e w49 ⟨rfl, hb⟩
                refine ⟨_, rfl, ?_⟩
                have n0_ := A_ (Kd.R_below (tr_x HO_5.out) hb)
                have n1_ := A_ (below_step tb_ hb)
                clear HO_5
                clear HB
                have HO_5 := n0_
                have HB := n1_
                clear n0_ n1_
                (try clear hb)
                (try clear hb2)
                (try clear hk)
                (try clear hi)
                refine hK.out _ _ ⟨((HB.out.cell (World.block_lt_of_cell? w _ hw1225_0)).trans hw1225_0), ((HB.out.cell (World.block_lt_of_cell? w _ hw1236_0)).trans hw1236_0), ((HB.out.cell (World.block_lt_of_cell? w _ hw1237_0)).trans hw1237_0), ((HB.out.cell (World.block_lt_of_cell? w _ hw1238_0)).trans hw1238_0)⟩ (fun hHeld => ?_)
                clear hK K
                refine norm_ (a' := ?_) ?_ ?_
                rotate_left
                ·
                 show Act.put _ (some 29) _ = _
                 simp only [Act.put, List.setIfInBounds_toArray, List.set_cons_zero, List.set_cons_succ, i64_w, i32_w]
                 rfl
                refine pq_ 17 (some 33) (Fn.bl 44 262143) HT_.out ?_
                refine pq_ 18 (some 34) (Fn.bl 44 524287) HT_.out ?_
                refine pq_ 19 (some 35) (Fn.bl 44 1048575) HT_.out ?_
                refine pq_ 20 (some 36) (Fn.bl 44 2097151) HT_.out ?_
                refine pq_ 21 (some 37) (Fn.bl 44 4194303) HT_.out ?_
                refine pu_ 22 (some 38) (Fn.bl 44 8388607) HT_.out ?_
                refine pu_ 23 (some 39) (Fn.bl 44 16777215) HT_.out ?_
                refine pu_ 24 (some 40) (Fn.bl 44 33554431) HT_.out ?_
                refine pq_ 25 (some 41) (Fn.bl 44 67108863) HT_.out ?_
                refine pq_ 26 (some 42) (Fn.bl 44 134217727) HT_.out ?_
                refine pq_ 27 (some 43) (Fn.bl 44 268435455) HT_.out ?_
                refine pq_ 28 (some 44) (Fn.bl 44 536870911) HT_.out ?_
                refine pq_ 29 (some 45) (Fn.bl 44 1073741823) HT_.out ?_
                refine pq_ 30 (some 46) (Fn.bl 44 2147483647) HT_.out ?_
                refine pq_ 31 (some 47) (Fn.bl 44 4294967295) HT_.out ?_
                refine pq_ 32 (some 48) (Fn.bl 44 8589934591) HT_.out ?_
                refine pq_ 34 (some 50) (Fn.bl 44 25769803775) HT_.out ?_
                refine pq_ 35 (some 51) (Fn.bl 44 60129542143) HT_.out ?_
                refine pq_ 36 (some 52) (Fn.bl 44 128849018879) HT_.out ?_
                refine pq_ 37 (some 53) (Fn.bl 44 266287972351) HT_.out ?_
                refine tq_ 33 (some 49) (Fn.bl 44 274877906943) HT_.out HW_.out hHeld ?_ (hy0 := by rintro w' ⟨s0, s1, s2, s3⟩; go_simp; with_reducible rfl)
                refine tq_ 38 (some 54) (Fn.bl 44 549755813887) HT_.out HW_.out hHeld ?_ (hy0 := by rintro w' ⟨s0, s1, s2, s3⟩; go_simp; with_reducible rfl)
                refine pq_ 39 (some 55) (Fn.bl 44 1099511627775) HT_.out ?_
                refine tq_ 40 (some 56) (Fn.bl 44 2199023255551) HT_.out HW_.out hHeld ?_ (hy0 := by rintro w' ⟨s0, s1, s2, s3⟩; go_simp; with_reducible rfl)
                refine pq_ 41 (some 57) (Fn.bl 44 4398046511103) HT_.out ?_
                refine pq_ 42 (some 58) (Fn.bl 44 8796093022207) HT_.out ?_
                refine pq_ 43 (some 59) (Fn.bl 44 17592186044415) HT_.out ?_
                refine done_ (done_of HT_.out (by kernel_rfl)) ?_
                try go_wp2
                go_ret
                exact ⟨by first | rfl | (simp [errW_none, errW_some] <;> rfl) | (simp only [← hji42]; first | rfl | (simp [errW_none, errW_some] <;> rfl)) | (simp [*, errW_none, errW_some] <;> rfl), tb_⟩
               ·
                rw [if_neg c46] at H
                have c46b0 := decide_eq_false c46
                clear c46
                by_cases c50 : x5_1.length + (rd_L1 l0 x11_1).length < 17592186044416
                ·
                 rw [if_pos c50] at H
                 have LMc50 := A_ c50
                 clear c50
                 obtain ⟨y1239, hy1239⟩ : ∃ y_ : List Int, y_ = (x5_1 ++ (rd_L1 l0 x11_1)) := ⟨_, rfl⟩
                 replace H : (impl_areBlocks.l0 k1 l0 false y1239 l0 (l0.length : Int) (wrap64 (x11_1 + 1))) = some r := ty_ hy1239 H
                 have Ny1239 := A_ hy1239
                 clear hy1239
                 have H' := A_ H
                 clear H
                 have p1223 : 0 ≤ (x11_1 : Int) := od_
                 have q1223 : x11_1 < (l0.length : Int) := od_
                 obtain ⟨ad1223, A1223_0, c1223_0, e1223, hx1223_0, hl1223_0, hi1223_0⟩ := at_L1 HR0.out x11_1 p1223 q1223
                 cases e1223
                 (try replace hx1223_0 := (HB.out.cell (World.block_lt_of_cell? w _ hx1223_0)).trans hx1223_0)
                 have HR1223_0 := A_ hi1223_0
                 have HC1223_0 := A_ hl1223_0
                 clear hi1223_0 hl1223_0
                 replace p1223 := eq_true p1223
                 replace q1223 := eq_true q1223
                 try go_wp2
                 have n0_ := A_ (Kd.R_drew HO_5.out)
                 have n1_ := A_ (below_drew1 HB.out)
                 clear HO_5
                 clear HB
                 have HO_5 := n0_
                 have HB := n1_
                 clear n0_ n1_
                 obtain ⟨Ao52, co52, eo52⟩ := Kd.R_slice HO_5.out
                 (first | subst eo52 | (injection eo52 with f1_ f2_ f3_; have f4_ := f1_.symm; have f5_ := f3_.symm; clear f1_ f2_ f3_; subst f4_; subst f5_))
                 have p1225 : 0 ≤ (0 : Int) := (by omega)
                 have q1225 : 0 < ((rd_L1 l0 x11_1).length : Int) := od_
                 obtain ⟨ad1225, e1225, hx1225_0⟩ := Kd.at_int HR1223_0.out 0 p1225 q1225
                 have hw1225_0 := hx1225_0
                 (try rw [show ((0 : Int)).toNat = 0 from rfl] at hw1225_0)
                 (try rw [show 0 * 1 = 0 from rfl] at hw1225_0)
                 (try rw [Addr.add_zero'] at hw1225_0)
                 cases e1225
                 have qi1225 : (0 < (rd_L1 l0 x11_1).length) = True := eq_true (by omega)
                 (try rw [show ((0 : Int)).toNat = 0 from rfl] at hx1225_0)
                 (try rw [Addr.add_zero'] at hx1225_0)
                 (try replace hx1225_0 := (HB.out.cell (World.block_lt_of_cell? w _ hx1225_0)).trans hx1225_0)
                 replace p1225 := eq_true p1225
                 replace q1225 := eq_true q1225
                 have p1236 : 0 ≤ (0 : Int) := (by omega)
                 have q1236 : 0 < ((rd_L1 l0 x11_1).length : Int) := od_
                 obtain ⟨ad1236, e1236, hx1236_0⟩ := Kd.at_int HR1223_0.out 0 p1236 q1236
                 have hw1236_0 := hx1236_0
                 (try rw [show ((0 : Int)).toNat = 0 from rfl] at hw1236_0)
                 (try rw [show 0 * 1 = 0 from rfl] at hw1236_0)
                 (try rw [Addr.add_zero'] at hw1236_0)
                 obtain rfl : ad1225 = ad1236 := (by injection e1236)
                 have qi1236 : (0 < (rd_L1 l0 x11_1).length) = True := eq_true (by omega)
                 (try rw [show ((0 : Int)).toNat = 0 from rfl] at hx1236_0)
                 (try rw [Addr.add_zero'] at hx1236_0)
                 (try replace hx1236_0 := (HB.out.cell (World.block_lt_of_cell? w _ hx1236_0)).trans hx1236_0)
                 replace p1236 := eq_true p1236
                 replace q1236 := eq_true q1236
                 have p1237 : 0 ≤ ((ji42) : Int) := od_
                 have q1237 : (ji42) < (l0.length : Int) := od_
                 obtain ⟨ad1237, A1237_0, c1237_0, e1237, hx1237_0, hl1237_0, hi1237_0⟩ := at_L1 HR0.out (ji42) p1237 q1237
                 have hw1237_0 := hx1237_0
                 obtain rfl : ad1223 = ad1237 := (by injection e1237)
                 (try replace hx1237_0 := (HB.out.cell (World.block_lt_of_cell? w _ hx1237_0)).trans hx1237_0)
                 have HR1237_0 := A_ hi1237_0
                 have HC1237_0 := A_ hl1237_0
                 clear hi1237_0 hl1237_0
                 replace p1237 := eq_true p1237
                 replace q1237 := eq_true q1237
                 have p1238 : 0 ≤ (0 : Int) := (by omega)
                 have q1238 : 0 < ((rd_L1 l0 (ji42)).length : Int) := od_
                 obtain ⟨ad1238, e1238, hx1238_0⟩ := Kd.at_int HR1237_0.out 0 p1238 q1238
                 have hw1238_0 := hx1238_0
                 (try rw [show ((0 : Int)).toNat = 0 from rfl] at hw1238_0)
                 (try rw [show 0 * 1 = 0 from rfl] at hw1238_0)
                 (try rw [Addr.add_zero'] at hw1238_0)
                 cases e1238
                 have qi1238 : (0 < (rd_L1 l0 (ji42)).length) = True := eq_true (by omega)
                 (try rw [show ((0 : Int)).toNat = 0 from rfl] at hx1238_0)
                 (try rw [Addr.add_zero'] at hx1238_0)
                 (try replace hx1238_0 := (HB.out.cell (World.block_lt_of_cell? w _ hx1238_0)).trans hx1238_0)
                 replace p1238 := eq_true p1238
                 replace q1238 := eq_true q1238
                 refine start_ (n := 44) (S := fun w' => w'.cell? ad1225 = some (.int .i64 (rd (rd_L1 l0 x11_1) 0)) ∧ w'.cell? ad1225 = some (.int .i64 (rd (rd_L1 l0 x11_1) 0)) ∧ w'.cell? (ad1223.add ((ji42)).toNat) = some (.slice (some ad1238) (rd_L1 l0 (ji42)).length c1237_0) ∧ w'.cell? ad1238 = some (.int .i64 (rd (rd_L1 l0 (ji42)) 0))) (ds := []) (Fn.bl 44 0) (by kernel_rfl) rfl rfl ⟨((HB.out.cell (World.block_lt_of_cell? w _ hw1225_0)).trans hw1225_0), ((HB.out.cell (World.block_lt_of_cell? w _ hw1236_0)).trans hw1236_0), ((HB.out.cell (World.block_lt_of_cell? w _ hw1237_0)).trans hw1237_0), ((HB.out.cell (World.block_lt_of_cell? w _ hw1238_0)).trans hw1238_0)⟩ (fun hHeld => ?_); refine with_tabW impl_areBlocks.tab5 impl_areBlocks.bits5 (fun HT_ HW_ => ?_)
                 generalize wr.drew = w51 at HO_5 HB HR1237_0 hx1225_0 hx1236_0 hx1237_0 hx1238_0 hHeld ⊢
                 refine pq_ 0 (some 16) (Fn.bl 44 1) HT_.out ?_
                 refine pq_ 1 (some 17) (Fn.bl 44 3) HT_.out ?_
                 refine pq_ 2 (some 18) (Fn.bl 44 7) HT_.out ?_
                 refine pq_ 3 (some 19) (Fn.bl 44 15) HT_.out ?_
                 refine pq_ 4 (some 20) (Fn.bl 44 31) HT_.out ?_
                 refine pq_ 5 (some 21) (Fn.bl 44 63) HT_.out ?_
                 refine pq_ 6 (some 22) (Fn.bl 44 127) HT_.out ?_
                 refine pq_ 7 (some 23) (Fn.bl 44 255) HT_.out ?_
                 refine pq_ 8 (some 24) (Fn.bl 44 511) HT_.out ?_
                 refine pq_ 9 (some 25) (Fn.bl 44 1023) HT_.out ?_
                 refine pq_ 10 (some 26) (Fn.bl 44 2047) HT_.out ?_
                 refine pq_ 11 (some 27) (Fn.bl 44 4095) HT_.out ?_
                 refine pq_ 12 (some 28) (Fn.bl 44 8191) HT_.out ?_
                 refine pq_ 14 (some 30) (Fn.bl 44 24575) HT_.out ?_
                 refine pq_ 15 (some 31) (Fn.bl 44 57343) HT_.out ?_
                 refine tq_ 16 (some 32) (Fn.bl 44 122879) HT_.out HW_.out hHeld ?_ (hy0 := by rintro w' ⟨s0, s1, s2, s3⟩; go_simp; with_reducible rfl)
                 refine one_ (i := 13) (N := some 29) (Fn.bl 44 131071) rfl rfl (one_of HT_.out (by kernel_rfl)) (by decide) (fun K hK => ?_)
                 refine goes_ Try.func197 (by kernel_rfl) rfl #[.slice (some ad1225) (rd_L1 l0 x11_1).length c1223_0] (by rfl) rfl rfl ta_ ?_
                 with_reducible refine (slices_Min_int_int.calls k1 _ _ (rd_L1 l0 x11_1) t1224 _ ?side1 ?side2 A13.out).mono ?_
                 (case side1 => exact tc_ HR1223_0.out)
                 (case side2 => exact HC1223_0.out)
                 rintro e w53 ⟨rfl, hb⟩
                 refine ⟨_, rfl, ?_⟩
                 have n0_ := A_ (Kd.R_below (tr_x HO_5.out) hb)
                 have n1_ := A_ (below_step tb_ hb)
                 clear HO_5
                 clear HB
                 have HO_5 := n0_
                 have HB := n1_
                 clear n0_ n1_
                 (try clear hb)
                 (try clear hb2)
                 (try clear hk)
                 (try clear hi)
                 refine hK.out _ _ ⟨((HB.out.cell (World.block_lt_of_cell? w _ hw1225_0)).trans hw1225_0), ((HB.out.cell (World.block_lt_of_cell? w _ hw1236_0)).trans hw1236_0), ((HB.out.cell (World.block_lt_of_cell? w _ hw1237_0)).trans hw1237_0), ((HB.out.cell (World.block_lt_of_cell? w _ hw1238_0)).trans hw1238_0)⟩ (fun hHeld => ?_)
                 clear hK K
                 refine norm_ (a' := ?_) ?_ ?_
                 rotate_left
                 ·
                  show Act.put _ (some 29) _ = _
                  simp only [Act.put, List.setIfInBounds_toArray, List.set_cons_zero, List.set_cons_succ, i64_w, i32_w]
                  rfl
                 refine pq_ 17 (some 33) (Fn.bl 44 262143) HT_.out ?_
                 refine pq_ 18 (some 34) (Fn.bl 44 524287) HT_.out ?_
                 refine pq_ 19 (some 35) (Fn.bl 44 1048575) HT_.out ?_
                 refine pq_ 20 (some 36) (Fn.bl 44 2097151) HT_.out ?_
                 refine pq_ 21 (some 37) (Fn.bl 44 4194303) HT_.out ?_
                 refine pu_ 22 (some 38) (Fn.bl 44 8388607) HT_.out ?_
                 refine pu_ 23 (some 39) (Fn.bl 44 16777215) HT_.out ?_
                 refine pu_ 24 (some 40) (Fn.bl 44 33554431) HT_.out ?_
                 refine pq_ 25 (some 41) (Fn.bl 44 67108863) HT_.out ?_
                 refine pq_ 26 (some 42) (Fn.bl 44 134217727) HT_.out ?_
                 refine pq_ 27 (some 43) (Fn.bl 44 268435455) HT_.out ?_
                 refine pq_ 28 (some 44) (Fn.bl 44 536870911) HT_.out ?_
                 refine pq_ 29 (some 45) (Fn.bl 44 1073741823) HT_.out ?_
                 refine pq_ 30 (some 46) (Fn.bl 44 2147483647) HT_.out ?_
                 refine pq_ 31 (some 47) (Fn.bl 44 4294967295) HT_.out ?_
                 refine pq_ 32 (some 48) (Fn.bl 44 8589934591) HT_.out ?_
                 refine pq_ 34 (some 50) (Fn.bl 44 25769803775) HT_.out ?_
                 refine pq_ 35 (some 51) (Fn.bl 44 60129542143) HT_.out ?_
                 refine pq_ 36 (some 52) (Fn.bl 44 128849018879) HT_.out ?_
                 refine pq_ 37 (some 53) (Fn.bl 44 266287972351) HT_.out ?_
                 refine tq_ 33 (some 49) (Fn.bl 44 274877906943) HT_.out HW_.out hHeld ?_ (hy0 := by rintro w' ⟨s0, s1, s2, s3⟩; go_simp; with_reducible rfl)
                 refine tq_ 38 (some 54) (Fn.bl 44 549755813887) HT_.out HW_.out hHeld ?_ (hy0 := by rintro w' ⟨s0, s1, s2, s3⟩; go_simp; with_reducible rfl)
                 refine pq_ 39 (some 55) (Fn.bl 44 1099511627775) HT_.out ?_
                 refine tq_ 40 (some 56) (Fn.bl 44 2199023255551) HT_.out HW_.out hHeld ?_ (hy0 := by rintro w' ⟨s0, s1, s2, s3⟩; go_simp; with_reducible rfl)
                 refine pq_ 41 (some 57) (Fn.bl 44 4398046511103) HT_.out ?_
                 refine pq_ 42 (some 58) (Fn.bl 44 8796093022207) HT_.out ?_
                 refine pq_ 43 (some 59) (Fn.bl 44 17592186044415) HT_.out ?_
                 refine done_ (done_of HT_.out (by kernel_rfl)) ?_
                 try go_wp2_with (first | ((with_reducible refine gate_builtin (b := .append) (xs := #[.tmp 60, .tmp 61]) rfl ?_); (try (refine gate_guard (by rfl) ?_; dsimp only)); at_builtin; refine Kd.R_append_rows (Kd.int .i64) (w0 := w) w.heap.size rfl (.tmp 60) (.tmp 61) 22 3 (.int .i64 0) 8 rfl Try.underlying22 info3 rfl (by decide) (by omega) (.slice Ao52 x5_1.length co52) x5_1 (rd_L1 l0 x11_1) _ _ _ (fun _ => True) (fun _ => False) rfl rfl ?aO ?aR (fun _ _ h => h) (fun _ h => h.elim) ?aF ?aB ?aS ?aL ?_; (case aR => exact tc_ HR1223_0.out); (case aB => exact tb_); (case aF => exact (fun _ _ => trivial)); (case aO => exact (tr_x HO_5.out)); (case aS => exact (below_size tb_)); (case aL => have := LMc50.out; omega); intro v1240 w54 ho hb hg hat; rw [← Ny1239.out] at ho; have n0_ := A_ (hb); have n1_ := A_ (ho); clear HB; clear HO_5; have HB := n0_; have HO1241 := n1_; clear n0_ n1_; clear ho hb hg hat))
                 go_roundg k1
                 case measure => have := HK1.out; omega
                 case rel => exact ⟨(y1239), (wrap64 (x11_1 + 1)), tf_, H', ⟨by have := HK1.out; omega⟩, ⟨tr_x HO1241.out⟩, ⟨tb_⟩⟩
                ·
                 rw [if_neg c50] at H
                 exact absurd H (by simp)
              ·
               rw [if_neg c45] at H
               exact absurd H (by simp)
             ·
              rw [if_neg c44] at H
              exact absurd H (by simp)
            ·
             rw [if_neg c43] at H
             exact absurd H (by simp)
           ·
            rw [if_neg c41] at H
            have c41b0 := decide_eq_false c41
            clear c41
            by_cases c55 : x5_1.length + (rd_L1 l0 x11_1).length < 17592186044416
            ·
             rw [if_pos c55] at H
             have LMc55 := A_ c55
             clear c55
             obtain ⟨y1242, hy1242⟩ : ∃ y_ : List Int, y_ = (x5_1 ++ (rd_L1 l0 x11_1)) := ⟨_, rfl⟩
             replace H : (impl_areBlocks.l0 k1 l0 false y1242 l0 (l0.length : Int) (wrap64 (x11_1 + 1))) = some r := ty_ hy1242 H
             have Ny1242 := A_ hy1242
             clear hy1242
             have H' := A_ H
             clear H
             have p1223 : 0 ≤ (x11_1 : Int) := od_
             have q1223 : x11_1 < (l0.length : Int) := od_
             obtain ⟨ad1223, A1223_0, c1223_0, e1223, hx1223_0, hl1223_0, hi1223_0⟩ := at_L1 HR0.out x11_1 p1223 q1223
             cases e1223
             (try replace hx1223_0 := (HB.out.cell (World.block_lt_of_cell? w _ hx1223_0)).trans hx1223_0)
             have HR1223_0 := A_ hi1223_0
             have HC1223_0 := A_ hl1223_0
             clear hi1223_0 hl1223_0
             replace p1223 := eq_true p1223
             replace q1223 := eq_true q1223
             try go_wp2
             have n0_ := A_ (Kd.R_drew HO_5.out)
             have n1_ := A_ (below_drew1 HB.out)
             clear HO_5
             clear HB
             have HO_5 := n0_
             have HB := n1_
             clear n0_ n1_
             obtain ⟨Ao57, co57, eo57⟩ := Kd.R_slice HO_5.out
             (first | subst eo57 | (injection eo57 with f1_ f2_ f3_; have f4_ := f1_.symm; have f5_ := f3_.symm; clear f1_ f2_ f3_; subst f4_; subst f5_))
             have p1225 : 0 ≤ (0 : Int) := (by omega)
             have q1225 : 0 < ((rd_L1 l0 x11_1).length : Int) := od_
             obtain ⟨ad1225, e1225, hx1225_0⟩ := Kd.at_int HR1223_0.out 0 p1225 q1225
             have hw1225_0 := hx1225_0
             (try rw [show ((0 : Int)).toNat = 0 from rfl] at hw1225_0)
             (try rw [show 0 * 1 = 0 from rfl] at hw1225_0)
             (try rw [Addr.add_zero'] at hw1225_0)
             cases e1225
             have qi1225 : (0 < (rd_L1 l0 x11_1).length) = True := eq_true (by omega)
             (try rw [show ((0 : Int)).toNat = 0 from rfl] at hx1225_0)
             (try rw [Addr.add_zero'] at hx1225_0)
             (try replace hx1225_0 := (HB.out.cell (World.block_lt_of_cell? w _ hx1225_0)).trans hx1225_0)
             replace p1225 := eq_true p1225
             replace q1225 := eq_true q1225
             refine start_ (n := 44) (S := fun w' => w'.cell? ad1225 = some (.int .i64 (rd (rd_L1 l0 x11_1) 0))) (ds := []) (Fn.bl 44 0) (by kernel_rfl) rfl rfl (((HB.out.cell (World.block_lt_of_cell? w _ hw1225_0)).trans hw1225_0)) (fun hHeld => ?_); refine with_tabW impl_areBlocks.tab5 impl_areBlocks.bits5 (fun HT_ HW_ => ?_)
             generalize wr.drew = w56 at HO_5 HB hx1225_0 hHeld ⊢
             refine pq_ 0 (some 16) (Fn.bl 44 1) HT_.out ?_
             refine pq_ 1 (some 17) (Fn.bl 44 3) HT_.out ?_
             refine pq_ 2 (some 18) (Fn.bl 44 7) HT_.out ?_
             refine pq_ 3 (some 19) (Fn.bl 44 15) HT_.out ?_
             refine pq_ 4 (some 20) (Fn.bl 44 31) HT_.out ?_
             refine pq_ 5 (some 21) (Fn.bl 44 63) HT_.out ?_
             refine pq_ 6 (some 22) (Fn.bl 44 127) HT_.out ?_
             refine pq_ 7 (some 23) (Fn.bl 44 255) HT_.out ?_
             refine pq_ 8 (some 24) (Fn.bl 44 511) HT_.out ?_
             refine pq_ 9 (some 25) (Fn.bl 44 1023) HT_.out ?_
             refine pq_ 10 (some 26) (Fn.bl 44 2047) HT_.out ?_
             refine pq_ 11 (some 27) (Fn.bl 44 4095) HT_.out ?_
             refine pq_ 12 (some 28) (Fn.bl 44 8191) HT_.out ?_
             refine pq_ 14 (some 30) (Fn.bl 44 24575) HT_.out ?_
             refine pq_ 15 (some 31) (Fn.bl 44 57343) HT_.out ?_
             refine take_ (i := 16) (N := some 32) (v := ?_) (a' := ?_) (Fn.bl 44 122879) rfl rfl (take_ofW HT_.out HW_.out (by kernel_rfl)) (fun _ _ _ h => h) (Or.inl ⟨by rfl, ?_⟩) hHeld ?_ ?_
             rotate_left
             ·
              intro w' s0
              go_simp
              with_reducible rfl
             rotate_left
             ·
              simp only [Act.put, List.setIfInBounds_toArray, List.set_cons_zero, List.set_cons_succ, i64_w, i32_w]
              rfl
             refine one_ (i := 13) (N := some 29) (Fn.bl 44 131071) rfl rfl (one_of HT_.out (by kernel_rfl)) (by decide) (fun K hK => ?_)
             refine goes_ Try.func197 (by kernel_rfl) rfl #[.slice (some ad1225) (rd_L1 l0 x11_1).length c1223_0] (by rfl) rfl rfl ta_ ?_
             with_reducible refine (slices_Min_int_int.calls k1 _ _ (rd_L1 l0 x11_1) t1224 _ ?side1 ?side2 A13.out).mono ?_
             (case side1 => exact tc_ HR1223_0.out)
             (case side2 => exact HC1223_0.out)
             rintro e w58 ⟨rfl, hb⟩
             refine ⟨_, rfl, ?_⟩
             have n0_ := A_ (Kd.R_below (tr_x HO_5.out) hb)
             have n1_ := A_ (below_step tb_ hb)
             clear HO_5
             clear HB
             have HO_5 := n0_
             have HB := n1_
             clear n0_ n1_
             (try clear hb)
             (try clear hb2)
             (try clear hk)
             (try clear hi)
             refine hK.out _ _ (((HB.out.cell (World.block_lt_of_cell? w _ hw1225_0)).trans hw1225_0)) (fun hHeld => ?_)
             clear hK K
             refine norm_ (a' := ?_) ?_ ?_
             rotate_left
             ·
              show Act.put _ (some 29) _ = _
              simp only [Act.put, List.setIfInBounds_toArray, List.set_cons_zero, List.set_cons_succ, i64_w, i32_w]
              rfl
             refine pq_ 17 (some 33) (Fn.bl 44 262143) HT_.out ?_
             refine pq_ 18 (some 34) (Fn.bl 44 524287) HT_.out ?_
             refine pq_ 19 (some 35) (Fn.bl 44 1048575) HT_.out ?_
             refine pq_ 20 (some 36) (Fn.bl 44 2097151) HT_.out ?_
             refine pq_ 21 (some 37) (Fn.bl 44 4194303) HT_.out ?_
             refine pu_ 22 (some 38) (Fn.bl 44 8388607) HT_.out ?_
             refine pu_ 23 (some 39) (Fn.bl 44 16777215) HT_.out ?_
             refine pu_ 24 (some 40) (Fn.bl 44 33554431) HT_.out ?_
             refine pq_ 25 (some 41) (Fn.bl 44 67108863) HT_.out ?_
             refine pq_ 26 (some 42) (Fn.bl 44 134217727) HT_.out ?_
             refine pq_ 27 (some 43) (Fn.bl 44 268435455) HT_.out ?_
             refine pq_ 28 (some 44) (Fn.bl 44 536870911) HT_.out ?_
             refine pq_ 29 (some 45) (Fn.bl 44 1073741823) HT_.out ?_
             refine pq_ 30 (some 46) (Fn.bl 44 2147483647) HT_.out ?_
             refine pu_ 31 (some 47) (Fn.bl 44 4294967295) HT_.out ?_
             refine pu_ 32 (some 48) (Fn.bl 44 8589934591) HT_.out ?_
             refine pu_ 33 (some 49) (Fn.bl 44 17179869183) HT_.out ?_
             refine pu_ 34 (some 50) (Fn.bl 44 34359738367) HT_.out ?_
             refine pu_ 35 (some 51) (Fn.bl 44 68719476735) HT_.out ?_
             refine pu_ 36 (some 52) (Fn.bl 44 137438953471) HT_.out ?_
             refine pu_ 37 (some 53) (Fn.bl 44 274877906943) HT_.out ?_
             refine pu_ 38 (some 54) (Fn.bl 44 549755813887) HT_.out ?_
             refine pu_ 39 (some 55) (Fn.bl 44 1099511627775) HT_.out ?_
             refine pu_ 40 (some 56) (Fn.bl 44 2199023255551) HT_.out ?_
             refine pu_ 41 (some 57) (Fn.bl 44 4398046511103) HT_.out ?_
             refine pq_ 42 (some 58) (Fn.bl 44 8796093022207) HT_.out ?_
             refine pq_ 43 (some 59) (Fn.bl 44 17592186044415) HT_.out ?_
             refine done_ (done_of HT_.out (by kernel_rfl)) ?_
             try go_wp2_with (first | ((with_reducible refine gate_builtin (b := .append) (xs := #[.tmp 60, .tmp 61]) rfl ?_); (try (refine gate_guard (by rfl) ?_; dsimp only)); at_builtin; refine Kd.R_append_rows (Kd.int .i64) (w0 := w) w.heap.size rfl (.tmp 60) (.tmp 61) 22 3 (.int .i64 0) 8 rfl Try.underlying22 info3 rfl (by decide) (by omega) (.slice Ao57 x5_1.length co57) x5_1 (rd_L1 l0 x11_1) _ _ _ (fun _ => True) (fun _ => False) rfl rfl ?aO ?aR (fun _ _ h => h) (fun _ h => h.elim) ?aF ?aB ?aS ?aL ?_; (case aR => exact tc_ HR1223_0.out); (case aB => exact tb_); (case aF => exact (fun _ _ => trivial)); (case aO => exact (tr_x HO_5.out)); (case aS => exact (below_size tb_)); (case aL => have := LMc55.out; omega); intro v1243 w59 ho hb hg hat; rw [← Ny1242.out] at ho; have n0_ := A_ (hb); have n1_ := A_ (ho); clear HB; clear HO_5; have HB := n0_; have HO1244 := n1_; clear n0_ n1_; clear ho hb hg hat))
             go_roundg k1
             case measure => have := HK1.out; omega
             case rel => exact ⟨(y1242), (wrap64 (x11_1 + 1)), tf_, H', ⟨by have := HK1.out; omega⟩, ⟨tr_x HO1244.out⟩, ⟨tb_⟩⟩
            ·
             rw [if_neg c55] at H
             exact absurd H (by simp)
         ·
          rw [if_neg c15] at H
          have c15b0 : (t1224 == (rd (rd_L1 l0 x11_1) 0)) = false := beq_eq_false_iff_ne.mpr c15
          have c15b1 : (t1224 != (rd (rd_L1 l0 x11_1) 0)) = true := bne_iff_ne.mpr c15
          obtain rfl := Option.some.inj H
          have p1223 : 0 ≤ (x11_1 : Int) := od_
          have q1223 : x11_1 < (l0.length : Int) := od_
          obtain ⟨ad1223, A1223_0, c1223_0, e1223, hx1223_0, hl1223_0, hi1223_0⟩ := at_L1 HR0.out x11_1 p1223 q1223
          cases e1223
          (try replace hx1223_0 := (HB.out.cell (World.block_lt_of_cell? w _ hx1223_0)).trans hx1223_0)
          have HR1223_0 := A_ hi1223_0
          have HC1223_0 := A_ hl1223_0
          clear hi1223_0 hl1223_0
          replace p1223 := eq_true p1223
          replace q1223 := eq_true q1223
          try go_wp2
          have n0_ := A_ (Kd.R_drew HO_5.out)
          have n1_ := A_ (below_drew1 HB.out)
          clear HO_5
          clear HB
          have HO_5 := n0_
          have HB := n1_
          clear n0_ n1_
          obtain ⟨Ao61, co61, eo61⟩ := Kd.R_slice HO_5.out
          (first | subst eo61 | (injection eo61 with f1_ f2_ f3_; have f4_ := f1_.symm; have f5_ := f3_.symm; clear f1_ f2_ f3_; subst f4_; subst f5_))
          have p1225 : 0 ≤ (0 : Int) := (by omega)
          have q1225 : 0 < ((rd_L1 l0 x11_1).length : Int) := od_
          obtain ⟨ad1225, e1225, hx1225_0⟩ := Kd.at_int HR1223_0.out 0 p1225 q1225
          have hw1225_0 := hx1225_0
          (try rw [show ((0 : Int)).toNat = 0 from rfl] at hw1225_0)
          (try rw [show 0 * 1 = 0 from rfl] at hw1225_0)
          (try rw [Addr.add_zero'] at hw1225_0)
          cases e1225
          have qi1225 : (0 < (rd_L1 l0 x11_1).length) = True := eq_true (by omega)
          (try rw [show ((0 : Int)).toNat = 0 from rfl] at hx1225_0)
          (try rw [Addr.add_zero'] at hx1225_0)
          (try replace hx1225_0 := (HB.out.cell (World.block_lt_of_cell? w _ hx1225_0)).trans hx1225_0)
          replace p1225 := eq_true p1225
          replace q1225 := eq_true q1225
          refine start_ (n := 44) (S := fun w' => w'.cell? ad1225 = some (.int .i64 (rd (rd_L1 l0 x11_1) 0))) (ds := []) (Fn.bl 44 0) (by kernel_rfl) rfl rfl (((HB.out.cell (World.block_lt_of_cell? w _ hw1225_0)).trans hw1225_0)) (fun hHeld => ?_); refine with_tabW impl_areBlocks.tab5 impl_areBlocks.bits5 (fun HT_ HW_ => ?_)
          generalize wr.drew = w60 at HO_5 HB hx1225_0 hHeld ⊢
          refine pq_ 0 (some 16) (Fn.bl 44 1) HT_.out ?_
          refine pq_ 1 (some 17) (Fn.bl 44 3) HT_.out ?_
          refine pq_ 2 (some 18) (Fn.bl 44 7) HT_.out ?_
          refine pq_ 3 (some 19) (Fn.bl 44 15) HT_.out ?_
          refine pq_ 4 (some 20) (Fn.bl 44 31) HT_.out ?_
          refine pq_ 5 (some 21) (Fn.bl 44 63) HT_.out ?_
          refine pq_ 6 (some 22) (Fn.bl 44 127) HT_.out ?_
          refine pq_ 7 (some 23) (Fn.bl 44 255) HT_.out ?_
          refine pq_ 8 (some 24) (Fn.bl 44 511) HT_.out ?_
          refine pq_ 9 (some 25) (Fn.bl 44 1023) HT_.out ?_
          refine pq_ 10 (some 26) (Fn.bl 44 2047) HT_.out ?_
          refine pq_ 11 (some 27) (Fn.bl 44 4095) HT_.out ?_
          refine pq_ 12 (some 28) (Fn.bl 44 8191) HT_.out ?_
          refine pq_ 14 (some 30) (Fn.bl 44 24575) HT_.out ?_
          refine pq_ 15 (some 31) (Fn.bl 44 57343) HT_.out ?_
          refine take_ (i := 16) (N := some 32) (v := ?_) (a' := ?_) (Fn.bl 44 122879) rfl rfl (take_ofW HT_.out HW_.out (by kernel_rfl)) (fun _ _ _ h => h) (Or.inl ⟨by rfl, ?_⟩) hHeld ?_ ?_
          rotate_left
          ·
           intro w' s0
           go_simp
           with_reducible rfl
          rotate_left
          ·
           simp only [Act.put, List.setIfInBounds_toArray, List.set_cons_zero, List.set_cons_succ, i64_w, i32_w]
           rfl
          refine one_ (i := 13) (N := some 29) (Fn.bl 44 131071) rfl rfl (one_of HT_.out (by kernel_rfl)) (by decide) (fun K hK => ?_)
          refine goes_ Try.func197 (by kernel_rfl) rfl #[.slice (some ad1225) (rd_L1 l0 x11_1).length c1223_0] (by rfl) rfl rfl ta_ ?_
          with_reducible refine (slices_Min_int_int.calls k1 _ _ (rd_L1 l0 x11_1) t1224 _ ?side1 ?side2 A13.out).mono ?_
          (case side1 => exact tc_ HR1223_0.out)
          (case side2 => exact HC1223_0.out)
          rintro e w62 ⟨rfl, hb⟩
          refine ⟨_, rfl, ?_⟩
          have n0_ := A_ (Kd.R_below (tr_x HO_5.out) hb)
          have n1_ := A_ (below_step tb_ hb)
          clear HO_5
          clear HB
          have HO_5 := n0_
          have HB := n1_
          clear n0_ n1_
          (try clear hb)
          (try clear hb2)
          (try clear hk)
          (try clear hi)
          refine hK.out _ _ (((HB.out.cell (World.block_lt_of_cell? w _ hw1225_0)).trans hw1225_0)) (fun hHeld => ?_)
          clear hK K
          refine norm_ (a' := ?_) ?_ ?_
          rotate_left
          ·
           show Act.put _ (some 29) _ = _
           simp only [Act.put, List.setIfInBounds_toArray, List.set_cons_zero, List.set_cons_succ, i64_w, i32_w]
           rfl
          refine pq_ 17 (some 33) (Fn.bl 44 262143) HT_.out ?_
          refine pq_ 18 (some 34) (Fn.bl 44 524287) HT_.out ?_
          refine pq_ 19 (some 35) (Fn.bl 44 1048575) HT_.out ?_
          refine pu_ 20 (some 36) (Fn.bl 44 2097151) HT_.out ?_
          refine pu_ 21 (some 37) (Fn.bl 44 4194303) HT_.out ?_
          refine pu_ 22 (some 38) (Fn.bl 44 8388607) HT_.out ?_
          refine pu_ 23 (some 39) (Fn.bl 44 16777215) HT_.out ?_
          refine pu_ 24 (some 40) (Fn.bl 44 33554431) HT_.out ?_
          refine pu_ 25 (some 41) (Fn.bl 44 67108863) HT_.out ?_
          refine pq_ 26 (some 42) (Fn.bl 44 134217727) HT_.out ?_
          refine pq_ 27 (some 43) (Fn.bl 44 268435455) HT_.out ?_
          refine pu_ 28 (some 44) (Fn.bl 44 536870911) HT_.out ?_
          refine pu_ 29 (some 45) (Fn.bl 44 1073741823) HT_.out ?_
          refine pu_ 30 (some 46) (Fn.bl 44 2147483647) HT_.out ?_
          refine pu_ 31 (some 47) (Fn.bl 44 4294967295) HT_.out ?_
          refine pu_ 32 (some 48) (Fn.bl 44 8589934591) HT_.out ?_
          refine pu_ 33 (some 49) (Fn.bl 44 17179869183) HT_.out ?_
          refine pu_ 34 (some 50) (Fn.bl 44 34359738367) HT_.out ?_
          refine pu_ 35 (some 51) (Fn.bl 44 68719476735) HT_.out ?_
          refine pu_ 36 (some 52) (Fn.bl 44 137438953471) HT_.out ?_
          refine pu_ 37 (some 53) (Fn.bl 44 274877906943) HT_.out ?_
          refine pu_ 38 (some 54) (Fn.bl 44 549755813887) HT_.out ?_
          refine pu_ 39 (some 55) (Fn.bl 44 1099511627775) HT_.out ?_
          refine pu_ 40 (some 56) (Fn.bl 44 2199023255551) HT_.out ?_
          refine pu_ 41 (some 57) (Fn.bl 44 4398046511103) HT_.out ?_
          refine pu_ 42 (some 58) (Fn.bl 44 8796093022207) HT_.out ?_
          refine pq_ 43 (some 59) (Fn.bl 44 17592186044415) HT_.out ?_
          refine done_ (done_of HT_.out (by kernel_rfl)) ?_
          try go_wp2
          go_ret
          exact ⟨te_, tb_⟩
        ·
         rw [if_neg c14] at H
         exact absurd H (by simp)
     ·
      rw [if_neg c7] at H
      exact absurd H (by simp)
    ·
     rw [if_neg c6] at H
     exact absurd H (by simp)
   ·
    rw [if_neg c5] at H
    have c5b0 := decide_eq_false c5
    clear c5
    replace H := Option.bind_eq_some_iff.mp H
    obtain ⟨t1221, A630, H⟩ := H
    replace H : (if t1221 = true then ((impl_isPerm.f k1 x5_1 (x5_1.length : Int)).bind fun t1222 => (some t1222)) else (some false)) = some r := H
    have A63 := A_ A630
    clear A630
    by_cases c64 : t1221 = true
    ·
     subst c64
     have H1 : ((impl_isPerm.f k1 x5_1 (x5_1.length : Int)).bind fun t1222 => (some t1222)) = some r := by rw [if_pos rfl] at H; exact H
     clear H
     have H := H1
     clear H1
     replace H := Option.bind_eq_some_iff.mp H
     obtain ⟨t1222, A650, H⟩ := H
     replace H : (some t1222) = some r := H
     have A65 := A_ A650
     clear A650
     obtain rfl := Option.some.inj H
     obtain ⟨Ao66, co66, eo66⟩ := Kd.R_slice HO_5.out
     subst eo66
     go_wp2_with (first | (refine gc_ 149 ?_; refine goesT_ (some 66) Try.func149 #[.int .i64 (x5_1.length : Int)] ?_; (with_reducible refine (impl_isThings.calls (x5_1.length : Int) true _ A63.out).mono ?_); rintro e w' ⟨rfl, ⟨nd, rfl⟩⟩; refine ⟨_, rfl, ?_⟩) | (go_at_call 199; (with_reducible refine (impl_isPerm.calls k1 _ _ x5_1 (x5_1.length : Int) t1222 _ ?side1 ?side2 A65.out).mono ?_); (case side1 => exact tc0_ (Kd.R_reads' HO_5.out).2.2); (case side2 => exact (Kd.R_reads' HO_5.out).2.1); rintro e w' ⟨rfl, ⟨nd, rfl⟩⟩))
     go_ret
     exact ⟨te_, tb_⟩
    ·
     replace c64 := Bool.eq_false_iff.mpr c64
     subst c64
     have H1 : (some false) = some r := by rw [if_neg (show ¬ (false = true) by decide)] at H; exact H
     clear H
     have H := H1
     clear H1
     obtain rfl := Option.some.inj H
     obtain ⟨Ao67, co67, eo67⟩ := Kd.R_slice HO_5.out
     subst eo67
     go_wp2_with (first | (refine gc_ 149 ?_; refine goesT_ (some 66) Try.func149 #[.int .i64 (x5_1.length : Int)] ?_; (with_reducible refine (impl_isThings.calls (x5_1.length : Int) false _ A63.out).mono ?_); rintro e w' ⟨rfl, ⟨nd, rfl⟩⟩; refine ⟨_, rfl, ?_⟩))
     go_ret
     exact ⟨te_, tb_⟩

end
end Go.Proofs.Ythlcaikplebpmaa.P
