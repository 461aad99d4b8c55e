-- printed functions (wip/slim.py)
import Derived.Test.YtdoflpghemgbdaaPx0
namespace Go.Proofs.Ytdoflpghemgbdaa.P
noncomputable section
set_option maxHeartbeats 8000000
set_option maxRecDepth 100000
open Go.RowKit Go.Proofs.YtdoflpghemgbdaaW.PrintWords Go.Proofs.YtdoflpghemgbdaaW.PrintLast Go.Proofs.YtdoflpghemgbdaaW.PrintMore
attribute [local go_sem] max2_int min2_int max_two min_two max_three min_three max_four min_four   -- for this text's walks alone
set_option linter.unusedVariables false
set_option linter.unusedSimpArgs false

/-! ### spec_biSorted: function 139 -/
def spec_biSorted.l0 : Nat → List (List Int) → List Int → Int → Option ((List (List Int)))
 | 0, _, _, _ => none
 | k + 1, x0, x1, x5 => if x5 < (x0.length : Int) then (if 0 ≤ x5 then (if 0 < ((rd_L2 x0 x5).length : Int) then (if 0 < (x1.length : Int) then (if (rd (rd_L2 x0 x5) 0) < (rd x1 0) then (spec_biSorted.l0 k x0 x1 (wrap64 (x5 + 1))) else (if (rd (rd_L2 x0 x5) 0) = (rd x1 0) then (if 1 < ((rd_L2 x0 x5).length : Int) then (if 1 < (x1.length : Int) then (if (rd (rd_L2 x0 x5) 1) < (rd x1 1) then (spec_biSorted.l0 k x0 x1 (wrap64 (x5 + 1))) else ((some (([] : List (List Int)) : List (List Int))).bind fun y1561 => (if x5 ≤ (x0.length : Int) then ((some (x0.take (x5 : Int).toNat : List (List Int))).bind fun y1564 => (if y1561.length + y1564.length < 5864062014805 then ((some (y1561 ++ y1564 : List (List Int))).bind fun y1569 => (if y1569.length < 5864062014805 then ((some (y1569 ++ [x1] : List (List Int))).bind fun y1572 => ((some (x0.drop (x5 : Int).toNat : List (List Int))).bind fun y1575 => (if y1572.length + y1575.length < 5864062014805 then (some (y1572 ++ y1575)) else (none)))) else (none))) else (none))) else (none)))) else (none)) else (none)) else ((some (([] : List (List Int)) : List (List Int))).bind fun y1583 => (if x5 ≤ (x0.length : Int) then ((some (x0.take (x5 : Int).toNat : List (List Int))).bind fun y1586 => (if y1583.length + y1586.length < 5864062014805 then ((some (y1583 ++ y1586 : List (List Int))).bind fun y1591 => (if y1591.length < 5864062014805 then ((some (y1591 ++ [x1] : List (List Int))).bind fun y1594 => ((some (x0.drop (x5 : Int).toNat : List (List Int))).bind fun y1597 => (if y1594.length + y1597.length < 5864062014805 then (some (y1594 ++ y1597)) else (none)))) else (none))) else (none))) else (none))))) else (none)) else (none)) else (none)) else ((some (([] : List (List Int)) : List (List Int))).bind fun y1605 => (if 0 ≤ x5 then (if x5 ≤ (x0.length : Int) then ((some (x0.take (x5 : Int).toNat : List (List Int))).bind fun y1608 => (if y1605.length + y1608.length < 5864062014805 then ((some (y1605 ++ y1608 : List (List Int))).bind fun y1613 => (if y1613.length < 5864062014805 then ((some (y1613 ++ [x1] : List (List Int))).bind fun y1616 => ((some (x0.drop (x5 : Int).toNat : List (List Int))).bind fun y1619 => (if y1616.length + y1619.length < 5864062014805 then (some (y1616 ++ y1619)) else (none)))) else (none))) else (none))) else (none)) else (none)))
def spec_biSorted.f (k : Nat) (l0 : List (List Int)) (l1 : List Int) : Option ((List (List Int))) := spec_biSorted.l0 k l0 l1 0
theorem spec_biSorted.mono_l : ∀ k, (∀ y0 y1 y2, LeO (spec_biSorted.l0 k y0 y1 y2) (spec_biSorted.l0 (k + 1) y0 y1 y2))
 | 0 => fun _ _ _ r h => by simp [spec_biSorted.l0] at h
 | k + 1 => by
  have ih0 := spec_biSorted.mono_l k
  ·
   intro y0 y1 y2
   unfold spec_biSorted.l0
   repeat' first | (with_reducible first | exact ih0 _ _ _ | exact LeO.refl _ | exact LeO.none _ | refine LeO.ite ?_ ?_ | refine LeO.bind ?_ (fun _ => ?_)) | exact ih0 _ _ _ | exact LeO.none _ | refine LeO.ite ?_ ?_ | refine LeO.bind ?_ (fun _ => ?_)
theorem spec_biSorted.mono : ∀ a0 a1 k, LeO (spec_biSorted.f k a0 a1) (spec_biSorted.f (k + 1) a0 a1) := by
 intro a0 a1 k
 have ih0 := spec_biSorted.mono_l k
 unfold spec_biSorted.f
 repeat' first | (with_reducible first | exact ih0 _ _ _ | exact LeO.refl _ | exact LeO.none _ | refine LeO.ite ?_ ?_ | refine LeO.bind ?_ (fun _ => ?_)) | exact ih0 _ _ _ | exact LeO.none _ | refine LeO.ite ?_ ?_ | refine LeO.bind ?_ (fun _ => ?_)
def spec_biSorted.T2 : Bool × List (List Nat × List Nat) := (true, [([], []), ([], []), ([1], [1]), ([0, 2], [0, 2]), ([3], [3]), ([4], [4]), ([4], [4]), ([5, 6, 4], [4, 5, 6]), ([7, 4], [4, 7]), ([8, 4], [4, 8]), ([9, 4], [4, 9]), ([4], [4]), ([11, 4], [4, 11]), ([12, 4], [4, 12]), ([10, 13, 4], [4, 10, 13]), ([14, 4, 4], [4, 14]), ([15], [15]), ([15], [15]), ([16, 17, 15], [15, 16, 17]), ([18, 15], [15, 18]), ([19, 15], [15, 19]), ([20, 15], [15, 20]), ([15], [15]), ([22, 15], [15, 22]), ([23, 15], [15, 23]), ([21, 24, 15], [15, 21, 24]), ([25, 15, 15], [15, 25]), ([26], [26]), ([26], [26]), ([27, 28, 26], [26, 27, 28]), ([29, 26], [26, 29]), ([30, 26], [26, 30]), ([31, 26], [26, 31]), ([26], [26]), ([33, 26], [26, 33]), ([34, 26], [26, 34]), ([32, 35, 26], [26, 32, 35]), ([26, 36, 15], [15, 26, 36]), ([15, 37, 4], [4, 15, 37]), ([4, 38], [4, 38])])
def spec_biSorted.B2 : List Nat := [0, 0, 2, 7, 15, 31, 31, 127, 255, 511, 1023, 31, 2079, 6175, 16383, 32767, 65535, 65535, 262143, 524287, 1048575, 2097151, 65535, 4259839, 12648447, 33554431, 67108863, 134217727, 134217727, 536870911, 1073741823, 2147483647, 4294967295, 134217727, 8724152319, 25904021503, 68719476735, 137438953471, 274877906943, 549755813887]
theorem spec_biSorted.tab2 : rtab .any (opsOf Try.f139 2) = spec_biSorted.T2 := by kernel_rfl
theorem spec_biSorted.bits2 : waitsOk spec_biSorted.T2.2 spec_biSorted.B2 = true := by kernel_rfl
def spec_biSorted.T5 : Bool × List (List Nat × List Nat) := (true, [([], []), ([], []), ([1], [1]), ([0, 2], [0, 2]), ([], []), ([], []), ([4, 5], [4, 5]), ([3, 6, 3], [3, 6]), ([7, 7, 0, 1, 2, 3, 4, 5, 6, 7], [7])])
def spec_biSorted.B5 : List Nat := [0, 0, 2, 7, 0, 0, 48, 127, 255]
theorem spec_biSorted.tab5 : rtab .any (opsOf Try.f139 5) = spec_biSorted.T5 := by kernel_rfl
theorem spec_biSorted.bits5 : waitsOk spec_biSorted.T5.2 spec_biSorted.B5 = true := by kernel_rfl
theorem spec_biSorted.calls (k : Nat) (P0_ : Nat → Prop) (A0 : Option Addr) (c0 : Nat) (l0 : List (List Int)) (P1_ : Nat → Prop) (A1 : Option Addr) (c1 : Nat) (l1 : List Int) (r : List (List Int)) (w : World) (hs0 : Kd.V (Kd.slice 3 (Kd.int .i64)) 24 w w.heap.size (fun k_ => P0_ k_) (.slice A0 l0.length c0) l0) (hs1 : Kd.V (Kd.int .i64) 3 w w.heap.size (fun k_ => P1_ k_) (.slice A1 l1.length c1) l1) (h : spec_biSorted.f k l0 l1 = some r) :
  Calls Try.prog 139 #[.slice A0 l0.length c0, .slice A1 l1.length c1] w fun e w' => ∃ v0_ : Value, e = .returned (v0_) ∧ Kd.N (Kd.slice 3 (Kd.int .i64)) 24 w' w.heap.size (fun k_ => ((P0_ k_ ∨ P1_ k_) ∨ w.heap.size ≤ k_)) v0_ r ∧ Below w.heap.size w w' := by
 have HO0 := A_ (show Kd.V (Kd.slice 3 (Kd.int .i64)) 24 w w.heap.size (fun k_ => ((P0_ k_ ∨ P1_ k_) ∨ w.heap.size ≤ k_)) (.slice A0 l0.length c0) l0 from Kd.V_mono hs0 (fun k_ hk => .inl (.inl hk)))
 have HO1 := A_ (show Kd.V (Kd.int .i64) 3 w w.heap.size (fun k_ => ((P0_ k_ ∨ P1_ k_) ∨ w.heap.size ≤ k_)) (.slice A1 l1.length c1) l1 from Kd.V_mono hs1 (fun k_ hk => .inl (.inr hk)))
 have HB := A_ (Below.refl w.heap.size w)
 have H : (spec_biSorted.l0 k l0 l1 0) = some r := h
 clear h
 have H' := A_ H
 clear H
 go_enter Try.func139, Try.ntmps139
 go_wp2
 go_loopg [5] k (fun kq v5 w' => ∃ (x5_1 : Int), v5 = .int .i64 x5_1 ∧ Aside0 (spec_biSorted.l0 kq l0 l1 x5_1 = some r) ∧ Aside0 (kq ≤ k) ∧ Aside0 (Kd.V (Kd.slice 3 (Kd.int .i64)) 24 w' w.heap.size (fun k_ => ((P0_ k_ ∨ P1_ k_) ∨ w.heap.size ≤ k_)) (.slice A0 l0.length c0) l0) ∧ Aside0 (Kd.V (Kd.int .i64) 3 w' w.heap.size (fun k_ => ((P0_ k_ ∨ P1_ k_) ∨ w.heap.size ≤ k_)) (.slice A1 l1.length c1) l1) ∧ Aside0 (Below w.heap.size w w'))
 case atStart => exact ⟨(0), tf_, H', ⟨Nat.le_refl _⟩, ⟨by (with_reducible repeat (first | apply Kd.V_alloc | apply Kd.V_drewN | apply Kd.V_drew)); exact HO0.out⟩, ⟨by (with_reducible repeat (first | apply Kd.V_alloc | apply Kd.V_drewN | apply Kd.V_drew)); exact HO1.out⟩, ⟨tb_⟩⟩
 case round =>
  clear H'
  try clear c1
  try clear p2
  obtain ⟨x5_1, rfl, HA, HK1, HO_0, HO_1, HB⟩ := hrel
  cases gk with
  | zero => exact absurd HA.out (by simp [spec_biSorted.l0])
  | succ k1 =>
   have H := HA.out
   clear HA
   simp only [spec_biSorted.l0] at H
   by_cases c3 : x5_1 < (l0.length : Int)
   ·
    rw [if_pos c3] at H
    have c3b0 := decide_eq_true c3
    clear c3
    by_cases c4 : 0 ≤ x5_1
    ·
     rw [if_pos c4] at H
     have c4b0 := decide_eq_true c4
     clear c4
     by_cases c5 : 0 < ((rd_L2 l0 x5_1).length : Int)
     ·
      rw [if_pos c5] at H
      have c5b0 := decide_eq_true c5
      have c5b1 : decide (0 < (rd_L2 l0 x5_1).length) = true := decide_eq_true (by omega)
      clear c5
      by_cases c6 : 0 < (l1.length : Int)
      ·
       rw [if_pos c6] at H
       have c6b0 := decide_eq_true c6
       have c6b1 : decide (0 < l1.length) = true := decide_eq_true (by omega)
       clear c6
       by_cases c7 : (rd (rd_L2 l0 x5_1) 0) < (rd l1 0)
       ·
        rw [if_pos c7] at H
        have c7b0 := decide_eq_true c7
        clear c7
        have H' := A_ H
        clear H
        try go_wp2
        have n0_ := A_ (Kd.V_drew HO_0.out)
        have n1_ := A_ (Kd.V_drew HO_1.out)
        have n2_ := A_ (below_drew1 HB.out)
        clear HO_0
        clear HO_1
        clear HB
        have HO_0 := n0_
        have HO_1 := n1_
        have HB := n2_
        clear n0_ n1_ n2_
        have p1552 : 0 ≤ (x5_1 : Int) := od_
        have q1552 : x5_1 < (l0.length : Int) := od_
        obtain ⟨ad1552, A1552_0, c1552_0, e1552, hx1552_0, hl1552_0, hi1552_0⟩ := at_L2 (Kd.V_reads' HO_0.out).2.2 x5_1 p1552 q1552
        cases e1552
        obtain ⟨ce1552, hce1552, hMe1552, hcc1552⟩ := Kd.V_get HO_0.out [] x5_1 p1552 (by first | exact q1552 | exact od_ | (have e_ := (Kd.V_reads' HO_0.out).1; omega))
        obtain ⟨ua1552_0, uc1552_0, rfl, ul1552_0, ge1552_0⟩ := Kd.FK_slice_open hMe1552
        have hv1552_0 := hcc1552 0 _ rfl
        rw [Nat.add_zero, show ((Kd.slice 3 (Kd.int .i64))).sz = 1 from rfl, Nat.mul_one] at hv1552_0
        replace hv1552_0 := Option.some.inj (hv1552_0.symm.trans hx1552_0)
        injection hv1552_0 with hva_ hvn_ hvc_
        rw [hva_] at ge1552_0
        rw [hvc_] at ul1552_0
        have HL1552_0 := A_ (show Kd.V (Kd.int .i64) 3 _ w.heap.size _ _ (rd_L2 l0 x5_1) from Kd.V_mk ul1552_0 ge1552_0)
        clear hva_ hvn_ hvc_ ge1552_0 ul1552_0
        clear hcc1552 hce1552
        have HR1552_0 := A_ hi1552_0
        have HC1552_0 := A_ hl1552_0
        clear hi1552_0 hl1552_0
        replace p1552 := eq_true p1552
        replace q1552 := eq_true q1552
        have p1553 : 0 ≤ (0 : Int) := (by omega)
        have q1553 : 0 < ((rd_L2 l0 x5_1).length : Int) := od_
        obtain ⟨ad1553, e1553, hx1553_0⟩ := Kd.at_int (by repeat (first | (with_reducible exact HR1552_0.out) | (with_reducible refine Kd.C_alloc ?_ _) | (with_reducible refine Kd.C_drewN ?_ _) | (with_reducible refine Kd.C_drew ?_) | exact HR1552_0.out)) 0 p1553 q1553
        cases e1553
        have qi1553 : (0 < (rd_L2 l0 x5_1).length) = True := eq_true (by omega)
        (try rw [show ((0 : Int)).toNat = 0 from rfl] at hx1553_0)
        (try rw [Addr.add_zero'] at hx1553_0)
        replace p1553 := eq_true p1553
        replace q1553 := eq_true q1553
        have p1554 : 0 ≤ (0 : Int) := (by omega)
        have q1554 : 0 < (l1.length : Int) := od_
        obtain ⟨ad1554, e1554, hx1554_0⟩ := Kd.at_int (Kd.V_reads' HO_1.out).2.2 0 p1554 q1554
        cases e1554
        have qi1554 : (0 < l1.length) = True := eq_true (by omega)
        (try rw [show ((0 : Int)).toNat = 0 from rfl] at hx1554_0)
        (try rw [Addr.add_zero'] at hx1554_0)
        replace p1554 := eq_true p1554
        replace q1554 := eq_true q1554
        refine start_ (n := 40) (S := fun w' => w'.cell? (ad1552.add (x5_1).toNat) = some (.slice (some ad1553) (rd_L2 l0 x5_1).length c1552_0) ∧ w'.cell? ad1553 = some (.int .i64 (rd (rd_L2 l0 x5_1) 0)) ∧ w'.cell? ad1554 = some (.int .i64 (rd l1 0))) (ds := []) (Fn.bl 40 0) (by kernel_rfl) rfl rfl ⟨hx1552_0, hx1553_0, hx1554_0⟩ (fun hHeld => ?_); refine with_tabW spec_biSorted.tab2 spec_biSorted.bits2 (fun HT_ HW_ => ?_)
        generalize wr.drew = w8 at HO_0 HO_1 HB HL1552_0 HR1552_0 hx1552_0 hx1553_0 hx1554_0 hHeld ⊢
        refine pq_ 0 (some 7) (Fn.bl 40 1) HT_.out ?_
        refine pq_ 1 (some 8) (Fn.bl 40 3) HT_.out ?_
        refine pq_ 2 (some 9) (Fn.bl 40 7) HT_.out ?_
        refine pq_ 3 (some 10) (Fn.bl 40 15) HT_.out ?_
        refine pq_ 4 (some 11) (Fn.bl 40 31) HT_.out ?_
        refine pq_ 5 (some 12) (Fn.bl 40 63) HT_.out ?_
        refine pq_ 6 (some 13) (Fn.bl 40 127) HT_.out ?_
        refine pq_ 7 (some 14) (Fn.bl 40 255) HT_.out ?_
        refine pq_ 11 (some 18) (Fn.bl 40 2303) HT_.out ?_
        refine pq_ 12 (some 19) (Fn.bl 40 6399) HT_.out ?_
        refine tq_ 8 (some 15) (Fn.bl 40 6655) HT_.out HW_.out hHeld ?_ (hy0 := by rintro w' ⟨s0, s1, s2⟩; go_simp; with_reducible rfl)
        refine pq_ 9 (some 16) (Fn.bl 40 7167) HT_.out ?_
        refine tq_ 10 (some 17) (Fn.bl 40 8191) HT_.out HW_.out hHeld ?_ (hy0 := by rintro w' ⟨s0, s1, s2⟩; go_simp; with_reducible rfl)
        refine tq_ 13 (some 20) (Fn.bl 40 16383) HT_.out HW_.out hHeld ?_ (hy0 := by rintro w' ⟨s0, s1, s2⟩; go_simp; with_reducible rfl)
        refine pq_ 14 (some 21) (Fn.bl 40 32767) HT_.out ?_
        refine pq_ 15 (some 22) (Fn.bl 40 65535) HT_.out ?_
        refine pu_ 16 (some 23) (Fn.bl 40 131071) HT_.out ?_
        refine pu_ 17 (some 24) (Fn.bl 40 262143) HT_.out ?_
        refine pu_ 18 (some 25) (Fn.bl 40 524287) HT_.out ?_
        refine pu_ 19 (some 26) (Fn.bl 40 1048575) HT_.out ?_
        refine pu_ 20 (some 27) (Fn.bl 40 2097151) HT_.out ?_
        refine pu_ 21 (some 28) (Fn.bl 40 4194303) HT_.out ?_
        refine pu_ 22 (some 29) (Fn.bl 40 8388607) HT_.out ?_
        refine pu_ 23 (some 30) (Fn.bl 40 16777215) HT_.out ?_
        refine pu_ 24 (some 31) (Fn.bl 40 33554431) HT_.out ?_
        refine pu_ 25 (some 32) (Fn.bl 40 67108863) HT_.out ?_
        refine pu_ 26 (some 33) (Fn.bl 40 134217727) HT_.out ?_
        refine pu_ 27 (some 34) (Fn.bl 40 268435455) HT_.out ?_
        refine pu_ 28 (some 35) (Fn.bl 40 536870911) HT_.out ?_
        refine pu_ 29 (some 36) (Fn.bl 40 1073741823) HT_.out ?_
        refine pu_ 30 (some 37) (Fn.bl 40 2147483647) HT_.out ?_
        refine pu_ 31 (some 38) (Fn.bl 40 4294967295) HT_.out ?_
        refine pu_ 32 (some 39) (Fn.bl 40 8589934591) HT_.out ?_
        refine pu_ 33 (some 40) (Fn.bl 40 17179869183) HT_.out ?_
        refine pu_ 34 (some 41) (Fn.bl 40 34359738367) HT_.out ?_
        refine pu_ 35 (some 42) (Fn.bl 40 68719476735) HT_.out ?_
        refine pu_ 36 (some 43) (Fn.bl 40 137438953471) HT_.out ?_
        refine pu_ 37 (some 44) (Fn.bl 40 274877906943) HT_.out ?_
        refine pq_ 38 (some 45) (Fn.bl 40 549755813887) HT_.out ?_
        refine pq_ 39 (some 46) (Fn.bl 40 1099511627775) HT_.out ?_
        refine done_ (done_of HT_.out (by kernel_rfl)) ?_
        try go_wp2
        go_roundg k1
        case measure => have := HK1.out; omega
        case rel => exact ⟨(wrap64 (x5_1 + 1)), tf_, H', ⟨by have := HK1.out; omega⟩, ⟨by (with_reducible repeat (first | apply Kd.V_alloc | apply Kd.V_drewN | apply Kd.V_drew)); exact HO_0.out⟩, ⟨by (with_reducible repeat (first | apply Kd.V_alloc | apply Kd.V_drewN | apply Kd.V_drew)); exact HO_1.out⟩, ⟨tb_⟩⟩
       ·
        rw [if_neg c7] at H
        have c7b0 := decide_eq_false c7
        clear c7
        by_cases c9 : (rd (rd_L2 l0 x5_1) 0) = (rd l1 0)
        ·
         rw [if_pos c9] at H
         have c9b0 : ((rd (rd_L2 l0 x5_1) 0) == (rd l1 0)) = true := beq_iff_eq.mpr c9
         have c9b1 : ((rd (rd_L2 l0 x5_1) 0) != (rd l1 0)) = false := bne_eq_false_iff_eq.mpr c9
         clear c9
         by_cases c10 : 1 < ((rd_L2 l0 x5_1).length : Int)
         ·
          rw [if_pos c10] at H
          have c10b0 := decide_eq_true c10
          have c10b1 : decide (1 < (rd_L2 l0 x5_1).length) = true := decide_eq_true (by omega)
          clear c10
          by_cases c11 : 1 < (l1.length : Int)
          ·
           rw [if_pos c11] at H
           have c11b0 := decide_eq_true c11
           have c11b1 : decide (1 < l1.length) = true := decide_eq_true (by omega)
           clear c11
           by_cases c12 : (rd (rd_L2 l0 x5_1) 1) < (rd l1 1)
           ·
            rw [if_pos c12] at H
            have c12b0 := decide_eq_true c12
            clear c12
            have H' := A_ H
            clear H
            try go_wp2
            have n0_ := A_ (Kd.V_drew HO_0.out)
            have n1_ := A_ (Kd.V_drew HO_1.out)
            have n2_ := A_ (below_drew1 HB.out)
            clear HO_0
            clear HO_1
            clear HB
            have HO_0 := n0_
            have HO_1 := n1_
            have HB := n2_
            clear n0_ n1_ n2_
            have p1552 : 0 ≤ (x5_1 : Int) := od_
            have q1552 : x5_1 < (l0.length : Int) := od_
            obtain ⟨ad1552, A1552_0, c1552_0, e1552, hx1552_0, hl1552_0, hi1552_0⟩ := at_L2 (Kd.V_reads' HO_0.out).2.2 x5_1 p1552 q1552
            cases e1552
            obtain ⟨ce1552, hce1552, hMe1552, hcc1552⟩ := Kd.V_get HO_0.out [] x5_1 p1552 (by first | exact q1552 | exact od_ | (have e_ := (Kd.V_reads' HO_0.out).1; omega))
            obtain ⟨ua1552_0, uc1552_0, rfl, ul1552_0, ge1552_0⟩ := Kd.FK_slice_open hMe1552
            have hv1552_0 := hcc1552 0 _ rfl
            rw [Nat.add_zero, show ((Kd.slice 3 (Kd.int .i64))).sz = 1 from rfl, Nat.mul_one] at hv1552_0
            replace hv1552_0 := Option.some.inj (hv1552_0.symm.trans hx1552_0)
            injection hv1552_0 with hva_ hvn_ hvc_
            rw [hva_] at ge1552_0
            rw [hvc_] at ul1552_0
            have HL1552_0 := A_ (show Kd.V (Kd.int .i64) 3 _ w.heap.size _ _ (rd_L2 l0 x5_1) from Kd.V_mk ul1552_0 ge1552_0)
            clear hva_ hvn_ hvc_ ge1552_0 ul1552_0
            clear hcc1552 hce1552
            have HR1552_0 := A_ hi1552_0
            have HC1552_0 := A_ hl1552_0
            clear hi1552_0 hl1552_0
            replace p1552 := eq_true p1552
            replace q1552 := eq_true q1552
            have p1553 : 0 ≤ (0 : Int) := (by omega)
            have q1553 : 0 < ((rd_L2 l0 x5_1).length : Int) := od_
            obtain ⟨ad1553, e1553, hx1553_0⟩ := Kd.at_int (by repeat (first | (with_reducible exact HR1552_0.out) | (with_reducible refine Kd.C_alloc ?_ _) | (with_reducible refine Kd.C_drewN ?_ _) | (with_reducible refine Kd.C_drew ?_) | exact HR1552_0.out)) 0 p1553 q1553
            cases e1553
            have qi1553 : (0 < (rd_L2 l0 x5_1).length) = True := eq_true (by omega)
            (try rw [show ((0 : Int)).toNat = 0 from rfl] at hx1553_0)
            (try rw [Addr.add_zero'] at hx1553_0)
            replace p1553 := eq_true p1553
            replace q1553 := eq_true q1553
            have p1554 : 0 ≤ (0 : Int) := (by omega)
            have q1554 : 0 < (l1.length : Int) := od_
            obtain ⟨ad1554, e1554, hx1554_0⟩ := Kd.at_int (Kd.V_reads' HO_1.out).2.2 0 p1554 q1554
            cases e1554
            have qi1554 : (0 < l1.length) = True := eq_true (by omega)
            (try rw [show ((0 : Int)).toNat = 0 from rfl] at hx1554_0)
            (try rw [Addr.add_zero'] at hx1554_0)
            replace p1554 := eq_true p1554
            replace q1554 := eq_true q1554
            have p1555 : 0 ≤ (x5_1 : Int) := od_
            have q1555 : x5_1 < (l0.length : Int) := od_
            obtain ⟨ad1555, A1555_0, c1555_0, e1555, hx1555_0, hl1555_0, hi1555_0⟩ := at_L2 (Kd.V_reads' HO_0.out).2.2 x5_1 p1555 q1555
            obtain rfl : ad1552 = ad1555 := (by injection e1555)
            obtain ⟨ce1555, hce1555, hMe1555, hcc1555⟩ := Kd.V_get HO_0.out [] x5_1 p1555 (by first | exact q1555 | exact od_ | (have e_ := (Kd.V_reads' HO_0.out).1; omega))
            obtain ⟨ua1555_0, uc1555_0, rfl, ul1555_0, ge1555_0⟩ := Kd.FK_slice_open hMe1555
            have hv1555_0 := hcc1555 0 _ rfl
            rw [Nat.add_zero, show ((Kd.slice 3 (Kd.int .i64))).sz = 1 from rfl, Nat.mul_one] at hv1555_0
            replace hv1555_0 := Option.some.inj (hv1555_0.symm.trans hx1555_0)
            injection hv1555_0 with hva_ hvn_ hvc_
            rw [hva_] at ge1555_0
            rw [hvc_] at ul1555_0
            have HL1555_0 := A_ (show Kd.V (Kd.int .i64) 3 _ w.heap.size _ _ (rd_L2 l0 x5_1) from Kd.V_mk ul1555_0 ge1555_0)
            clear hva_ hvn_ hvc_ ge1555_0 ul1555_0
            clear hcc1555 hce1555
            have HR1555_0 := A_ hi1555_0
            have HC1555_0 := A_ hl1555_0
            clear hi1555_0 hl1555_0
            replace p1555 := eq_true p1555
            replace q1555 := eq_true q1555
            have ea_ := Option.some.inj (hx1552_0.symm.trans hx1555_0)
            injection ea_ with ea_ en_ ec_
            subst ea_
            subst ec_
            clear en_
            have p1556 : 0 ≤ (0 : Int) := (by omega)
            have q1556 : 0 < ((rd_L2 l0 x5_1).length : Int) := od_
            obtain ⟨ad1556, e1556, hx1556_0⟩ := Kd.at_int (by repeat (first | (with_reducible exact HR1555_0.out) | (with_reducible refine Kd.C_alloc ?_ _) | (with_reducible refine Kd.C_drewN ?_ _) | (with_reducible refine Kd.C_drew ?_) | exact HR1555_0.out)) 0 p1556 q1556
            cases e1556
            have qi1556 : (0 < (rd_L2 l0 x5_1).length) = True := eq_true (by omega)
            (try rw [show ((0 : Int)).toNat = 0 from rfl] at hx1556_0)
            (try rw [Addr.add_zero'] at hx1556_0)
            replace p1556 := eq_true p1556
            replace q1556 := eq_true q1556
            have p1557 : 0 ≤ (0 : Int) := (by omega)
            have q1557 : 0 < (l1.length : Int) := od_
            obtain ⟨ad1557, e1557, hx1557_0⟩ := Kd.at_int (Kd.V_reads' HO_1.out).2.2 0 p1557 q1557
            obtain rfl : ad1554 = ad1557 := (by injection e1557)
            have qi1557 : (0 < l1.length) = True := eq_true (by omega)
            (try rw [show ((0 : Int)).toNat = 0 from rfl] at hx1557_0)
            (try rw [Addr.add_zero'] at hx1557_0)
            replace p1557 := eq_true p1557
            replace q1557 := eq_true q1557
            have p1558 : 0 ≤ (x5_1 : Int) := od_
            have q1558 : x5_1 < (l0.length : Int) := od_
            obtain ⟨ad1558, A1558_0, c1558_0, e1558, hx1558_0, hl1558_0, hi1558_0⟩ := at_L2 (Kd.V_reads' HO_0.out).2.2 x5_1 p1558 q1558
            obtain rfl : ad1552 = ad1558 := (by injection e1558)
            obtain ⟨ce1558, hce1558, hMe1558, hcc1558⟩ := Kd.V_get HO_0.out [] x5_1 p1558 (by first | exact q1558 | exact od_ | (have e_ := (Kd.V_reads' HO_0.out).1; omega))
            obtain ⟨ua1558_0, uc1558_0, rfl, ul1558_0, ge1558_0⟩ := Kd.FK_slice_open hMe1558
            have hv1558_0 := hcc1558 0 _ rfl
            rw [Nat.add_zero, show ((Kd.slice 3 (Kd.int .i64))).sz = 1 from rfl, Nat.mul_one] at hv1558_0
            replace hv1558_0 := Option.some.inj (hv1558_0.symm.trans hx1558_0)
            injection hv1558_0 with hva_ hvn_ hvc_
            rw [hva_] at ge1558_0
            rw [hvc_] at ul1558_0
            have HL1558_0 := A_ (show Kd.V (Kd.int .i64) 3 _ w.heap.size _ _ (rd_L2 l0 x5_1) from Kd.V_mk ul1558_0 ge1558_0)
            clear hva_ hvn_ hvc_ ge1558_0 ul1558_0
            clear hcc1558 hce1558
            have HR1558_0 := A_ hi1558_0
            have HC1558_0 := A_ hl1558_0
            clear hi1558_0 hl1558_0
            replace p1558 := eq_true p1558
            replace q1558 := eq_true q1558
            have ea_ := Option.some.inj (hx1552_0.symm.trans hx1558_0)
            injection ea_ with ea_ en_ ec_
            subst ea_
            subst ec_
            clear en_
            have p1559 : 0 ≤ (1 : Int) := (by omega)
            have q1559 : 1 < ((rd_L2 l0 x5_1).length : Int) := od_
            obtain ⟨ad1559, e1559, hx1559_0⟩ := Kd.at_int (by repeat (first | (with_reducible exact HR1558_0.out) | (with_reducible refine Kd.C_alloc ?_ _) | (with_reducible refine Kd.C_drewN ?_ _) | (with_reducible refine Kd.C_drew ?_) | exact HR1558_0.out)) 1 p1559 q1559
            cases e1559
            (try simp only [show (1 : Int).toNat = 1 from rfl, Nat.reduceMul, Nat.reduceEqDiff, Go.Addr.add, ↓reduceIte] at hx1559_0)
            have qi1559 : (1 < (rd_L2 l0 x5_1).length) = True := eq_true (by omega)
            (try rw [show ((1 : Int)).toNat = 1 from rfl] at hx1559_0)
            replace p1559 := eq_true p1559
            replace q1559 := eq_true q1559
            have p1560 : 0 ≤ (1 : Int) := (by omega)
            have q1560 : 1 < (l1.length : Int) := od_
            obtain ⟨ad1560, e1560, hx1560_0⟩ := Kd.at_int (Kd.V_reads' HO_1.out).2.2 1 p1560 q1560
            obtain rfl : ad1554 = ad1560 := (by injection e1560)
            (try simp only [show (1 : Int).toNat = 1 from rfl, Nat.reduceMul, Nat.reduceEqDiff, Go.Addr.add, ↓reduceIte] at hx1560_0)
            have qi1560 : (1 < l1.length) = True := eq_true (by omega)
            (try rw [show ((1 : Int)).toNat = 1 from rfl] at hx1560_0)
            replace p1560 := eq_true p1560
            replace q1560 := eq_true q1560
            refine start_ (n := 40) (S := fun w' => w'.cell? (ad1552.add (x5_1).toNat) = some (.slice (some ad1553) (rd_L2 l0 x5_1).length c1552_0) ∧ w'.cell? ad1553 = some (.int .i64 (rd (rd_L2 l0 x5_1) 0)) ∧ w'.cell? ad1554 = some (.int .i64 (rd l1 0)) ∧ w'.cell? (ad1552.add (x5_1).toNat) = some (.slice (some ad1553) (rd_L2 l0 x5_1).length c1552_0) ∧ w'.cell? ad1553 = some (.int .i64 (rd (rd_L2 l0 x5_1) 0)) ∧ w'.cell? ad1554 = some (.int .i64 (rd l1 0)) ∧ w'.cell? (ad1552.add (x5_1).toNat) = some (.slice (some ad1553) (rd_L2 l0 x5_1).length c1552_0) ∧ w'.cell? ⟨ad1553.block, ad1553.off + 1, none⟩ = some (.int .i64 (rd (rd_L2 l0 x5_1) 1)) ∧ w'.cell? ⟨ad1554.block, ad1554.off + 1, none⟩ = some (.int .i64 (rd l1 1))) (ds := []) (Fn.bl 40 0) (by kernel_rfl) rfl rfl ⟨hx1552_0, hx1553_0, hx1554_0, hx1555_0, hx1556_0, hx1557_0, hx1558_0, hx1559_0, hx1560_0⟩ (fun hHeld => ?_); refine with_tabW spec_biSorted.tab2 spec_biSorted.bits2 (fun HT_ HW_ => ?_)
            generalize wr.drew = w13 at HO_0 HO_1 HB HL1552_0 HL1555_0 HL1558_0 HR1552_0 HR1555_0 HR1558_0 hx1552_0 hx1553_0 hx1554_0 hx1555_0 hx1556_0 hx1557_0 hx1558_0 hx1559_0 hx1560_0 hHeld ⊢
            refine pq_ 0 (some 7) (Fn.bl 40 1) HT_.out ?_
            refine pq_ 1 (some 8) (Fn.bl 40 3) HT_.out ?_
            refine pq_ 2 (some 9) (Fn.bl 40 7) HT_.out ?_
            refine pq_ 3 (some 10) (Fn.bl 40 15) HT_.out ?_
            refine pq_ 4 (some 11) (Fn.bl 40 31) HT_.out ?_
            refine pq_ 5 (some 12) (Fn.bl 40 63) HT_.out ?_
            refine pq_ 6 (some 13) (Fn.bl 40 127) HT_.out ?_
            refine pq_ 7 (some 14) (Fn.bl 40 255) HT_.out ?_
            refine pq_ 11 (some 18) (Fn.bl 40 2303) HT_.out ?_
            refine pq_ 12 (some 19) (Fn.bl 40 6399) HT_.out ?_
            refine tq_ 8 (some 15) (Fn.bl 40 6655) HT_.out HW_.out hHeld ?_ (hy0 := by rintro w' ⟨s0, s1, s2, s3, s4, s5, s6, s7, s8⟩; go_simp; with_reducible rfl)
            refine pq_ 9 (some 16) (Fn.bl 40 7167) HT_.out ?_
            refine tq_ 10 (some 17) (Fn.bl 40 8191) HT_.out HW_.out hHeld ?_ (hy0 := by rintro w' ⟨s0, s1, s2, s3, s4, s5, s6, s7, s8⟩; go_simp; with_reducible rfl)
            refine tq_ 13 (some 20) (Fn.bl 40 16383) HT_.out HW_.out hHeld ?_ (hy0 := by rintro w' ⟨s0, s1, s2, s3, s4, s5, s6, s7, s8⟩; go_simp; with_reducible rfl)
            refine pq_ 14 (some 21) (Fn.bl 40 32767) HT_.out ?_
            refine pq_ 15 (some 22) (Fn.bl 40 65535) HT_.out ?_
            refine pq_ 16 (some 23) (Fn.bl 40 131071) HT_.out ?_
            refine pq_ 17 (some 24) (Fn.bl 40 262143) HT_.out ?_
            refine pq_ 18 (some 25) (Fn.bl 40 524287) HT_.out ?_
            refine pq_ 22 (some 29) (Fn.bl 40 4718591) HT_.out ?_
            refine pq_ 23 (some 30) (Fn.bl 40 13107199) HT_.out ?_
            refine tq_ 19 (some 26) (Fn.bl 40 13631487) HT_.out HW_.out hHeld ?_ (hy0 := by rintro w' ⟨s0, s1, s2, s3, s4, s5, s6, s7, s8⟩; go_simp; with_reducible rfl)
            refine pq_ 20 (some 27) (Fn.bl 40 14680063) HT_.out ?_
            refine tq_ 21 (some 28) (Fn.bl 40 16777215) HT_.out HW_.out hHeld ?_ (hy0 := by rintro w' ⟨s0, s1, s2, s3, s4, s5, s6, s7, s8⟩; go_simp; with_reducible rfl)
            refine tq_ 24 (some 31) (Fn.bl 40 33554431) HT_.out HW_.out hHeld ?_ (hy0 := by rintro w' ⟨s0, s1, s2, s3, s4, s5, s6, s7, s8⟩; go_simp; with_reducible rfl)
            refine pq_ 25 (some 32) (Fn.bl 40 67108863) HT_.out ?_
            refine pq_ 26 (some 33) (Fn.bl 40 134217727) HT_.out ?_
            refine pq_ 27 (some 34) (Fn.bl 40 268435455) HT_.out ?_
            refine pq_ 28 (some 35) (Fn.bl 40 536870911) HT_.out ?_
            refine pq_ 29 (some 36) (Fn.bl 40 1073741823) HT_.out ?_
            refine pq_ 33 (some 40) (Fn.bl 40 9663676415) HT_.out ?_
            refine pq_ 34 (some 41) (Fn.bl 40 26843545599) HT_.out ?_
            refine tq_ 30 (some 37) (Fn.bl 40 27917287423) HT_.out HW_.out hHeld ?_ (hy0 := by rintro w' ⟨s0, s1, s2, s3, s4, s5, s6, s7, s8⟩; go_simp; with_reducible rfl)
            refine pq_ 31 (some 38) (Fn.bl 40 30064771071) HT_.out ?_
            refine tq_ 32 (some 39) (Fn.bl 40 34359738367) HT_.out HW_.out hHeld ?_ (hy0 := by rintro w' ⟨s0, s1, s2, s3, s4, s5, s6, s7, s8⟩; go_simp; with_reducible rfl)
            refine tq_ 35 (some 42) (Fn.bl 40 68719476735) HT_.out HW_.out hHeld ?_ (hy0 := by rintro w' ⟨s0, s1, s2, s3, s4, s5, s6, s7, s8⟩; go_simp; with_reducible rfl)
            refine pq_ 36 (some 43) (Fn.bl 40 137438953471) HT_.out ?_
            refine pq_ 37 (some 44) (Fn.bl 40 274877906943) HT_.out ?_
            refine pq_ 38 (some 45) (Fn.bl 40 549755813887) HT_.out ?_
            refine pq_ 39 (some 46) (Fn.bl 40 1099511627775) HT_.out ?_
            refine done_ (done_of HT_.out (by kernel_rfl)) ?_
            try go_wp2
            go_roundg k1
            case measure => have := HK1.out; omega
            case rel => exact ⟨(wrap64 (x5_1 + 1)), tf_, H', ⟨by have := HK1.out; omega⟩, ⟨by (with_reducible repeat (first | apply Kd.V_alloc | apply Kd.V_drewN | apply Kd.V_drew)); exact HO_0.out⟩, ⟨by (with_reducible repeat (first | apply Kd.V_alloc | apply Kd.V_drewN | apply Kd.V_drew)); exact HO_1.out⟩, ⟨tb_⟩⟩
           ·
            rw [if_neg c12] at H
            have c12b0 := decide_eq_false c12
            clear c12
            obtain ⟨y1561, hy1561⟩ : ∃ y_ : List (List Int), y_ = (([] : List (List Int))) := ⟨_, rfl⟩
            replace H : (if x5_1 ≤ (l0.length : Int) then ((some (l0.take (x5_1 : Int).toNat : List (List Int))).bind fun y1564 => (if y1561.length + y1564.length < 5864062014805 then ((some (y1561 ++ y1564 : List (List Int))).bind fun y1569 => (if y1569.length < 5864062014805 then ((some (y1569 ++ [l1] : List (List Int))).bind fun y1572 => ((some (l0.drop (x5_1 : Int).toNat : List (List Int))).bind fun y1575 => (if y1572.length + y1575.length < 5864062014805 then (some (y1572 ++ y1575)) else (none)))) else (none))) else (none))) else (none)) = some r := ty_ hy1561 H
            have Ny1561 := A_ hy1561
            clear hy1561
            have c14b0 := eq_true (od_ : 0 ≤ x5_1)
            by_cases c15 : x5_1 ≤ (l0.length : Int)
            ·
             rw [if_pos c15] at H
             have c15b0 := eq_true c15
             have c15b1 := decide_eq_true c15
             clear c15
             obtain ⟨y1564, hy1564⟩ : ∃ y_ : List (List Int), y_ = (l0.take (x5_1 : Int).toNat) := ⟨_, rfl⟩
             replace H : (if y1561.length + y1564.length < 5864062014805 then ((some (y1561 ++ y1564 : List (List Int))).bind fun y1569 => (if y1569.length < 5864062014805 then ((some (y1569 ++ [l1] : List (List Int))).bind fun y1572 => ((some (l0.drop (x5_1 : Int).toNat : List (List Int))).bind fun y1575 => (if y1572.length + y1575.length < 5864062014805 then (some (y1572 ++ y1575)) else (none)))) else (none))) else (none)) = some r := ty_ hy1564 H
             have Ny1564 := A_ hy1564
             clear hy1564
             by_cases c16 : y1561.length + y1564.length < 5864062014805
             ·
              rw [if_pos c16] at H
              have LMc16 := A_ c16
              clear c16
              obtain ⟨y1569, hy1569⟩ : ∃ y_ : List (List Int), y_ = (y1561 ++ y1564) := ⟨_, rfl⟩
              replace H : (if y1569.length < 5864062014805 then ((some (y1569 ++ [l1] : List (List Int))).bind fun y1572 => ((some (l0.drop (x5_1 : Int).toNat : List (List Int))).bind fun y1575 => (if y1572.length + y1575.length < 5864062014805 then (some (y1572 ++ y1575)) else (none)))) else (none)) = some r := ty_ hy1569 H
              have Ny1569 := A_ hy1569
              clear hy1569
              by_cases c17 : y1569.length < 5864062014805
              ·
               rw [if_pos c17] at H
               have LMc17 := A_ c17
               clear c17
               obtain ⟨y1572, hy1572⟩ : ∃ y_ : List (List Int), y_ = (y1569 ++ [l1]) := ⟨_, rfl⟩
               replace H : ((some (l0.drop (x5_1 : Int).toNat : List (List Int))).bind fun y1575 => (if y1572.length + y1575.length < 5864062014805 then (some (y1572 ++ y1575)) else (none))) = some r := ty_ hy1572 H
               have Ny1572 := A_ hy1572
               clear hy1572
               have c18b0 := eq_true (od_ : 0 ≤ x5_1)
               have c19b0 := eq_true (od_ : x5_1 ≤ (l0.length : Int))
               obtain ⟨y1575, hy1575⟩ : ∃ y_ : List (List Int), y_ = (l0.drop (x5_1 : Int).toNat) := ⟨_, rfl⟩
               replace H : (if y1572.length + y1575.length < 5864062014805 then (some (y1572 ++ y1575)) else (none)) = some r := ty_ hy1575 H
               have Ny1575 := A_ hy1575
               clear hy1575
               by_cases c20 : y1572.length + y1575.length < 5864062014805
               ·
                rw [if_pos c20] at H
                have LMc20 := A_ c20
                clear c20
                obtain ⟨y1580, hy1580⟩ : ∃ y_ : List (List Int), y_ = (y1572 ++ y1575) := ⟨_, rfl⟩
                replace H : (some y1580) = some r := ty_ hy1580 H
                have Ny1580 := A_ hy1580
                clear hy1580
                obtain rfl := Option.some.inj H
                try go_wp2
                have n0_ := A_ (Kd.V_drew HO_0.out)
                have n1_ := A_ (Kd.V_drew HO_1.out)
                have n2_ := A_ (below_drew1 HB.out)
                clear HO_0
                clear HO_1
                clear HB
                have HO_0 := n0_
                have HO_1 := n1_
                have HB := n2_
                clear n0_ n1_ n2_
                have p1552 : 0 ≤ (x5_1 : Int) := od_
                have q1552 : x5_1 < (l0.length : Int) := od_
                obtain ⟨ad1552, A1552_0, c1552_0, e1552, hx1552_0, hl1552_0, hi1552_0⟩ := at_L2 (Kd.V_reads' HO_0.out).2.2 x5_1 p1552 q1552
                cases e1552
                obtain ⟨ce1552, hce1552, hMe1552, hcc1552⟩ := Kd.V_get HO_0.out [] x5_1 p1552 (by first | exact q1552 | exact od_ | (have e_ := (Kd.V_reads' HO_0.out).1; omega))
                obtain ⟨ua1552_0, uc1552_0, rfl, ul1552_0, ge1552_0⟩ := Kd.FK_slice_open hMe1552
                have hv1552_0 := hcc1552 0 _ rfl
                rw [Nat.add_zero, show ((Kd.slice 3 (Kd.int .i64))).sz = 1 from rfl, Nat.mul_one] at hv1552_0
                replace hv1552_0 := Option.some.inj (hv1552_0.symm.trans hx1552_0)
                injection hv1552_0 with hva_ hvn_ hvc_
                rw [hva_] at ge1552_0
                rw [hvc_] at ul1552_0
                have HL1552_0 := A_ (show Kd.V (Kd.int .i64) 3 _ w.heap.size _ _ (rd_L2 l0 x5_1) from Kd.V_mk ul1552_0 ge1552_0)
                clear hva_ hvn_ hvc_ ge1552_0 ul1552_0
                clear hcc1552 hce1552
                have HR1552_0 := A_ hi1552_0
                have HC1552_0 := A_ hl1552_0
                clear hi1552_0 hl1552_0
                replace p1552 := eq_true p1552
                replace q1552 := eq_true q1552
                have p1553 : 0 ≤ (0 : Int) := (by omega)
                have q1553 : 0 < ((rd_L2 l0 x5_1).length : Int) := od_
                obtain ⟨ad1553, e1553, hx1553_0⟩ := Kd.at_int (by repeat (first | (with_reducible exact HR1552_0.out) | (with_reducible refine Kd.C_alloc ?_ _) | (with_reducible refine Kd.C_drewN ?_ _) | (with_reducible refine Kd.C_drew ?_) | exact HR1552_0.out)) 0 p1553 q1553
                cases e1553
                have qi1553 : (0 < (rd_L2 l0 x5_1).length) = True := eq_true (by omega)
                (try rw [show ((0 : Int)).toNat = 0 from rfl] at hx1553_0)
                (try rw [Addr.add_zero'] at hx1553_0)
                replace p1553 := eq_true p1553
                replace q1553 := eq_true q1553
                have p1554 : 0 ≤ (0 : Int) := (by omega)
                have q1554 : 0 < (l1.length : Int) := od_
                obtain ⟨ad1554, e1554, hx1554_0⟩ := Kd.at_int (Kd.V_reads' HO_1.out).2.2 0 p1554 q1554
                cases e1554
                have qi1554 : (0 < l1.length) = True := eq_true (by omega)
                (try rw [show ((0 : Int)).toNat = 0 from rfl] at hx1554_0)
                (try rw [Addr.add_zero'] at hx1554_0)
                replace p1554 := eq_true p1554
                replace q1554 := eq_true q1554
                have p1555 : 0 ≤ (x5_1 : Int) := od_
                have q1555 : x5_1 < (l0.length : Int) := od_
                obtain ⟨ad1555, A1555_0, c1555_0, e1555, hx1555_0, hl1555_0, hi1555_0⟩ := at_L2 (Kd.V_reads' HO_0.out).2.2 x5_1 p1555 q1555
                obtain rfl : ad1552 = ad1555 := (by injection e1555)
                obtain ⟨ce1555, hce1555, hMe1555, hcc1555⟩ := Kd.V_get HO_0.out [] x5_1 p1555 (by first | exact q1555 | exact od_ | (have e_ := (Kd.V_reads' HO_0.out).1; omega))
                obtain ⟨ua1555_0, uc1555_0, rfl, ul1555_0, ge1555_0⟩ := Kd.FK_slice_open hMe1555
                have hv1555_0 := hcc1555 0 _ rfl
                rw [Nat.add_zero, show ((Kd.slice 3 (Kd.int .i64))).sz = 1 from rfl, Nat.mul_one] at hv1555_0
                replace hv1555_0 := Option.some.inj (hv1555_0.symm.trans hx1555_0)
                injection hv1555_0 with hva_ hvn_ hvc_
                rw [hva_] at ge1555_0
                rw [hvc_] at ul1555_0
                have HL1555_0 := A_ (show Kd.V (Kd.int .i64) 3 _ w.heap.size _ _ (rd_L2 l0 x5_1) from Kd.V_mk ul1555_0 ge1555_0)
                clear hva_ hvn_ hvc_ ge1555_0 ul1555_0
                clear hcc1555 hce1555
                have HR1555_0 := A_ hi1555_0
                have HC1555_0 := A_ hl1555_0
                clear hi1555_0 hl1555_0
                replace p1555 := eq_true p1555
                replace q1555 := eq_true q1555
                have ea_ := Option.some.inj (hx1552_0.symm.trans hx1555_0)
                injection ea_ with ea_ en_ ec_
                subst ea_
                subst ec_
                clear en_
                have p1556 : 0 ≤ (0 : Int) := (by omega)
                have q1556 : 0 < ((rd_L2 l0 x5_1).length : Int) := od_
                obtain ⟨ad1556, e1556, hx1556_0⟩ := Kd.at_int (by repeat (first | (with_reducible exact HR1555_0.out) | (with_reducible refine Kd.C_alloc ?_ _) | (with_reducible refine Kd.C_drewN ?_ _) | (with_reducible refine Kd.C_drew ?_) | exact HR1555_0.out)) 0 p1556 q1556
                cases e1556
                have qi1556 : (0 < (rd_L2 l0 x5_1).length) = True := eq_true (by omega)
                (try rw [show ((0 : Int)).toNat = 0 from rfl] at hx1556_0)
                (try rw [Addr.add_zero'] at hx1556_0)
                replace p1556 := eq_true p1556
                replace q1556 := eq_true q1556
                have p1557 : 0 ≤ (0 : Int) := (by omega)
                have q1557 : 0 < (l1.length : Int) := od_
                obtain ⟨ad1557, e1557, hx1557_0⟩ := Kd.at_int (Kd.V_reads' HO_1.out).2.2 0 p1557 q1557
                obtain rfl : ad1554 = ad1557 := (by injection e1557)
                have qi1557 : (0 < l1.length) = True := eq_true (by omega)
                (try rw [show ((0 : Int)).toNat = 0 from rfl] at hx1557_0)
                (try rw [Addr.add_zero'] at hx1557_0)
                replace p1557 := eq_true p1557
                replace q1557 := eq_true q1557
                have p1558 : 0 ≤ (x5_1 : Int) := od_
                have q1558 : x5_1 < (l0.length : Int) := od_
                obtain ⟨ad1558, A1558_0, c1558_0, e1558, hx1558_0, hl1558_0, hi1558_0⟩ := at_L2 (Kd.V_reads' HO_0.out).2.2 x5_1 p1558 q1558
                obtain rfl : ad1552 = ad1558 := (by injection e1558)
                obtain ⟨ce1558, hce1558, hMe1558, hcc1558⟩ := Kd.V_get HO_0.out [] x5_1 p1558 (by first | exact q1558 | exact od_ | (have e_ := (Kd.V_reads' HO_0.out).1; omega))
                obtain ⟨ua1558_0, uc1558_0, rfl, ul1558_0, ge1558_0⟩ := Kd.FK_slice_open hMe1558
                have hv1558_0 := hcc1558 0 _ rfl
                rw [Nat.add_zero, show ((Kd.slice 3 (Kd.int .i64))).sz = 1 from rfl, Nat.mul_one] at hv1558_0
                replace hv1558_0 := Option.some.inj (hv1558_0.symm.trans hx1558_0)
                injection hv1558_0 with hva_ hvn_ hvc_
                rw [hva_] at ge1558_0
                rw [hvc_] at ul1558_0
                have HL1558_0 := A_ (show Kd.V (Kd.int .i64) 3 _ w.heap.size _ _ (rd_L2 l0 x5_1) from Kd.V_mk ul1558_0 ge1558_0)
                clear hva_ hvn_ hvc_ ge1558_0 ul1558_0
                clear hcc1558 hce1558
                have HR1558_0 := A_ hi1558_0
                have HC1558_0 := A_ hl1558_0
                clear hi1558_0 hl1558_0
                replace p1558 := eq_true p1558
                replace q1558 := eq_true q1558
                have ea_ := Option.some.inj (hx1552_0.symm.trans hx1558_0)
                injection ea_ with ea_ en_ ec_
                subst ea_
                subst ec_
                clear en_
                have p1559 : 0 ≤ (1 : Int) := (by omega)
                have q1559 : 1 < ((rd_L2 l0 x5_1).length : Int) := od_
                obtain ⟨ad1559, e1559, hx1559_0⟩ := Kd.at_int (by repeat (first | (with_reducible exact HR1558_0.out) | (with_reducible refine Kd.C_alloc ?_ _) | (with_reducible refine Kd.C_drewN ?_ _) | (with_reducible refine Kd.C_drew ?_) | exact HR1558_0.out)) 1 p1559 q1559
                cases e1559
                (try simp only [show (1 : Int).toNat = 1 from rfl, Nat.reduceMul, Nat.reduceEqDiff, Go.Addr.add, ↓reduceIte] at hx1559_0)
                have qi1559 : (1 < (rd_L2 l0 x5_1).length) = True := eq_true (by omega)
                (try rw [show ((1 : Int)).toNat = 1 from rfl] at hx1559_0)
                replace p1559 := eq_true p1559
                replace q1559 := eq_true q1559
                have p1560 : 0 ≤ (1 : Int) := (by omega)
                have q1560 : 1 < (l1.length : Int) := od_
                obtain ⟨ad1560, e1560, hx1560_0⟩ := Kd.at_int (Kd.V_reads' HO_1.out).2.2 1 p1560 q1560
                obtain rfl : ad1554 = ad1560 := (by injection e1560)
                (try simp only [show (1 : Int).toNat = 1 from rfl, Nat.reduceMul, Nat.reduceEqDiff, Go.Addr.add, ↓reduceIte] at hx1560_0)
                have qi1560 : (1 < l1.length) = True := eq_true (by omega)
                (try rw [show ((1 : Int)).toNat = 1 from rfl] at hx1560_0)
                replace p1560 := eq_true p1560
                replace q1560 := eq_true q1560
                refine start_ (n := 40) (S := fun w' => w'.cell? (ad1552.add (x5_1).toNat) = some (.slice (some ad1553) (rd_L2 l0 x5_1).length c1552_0) ∧ w'.cell? ad1553 = some (.int .i64 (rd (rd_L2 l0 x5_1) 0)) ∧ w'.cell? ad1554 = some (.int .i64 (rd l1 0)) ∧ w'.cell? (ad1552.add (x5_1).toNat) = some (.slice (some ad1553) (rd_L2 l0 x5_1).length c1552_0) ∧ w'.cell? ad1553 = some (.int .i64 (rd (rd_L2 l0 x5_1) 0)) ∧ w'.cell? ad1554 = some (.int .i64 (rd l1 0)) ∧ w'.cell? (ad1552.add (x5_1).toNat) = some (.slice (some ad1553) (rd_L2 l0 x5_1).length c1552_0) ∧ w'.cell? ⟨ad1553.block, ad1553.off + 1, none⟩ = some (.int .i64 (rd (rd_L2 l0 x5_1) 1)) ∧ w'.cell? ⟨ad1554.block, ad1554.off + 1, none⟩ = some (.int .i64 (rd l1 1))) (ds := []) (Fn.bl 40 0) (by kernel_rfl) rfl rfl ⟨hx1552_0, hx1553_0, hx1554_0, hx1555_0, hx1556_0, hx1557_0, hx1558_0, hx1559_0, hx1560_0⟩ (fun hHeld => ?_); refine with_tabW spec_biSorted.tab2 spec_biSorted.bits2 (fun HT_ HW_ => ?_)
                generalize wr.drew = w21 at HO_0 HO_1 HB HL1552_0 HL1555_0 HL1558_0 HR1552_0 HR1555_0 HR1558_0 hx1552_0 hx1553_0 hx1554_0 hx1555_0 hx1556_0 hx1557_0 hx1558_0 hx1559_0 hx1560_0 hHeld ⊢
                refine pq_ 0 (some 7) (Fn.bl 40 1) HT_.out ?_
                refine pq_ 1 (some 8) (Fn.bl 40 3) HT_.out ?_
                refine pq_ 2 (some 9) (Fn.bl 40 7) HT_.out ?_
                refine pq_ 3 (some 10) (Fn.bl 40 15) HT_.out ?_
                refine pq_ 4 (some 11) (Fn.bl 40 31) HT_.out ?_
                refine pq_ 5 (some 12) (Fn.bl 40 63) HT_.out ?_
                refine pq_ 6 (some 13) (Fn.bl 40 127) HT_.out ?_
                refine pq_ 7 (some 14) (Fn.bl 40 255) HT_.out ?_
                refine pq_ 11 (some 18) (Fn.bl 40 2303) HT_.out ?_
                refine pq_ 12 (some 19) (Fn.bl 40 6399) HT_.out ?_
                refine tq_ 8 (some 15) (Fn.bl 40 6655) HT_.out HW_.out hHeld ?_ (hy0 := by rintro w' ⟨s0, s1, s2, s3, s4, s5, s6, s7, s8⟩; go_simp; with_reducible rfl)
                refine pq_ 9 (some 16) (Fn.bl 40 7167) HT_.out ?_
                refine tq_ 10 (some 17) (Fn.bl 40 8191) HT_.out HW_.out hHeld ?_ (hy0 := by rintro w' ⟨s0, s1, s2, s3, s4, s5, s6, s7, s8⟩; go_simp; with_reducible rfl)
                refine tq_ 13 (some 20) (Fn.bl 40 16383) HT_.out HW_.out hHeld ?_ (hy0 := by rintro w' ⟨s0, s1, s2, s3, s4, s5, s6, s7, s8⟩; go_simp; with_reducible rfl)
                refine pq_ 14 (some 21) (Fn.bl 40 32767) HT_.out ?_
                refine pq_ 15 (some 22) (Fn.bl 40 65535) HT_.out ?_
                refine pq_ 16 (some 23) (Fn.bl 40 131071) HT_.out ?_
                refine pq_ 17 (some 24) (Fn.bl 40 262143) HT_.out ?_
                refine pq_ 18 (some 25) (Fn.bl 40 524287) HT_.out ?_
                refine pq_ 22 (some 29) (Fn.bl 40 4718591) HT_.out ?_
                refine pq_ 23 (some 30) (Fn.bl 40 13107199) HT_.out ?_
                refine tq_ 19 (some 26) (Fn.bl 40 13631487) HT_.out HW_.out hHeld ?_ (hy0 := by rintro w' ⟨s0, s1, s2, s3, s4, s5, s6, s7, s8⟩; go_simp; with_reducible rfl)
                refine pq_ 20 (some 27) (Fn.bl 40 14680063) HT_.out ?_
                refine tq_ 21 (some 28) (Fn.bl 40 16777215) HT_.out HW_.out hHeld ?_ (hy0 := by rintro w' ⟨s0, s1, s2, s3, s4, s5, s6, s7, s8⟩; go_simp; with_reducible rfl)
                refine tq_ 24 (some 31) (Fn.bl 40 33554431) HT_.out HW_.out hHeld ?_ (hy0 := by rintro w' ⟨s0, s1, s2, s3, s4, s5, s6, s7, s8⟩; go_simp; with_reducible rfl)
                refine pq_ 25 (some 32) (Fn.bl 40 67108863) HT_.out ?_
                refine pq_ 26 (some 33) (Fn.bl 40 134217727) HT_.out ?_
                refine pq_ 27 (some 34) (Fn.bl 40 268435455) HT_.out ?_
                refine pq_ 28 (some 35) (Fn.bl 40 536870911) HT_.out ?_
                refine pq_ 29 (some 36) (Fn.bl 40 1073741823) HT_.out ?_
                refine pq_ 33 (some 40) (Fn.bl 40 9663676415) HT_.out ?_
                refine pq_ 34 (some 41) (Fn.bl 40 26843545599) HT_.out ?_
                refine tq_ 30 (some 37) (Fn.bl 40 27917287423) HT_.out HW_.out hHeld ?_ (hy0 := by rintro w' ⟨s0, s1, s2, s3, s4, s5, s6, s7, s8⟩; go_simp; with_reducible rfl)
                refine pq_ 31 (some 38) (Fn.bl 40 30064771071) HT_.out ?_
                refine tq_ 32 (some 39) (Fn.bl 40 34359738367) HT_.out HW_.out hHeld ?_ (hy0 := by rintro w' ⟨s0, s1, s2, s3, s4, s5, s6, s7, s8⟩; go_simp; with_reducible rfl)
                refine tq_ 35 (some 42) (Fn.bl 40 68719476735) HT_.out HW_.out hHeld ?_ (hy0 := by rintro w' ⟨s0, s1, s2, s3, s4, s5, s6, s7, s8⟩; go_simp; with_reducible rfl)
                refine pq_ 36 (some 43) (Fn.bl 40 137438953471) HT_.out ?_
                refine pq_ 37 (some 44) (Fn.bl 40 274877906943) HT_.out ?_
                refine pq_ 38 (some 45) (Fn.bl 40 549755813887) HT_.out ?_
                refine pq_ 39 (some 46) (Fn.bl 40 1099511627775) HT_.out ?_
                refine done_ (done_of HT_.out (by kernel_rfl)) ?_
                try go_wp2_with (first | (refine gd_ 49 ?_; refine Kd.N_lit (Kd.slice 3 (Kd.int .i64)) _ 24 ?hg (N' := 49) ?hd (xs := ([] : List (List Int))) (inner := []) (ok := (fun k_ => ((P0_ k_ ∨ P1_ k_) ∨ w.heap.size ≤ k_))) (okp := (fun k_ => ((P0_ k_ ∨ P1_ k_) ∨ w.heap.size ≤ k_))) ?hr ?hp (fun _ hk => hk) ((show ∀ k_, w21.heap.size ≤ k_ → (fun k_ => ((P0_ k_ ∨ P1_ k_) ∨ w.heap.size ≤ k_)) k_ from fun k_ hk => (.inr (Nat.le_trans (below_size tb_) hk))) _ (Nat.le_refl _)) (Below.refl _ _) (Nat.le_refl _) (by simp) ?_; (case hd => rfl); (case hg => rfl); (case hr => first | (go_simp; done) | (go_simp; rfl)); (case hp => exact (Reps.none _ _)); intro v1562 w22 ho23 hb hg_ hnew_; clear hg_ hnew_; (first | rw [← Ny1561.out] at ho23 | (simp only [Int.reduceToNat] at ho23; rw [← Ny1561.out] at ho23)); replace HO_0 := A_ (Kd.V_elder' (by (with_reducible repeat (first | apply Kd.V_alloc | apply Kd.V_drewN | apply Kd.V_drew)); exact HO_0.out) (by first | exact Kd.N_base ho23 | exact Kd.S_base ho23) hb); replace HO_1 := A_ (Kd.V_elder' (by (with_reducible repeat (first | apply Kd.V_alloc | apply Kd.V_drewN | apply Kd.V_drew)); exact HO_1.out) (by first | exact Kd.N_base ho23 | exact Kd.S_base ho23) hb); replace HL1552_0 := A_ (Kd.V_elder' (by (with_reducible repeat (first | apply Kd.V_alloc | apply Kd.V_drewN | apply Kd.V_drew)); exact HL1552_0.out) (by first | exact Kd.N_base ho23 | exact Kd.S_base ho23) hb); replace HL1555_0 := A_ (Kd.V_elder' (by (with_reducible repeat (first | apply Kd.V_alloc | apply Kd.V_drewN | apply Kd.V_drew)); exact HL1555_0.out) (by first | exact Kd.N_base ho23 | exact Kd.S_base ho23) hb); replace HL1558_0 := A_ (Kd.V_elder' (by (with_reducible repeat (first | apply Kd.V_alloc | apply Kd.V_drewN | apply Kd.V_drew)); exact HL1558_0.out) (by first | exact Kd.N_base ho23 | exact Kd.S_base ho23) hb); have HO1563 := A_ (Kd.N_lower ho23 (below_size tb_)); replace HR1552_0 := A_ (Kd.C_below (by repeat (first | (with_reducible exact HR1552_0.out) | (with_reducible refine Kd.C_alloc ?_ _) | (with_reducible refine Kd.C_drewN ?_ _) | (with_reducible refine Kd.C_drew ?_) | exact HR1552_0.out)) hb); replace HR1555_0 := A_ (Kd.C_below (by repeat (first | (with_reducible exact HR1555_0.out) | (with_reducible refine Kd.C_alloc ?_ _) | (with_reducible refine Kd.C_drewN ?_ _) | (with_reducible refine Kd.C_drew ?_) | exact HR1555_0.out)) hb); replace HR1558_0 := A_ (Kd.C_below (by repeat (first | (with_reducible exact HR1558_0.out) | (with_reducible refine Kd.C_alloc ?_ _) | (with_reducible refine Kd.C_drewN ?_ _) | (with_reducible refine Kd.C_drew ?_) | exact HR1558_0.out)) hb); replace HB := A_ (below_step tb_ hb); clear hb ho23; have q24 : (x5_1 : Int) ≤ ((l0.length : Int) : Int) := od_; obtain ⟨i024, hi024, _, hsz24, _⟩ := info_parts info24; have hroom24 : l0.length ≤ c0 := (Kd.V_reads' HO_0.out).2.1; have hC24 : Kd.F (Kd.slice 3 (Kd.int .i64)) _ _ (some ad1552) l0.length l0 := (Kd.V_at (base := w.heap.size) HO_0.out).2.2; have hcut24 := cut_to (P := Try.prog) 27 24 .i64 Try.underlying27 hi024 (some ad1552) l0.length c0 x5_1 (od_) q24 hroom24; have hr24 := Kd.F_take (m := (x5_1 : Int).toNat) hC24 (by omega); have hy24 : y1564.length = (x5_1 : Int).toNat := (by rw [Ny1564.out, List.length_take]; omega); rw [← Ny1564.out] at hr24; rw [← hy24] at hcut24; have HO1568 := A_ (show Kd.V (Kd.slice 3 (Kd.int .i64)) 24 _ w.heap.size _ (.slice (some ad1552) y1564.length c0) y1564 from Kd.V_mk (by omega) hr24); have HC1568 := A_ (show y1564.length ≤ c0 from by omega); clear hr24 hC24 hroom24 hi024 hsz24; have KY24 := A_ hy24; clear hy24; replace q24 := eq_true q24) | ((with_reducible refine gate_builtin (b := .append) (xs := #[.tmp 49, .tmp 52]) rfl ?_); at_builtin; refine Kd.N_append_rows (Kd.slice 3 (Kd.int .i64)) (w0 := w) w.heap.size rfl (.tmp 49) (.tmp 52) 27 24 (.slice none 0 0) 24 rfl Try.underlying27 info24 rfl (by decide) (by omega) v1562 y1561 y1564 _ _ _ (fun k_ => ((P0_ k_ ∨ P1_ k_) ∨ w.heap.size ≤ k_)) (fun k_ => ((fun k_ => ((P0_ k_ ∨ P1_ k_) ∨ w.heap.size ≤ k_))) k_ ∧ some k_ ≠ (v1562 : Value).ownBlock) rfl rfl ?aO ?aR (fun _ hk => hk) ?aF ?aB ?aS ?aL ?_; (case aR => exact (by skip; exact Kd.V_F (Kd.V_mono (ok' := (fun k_ => ((fun k_ => ((P0_ k_ ∨ P1_ k_) ∨ w.heap.size ≤ k_))) k_ ∧ some k_ ≠ (v1562 : Value).ownBlock)) (HO1568.out) (fun k_ hk => ⟨hk.1, hk.2⟩)))); (case aB => exact tb_); (case aF => exact (fun k_ hk => (.inr (Nat.le_trans (below_size tb_) hk)))); (case aO => exact (by (with_reducible repeat (first | apply Kd.N_alloc | apply Kd.N_drewN | apply Kd.N_drew)); exact HO1563.out)); (case aS => exact (below_size tb_)); (case aL => have := LMc16.out; omega); intro v1570 w25 ho hb hg hat; rw [← Ny1569.out] at ho; have n0_ := A_ (Kd.V_afterv (ok := (fun k_ => ((P0_ k_ ∨ P1_ k_) ∨ w.heap.size ≤ k_))) (by (with_reducible repeat (first | apply Kd.V_alloc | apply Kd.V_drewN | apply Kd.V_drew)); exact HO_0.out) hg hat); have n1_ := A_ (Kd.V_afterv (ok := (fun k_ => ((P0_ k_ ∨ P1_ k_) ∨ w.heap.size ≤ k_))) (by (with_reducible repeat (first | apply Kd.V_alloc | apply Kd.V_drewN | apply Kd.V_drew)); exact HO_1.out) hg hat); have n2_ := A_ (Kd.V_afterv (ok := (fun k_ => ((P0_ k_ ∨ P1_ k_) ∨ w.heap.size ≤ k_))) (by (with_reducible repeat (first | apply Kd.V_alloc | apply Kd.V_drewN | apply Kd.V_drew)); exact HL1552_0.out) hg hat); have n3_ := A_ (Kd.V_afterv (ok := (fun k_ => ((P0_ k_ ∨ P1_ k_) ∨ w.heap.size ≤ k_))) (by (with_reducible repeat (first | apply Kd.V_alloc | apply Kd.V_drewN | apply Kd.V_drew)); exact HL1555_0.out) hg hat); have n4_ := A_ (Kd.V_afterv (ok := (fun k_ => ((P0_ k_ ∨ P1_ k_) ∨ w.heap.size ≤ k_))) (by (with_reducible repeat (first | apply Kd.V_alloc | apply Kd.V_drewN | apply Kd.V_drew)); exact HL1558_0.out) hg hat); have n5_ := A_ (Kd.V_afterv (ok := (fun k_ => ((P0_ k_ ∨ P1_ k_) ∨ w.heap.size ≤ k_))) (by (with_reducible repeat (first | apply Kd.V_alloc | apply Kd.V_drewN | apply Kd.V_drew)); exact HO1568.out) hg hat); have n6_ := A_ (hb); have n7_ := A_ (ho); clear HO_0; clear HO_1; clear HL1552_0; clear HL1555_0; clear HL1558_0; clear HO1568; clear HB; clear HO1563; have HO_0 := n0_; have HO_1 := n1_; have HL1552_0 := n2_; have HL1555_0 := n3_; have HL1558_0 := n4_; have HO1568 := n5_; have HB := n6_; have HO1571 := n7_; clear n0_ n1_ n2_ n3_ n4_ n5_ n6_ n7_; clear ho hb hg hat))
                have n0_ := A_ (Kd.V_drew HO_0.out)
                have n1_ := A_ (Kd.V_drew HO_1.out)
                have n2_ := A_ (Kd.V_drew HL1552_0.out)
                have n3_ := A_ (Kd.V_drew HL1555_0.out)
                have n4_ := A_ (Kd.V_drew HL1558_0.out)
                have n5_ := A_ (Kd.V_drew HO1568.out)
                have n6_ := A_ (Kd.N_drew HO1571.out)
                have n7_ := A_ (below_drew1 HB.out)
                clear HO_0
                clear HO_1
                clear HL1552_0
                clear HL1555_0
                clear HL1558_0
                clear HO1568
                clear HO1571
                clear HB
                have HO_0 := n0_
                have HO_1 := n1_
                have HL1552_0 := n2_
                have HL1555_0 := n3_
                have HL1558_0 := n4_
                have HO1568 := n5_
                have HO1571 := n6_
                have HB := n7_
                clear n0_ n1_ n2_ n3_ n4_ n5_ n6_ n7_
                have q27 : (x5_1 : Int) ≤ ((l0.length : Int) : Int) := od_
                obtain ⟨i027, hi027, _, hsz27, _⟩ := info_parts info24
                have hroom27 : l0.length ≤ c0 := (Kd.V_reads' HO_0.out).2.1
                have hC27 : Kd.F (Kd.slice 3 (Kd.int .i64)) _ _ (some ad1552) l0.length l0 := (Kd.V_at (base := w.heap.size) HO_0.out).2.2
                have q027 : (0 : Int) ≤ (x5_1 : Int) := od_
                have hcut27 := cut_from (P := Try.prog) 27 24 .i64 Try.underlying27 hi027 1 hsz27 (some ad1552) l0.length c0 x5_1 q027 q27
                have hr27 := Kd.F_cut (m := (x5_1 : Int).toNat) (c := c0) hC27 (by omega) hroom27
                obtain ⟨A27, hA27⟩ : ∃ A1, A1 = (if c0 = (x5_1 : Int).toNat then (some ad1552) else ((some ad1552) : Option Addr).map (·.add ((x5_1 : Int).toNat * 1))) := ⟨_, rfl⟩
                obtain ⟨c27, hc27⟩ : ∃ c1, c1 = c0 - (x5_1 : Int).toNat := ⟨_, rfl⟩
                have hy27 : y1575.length = l0.length - (x5_1 : Int).toNat := (by rw [Ny1575.out, List.length_drop] <;> omega)
                rw [show (l0).drop (x5_1 : Int).toNat = y1575 from Ny1575.out.symm] at hr27
                replace hr27 : Kd.F (Kd.slice 3 (Kd.int .i64)) _ _ A27 y1575.length y1575 := (by rw [hA27]; exact hr27)
                rw [← hy27, ← hA27, ← hc27] at hcut27
                have HO1579 := A_ (show Kd.V (Kd.slice 3 (Kd.int .i64)) 24 _ w.heap.size _ (.slice A27 y1575.length c27) y1575 from Kd.V_mk (by rw [hy27, hc27]; exact Nat.sub_le_sub_right hroom27 _) hr27)
                have HC1579 := A_ (show y1575.length ≤ c27 from by rw [hy27, hc27]; exact Nat.sub_le_sub_right hroom27 _)
                clear hr27 hC27 hroom27 hi027 hsz27 hc27
                have KY27 := A_ hy27
                have KA27 := A_ hA27
                clear hy27 hA27
                replace q27 := eq_true q27
                refine start_ (n := 9) (S := fun w' => True) (ds := []) (Fn.bl 9 0) (by kernel_rfl) rfl rfl trivial (fun hHeld => ?_); refine with_tabW spec_biSorted.tab5 spec_biSorted.bits5 (fun HT_ HW_ => ?_)
                generalize w25.drew = w26 at HO_0 HO_1 HL1552_0 HL1555_0 HL1558_0 HO1568 HO1571 HB HO1579 hHeld ⊢
                refine pq_ 0 (some 54) (Fn.bl 9 1) HT_.out ?_
                refine pq_ 1 (some 55) (Fn.bl 9 3) HT_.out ?_
                refine pq_ 4 (some 58) (Fn.bl 9 19) HT_.out ?_
                refine pq_ 5 (some 59) (Fn.bl 9 51) HT_.out ?_
                refine pq_ 6 (some 60) (Fn.bl 9 115) HT_.out ?_
                refine one_ (i := 2) (N := some 56) (Fn.bl 9 119) rfl rfl (one_of HT_.out (by kernel_rfl)) (by decide) (fun K hK => ?_)
                refine value_ (w1 := ?_) (v := ?_) (by rfl) rfl ?_ ?_
                rotate_left 2
                ·
                 go_simp
                 constructor
                 ·
                  rfl
                 ·
                  rfl
                refine hK.out _ _ trivial (fun hHeld => ?_)
                clear hK K
                refine norm_ (a' := ?_) ?_ ?_
                rotate_left
                ·
                 show Act.put _ (some 56) _ = _
                 simp only [Act.put, List.setIfInBounds_toArray, List.set_cons_zero, List.set_cons_succ, i64_w, i32_w]
                 rfl
                refine one_ (i := 3) (N := some 57) (Fn.bl 9 127) rfl rfl (one_of HT_.out (by kernel_rfl)) (by decide) (fun K hK => ?_)
                refine Kd.N_append_step (Kd.slice 3 (Kd.int .i64)) (w0 := w) w.heap.size (by rfl) (.tmp 54) (.tmp 56) 27 24 (.slice none 0 0) 24 rfl Try.underlying27 info24 rfl (by decide) (by omega) v1570 y1569 l1 [.slice (some ad1554) l1.length c1] (fun k_ => ((P0_ k_ ∨ P1_ k_) ∨ w.heap.size ≤ k_)) (fun k_ => ((fun k_ => ((P0_ k_ ∨ P1_ k_) ∨ w.heap.size ≤ k_))) k_ ∧ some k_ ≠ (v1570 : Value).ownBlock) rfl rfl ?aP (fun _ hk => hk) ?aF ?aO ?aB ?aS ?aL ?_
                (case aP => exact (Kd.FK_slice_mk (Kd.V_reads' (Kd.V_mono (ok' := (fun k_ => ((fun k_ => ((P0_ k_ ∨ P1_ k_) ∨ w.heap.size ≤ k_))) k_ ∧ some k_ ≠ (v1570 : Value).ownBlock)) (HO_1.out) (fun k_ hk => ⟨hk.1, hk.2⟩))).2.1 (Kd.V_F (Kd.V_mono (ok' := (fun k_ => ((fun k_ => ((P0_ k_ ∨ P1_ k_) ∨ w.heap.size ≤ k_))) k_ ∧ some k_ ≠ (v1570 : Value).ownBlock)) (HO_1.out) (fun k_ hk => ⟨hk.1, hk.2⟩)))))
                (case aB => exact tb_)
                (case aF => exact (fun k_ hk => (.inr (Nat.le_trans (below_size tb_) hk))))
                (case aO => exact (by (with_reducible repeat (first | apply Kd.N_alloc | apply Kd.N_drewN | apply Kd.N_drew)); exact HO1571.out))
                (case aS => exact (below_size tb_))
                (case aL => have := LMc17.out; omega)
                intro v1573 w28 ho hb hg hat
                rw [← Ny1572.out] at ho
                have n0_ := A_ (Kd.V_afterv (ok := (fun k_ => ((P0_ k_ ∨ P1_ k_) ∨ w.heap.size ≤ k_))) (by (with_reducible repeat (first | apply Kd.V_alloc | apply Kd.V_drewN | apply Kd.V_drew)); exact HO_0.out) hg hat)
                have n1_ := A_ (Kd.V_afterv (ok := (fun k_ => ((P0_ k_ ∨ P1_ k_) ∨ w.heap.size ≤ k_))) (by (with_reducible repeat (first | apply Kd.V_alloc | apply Kd.V_drewN | apply Kd.V_drew)); exact HO_1.out) hg hat)
                have n2_ := A_ (Kd.V_afterv (ok := (fun k_ => ((P0_ k_ ∨ P1_ k_) ∨ w.heap.size ≤ k_))) (by (with_reducible repeat (first | apply Kd.V_alloc | apply Kd.V_drewN | apply Kd.V_drew)); exact HL1552_0.out) hg hat)
                have n3_ := A_ (Kd.V_afterv (ok := (fun k_ => ((P0_ k_ ∨ P1_ k_) ∨ w.heap.size ≤ k_))) (by (with_reducible repeat (first | apply Kd.V_alloc | apply Kd.V_drewN | apply Kd.V_drew)); exact HL1555_0.out) hg hat)
                have n4_ := A_ (Kd.V_afterv (ok := (fun k_ => ((P0_ k_ ∨ P1_ k_) ∨ w.heap.size ≤ k_))) (by (with_reducible repeat (first | apply Kd.V_alloc | apply Kd.V_drewN | apply Kd.V_drew)); exact HL1558_0.out) hg hat)
                have n5_ := A_ (Kd.V_afterv (ok := (fun k_ => ((P0_ k_ ∨ P1_ k_) ∨ w.heap.size ≤ k_))) (by (with_reducible repeat (first | apply Kd.V_alloc | apply Kd.V_drewN | apply Kd.V_drew)); exact HO1568.out) hg hat)
                have n6_ := A_ (Kd.V_afterv (ok := (fun k_ => ((P0_ k_ ∨ P1_ k_) ∨ w.heap.size ≤ k_))) (by (with_reducible repeat (first | apply Kd.V_alloc | apply Kd.V_drewN | apply Kd.V_drew)); exact HO1579.out) hg hat)
                have n7_ := A_ (hb)
                have n8_ := A_ (ho)
                clear HO_0
                clear HO_1
                clear HL1552_0
                clear HL1555_0
                clear HL1558_0
                clear HO1568
                clear HO1579
                clear HB
                clear HO1571
                have HO_0 := n0_
                have HO_1 := n1_
                have HL1552_0 := n2_
                have HL1555_0 := n3_
                have HL1558_0 := n4_
                have HO1568 := n5_
                have HO1579 := n6_
                have HB := n7_
                have HO1574 := n8_
                clear n0_ n1_ n2_ n3_ n4_ n5_ n6_ n7_ n8_
                clear ho hb hg hat
                refine hK.out _ _ trivial (fun hHeld => ?_)
                clear hK K
                refine norm_ (a' := ?_) ?_ ?_
                rotate_left
                ·
                 show Act.put _ (some 57) _ = _
                 simp only [Act.put, List.setIfInBounds_toArray, List.set_cons_zero, List.set_cons_succ, i64_w, i32_w]
                 rfl
                refine one_ (i := 7) (N := some 61) (Fn.bl 9 255) rfl rfl (one_of HT_.out (by kernel_rfl)) (by decide) (fun K hK => ?_)
                refine Kd.N_append_rows_step (Kd.slice 3 (Kd.int .i64)) (w0 := w) w.heap.size (by rfl) (.tmp 57) (.tmp 60) 27 24 (.slice none 0 0) 24 rfl Try.underlying27 info24 rfl (by decide) (by omega) v1573 y1572 y1575 _ _ _ (fun k_ => ((P0_ k_ ∨ P1_ k_) ∨ w.heap.size ≤ k_)) (fun k_ => ((fun k_ => ((P0_ k_ ∨ P1_ k_) ∨ w.heap.size ≤ k_))) k_ ∧ some k_ ≠ (v1573 : Value).ownBlock) rfl rfl ?aO ?aR (fun _ hk => hk) ?aF ?aB ?aS ?aL ?_
                (case aR => exact (by skip; exact Kd.V_F (Kd.V_mono (ok' := (fun k_ => ((fun k_ => ((P0_ k_ ∨ P1_ k_) ∨ w.heap.size ≤ k_))) k_ ∧ some k_ ≠ (v1573 : Value).ownBlock)) (HO1579.out) (fun k_ hk => ⟨hk.1, hk.2⟩))))
                (case aB => exact tb_)
                (case aF => exact (fun k_ hk => (.inr (Nat.le_trans (below_size tb_) hk))))
                (case aO => exact (by (with_reducible repeat (first | apply Kd.N_alloc | apply Kd.N_drewN | apply Kd.N_drew)); exact HO1574.out))
                (case aS => exact (below_size tb_))
                (case aL => have := LMc20.out; omega)
                intro v1581 w29 ho hb hg hat
                rw [← Ny1580.out] at ho
                have n0_ := A_ (Kd.V_afterv (ok := (fun k_ => ((P0_ k_ ∨ P1_ k_) ∨ w.heap.size ≤ k_))) (by (with_reducible repeat (first | apply Kd.V_alloc | apply Kd.V_drewN | apply Kd.V_drew)); exact HO_0.out) hg hat)
                have n1_ := A_ (Kd.V_afterv (ok := (fun k_ => ((P0_ k_ ∨ P1_ k_) ∨ w.heap.size ≤ k_))) (by (with_reducible repeat (first | apply Kd.V_alloc | apply Kd.V_drewN | apply Kd.V_drew)); exact HO_1.out) hg hat)
                have n2_ := A_ (Kd.V_afterv (ok := (fun k_ => ((P0_ k_ ∨ P1_ k_) ∨ w.heap.size ≤ k_))) (by (with_reducible repeat (first | apply Kd.V_alloc | apply Kd.V_drewN | apply Kd.V_drew)); exact HL1552_0.out) hg hat)
                have n3_ := A_ (Kd.V_afterv (ok := (fun k_ => ((P0_ k_ ∨ P1_ k_) ∨ w.heap.size ≤ k_))) (by (with_reducible repeat (first | apply Kd.V_alloc | apply Kd.V_drewN | apply Kd.V_drew)); exact HL1555_0.out) hg hat)
                have n4_ := A_ (Kd.V_afterv (ok := (fun k_ => ((P0_ k_ ∨ P1_ k_) ∨ w.heap.size ≤ k_))) (by (with_reducible repeat (first | apply Kd.V_alloc | apply Kd.V_drewN | apply Kd.V_drew)); exact HL1558_0.out) hg hat)
                have n5_ := A_ (Kd.V_afterv (ok := (fun k_ => ((P0_ k_ ∨ P1_ k_) ∨ w.heap.size ≤ k_))) (by (with_reducible repeat (first | apply Kd.V_alloc | apply Kd.V_drewN | apply Kd.V_drew)); exact HO1568.out) hg hat)
                have n6_ := A_ (Kd.V_afterv (ok := (fun k_ => ((P0_ k_ ∨ P1_ k_) ∨ w.heap.size ≤ k_))) (by (with_reducible repeat (first | apply Kd.V_alloc | apply Kd.V_drewN | apply Kd.V_drew)); exact HO1579.out) hg hat)
                have n7_ := A_ (hb)
                have n8_ := A_ (ho)
                clear HO_0
                clear HO_1
                clear HL1552_0
                clear HL1555_0
                clear HL1558_0
                clear HO1568
                clear HO1579
                clear HB
                clear HO1574
                have HO_0 := n0_
                have HO_1 := n1_
                have HL1552_0 := n2_
                have HL1555_0 := n3_
                have HL1558_0 := n4_
                have HO1568 := n5_
                have HO1579 := n6_
                have HB := n7_
                have HO1582 := n8_
                clear n0_ n1_ n2_ n3_ n4_ n5_ n6_ n7_ n8_
                clear ho hb hg hat
                refine hK.out _ _ trivial (fun hHeld => ?_)
                clear hK K
                refine norm_ (a' := ?_) ?_ ?_
                rotate_left
                ·
                 show Act.put _ (some 61) _ = _
                 simp only [Act.put, List.setIfInBounds_toArray, List.set_cons_zero, List.set_cons_succ, i64_w, i32_w]
                 rfl
                refine pq_ 8 (some 4) (Fn.bl 9 511) HT_.out ?_
                refine done_ (done_of HT_.out (by kernel_rfl)) ?_
                try go_wp2
                go_ret
                exact ⟨_, te_, by (with_reducible repeat (first | apply Kd.N_alloc | apply Kd.N_drewN | apply Kd.N_drew)); exact HO1582.out, tb_⟩
               ·
                rw [if_neg c20] at H
                exact absurd H (by simp)
              ·
               rw [if_neg c17] at H
               exact absurd H (by simp)
             ·
              rw [if_neg c16] at H
              exact absurd H (by simp)
            ·
             rw [if_neg c15] at H
             exact absurd H (by simp)
          ·
           rw [if_neg c11] at H
           exact absurd H (by simp)
         ·
          rw [if_neg c10] at H
          exact absurd H (by simp)
        ·
         rw [if_neg c9] at H
         have c9b0 : ((rd (rd_L2 l0 x5_1) 0) == (rd l1 0)) = false := beq_eq_false_iff_ne.mpr c9
         have c9b1 : ((rd (rd_L2 l0 x5_1) 0) != (rd l1 0)) = true := bne_iff_ne.mpr c9
         obtain ⟨y1583, hy1583⟩ : ∃ y_ : List (List Int), y_ = (([] : List (List Int))) := ⟨_, rfl⟩
         replace H : (if x5_1 ≤ (l0.length : Int) then ((some (l0.take (x5_1 : Int).toNat : List (List Int))).bind fun y1586 => (if y1583.length + y1586.length < 5864062014805 then ((some (y1583 ++ y1586 : List (List Int))).bind fun y1591 => (if y1591.length < 5864062014805 then ((some (y1591 ++ [l1] : List (List Int))).bind fun y1594 => ((some (l0.drop (x5_1 : Int).toNat : List (List Int))).bind fun y1597 => (if y1594.length + y1597.length < 5864062014805 then (some (y1594 ++ y1597)) else (none)))) else (none))) else (none))) else (none)) = some r := ty_ hy1583 H
         have Ny1583 := A_ hy1583
         clear hy1583
         have c30b0 := eq_true (od_ : 0 ≤ x5_1)
         by_cases c31 : x5_1 ≤ (l0.length : Int)
         ·
          rw [if_pos c31] at H
          have c31b0 := eq_true c31
          have c31b1 := decide_eq_true c31
          clear c31
          obtain ⟨y1586, hy1586⟩ : ∃ y_ : List (List Int), y_ = (l0.take (x5_1 : Int).toNat) := ⟨_, rfl⟩
          replace H : (if y1583.length + y1586.length < 5864062014805 then ((some (y1583 ++ y1586 : List (List Int))).bind fun y1591 => (if y1591.length < 5864062014805 then ((some (y1591 ++ [l1] : List (List Int))).bind fun y1594 => ((some (l0.drop (x5_1 : Int).toNat : List (List Int))).bind fun y1597 => (if y1594.length + y1597.length < 5864062014805 then (some (y1594 ++ y1597)) else (none)))) else (none))) else (none)) = some r := ty_ hy1586 H
          have Ny1586 := A_ hy1586
          clear hy1586
          by_cases c32 : y1583.length + y1586.length < 5864062014805
          ·
           rw [if_pos c32] at H
           have LMc32 := A_ c32
           clear c32
           obtain ⟨y1591, hy1591⟩ : ∃ y_ : List (List Int), y_ = (y1583 ++ y1586) := ⟨_, rfl⟩
           replace H : (if y1591.length < 5864062014805 then ((some (y1591 ++ [l1] : List (List Int))).bind fun y1594 => ((some (l0.drop (x5_1 : Int).toNat : List (List Int))).bind fun y1597 => (if y1594.length + y1597.length < 5864062014805 then (some (y1594 ++ y1597)) else (none)))) else (none)) = some r := ty_ hy1591 H
           have Ny1591 := A_ hy1591
           clear hy1591
           by_cases c33 : y1591.length < 5864062014805
           ·
            rw [if_pos c33] at H
            have LMc33 := A_ c33
            clear c33
            obtain ⟨y1594, hy1594⟩ : ∃ y_ : List (List Int), y_ = (y1591 ++ [l1]) := ⟨_, rfl⟩
            replace H : ((some (l0.drop (x5_1 : Int).toNat : List (List Int))).bind fun y1597 => (if y1594.length + y1597.length < 5864062014805 then (some (y1594 ++ y1597)) else (none))) = some r := ty_ hy1594 H
            have Ny1594 := A_ hy1594
            clear hy1594
            have c34b0 := eq_true (od_ : 0 ≤ x5_1)
            have c35b0 := eq_true (od_ : x5_1 ≤ (l0.length : Int))
            obtain ⟨y1597, hy1597⟩ : ∃ y_ : List (List Int), y_ = (l0.drop (x5_1 : Int).toNat) := ⟨_, rfl⟩
            replace H : (if y1594.length + y1597.length < 5864062014805 then (some (y1594 ++ y1597)) else (none)) = some r := ty_ hy1597 H
            have Ny1597 := A_ hy1597
            clear hy1597
            by_cases c36 : y1594.length + y1597.length < 5864062014805
            ·
             rw [if_pos c36] at H
             have LMc36 := A_ c36
             clear c36
             obtain ⟨y1602, hy1602⟩ : ∃ y_ : List (List Int), y_ = (y1594 ++ y1597) := ⟨_, rfl⟩
             replace H : (some y1602) = some r := ty_ hy1602 H
             have Ny1602 := A_ hy1602
             clear hy1602
             obtain rfl := Option.some.inj H
             try go_wp2
             have n0_ := A_ (Kd.V_drew HO_0.out)
             have n1_ := A_ (Kd.V_drew HO_1.out)
             have n2_ := A_ (below_drew1 HB.out)
             clear HO_0
             clear HO_1
             clear HB
             have HO_0 := n0_
             have HO_1 := n1_
             have HB := n2_
             clear n0_ n1_ n2_
             have p1552 : 0 ≤ (x5_1 : Int) := od_
             have q1552 : x5_1 < (l0.length : Int) := od_
             obtain ⟨ad1552, A1552_0, c1552_0, e1552, hx1552_0, hl1552_0, hi1552_0⟩ := at_L2 (Kd.V_reads' HO_0.out).2.2 x5_1 p1552 q1552
             cases e1552
             obtain ⟨ce1552, hce1552, hMe1552, hcc1552⟩ := Kd.V_get HO_0.out [] x5_1 p1552 (by first | exact q1552 | exact od_ | (have e_ := (Kd.V_reads' HO_0.out).1; omega))
             obtain ⟨ua1552_0, uc1552_0, rfl, ul1552_0, ge1552_0⟩ := Kd.FK_slice_open hMe1552
             have hv1552_0 := hcc1552 0 _ rfl
             rw [Nat.add_zero, show ((Kd.slice 3 (Kd.int .i64))).sz = 1 from rfl, Nat.mul_one] at hv1552_0
             replace hv1552_0 := Option.some.inj (hv1552_0.symm.trans hx1552_0)
             injection hv1552_0 with hva_ hvn_ hvc_
             rw [hva_] at ge1552_0
             rw [hvc_] at ul1552_0
             have HL1552_0 := A_ (show Kd.V (Kd.int .i64) 3 _ w.heap.size _ _ (rd_L2 l0 x5_1) from Kd.V_mk ul1552_0 ge1552_0)
             clear hva_ hvn_ hvc_ ge1552_0 ul1552_0
             clear hcc1552 hce1552
             have HR1552_0 := A_ hi1552_0
             have HC1552_0 := A_ hl1552_0
             clear hi1552_0 hl1552_0
             replace p1552 := eq_true p1552
             replace q1552 := eq_true q1552
             have p1553 : 0 ≤ (0 : Int) := (by omega)
             have q1553 : 0 < ((rd_L2 l0 x5_1).length : Int) := od_
             obtain ⟨ad1553, e1553, hx1553_0⟩ := Kd.at_int (by repeat (first | (with_reducible exact HR1552_0.out) | (with_reducible refine Kd.C_alloc ?_ _) | (with_reducible refine Kd.C_drewN ?_ _) | (with_reducible refine Kd.C_drew ?_) | exact HR1552_0.out)) 0 p1553 q1553
             cases e1553
             have qi1553 : (0 < (rd_L2 l0 x5_1).length) = True := eq_true (by omega)
             (try rw [show ((0 : Int)).toNat = 0 from rfl] at hx1553_0)
             (try rw [Addr.add_zero'] at hx1553_0)
             replace p1553 := eq_true p1553
             replace q1553 := eq_true q1553
             have p1554 : 0 ≤ (0 : Int) := (by omega)
             have q1554 : 0 < (l1.length : Int) := od_
             obtain ⟨ad1554, e1554, hx1554_0⟩ := Kd.at_int (Kd.V_reads' HO_1.out).2.2 0 p1554 q1554
             cases e1554
             have qi1554 : (0 < l1.length) = True := eq_true (by omega)
             (try rw [show ((0 : Int)).toNat = 0 from rfl] at hx1554_0)
             (try rw [Addr.add_zero'] at hx1554_0)
             replace p1554 := eq_true p1554
             replace q1554 := eq_true q1554
             have p1555 : 0 ≤ (x5_1 : Int) := od_
             have q1555 : x5_1 < (l0.length : Int) := od_
             obtain ⟨ad1555, A1555_0, c1555_0, e1555, hx1555_0, hl1555_0, hi1555_0⟩ := at_L2 (Kd.V_reads' HO_0.out).2.2 x5_1 p1555 q1555
             obtain rfl : ad1552 = ad1555 := (by injection e1555)
             obtain ⟨ce1555, hce1555, hMe1555, hcc1555⟩ := Kd.V_get HO_0.out [] x5_1 p1555 (by first | exact q1555 | exact od_ | (have e_ := (Kd.V_reads' HO_0.out).1; omega))
             obtain ⟨ua1555_0, uc1555_0, rfl, ul1555_0, ge1555_0⟩ := Kd.FK_slice_open hMe1555
             have hv1555_0 := hcc1555 0 _ rfl
             rw [Nat.add_zero, show ((Kd.slice 3 (Kd.int .i64))).sz = 1 from rfl, Nat.mul_one] at hv1555_0
             replace hv1555_0 := Option.some.inj (hv1555_0.symm.trans hx1555_0)
             injection hv1555_0 with hva_ hvn_ hvc_
             rw [hva_] at ge1555_0
             rw [hvc_] at ul1555_0
             have HL1555_0 := A_ (show Kd.V (Kd.int .i64) 3 _ w.heap.size _ _ (rd_L2 l0 x5_1) from Kd.V_mk ul1555_0 ge1555_0)
             clear hva_ hvn_ hvc_ ge1555_0 ul1555_0
             clear hcc1555 hce1555
             have HR1555_0 := A_ hi1555_0
             have HC1555_0 := A_ hl1555_0
             clear hi1555_0 hl1555_0
             replace p1555 := eq_true p1555
             replace q1555 := eq_true q1555
             have ea_ := Option.some.inj (hx1552_0.symm.trans hx1555_0)
             injection ea_ with ea_ en_ ec_
             subst ea_
             subst ec_
             clear en_
             have p1556 : 0 ≤ (0 : Int) := (by omega)
             have q1556 : 0 < ((rd_L2 l0 x5_1).length : Int) := od_
             obtain ⟨ad1556, e1556, hx1556_0⟩ := Kd.at_int (by repeat (first | (with_reducible exact HR1555_0.out) | (with_reducible refine Kd.C_alloc ?_ _) | (with_reducible refine Kd.C_drewN ?_ _) | (with_reducible refine Kd.C_drew ?_) | exact HR1555_0.out)) 0 p1556 q1556
             cases e1556
             have qi1556 : (0 < (rd_L2 l0 x5_1).length) = True := eq_true (by omega)
             (try rw [show ((0 : Int)).toNat = 0 from rfl] at hx1556_0)
             (try rw [Addr.add_zero'] at hx1556_0)
             replace p1556 := eq_true p1556
             replace q1556 := eq_true q1556
             have p1557 : 0 ≤ (0 : Int) := (by omega)
             have q1557 : 0 < (l1.length : Int) := od_
             obtain ⟨ad1557, e1557, hx1557_0⟩ := Kd.at_int (Kd.V_reads' HO_1.out).2.2 0 p1557 q1557
             obtain rfl : ad1554 = ad1557 := (by injection e1557)
             have qi1557 : (0 < l1.length) = True := eq_true (by omega)
             (try rw [show ((0 : Int)).toNat = 0 from rfl] at hx1557_0)
             (try rw [Addr.add_zero'] at hx1557_0)
             replace p1557 := eq_true p1557
             replace q1557 := eq_true q1557
             refine start_ (n := 40) (S := fun w' => w'.cell? (ad1552.add (x5_1).toNat) = some (.slice (some ad1553) (rd_L2 l0 x5_1).length c1552_0) ∧ w'.cell? ad1553 = some (.int .i64 (rd (rd_L2 l0 x5_1) 0)) ∧ w'.cell? ad1554 = some (.int .i64 (rd l1 0)) ∧ w'.cell? (ad1552.add (x5_1).toNat) = some (.slice (some ad1553) (rd_L2 l0 x5_1).length c1552_0) ∧ w'.cell? ad1553 = some (.int .i64 (rd (rd_L2 l0 x5_1) 0)) ∧ w'.cell? ad1554 = some (.int .i64 (rd l1 0))) (ds := []) (Fn.bl 40 0) (by kernel_rfl) rfl rfl ⟨hx1552_0, hx1553_0, hx1554_0, hx1555_0, hx1556_0, hx1557_0⟩ (fun hHeld => ?_); refine with_tabW spec_biSorted.tab2 spec_biSorted.bits2 (fun HT_ HW_ => ?_)
             generalize wr.drew = w37 at HO_0 HO_1 HB HL1552_0 HL1555_0 HR1552_0 HR1555_0 hx1552_0 hx1553_0 hx1554_0 hx1555_0 hx1556_0 hx1557_0 hHeld ⊢
             refine pq_ 0 (some 7) (Fn.bl 40 1) HT_.out ?_
             refine pq_ 1 (some 8) (Fn.bl 40 3) HT_.out ?_
             refine pq_ 2 (some 9) (Fn.bl 40 7) HT_.out ?_
             refine pq_ 3 (some 10) (Fn.bl 40 15) HT_.out ?_
             refine pq_ 4 (some 11) (Fn.bl 40 31) HT_.out ?_
             refine pq_ 5 (some 12) (Fn.bl 40 63) HT_.out ?_
             refine pq_ 6 (some 13) (Fn.bl 40 127) HT_.out ?_
             refine pq_ 7 (some 14) (Fn.bl 40 255) HT_.out ?_
             refine pq_ 11 (some 18) (Fn.bl 40 2303) HT_.out ?_
             refine pq_ 12 (some 19) (Fn.bl 40 6399) HT_.out ?_
             refine tq_ 8 (some 15) (Fn.bl 40 6655) HT_.out HW_.out hHeld ?_ (hy0 := by rintro w' ⟨s0, s1, s2, s3, s4, s5⟩; go_simp; with_reducible rfl)
             refine pq_ 9 (some 16) (Fn.bl 40 7167) HT_.out ?_
             refine tq_ 10 (some 17) (Fn.bl 40 8191) HT_.out HW_.out hHeld ?_ (hy0 := by rintro w' ⟨s0, s1, s2, s3, s4, s5⟩; go_simp; with_reducible rfl)
             refine tq_ 13 (some 20) (Fn.bl 40 16383) HT_.out HW_.out hHeld ?_ (hy0 := by rintro w' ⟨s0, s1, s2, s3, s4, s5⟩; go_simp; with_reducible rfl)
             refine pq_ 14 (some 21) (Fn.bl 40 32767) HT_.out ?_
             refine pq_ 15 (some 22) (Fn.bl 40 65535) HT_.out ?_
             refine pq_ 16 (some 23) (Fn.bl 40 131071) HT_.out ?_
             refine pq_ 17 (some 24) (Fn.bl 40 262143) HT_.out ?_
             refine pq_ 18 (some 25) (Fn.bl 40 524287) HT_.out ?_
             refine pq_ 22 (some 29) (Fn.bl 40 4718591) HT_.out ?_
             refine pq_ 23 (some 30) (Fn.bl 40 13107199) HT_.out ?_
             refine tq_ 19 (some 26) (Fn.bl 40 13631487) HT_.out HW_.out hHeld ?_ (hy0 := by rintro w' ⟨s0, s1, s2, s3, s4, s5⟩; go_simp; with_reducible rfl)
             refine pq_ 20 (some 27) (Fn.bl 40 14680063) HT_.out ?_
             refine tq_ 21 (some 28) (Fn.bl 40 16777215) HT_.out HW_.out hHeld ?_ (hy0 := by rintro w' ⟨s0, s1, s2, s3, s4, s5⟩; go_simp; with_reducible rfl)
             refine tq_ 24 (some 31) (Fn.bl 40 33554431) HT_.out HW_.out hHeld ?_ (hy0 := by rintro w' ⟨s0, s1, s2, s3, s4, s5⟩; go_simp; with_reducible rfl)
             refine pq_ 25 (some 32) (Fn.bl 40 67108863) HT_.out ?_
             refine pq_ 26 (some 33) (Fn.bl 40 134217727) HT_.out ?_
             refine pu_ 27 (some 34) (Fn.bl 40 268435455) HT_.out ?_
             refine pu_ 28 (some 35) (Fn.bl 40 536870911) HT_.out ?_
             refine pu_ 29 (some 36) (Fn.bl 40 1073741823) HT_.out ?_
             refine pu_ 30 (some 37) (Fn.bl 40 2147483647) HT_.out ?_
             refine pu_ 31 (some 38) (Fn.bl 40 4294967295) HT_.out ?_
             refine pu_ 32 (some 39) (Fn.bl 40 8589934591) HT_.out ?_
             refine pu_ 33 (some 40) (Fn.bl 40 17179869183) HT_.out ?_
             refine pu_ 34 (some 41) (Fn.bl 40 34359738367) HT_.out ?_
             refine pu_ 35 (some 42) (Fn.bl 40 68719476735) HT_.out ?_
             refine pu_ 36 (some 43) (Fn.bl 40 137438953471) HT_.out ?_
             refine pq_ 37 (some 44) (Fn.bl 40 274877906943) HT_.out ?_
             refine pq_ 38 (some 45) (Fn.bl 40 549755813887) HT_.out ?_
             refine pq_ 39 (some 46) (Fn.bl 40 1099511627775) HT_.out ?_
             refine done_ (done_of HT_.out (by kernel_rfl)) ?_
             try go_wp2_with (first | (refine gd_ 49 ?_; refine Kd.N_lit (Kd.slice 3 (Kd.int .i64)) _ 24 ?hg (N' := 49) ?hd (xs := ([] : List (List Int))) (inner := []) (ok := (fun k_ => ((P0_ k_ ∨ P1_ k_) ∨ w.heap.size ≤ k_))) (okp := (fun k_ => ((P0_ k_ ∨ P1_ k_) ∨ w.heap.size ≤ k_))) ?hr ?hp (fun _ hk => hk) ((show ∀ k_, w37.heap.size ≤ k_ → (fun k_ => ((P0_ k_ ∨ P1_ k_) ∨ w.heap.size ≤ k_)) k_ from fun k_ hk => (.inr (Nat.le_trans (below_size tb_) hk))) _ (Nat.le_refl _)) (Below.refl _ _) (Nat.le_refl _) (by simp) ?_; (case hd => rfl); (case hg => rfl); (case hr => first | (go_simp; done) | (go_simp; rfl)); (case hp => exact (Reps.none _ _)); intro v1584 w38 ho39 hb hg_ hnew_; clear hg_ hnew_; (first | rw [← Ny1583.out] at ho39 | (simp only [Int.reduceToNat] at ho39; rw [← Ny1583.out] at ho39)); replace HO_0 := A_ (Kd.V_elder' (by (with_reducible repeat (first | apply Kd.V_alloc | apply Kd.V_drewN | apply Kd.V_drew)); exact HO_0.out) (by first | exact Kd.N_base ho39 | exact Kd.S_base ho39) hb); replace HO_1 := A_ (Kd.V_elder' (by (with_reducible repeat (first | apply Kd.V_alloc | apply Kd.V_drewN | apply Kd.V_drew)); exact HO_1.out) (by first | exact Kd.N_base ho39 | exact Kd.S_base ho39) hb); replace HL1552_0 := A_ (Kd.V_elder' (by (with_reducible repeat (first | apply Kd.V_alloc | apply Kd.V_drewN | apply Kd.V_drew)); exact HL1552_0.out) (by first | exact Kd.N_base ho39 | exact Kd.S_base ho39) hb); replace HL1555_0 := A_ (Kd.V_elder' (by (with_reducible repeat (first | apply Kd.V_alloc | apply Kd.V_drewN | apply Kd.V_drew)); exact HL1555_0.out) (by first | exact Kd.N_base ho39 | exact Kd.S_base ho39) hb); have HO1585 := A_ (Kd.N_lower ho39 (below_size tb_)); replace HR1552_0 := A_ (Kd.C_below (by repeat (first | (with_reducible exact HR1552_0.out) | (with_reducible refine Kd.C_alloc ?_ _) | (with_reducible refine Kd.C_drewN ?_ _) | (with_reducible refine Kd.C_drew ?_) | exact HR1552_0.out)) hb); replace HR1555_0 := A_ (Kd.C_below (by repeat (first | (with_reducible exact HR1555_0.out) | (with_reducible refine Kd.C_alloc ?_ _) | (with_reducible refine Kd.C_drewN ?_ _) | (with_reducible refine Kd.C_drew ?_) | exact HR1555_0.out)) hb); replace HB := A_ (below_step tb_ hb); clear hb ho39; have q40 : (x5_1 : Int) ≤ ((l0.length : Int) : Int) := od_; obtain ⟨i040, hi040, _, hsz40, _⟩ := info_parts info24; have hroom40 : l0.length ≤ c0 := (Kd.V_reads' HO_0.out).2.1; have hC40 : Kd.F (Kd.slice 3 (Kd.int .i64)) _ _ (some ad1552) l0.length l0 := (Kd.V_at (base := w.heap.size) HO_0.out).2.2; have hcut40 := cut_to (P := Try.prog) 27 24 .i64 Try.underlying27 hi040 (some ad1552) l0.length c0 x5_1 (od_) q40 hroom40; have hr40 := Kd.F_take (m := (x5_1 : Int).toNat) hC40 (by omega); have hy40 : y1586.length = (x5_1 : Int).toNat := (by rw [Ny1586.out, List.length_take]; omega); rw [← Ny1586.out] at hr40; rw [← hy40] at hcut40; have HO1590 := A_ (show Kd.V (Kd.slice 3 (Kd.int .i64)) 24 _ w.heap.size _ (.slice (some ad1552) y1586.length c0) y1586 from Kd.V_mk (by omega) hr40); have HC1590 := A_ (show y1586.length ≤ c0 from by omega); clear hr40 hC40 hroom40 hi040 hsz40; have KY40 := A_ hy40; clear hy40; replace q40 := eq_true q40) | ((with_reducible refine gate_builtin (b := .append) (xs := #[.tmp 49, .tmp 52]) rfl ?_); at_builtin; refine Kd.N_append_rows (Kd.slice 3 (Kd.int .i64)) (w0 := w) w.heap.size rfl (.tmp 49) (.tmp 52) 27 24 (.slice none 0 0) 24 rfl Try.underlying27 info24 rfl (by decide) (by omega) v1584 y1583 y1586 _ _ _ (fun k_ => ((P0_ k_ ∨ P1_ k_) ∨ w.heap.size ≤ k_)) (fun k_ => ((fun k_ => ((P0_ k_ ∨ P1_ k_) ∨ w.heap.size ≤ k_))) k_ ∧ some k_ ≠ (v1584 : Value).ownBlock) rfl rfl ?aO ?aR (fun _ hk => hk) ?aF ?aB ?aS ?aL ?_; (case aR => exact (by skip; exact Kd.V_F (Kd.V_mono (ok' := (fun k_ => ((fun k_ => ((P0_ k_ ∨ P1_ k_) ∨ w.heap.size ≤ k_))) k_ ∧ some k_ ≠ (v1584 : Value).ownBlock)) (HO1590.out) (fun k_ hk => ⟨hk.1, hk.2⟩)))); (case aB => exact tb_); (case aF => exact (fun k_ hk => (.inr (Nat.le_trans (below_size tb_) hk)))); (case aO => exact (by (with_reducible repeat (first | apply Kd.N_alloc | apply Kd.N_drewN | apply Kd.N_drew)); exact HO1585.out)); (case aS => exact (below_size tb_)); (case aL => have := LMc32.out; omega); intro v1592 w41 ho hb hg hat; rw [← Ny1591.out] at ho; have n0_ := A_ (Kd.V_afterv (ok := (fun k_ => ((P0_ k_ ∨ P1_ k_) ∨ w.heap.size ≤ k_))) (by (with_reducible repeat (first | apply Kd.V_alloc | apply Kd.V_drewN | apply Kd.V_drew)); exact HO_0.out) hg hat); have n1_ := A_ (Kd.V_afterv (ok := (fun k_ => ((P0_ k_ ∨ P1_ k_) ∨ w.heap.size ≤ k_))) (by (with_reducible repeat (first | apply Kd.V_alloc | apply Kd.V_drewN | apply Kd.V_drew)); exact HO_1.out) hg hat); have n2_ := A_ (Kd.V_afterv (ok := (fun k_ => ((P0_ k_ ∨ P1_ k_) ∨ w.heap.size ≤ k_))) (by (with_reducible repeat (first | apply Kd.V_alloc | apply Kd.V_drewN | apply Kd.V_drew)); exact HL1552_0.out) hg hat); have n3_ := A_ (Kd.V_afterv (ok := (fun k_ => ((P0_ k_ ∨ P1_ k_) ∨ w.heap.size ≤ k_))) (by (with_reducible repeat (first | apply Kd.V_alloc | apply Kd.V_drewN | apply Kd.V_drew)); exact HL1555_0.out) hg hat); have n4_ := A_ (Kd.V_afterv (ok := (fun k_ => ((P0_ k_ ∨ P1_ k_) ∨ w.heap.size ≤ k_))) (by (with_reducible repeat (first | apply Kd.V_alloc | apply Kd.V_drewN | apply Kd.V_drew)); exact HO1590.out) hg hat); have n5_ := A_ (hb); have n6_ := A_ (ho); clear HO_0; clear HO_1; clear HL1552_0; clear HL1555_0; clear HO1590; clear HB; clear HO1585; have HO_0 := n0_; have HO_1 := n1_; have HL1552_0 := n2_; have HL1555_0 := n3_; have HO1590 := n4_; have HB := n5_; have HO1593 := n6_; clear n0_ n1_ n2_ n3_ n4_ n5_ n6_; clear ho hb hg hat))
             have n0_ := A_ (Kd.V_drew HO_0.out)
             have n1_ := A_ (Kd.V_drew HO_1.out)
             have n2_ := A_ (Kd.V_drew HL1552_0.out)
             have n3_ := A_ (Kd.V_drew HL1555_0.out)
             have n4_ := A_ (Kd.V_drew HO1590.out)
             have n5_ := A_ (Kd.N_drew HO1593.out)
             have n6_ := A_ (below_drew1 HB.out)
             clear HO_0
             clear HO_1
             clear HL1552_0
             clear HL1555_0
             clear HO1590
             clear HO1593
             clear HB
             have HO_0 := n0_
             have HO_1 := n1_
             have HL1552_0 := n2_
             have HL1555_0 := n3_
             have HO1590 := n4_
             have HO1593 := n5_
             have HB := n6_
             clear n0_ n1_ n2_ n3_ n4_ n5_ n6_
             have q43 : (x5_1 : Int) ≤ ((l0.length : Int) : Int) := od_
             obtain ⟨i043, hi043, _, hsz43, _⟩ := info_parts info24
             have hroom43 : l0.length ≤ c0 := (Kd.V_reads' HO_0.out).2.1
             have hC43 : Kd.F (Kd.slice 3 (Kd.int .i64)) _ _ (some ad1552) l0.length l0 := (Kd.V_at (base := w.heap.size) HO_0.out).2.2
             have q043 : (0 : Int) ≤ (x5_1 : Int) := od_
             have hcut43 := cut_from (P := Try.prog) 27 24 .i64 Try.underlying27 hi043 1 hsz43 (some ad1552) l0.length c0 x5_1 q043 q43
             have hr43 := Kd.F_cut (m := (x5_1 : Int).toNat) (c := c0) hC43 (by omega) hroom43
             obtain ⟨A43, hA43⟩ : ∃ A1, A1 = (if c0 = (x5_1 : Int).toNat then (some ad1552) else ((some ad1552) : Option Addr).map (·.add ((x5_1 : Int).toNat * 1))) := ⟨_, rfl⟩
             obtain ⟨c43, hc43⟩ : ∃ c1, c1 = c0 - (x5_1 : Int).toNat := ⟨_, rfl⟩
             have hy43 : y1597.length = l0.length - (x5_1 : Int).toNat := (by rw [Ny1597.out, List.length_drop] <;> omega)
             rw [show (l0).drop (x5_1 : Int).toNat = y1597 from Ny1597.out.symm] at hr43
             replace hr43 : Kd.F (Kd.slice 3 (Kd.int .i64)) _ _ A43 y1597.length y1597 := (by rw [hA43]; exact hr43)
             rw [← hy43, ← hA43, ← hc43] at hcut43
             have HO1601 := A_ (show Kd.V (Kd.slice 3 (Kd.int .i64)) 24 _ w.heap.size _ (.slice A43 y1597.length c43) y1597 from Kd.V_mk (by rw [hy43, hc43]; exact Nat.sub_le_sub_right hroom43 _) hr43)
             have HC1601 := A_ (show y1597.length ≤ c43 from by rw [hy43, hc43]; exact Nat.sub_le_sub_right hroom43 _)
             clear hr43 hC43 hroom43 hi043 hsz43 hc43
             have KY43 := A_ hy43
             have KA43 := A_ hA43
             clear hy43 hA43
             replace q43 := eq_true q43
             refine start_ (n := 9) (S := fun w' => True) (ds := []) (Fn.bl 9 0) (by kernel_rfl) rfl rfl trivial (fun hHeld => ?_); refine with_tabW spec_biSorted.tab5 spec_biSorted.bits5 (fun HT_ HW_ => ?_)
             generalize w41.drew = w42 at HO_0 HO_1 HL1552_0 HL1555_0 HO1590 HO1593 HB HO1601 hHeld ⊢
             refine pq_ 0 (some 54) (Fn.bl 9 1) HT_.out ?_
             refine pq_ 1 (some 55) (Fn.bl 9 3) HT_.out ?_
             refine pq_ 4 (some 58) (Fn.bl 9 19) HT_.out ?_
             refine pq_ 5 (some 59) (Fn.bl 9 51) HT_.out ?_
             refine pq_ 6 (some 60) (Fn.bl 9 115) HT_.out ?_
             refine one_ (i := 2) (N := some 56) (Fn.bl 9 119) rfl rfl (one_of HT_.out (by kernel_rfl)) (by decide) (fun K hK => ?_)
             refine value_ (w1 := ?_) (v := ?_) (by rfl) rfl ?_ ?_
             rotate_left 2
             ·
              go_simp
              constructor
              ·
               rfl
              ·
               rfl
             refine hK.out _ _ trivial (fun hHeld => ?_)
             clear hK K
             refine norm_ (a' := ?_) ?_ ?_
             rotate_left
             ·
              show Act.put _ (some 56) _ = _
              simp only [Act.put, List.setIfInBounds_toArray, List.set_cons_zero, List.set_cons_succ, i64_w, i32_w]
              rfl
             refine one_ (i := 3) (N := some 57) (Fn.bl 9 127) rfl rfl (one_of HT_.out (by kernel_rfl)) (by decide) (fun K hK => ?_)
             refine Kd.N_append_step (Kd.slice 3 (Kd.int .i64)) (w0 := w) w.heap.size (by rfl) (.tmp 54) (.tmp 56) 27 24 (.slice none 0 0) 24 rfl Try.underlying27 info24 rfl (by decide) (by omega) v1592 y1591 l1 [.slice (some ad1554) l1.length c1] (fun k_ => ((P0_ k_ ∨ P1_ k_) ∨ w.heap.size ≤ k_)) (fun k_ => ((fun k_ => ((P0_ k_ ∨ P1_ k_) ∨ w.heap.size ≤ k_))) k_ ∧ some k_ ≠ (v1592 : Value).ownBlock) rfl rfl ?aP (fun _ hk => hk) ?aF ?aO ?aB ?aS ?aL ?_
             (case aP => exact (Kd.FK_slice_mk (Kd.V_reads' (Kd.V_mono (ok' := (fun k_ => ((fun k_ => ((P0_ k_ ∨ P1_ k_) ∨ w.heap.size ≤ k_))) k_ ∧ some k_ ≠ (v1592 : Value).ownBlock)) (HO_1.out) (fun k_ hk => ⟨hk.1, hk.2⟩))).2.1 (Kd.V_F (Kd.V_mono (ok' := (fun k_ => ((fun k_ => ((P0_ k_ ∨ P1_ k_) ∨ w.heap.size ≤ k_))) k_ ∧ some k_ ≠ (v1592 : Value).ownBlock)) (HO_1.out) (fun k_ hk => ⟨hk.1, hk.2⟩)))))
             (case aB => exact tb_)
             (case aF => exact (fun k_ hk => (.inr (Nat.le_trans (below_size tb_) hk))))
             (case aO => exact (by (with_reducible repeat (first | apply Kd.N_alloc | apply Kd.N_drewN | apply Kd.N_drew)); exact HO1593.out))
             (case aS => exact (below_size tb_))
             (case aL => have := LMc33.out; omega)
             intro v1595 w44 ho hb hg hat
             rw [← Ny1594.out] at ho
             have n0_ := A_ (Kd.V_afterv (ok := (fun k_ => ((P0_ k_ ∨ P1_ k_) ∨ w.heap.size ≤ k_))) (by (with_reducible repeat (first | apply Kd.V_alloc | apply Kd.V_drewN | apply Kd.V_drew)); exact HO_0.out) hg hat)
             have n1_ := A_ (Kd.V_afterv (ok := (fun k_ => ((P0_ k_ ∨ P1_ k_) ∨ w.heap.size ≤ k_))) (by (with_reducible repeat (first | apply Kd.V_alloc | apply Kd.V_drewN | apply Kd.V_drew)); exact HO_1.out) hg hat)
             have n2_ := A_ (Kd.V_afterv (ok := (fun k_ => ((P0_ k_ ∨ P1_ k_) ∨ w.heap.size ≤ k_))) (by (with_reducible repeat (first | apply Kd.V_alloc | apply Kd.V_drewN | apply Kd.V_drew)); exact HL1552_0.out) hg hat)
             have n3_ := A_ (Kd.V_afterv (ok := (fun k_ => ((P0_ k_ ∨ P1_ k_) ∨ w.heap.size ≤ k_))) (by (with_reducible repeat (first | apply Kd.V_alloc | apply Kd.V_drewN | apply Kd.V_drew)); exact HL1555_0.out) hg hat)
             have n4_ := A_ (Kd.V_afterv (ok := (fun k_ => ((P0_ k_ ∨ P1_ k_) ∨ w.heap.size ≤ k_))) (by (with_reducible repeat (first | apply Kd.V_alloc | apply Kd.V_drewN | apply Kd.V_drew)); exact HO1590.out) hg hat)
             have n5_ := A_ (Kd.V_afterv (ok := (fun k_ => ((P0_ k_ ∨ P1_ k_) ∨ w.heap.size ≤ k_))) (by (with_reducible repeat (first | apply Kd.V_alloc | apply Kd.V_drewN | apply Kd.V_drew)); exact HO1601.out) hg hat)
             have n6_ := A_ (hb)
             have n7_ := A_ (ho)
             clear HO_0
             clear HO_1
             clear HL1552_0
             clear HL1555_0
             clear HO1590
             clear HO1601
             clear HB
             clear HO1593
             have HO_0 := n0_
             have HO_1 := n1_
             have HL1552_0 := n2_
             have HL1555_0 := n3_
             have HO1590 := n4_
             have HO1601 := n5_
             have HB := n6_
             have HO1596 := n7_
             clear n0_ n1_ n2_ n3_ n4_ n5_ n6_ n7_
             clear ho hb hg hat
             refine hK.out _ _ trivial (fun hHeld => ?_)
             clear hK K
             refine norm_ (a' := ?_) ?_ ?_
             rotate_left
             ·
              show Act.put _ (some 57) _ = _
              simp only [Act.put, List.setIfInBounds_toArray, List.set_cons_zero, List.set_cons_succ, i64_w, i32_w]
              rfl
             refine one_ (i := 7) (N := some 61) (Fn.bl 9 255) rfl rfl (one_of HT_.out (by kernel_rfl)) (by decide) (fun K hK => ?_)
             refine Kd.N_append_rows_step (Kd.slice 3 (Kd.int .i64)) (w0 := w) w.heap.size (by rfl) (.tmp 57) (.tmp 60) 27 24 (.slice none 0 0) 24 rfl Try.underlying27 info24 rfl (by decide) (by omega) v1595 y1594 y1597 _ _ _ (fun k_ => ((P0_ k_ ∨ P1_ k_) ∨ w.heap.size ≤ k_)) (fun k_ => ((fun k_ => ((P0_ k_ ∨ P1_ k_) ∨ w.heap.size ≤ k_))) k_ ∧ some k_ ≠ (v1595 : Value).ownBlock) rfl rfl ?aO ?aR (fun _ hk => hk) ?aF ?aB ?aS ?aL ?_
             (case aR => exact (by skip; exact Kd.V_F (Kd.V_mono (ok' := (fun k_ => ((fun k_ => ((P0_ k_ ∨ P1_ k_) ∨ w.heap.size ≤ k_))) k_ ∧ some k_ ≠ (v1595 : Value).ownBlock)) (HO1601.out) (fun k_ hk => ⟨hk.1, hk.2⟩))))
             (case aB => exact tb_)
             (case aF => exact (fun k_ hk => (.inr (Nat.le_trans (below_size tb_) hk))))
             (case aO => exact (by (with_reducible repeat (first | apply Kd.N_alloc | apply Kd.N_drewN | apply Kd.N_drew)); exact HO1596.out))
             (case aS => exact (below_size tb_))
             (case aL => have := LMc36.out; omega)
             intro v1603 w45 ho hb hg hat
             rw [← Ny1602.out] at ho
             have n0_ := A_ (Kd.V_afterv (ok := (fun k_ => ((P0_ k_ ∨ P1_ k_) ∨ w.heap.size ≤ k_))) (by (with_reducible repeat (first | apply Kd.V_alloc | apply Kd.V_drewN | apply Kd.V_drew)); exact HO_0.out) hg hat)
             have n1_ := A_ (Kd.V_afterv (ok := (fun k_ => ((P0_ k_ ∨ P1_ k_) ∨ w.heap.size ≤ k_))) (by (with_reducible repeat (first | apply Kd.V_alloc | apply Kd.V_drewN | apply Kd.V_drew)); exact HO_1.out) hg hat)
             have n2_ := A_ (Kd.V_afterv (ok := (fun k_ => ((P0_ k_ ∨ P1_ k_) ∨ w.heap.size ≤ k_))) (by (with_reducible repeat (first | apply Kd.V_alloc | apply Kd.V_drewN | apply Kd.V_drew)); exact HL1552_0.out) hg hat)
             have n3_ := A_ (Kd.V_afterv (ok := (fun k_ => ((P0_ k_ ∨ P1_ k_) ∨ w.heap.size ≤ k_))) (by (with_reducible repeat (first | apply Kd.V_alloc | apply Kd.V_drewN | apply Kd.V_drew)); exact HL1555_0.out) hg hat)
             have n4_ := A_ (Kd.V_afterv (ok := (fun k_ => ((P0_ k_ ∨ P1_ k_) ∨ w.heap.size ≤ k_))) (by (with_reducible repeat (first | apply Kd.V_alloc | apply Kd.V_drewN | apply Kd.V_drew)); exact HO1590.out) hg hat)
             have n5_ := A_ (Kd.V_afterv (ok := (fun k_ => ((P0_ k_ ∨ P1_ k_) ∨ w.heap.size ≤ k_))) (by (with_reducible repeat (first | apply Kd.V_alloc | apply Kd.V_drewN | apply Kd.V_drew)); exact HO1601.out) hg hat)
             have n6_ := A_ (hb)
             have n7_ := A_ (ho)
             clear HO_0
             clear HO_1
             clear HL1552_0
             clear HL1555_0
             clear HO1590
             clear HO1601
             clear HB
             clear HO1596
             have HO_0 := n0_
             have HO_1 := n1_
             have HL1552_0 := n2_
             have HL1555_0 := n3_
             have HO1590 := n4_
             have HO1601 := n5_
             have HB := n6_
             have HO1604 := n7_
             clear n0_ n1_ n2_ n3_ n4_ n5_ n6_ n7_
             clear ho hb hg hat
             refine hK.out _ _ trivial (fun hHeld => ?_)
             clear hK K
             refine norm_ (a' := ?_) ?_ ?_
             rotate_left
             ·
              show Act.put _ (some 61) _ = _
              simp only [Act.put, List.setIfInBounds_toArray, List.set_cons_zero, List.set_cons_succ, i64_w, i32_w]
              rfl
             refine pq_ 8 (some 4) (Fn.bl 9 511) HT_.out ?_
             refine done_ (done_of HT_.out (by kernel_rfl)) ?_
             try go_wp2
             go_ret
             exact ⟨_, te_, by (with_reducible repeat (first | apply Kd.N_alloc | apply Kd.N_drewN | apply Kd.N_drew)); exact HO1604.out, tb_⟩
            ·
             rw [if_neg c36] at H
             exact absurd H (by simp)
           ·
            rw [if_neg c33] at H
            exact absurd H (by simp)
          ·
           rw [if_neg c32] at H
           exact absurd H (by simp)
         ·
          rw [if_neg c31] at H
          exact absurd H (by simp)
      ·
       rw [if_neg c6] at H
       exact absurd H (by simp)
     ·
      rw [if_neg c5] at H
      exact absurd H (by simp)
    ·
     rw [if_neg c4] at H
     exact absurd H (by simp)
   ·
    rw [if_neg c3] at H
    have c3b0 := decide_eq_false c3
    clear c3
    obtain ⟨y1605, hy1605⟩ : ∃ y_ : List (List Int), y_ = (([] : List (List Int))) := ⟨_, rfl⟩
    replace H : (if 0 ≤ x5_1 then (if x5_1 ≤ (l0.length : Int) then ((some (l0.take (x5_1 : Int).toNat : List (List Int))).bind fun y1608 => (if y1605.length + y1608.length < 5864062014805 then ((some (y1605 ++ y1608 : List (List Int))).bind fun y1613 => (if y1613.length < 5864062014805 then ((some (y1613 ++ [l1] : List (List Int))).bind fun y1616 => ((some (l0.drop (x5_1 : Int).toNat : List (List Int))).bind fun y1619 => (if y1616.length + y1619.length < 5864062014805 then (some (y1616 ++ y1619)) else (none)))) else (none))) else (none))) else (none)) else (none)) = some r := ty_ hy1605 H
    have Ny1605 := A_ hy1605
    clear hy1605
    by_cases c46 : 0 ≤ x5_1
    ·
     rw [if_pos c46] at H
     have c46b0 := eq_true c46
     have c46b1 := decide_eq_true c46
     clear c46
     by_cases c47 : x5_1 ≤ (l0.length : Int)
     ·
      rw [if_pos c47] at H
      have c47b0 := eq_true c47
      have c47b1 := decide_eq_true c47
      clear c47
      obtain ⟨y1608, hy1608⟩ : ∃ y_ : List (List Int), y_ = (l0.take (x5_1 : Int).toNat) := ⟨_, rfl⟩
      replace H : (if y1605.length + y1608.length < 5864062014805 then ((some (y1605 ++ y1608 : List (List Int))).bind fun y1613 => (if y1613.length < 5864062014805 then ((some (y1613 ++ [l1] : List (List Int))).bind fun y1616 => ((some (l0.drop (x5_1 : Int).toNat : List (List Int))).bind fun y1619 => (if y1616.length + y1619.length < 5864062014805 then (some (y1616 ++ y1619)) else (none)))) else (none))) else (none)) = some r := ty_ hy1608 H
      have Ny1608 := A_ hy1608
      clear hy1608
      by_cases c48 : y1605.length + y1608.length < 5864062014805
      ·
       rw [if_pos c48] at H
       have LMc48 := A_ c48
       clear c48
       obtain ⟨y1613, hy1613⟩ : ∃ y_ : List (List Int), y_ = (y1605 ++ y1608) := ⟨_, rfl⟩
       replace H : (if y1613.length < 5864062014805 then ((some (y1613 ++ [l1] : List (List Int))).bind fun y1616 => ((some (l0.drop (x5_1 : Int).toNat : List (List Int))).bind fun y1619 => (if y1616.length + y1619.length < 5864062014805 then (some (y1616 ++ y1619)) else (none)))) else (none)) = some r := ty_ hy1613 H
       have Ny1613 := A_ hy1613
       clear hy1613
       by_cases c49 : y1613.length < 5864062014805
       ·
        rw [if_pos c49] at H
        have LMc49 := A_ c49
        clear c49
        obtain ⟨y1616, hy1616⟩ : ∃ y_ : List (List Int), y_ = (y1613 ++ [l1]) := ⟨_, rfl⟩
        replace H : ((some (l0.drop (x5_1 : Int).toNat : List (List Int))).bind fun y1619 => (if y1616.length + y1619.length < 5864062014805 then (some (y1616 ++ y1619)) else (none))) = some r := ty_ hy1616 H
        have Ny1616 := A_ hy1616
        clear hy1616
        have c50b0 := eq_true (od_ : 0 ≤ x5_1)
        have c51b0 := eq_true (od_ : x5_1 ≤ (l0.length : Int))
        obtain ⟨y1619, hy1619⟩ : ∃ y_ : List (List Int), y_ = (l0.drop (x5_1 : Int).toNat) := ⟨_, rfl⟩
        replace H : (if y1616.length + y1619.length < 5864062014805 then (some (y1616 ++ y1619)) else (none)) = some r := ty_ hy1619 H
        have Ny1619 := A_ hy1619
        clear hy1619
        by_cases c52 : y1616.length + y1619.length < 5864062014805
        ·
         rw [if_pos c52] at H
         have LMc52 := A_ c52
         clear c52
         obtain ⟨y1624, hy1624⟩ : ∃ y_ : List (List Int), y_ = (y1616 ++ y1619) := ⟨_, rfl⟩
         replace H : (some y1624) = some r := ty_ hy1624 H
         have Ny1624 := A_ hy1624
         clear hy1624
         obtain rfl := Option.some.inj H
         try go_wp2
         have n0_ := A_ (Kd.V_drew HO_0.out)
         have n1_ := A_ (Kd.V_drew HO_1.out)
         have n2_ := A_ (below_drew1 HB.out)
         clear HO_0
         clear HO_1
         clear HB
         have HO_0 := n0_
         have HO_1 := n1_
         have HB := n2_
         clear n0_ n1_ n2_
         refine start_ (n := 40) (S := fun w' => True) (ds := []) (Fn.bl 40 0) (by kernel_rfl) rfl rfl trivial (fun hHeld => ?_); refine with_tabW spec_biSorted.tab2 spec_biSorted.bits2 (fun HT_ HW_ => ?_)
         generalize wr.drew = w53 at HO_0 HO_1 HB hHeld ⊢
         refine pq_ 0 (some 7) (Fn.bl 40 1) HT_.out ?_
         refine pq_ 1 (some 8) (Fn.bl 40 3) HT_.out ?_
         refine pq_ 2 (some 9) (Fn.bl 40 7) HT_.out ?_
         refine pq_ 3 (some 10) (Fn.bl 40 15) HT_.out ?_
         refine pq_ 4 (some 11) (Fn.bl 40 31) HT_.out ?_
         refine pu_ 5 (some 12) (Fn.bl 40 63) HT_.out ?_
         refine pu_ 6 (some 13) (Fn.bl 40 127) HT_.out ?_
         refine pu_ 7 (some 14) (Fn.bl 40 255) HT_.out ?_
         refine pu_ 8 (some 15) (Fn.bl 40 511) HT_.out ?_
         refine pu_ 9 (some 16) (Fn.bl 40 1023) HT_.out ?_
         refine pu_ 10 (some 17) (Fn.bl 40 2047) HT_.out ?_
         refine pu_ 11 (some 18) (Fn.bl 40 4095) HT_.out ?_
         refine pu_ 12 (some 19) (Fn.bl 40 8191) HT_.out ?_
         refine pu_ 13 (some 20) (Fn.bl 40 16383) HT_.out ?_
         refine pu_ 14 (some 21) (Fn.bl 40 32767) HT_.out ?_
         refine pu_ 15 (some 22) (Fn.bl 40 65535) HT_.out ?_
         refine pu_ 16 (some 23) (Fn.bl 40 131071) HT_.out ?_
         refine pu_ 17 (some 24) (Fn.bl 40 262143) HT_.out ?_
         refine pu_ 18 (some 25) (Fn.bl 40 524287) HT_.out ?_
         refine pu_ 19 (some 26) (Fn.bl 40 1048575) HT_.out ?_
         refine pu_ 20 (some 27) (Fn.bl 40 2097151) HT_.out ?_
         refine pu_ 21 (some 28) (Fn.bl 40 4194303) HT_.out ?_
         refine pu_ 22 (some 29) (Fn.bl 40 8388607) HT_.out ?_
         refine pu_ 23 (some 30) (Fn.bl 40 16777215) HT_.out ?_
         refine pu_ 24 (some 31) (Fn.bl 40 33554431) HT_.out ?_
         refine pu_ 25 (some 32) (Fn.bl 40 67108863) HT_.out ?_
         refine pu_ 26 (some 33) (Fn.bl 40 134217727) HT_.out ?_
         refine pu_ 27 (some 34) (Fn.bl 40 268435455) HT_.out ?_
         refine pu_ 28 (some 35) (Fn.bl 40 536870911) HT_.out ?_
         refine pu_ 29 (some 36) (Fn.bl 40 1073741823) HT_.out ?_
         refine pu_ 30 (some 37) (Fn.bl 40 2147483647) HT_.out ?_
         refine pu_ 31 (some 38) (Fn.bl 40 4294967295) HT_.out ?_
         refine pu_ 32 (some 39) (Fn.bl 40 8589934591) HT_.out ?_
         refine pu_ 33 (some 40) (Fn.bl 40 17179869183) HT_.out ?_
         refine pu_ 34 (some 41) (Fn.bl 40 34359738367) HT_.out ?_
         refine pu_ 35 (some 42) (Fn.bl 40 68719476735) HT_.out ?_
         refine pu_ 36 (some 43) (Fn.bl 40 137438953471) HT_.out ?_
         refine pu_ 37 (some 44) (Fn.bl 40 274877906943) HT_.out ?_
         refine pu_ 38 (some 45) (Fn.bl 40 549755813887) HT_.out ?_
         refine pq_ 39 (some 46) (Fn.bl 40 1099511627775) HT_.out ?_
         refine done_ (done_of HT_.out (by kernel_rfl)) ?_
         try go_wp2_with (first | (refine gd_ 49 ?_; refine Kd.N_lit (Kd.slice 3 (Kd.int .i64)) _ 24 ?hg (N' := 49) ?hd (xs := ([] : List (List Int))) (inner := []) (ok := (fun k_ => ((P0_ k_ ∨ P1_ k_) ∨ w.heap.size ≤ k_))) (okp := (fun k_ => ((P0_ k_ ∨ P1_ k_) ∨ w.heap.size ≤ k_))) ?hr ?hp (fun _ hk => hk) ((show ∀ k_, w53.heap.size ≤ k_ → (fun k_ => ((P0_ k_ ∨ P1_ k_) ∨ w.heap.size ≤ k_)) k_ from fun k_ hk => (.inr (Nat.le_trans (below_size tb_) hk))) _ (Nat.le_refl _)) (Below.refl _ _) (Nat.le_refl _) (by simp) ?_; (case hd => rfl); (case hg => rfl); (case hr => first | (go_simp; done) | (go_simp; rfl)); (case hp => exact (Reps.none _ _)); intro v1606 w54 ho55 hb hg_ hnew_; clear hg_ hnew_; (first | rw [← Ny1605.out] at ho55 | (simp only [Int.reduceToNat] at ho55; rw [← Ny1605.out] at ho55)); replace HO_0 := A_ (Kd.V_elder' (by (with_reducible repeat (first | apply Kd.V_alloc | apply Kd.V_drewN | apply Kd.V_drew)); exact HO_0.out) (by first | exact Kd.N_base ho55 | exact Kd.S_base ho55) hb); replace HO_1 := A_ (Kd.V_elder' (by (with_reducible repeat (first | apply Kd.V_alloc | apply Kd.V_drewN | apply Kd.V_drew)); exact HO_1.out) (by first | exact Kd.N_base ho55 | exact Kd.S_base ho55) hb); have HO1607 := A_ (Kd.N_lower ho55 (below_size tb_)); replace HB := A_ (below_step tb_ hb); clear hb ho55; have q56 : (x5_1 : Int) ≤ ((l0.length : Int) : Int) := od_; obtain ⟨i056, hi056, _, hsz56, _⟩ := info_parts info24; have hroom56 : l0.length ≤ c0 := (Kd.V_reads' HO_0.out).2.1; have hC56 : Kd.F (Kd.slice 3 (Kd.int .i64)) _ _ A0 l0.length l0 := (Kd.V_at (base := w.heap.size) HO_0.out).2.2; have hcut56 := cut_to (P := Try.prog) 27 24 .i64 Try.underlying27 hi056 A0 l0.length c0 x5_1 (od_) q56 hroom56; have hr56 := Kd.F_take (m := (x5_1 : Int).toNat) hC56 (by omega); have hy56 : y1608.length = (x5_1 : Int).toNat := (by rw [Ny1608.out, List.length_take]; omega); rw [← Ny1608.out] at hr56; rw [← hy56] at hcut56; have HO1612 := A_ (show Kd.V (Kd.slice 3 (Kd.int .i64)) 24 _ w.heap.size _ (.slice A0 y1608.length c0) y1608 from Kd.V_mk (by omega) hr56); have HC1612 := A_ (show y1608.length ≤ c0 from by omega); clear hr56 hC56 hroom56 hi056 hsz56; have KY56 := A_ hy56; clear hy56; replace q56 := eq_true q56) | ((with_reducible refine gate_builtin (b := .append) (xs := #[.tmp 49, .tmp 52]) rfl ?_); at_builtin; refine Kd.N_append_rows (Kd.slice 3 (Kd.int .i64)) (w0 := w) w.heap.size rfl (.tmp 49) (.tmp 52) 27 24 (.slice none 0 0) 24 rfl Try.underlying27 info24 rfl (by decide) (by omega) v1606 y1605 y1608 _ _ _ (fun k_ => ((P0_ k_ ∨ P1_ k_) ∨ w.heap.size ≤ k_)) (fun k_ => ((fun k_ => ((P0_ k_ ∨ P1_ k_) ∨ w.heap.size ≤ k_))) k_ ∧ some k_ ≠ (v1606 : Value).ownBlock) rfl rfl ?aO ?aR (fun _ hk => hk) ?aF ?aB ?aS ?aL ?_; (case aR => exact (by skip; exact Kd.V_F (Kd.V_mono (ok' := (fun k_ => ((fun k_ => ((P0_ k_ ∨ P1_ k_) ∨ w.heap.size ≤ k_))) k_ ∧ some k_ ≠ (v1606 : Value).ownBlock)) (HO1612.out) (fun k_ hk => ⟨hk.1, hk.2⟩)))); (case aB => exact tb_); (case aF => exact (fun k_ hk => (.inr (Nat.le_trans (below_size tb_) hk)))); (case aO => exact (by (with_reducible repeat (first | apply Kd.N_alloc | apply Kd.N_drewN | apply Kd.N_drew)); exact HO1607.out)); (case aS => exact (below_size tb_)); (case aL => have := LMc48.out; omega); intro v1614 w57 ho hb hg hat; rw [← Ny1613.out] at ho; have n0_ := A_ (Kd.V_afterv (ok := (fun k_ => ((P0_ k_ ∨ P1_ k_) ∨ w.heap.size ≤ k_))) (by (with_reducible repeat (first | apply Kd.V_alloc | apply Kd.V_drewN | apply Kd.V_drew)); exact HO_0.out) hg hat); have n1_ := A_ (Kd.V_afterv (ok := (fun k_ => ((P0_ k_ ∨ P1_ k_) ∨ w.heap.size ≤ k_))) (by (with_reducible repeat (first | apply Kd.V_alloc | apply Kd.V_drewN | apply Kd.V_drew)); exact HO_1.out) hg hat); have n2_ := A_ (Kd.V_afterv (ok := (fun k_ => ((P0_ k_ ∨ P1_ k_) ∨ w.heap.size ≤ k_))) (by (with_reducible repeat (first | apply Kd.V_alloc | apply Kd.V_drewN | apply Kd.V_drew)); exact HO1612.out) hg hat); have n3_ := A_ (hb); have n4_ := A_ (ho); clear HO_0; clear HO_1; clear HO1612; clear HB; clear HO1607; have HO_0 := n0_; have HO_1 := n1_; have HO1612 := n2_; have HB := n3_; have HO1615 := n4_; clear n0_ n1_ n2_ n3_ n4_; clear ho hb hg hat))
         have n0_ := A_ (Kd.V_drew HO_0.out)
         have n1_ := A_ (Kd.V_drew HO_1.out)
         have n2_ := A_ (Kd.V_drew HO1612.out)
         have n3_ := A_ (Kd.N_drew HO1615.out)
         have n4_ := A_ (below_drew1 HB.out)
         clear HO_0
         clear HO_1
         clear HO1612
         clear HO1615
         clear HB
         have HO_0 := n0_
         have HO_1 := n1_
         have HO1612 := n2_
         have HO1615 := n3_
         have HB := n4_
         clear n0_ n1_ n2_ n3_ n4_
         have q59 : (x5_1 : Int) ≤ ((l0.length : Int) : Int) := od_
         obtain ⟨i059, hi059, _, hsz59, _⟩ := info_parts info24
         have hroom59 : l0.length ≤ c0 := (Kd.V_reads' HO_0.out).2.1
         have hC59 : Kd.F (Kd.slice 3 (Kd.int .i64)) _ _ A0 l0.length l0 := (Kd.V_at (base := w.heap.size) HO_0.out).2.2
         have q059 : (0 : Int) ≤ (x5_1 : Int) := od_
         have hcut59 := cut_from (P := Try.prog) 27 24 .i64 Try.underlying27 hi059 1 hsz59 A0 l0.length c0 x5_1 q059 q59
         have hr59 := Kd.F_cut (m := (x5_1 : Int).toNat) (c := c0) hC59 (by omega) hroom59
         obtain ⟨A59, hA59⟩ : ∃ A1, A1 = (if c0 = (x5_1 : Int).toNat then A0 else (A0 : Option Addr).map (·.add ((x5_1 : Int).toNat * 1))) := ⟨_, rfl⟩
         obtain ⟨c59, hc59⟩ : ∃ c1, c1 = c0 - (x5_1 : Int).toNat := ⟨_, rfl⟩
         have hy59 : y1619.length = l0.length - (x5_1 : Int).toNat := (by rw [Ny1619.out, List.length_drop] <;> omega)
         rw [show (l0).drop (x5_1 : Int).toNat = y1619 from Ny1619.out.symm] at hr59
         replace hr59 : Kd.F (Kd.slice 3 (Kd.int .i64)) _ _ A59 y1619.length y1619 := (by rw [hA59]; exact hr59)
         rw [← hy59, ← hA59, ← hc59] at hcut59
         have HO1623 := A_ (show Kd.V (Kd.slice 3 (Kd.int .i64)) 24 _ w.heap.size _ (.slice A59 y1619.length c59) y1619 from Kd.V_mk (by rw [hy59, hc59]; exact Nat.sub_le_sub_right hroom59 _) hr59)
         have HC1623 := A_ (show y1619.length ≤ c59 from by rw [hy59, hc59]; exact Nat.sub_le_sub_right hroom59 _)
         clear hr59 hC59 hroom59 hi059 hsz59 hc59
         have KY59 := A_ hy59
         have KA59 := A_ hA59
         clear hy59 hA59
         replace q59 := eq_true q59
         refine start_ (n := 9) (S := fun w' => True) (ds := []) (Fn.bl 9 0) (by kernel_rfl) rfl rfl trivial (fun hHeld => ?_); refine with_tabW spec_biSorted.tab5 spec_biSorted.bits5 (fun HT_ HW_ => ?_)
         generalize w57.drew = w58 at HO_0 HO_1 HO1612 HO1615 HB HO1623 hHeld ⊢
         refine pq_ 0 (some 54) (Fn.bl 9 1) HT_.out ?_
         refine pq_ 1 (some 55) (Fn.bl 9 3) HT_.out ?_
         refine pq_ 4 (some 58) (Fn.bl 9 19) HT_.out ?_
         refine pq_ 5 (some 59) (Fn.bl 9 51) HT_.out ?_
         refine pq_ 6 (some 60) (Fn.bl 9 115) HT_.out ?_
         refine one_ (i := 2) (N := some 56) (Fn.bl 9 119) rfl rfl (one_of HT_.out (by kernel_rfl)) (by decide) (fun K hK => ?_)
         refine value_ (w1 := ?_) (v := ?_) (by rfl) rfl ?_ ?_
         rotate_left 2
         ·
          go_simp
          constructor
          ·
           rfl
          ·
           rfl
         refine hK.out _ _ trivial (fun hHeld => ?_)
         clear hK K
         refine norm_ (a' := ?_) ?_ ?_
         rotate_left
         ·
          show Act.put _ (some 56) _ = _
          simp only [Act.put, List.setIfInBounds_toArray, List.set_cons_zero, List.set_cons_succ, i64_w, i32_w]
          rfl
         refine one_ (i := 3) (N := some 57) (Fn.bl 9 127) rfl rfl (one_of HT_.out (by kernel_rfl)) (by decide) (fun K hK => ?_)
         refine Kd.N_append_step (Kd.slice 3 (Kd.int .i64)) (w0 := w) w.heap.size (by rfl) (.tmp 54) (.tmp 56) 27 24 (.slice none 0 0) 24 rfl Try.underlying27 info24 rfl (by decide) (by omega) v1614 y1613 l1 [.slice A1 l1.length c1] (fun k_ => ((P0_ k_ ∨ P1_ k_) ∨ w.heap.size ≤ k_)) (fun k_ => ((fun k_ => ((P0_ k_ ∨ P1_ k_) ∨ w.heap.size ≤ k_))) k_ ∧ some k_ ≠ (v1614 : Value).ownBlock) rfl rfl ?aP (fun _ hk => hk) ?aF ?aO ?aB ?aS ?aL ?_
         (case aP => exact (Kd.FK_slice_mk (Kd.V_reads' (Kd.V_mono (ok' := (fun k_ => ((fun k_ => ((P0_ k_ ∨ P1_ k_) ∨ w.heap.size ≤ k_))) k_ ∧ some k_ ≠ (v1614 : Value).ownBlock)) (HO_1.out) (fun k_ hk => ⟨hk.1, hk.2⟩))).2.1 (Kd.V_F (Kd.V_mono (ok' := (fun k_ => ((fun k_ => ((P0_ k_ ∨ P1_ k_) ∨ w.heap.size ≤ k_))) k_ ∧ some k_ ≠ (v1614 : Value).ownBlock)) (HO_1.out) (fun k_ hk => ⟨hk.1, hk.2⟩)))))
         (case aB => exact tb_)
         (case aF => exact (fun k_ hk => (.inr (Nat.le_trans (below_size tb_) hk))))
         (case aO => exact (by (with_reducible repeat (first | apply Kd.N_alloc | apply Kd.N_drewN | apply Kd.N_drew)); exact HO1615.out))
         (case aS => exact (below_size tb_))
         (case aL => have := LMc49.out; omega)
         intro v1617 w60 ho hb hg hat
         rw [← Ny1616.out] at ho
         have n0_ := A_ (Kd.V_afterv (ok := (fun k_ => ((P0_ k_ ∨ P1_ k_) ∨ w.heap.size ≤ k_))) (by (with_reducible repeat (first | apply Kd.V_alloc | apply Kd.V_drewN | apply Kd.V_drew)); exact HO_0.out) hg hat)
         have n1_ := A_ (Kd.V_afterv (ok := (fun k_ => ((P0_ k_ ∨ P1_ k_) ∨ w.heap.size ≤ k_))) (by (with_reducible repeat (first | apply Kd.V_alloc | apply Kd.V_drewN | apply Kd.V_drew)); exact HO_1.out) hg hat)
         have n2_ := A_ (Kd.V_afterv (ok := (fun k_ => ((P0_ k_ ∨ P1_ k_) ∨ w.heap.size ≤ k_))) (by (with_reducible repeat (first | apply Kd.V_alloc | apply Kd.V_drewN | apply Kd.V_drew)); exact HO1612.out) hg hat)
         have n3_ := A_ (Kd.V_afterv (ok := (fun k_ => ((P0_ k_ ∨ P1_ k_) ∨ w.heap.size ≤ k_))) (by (with_reducible repeat (first | apply Kd.V_alloc | apply Kd.V_drewN | apply Kd.V_drew)); exact HO1623.out) hg hat)
         have n4_ := A_ (hb)
         have n5_ := A_ (ho)
         clear HO_0
         clear HO_1
         clear HO1612
         clear HO1623
         clear HB
         clear HO1615
         have HO_0 := n0_
         have HO_1 := n1_
         have HO1612 := n2_
         have HO1623 := n3_
         have HB := n4_
         have HO1618 := n5_
         clear n0_ n1_ n2_ n3_ n4_ n5_
         clear ho hb hg hat
         refine hK.out _ _ trivial (fun hHeld => ?_)
         clear hK K
         refine norm_ (a' := ?_) ?_ ?_
         rotate_left
         ·
          show Act.put _ (some 57) _ = _
          simp only [Act.put, List.setIfInBounds_toArray, List.set_cons_zero, List.set_cons_succ, i64_w, i32_w]
          rfl
         refine one_ (i := 7) (N := some 61) (Fn.bl 9 255) rfl rfl (one_of HT_.out (by kernel_rfl)) (by decide) (fun K hK => ?_)
         refine Kd.N_append_rows_step (Kd.slice 3 (Kd.int .i64)) (w0 := w) w.heap.size (by rfl) (.tmp 57) (.tmp 60) 27 24 (.slice none 0 0) 24 rfl Try.underlying27 info24 rfl (by decide) (by omega) v1617 y1616 y1619 _ _ _ (fun k_ => ((P0_ k_ ∨ P1_ k_) ∨ w.heap.size ≤ k_)) (fun k_ => ((fun k_ => ((P0_ k_ ∨ P1_ k_) ∨ w.heap.size ≤ k_))) k_ ∧ some k_ ≠ (v1617 : Value).ownBlock) rfl rfl ?aO ?aR (fun _ hk => hk) ?aF ?aB ?aS ?aL ?_
         (case aR => exact (by skip; exact Kd.V_F (Kd.V_mono (ok' := (fun k_ => ((fun k_ => ((P0_ k_ ∨ P1_ k_) ∨ w.heap.size ≤ k_))) k_ ∧ some k_ ≠ (v1617 : Value).ownBlock)) (HO1623.out) (fun k_ hk => ⟨hk.1, hk.2⟩))))
         (case aB => exact tb_)
         (case aF => exact (fun k_ hk => (.inr (Nat.le_trans (below_size tb_) hk))))
         (case aO => exact (by (with_reducible repeat (first | apply Kd.N_alloc | apply Kd.N_drewN | apply Kd.N_drew)); exact HO1618.out))
         (case aS => exact (below_size tb_))
         (case aL => have := LMc52.out; omega)
         intro v1625 w61 ho hb hg hat
         rw [← Ny1624.out] at ho
         have n0_ := A_ (Kd.V_afterv (ok := (fun k_ => ((P0_ k_ ∨ P1_ k_) ∨ w.heap.size ≤ k_))) (by (with_reducible repeat (first | apply Kd.V_alloc | apply Kd.V_drewN | apply Kd.V_drew)); exact HO_0.out) hg hat)
         have n1_ := A_ (Kd.V_afterv (ok := (fun k_ => ((P0_ k_ ∨ P1_ k_) ∨ w.heap.size ≤ k_))) (by (with_reducible repeat (first | apply Kd.V_alloc | apply Kd.V_drewN | apply Kd.V_drew)); exact HO_1.out) hg hat)
         have n2_ := A_ (Kd.V_afterv (ok := (fun k_ => ((P0_ k_ ∨ P1_ k_) ∨ w.heap.size ≤ k_))) (by (with_reducible repeat (first | apply Kd.V_alloc | apply Kd.V_drewN | apply Kd.V_drew)); exact HO1612.out) hg hat)
         have n3_ := A_ (Kd.V_afterv (ok := (fun k_ => ((P0_ k_ ∨ P1_ k_) ∨ w.heap.size ≤ k_))) (by (with_reducible repeat (first | apply Kd.V_alloc | apply Kd.V_drewN | apply Kd.V_drew)); exact HO1623.out) hg hat)
         have n4_ := A_ (hb)
         have n5_ := A_ (ho)
         clear HO_0
         clear HO_1
         clear HO1612
         clear HO1623
         clear HB
         clear HO1618
         have HO_0 := n0_
         have HO_1 := n1_
         have HO1612 := n2_
         have HO1623 := n3_
         have HB := n4_
         have HO1626 := n5_
         clear n0_ n1_ n2_ n3_ n4_ n5_
         clear ho hb hg hat
         refine hK.out _ _ trivial (fun hHeld => ?_)
         clear hK K
         refine norm_ (a' := ?_) ?_ ?_
         rotate_left
         ·
          show Act.put _ (some 61) _ = _
          simp only [Act.put, List.setIfInBounds_toArray, List.set_cons_zero, List.set_cons_succ, i64_w, i32_w]
          rfl
         refine pq_ 8 (some 4) (Fn.bl 9 511) HT_.out ?_
         refine done_ (done_of HT_.out (by kernel_rfl)) ?_
         try go_wp2
         go_ret
         exact ⟨_, te_, by (with_reducible repeat (first | apply Kd.N_alloc | apply Kd.N_drewN | apply Kd.N_drew)); exact HO1626.out, tb_⟩
        ·
         rw [if_neg c52] at H
         exact absurd H (by simp)
       ·
        rw [if_neg c49] at H
        exact absurd H (by simp)
      ·
       rw [if_neg c48] at H
       exact absurd H (by simp)
     ·
      rw [if_neg c47] at H
      exact absurd H (by simp)
    ·
     rw [if_neg c46] at H
     exact absurd H (by simp)

end
end Go.Proofs.Ytdoflpghemgbdaa.P
