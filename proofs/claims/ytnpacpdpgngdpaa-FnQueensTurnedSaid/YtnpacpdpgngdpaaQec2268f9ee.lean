-- printed functions (wip/slim.py)
import Derived.Test.YtnpacpdpgngdpaaPx0
import Derived.Test.YtnpacpdpgngdpaaQc74da3dc26
import Derived.Test.YtnpacpdpgngdpaaQb85a676f67
namespace Go.Proofs.Ytnpacpdpgngdpaa.P
noncomputable section
set_option maxHeartbeats 8000000
set_option maxRecDepth 100000
open Go.RowKit Go.Proofs.YtnpacpdpgngdpaaW.PrintWords Go.Proofs.YtnpacpdpgngdpaaW.PrintLast Go.Proofs.YtnpacpdpgngdpaaW.PrintMore
attribute [local go_sem] max2_int min2_int max_two min_two max_three min_three max_four min_four   -- for this text's walks alone
set_option linter.unusedVariables false
set_option linter.unusedSimpArgs false

/-! ### spec_CountDifferent: function 104 -/
def spec_CountDifferent.l0 : Nat → Int → List (List Int) → Int → Int → Option (Int × Bool)
 | 0, _, _, _, _ => none
 | k + 1, x4, x11, x12, x13 => if x13 < x12 then (if 0 ≤ x13 then (if x13 < (x11.length : Int) then ((spec_quLeast.f k (rd_L1 x11 x13)).bind fun t1604 => ((spec_l1Same.f k t1604 (rd_L1 x11 x13)).bind fun t1607 => (if t1607 = true then (spec_CountDifferent.l0 k (wrap64 (x4 + 1)) x11 x12 (wrap64 (x13 + 1))) else (spec_CountDifferent.l0 k x4 x11 x12 (wrap64 (x13 + 1)))))) else (none)) else (none)) else (some (x4, true))
def spec_CountDifferent.f (k : Nat) (a0 : Int) : Option (Int × Bool) := (spec_quSide.f a0).bind fun t1599 => (if t1599 = true then ((spec_quAll.f k a0 ([] : List Int)).bind fun t1600 => (spec_CountDifferent.l0 k 0 t1600 (t1600.length : Int) 0)) else (some (0, false)))
theorem spec_CountDifferent.mono_l : ∀ k, (∀ y0 y1 y2 y3, LeO (spec_CountDifferent.l0 k y0 y1 y2 y3) (spec_CountDifferent.l0 (k + 1) y0 y1 y2 y3))
 | 0 => fun _ _ _ _ r h => by simp [spec_CountDifferent.l0] at h
 | k + 1 => by
  have ih0 := spec_CountDifferent.mono_l k
  ·
   intro y0 y1 y2 y3
   unfold spec_CountDifferent.l0
   repeat' first | (with_reducible first | exact ih0 _ _ _ _ | exact spec_l1Same.mono _ _ _ | exact spec_quAll.mono _ _ _ | exact spec_quLeast.mono _ _ | exact LeO.refl _ | exact LeO.none _ | refine LeO.ite ?_ ?_ | refine LeO.bind ?_ (fun _ => ?_)) | exact ih0 _ _ _ _ | exact spec_l1Same.mono _ _ _ | exact spec_quAll.mono _ _ _ | exact spec_quLeast.mono _ _ | exact LeO.none _ | refine LeO.ite ?_ ?_ | refine LeO.bind ?_ (fun _ => ?_)
theorem spec_CountDifferent.mono : ∀ a0 k, LeO (spec_CountDifferent.f k a0) (spec_CountDifferent.f (k + 1) a0) := by
 intro a0 k
 have ih0 := spec_CountDifferent.mono_l k
 unfold spec_CountDifferent.f
 repeat' first | (with_reducible first | exact ih0 _ _ _ _ | exact spec_l1Same.mono _ _ _ | exact spec_quAll.mono _ _ _ | exact spec_quLeast.mono _ _ | exact LeO.refl _ | exact LeO.none _ | refine LeO.ite ?_ ?_ | refine LeO.bind ?_ (fun _ => ?_)) | exact ih0 _ _ _ _ | exact spec_l1Same.mono _ _ _ | exact spec_quAll.mono _ _ _ | exact spec_quLeast.mono _ _ | exact LeO.none _ | refine LeO.ite ?_ ?_ | refine LeO.bind ?_ (fun _ => ?_)
theorem spec_CountDifferent.calls (k : Nat) (a0 : Int) (r1 : Int) (r2 : Bool) (w : World) (h : spec_CountDifferent.f k a0 = some (r1, r2)) :
  Calls Try.prog 104 #[.int .i64 a0] w fun e w' => e = .returned (.tuple #[.int .i64 r1, .bool r2]) ∧ Below w.heap.size w w' := by
 have HB := A_ (Below.refl w.heap.size w)
 have H : ((spec_quSide.f a0).bind fun t1599 => (if t1599 = true then ((spec_quAll.f k a0 ([] : List Int)).bind fun t1600 => (spec_CountDifferent.l0 k 0 t1600 (t1600.length : Int) 0)) else (some (0, false)))) = some (r1, r2) := h
 clear h
 replace H := Option.bind_eq_some_iff.mp H
 obtain ⟨t1599, A20, H⟩ := H
 replace H : (if t1599 = true then ((spec_quAll.f k a0 ([] : List Int)).bind fun t1600 => (spec_CountDifferent.l0 k 0 t1600 (t1600.length : Int) 0)) else (some (0, false))) = some (r1, r2) := H
 have A2 := A_ A20
 clear A20
 by_cases c3 : t1599 = true
 ·
  subst c3
  have H1 : ((spec_quAll.f k a0 ([] : List Int)).bind fun t1600 => (spec_CountDifferent.l0 k 0 t1600 (t1600.length : Int) 0)) = some (r1, r2) := by rw [if_pos rfl] at H; exact H
  clear H
  have H := H1
  clear H1
  replace H := Option.bind_eq_some_iff.mp H
  obtain ⟨t1600, A40, H⟩ := H
  replace H : (spec_CountDifferent.l0 k 0 t1600 (t1600.length : Int) 0) = some (r1, r2) := H
  have A4 := A_ A40
  clear A40
  have H' := A_ H
  clear H
  go_enter Try.func104, Try.ntmps104
  go_wp2_with (first | (refine gc_ 167 ?_; refine goesT_ (some 8) Try.func167 #[.int .i64 a0] ?_; (with_reducible refine (spec_quSide.calls a0 true _ A2.out).mono ?_); rintro e w' ⟨rfl, ⟨nd, rfl⟩⟩; refine ⟨_, rfl, ?_⟩) | (refine gc_ 178 ?_; refine goesT_ (some 11) Try.func178 #[.int .i64 a0, .slice none 0 0] ?_; (refine (spec_quAll.calls k a0 _ _ ([] : List Int) t1600 _ ?side1 ?side2 A4.out).mono ?_); (case side1 => exact Kd.C_nil _ _); (case side2 => exact Nat.le_refl _); rintro e w5 ⟨v1601, rfl, ho0, hb⟩; refine ⟨_, rfl, ?_⟩; have HO1602 := A_ (Kd.N_lower (Kd.N_mono (ok' := fun k_ => True) ho0 (fun k_ hk_ => trivial)) (below_size tb_)); replace HB := A_ (below_step tb_ hb); (try clear hb); (try clear ho0); obtain ⟨Ao6, co6, eo6⟩ := Kd.N_slice HO1602.out; subst eo6))
  go_loopg [4, 13] k (fun kq v4 v13 w' => ∃ (x4_1 : Int) (x13_1 : Int), v4 = .int .i64 x4_1 ∧ v13 = .int .i64 x13_1 ∧ Aside0 (spec_CountDifferent.l0 kq x4_1 t1600 (t1600.length : Int) x13_1 = some (r1, r2)) ∧ Aside0 (kq ≤ k) ∧ Aside0 (Kd.N (Kd.slice 3 (Kd.int .i64)) 22 w' w.heap.size (fun _ => True) (.slice Ao6 t1600.length co6) t1600) ∧ Aside0 (Below w.heap.size w w'))
  case atStart => exact ⟨(0), (0), tf_, tf_, H', ⟨Nat.le_refl _⟩, ⟨by (with_reducible repeat (first | apply Kd.N_alloc | apply Kd.N_drewN | apply Kd.N_drew)); exact HO1602.out⟩, ⟨tb_⟩⟩
  case round =>
   clear H'
   try clear c1
   try clear p2
   try clear c3
   obtain ⟨x4_1, x13_1, rfl, rfl, HA, HK1, HO_11, HB⟩ := hrel
   cases gk with
   | zero => exact absurd HA.out (by simp [spec_CountDifferent.l0])
   | succ k1 =>
    have H := HA.out
    clear HA
    simp only [spec_CountDifferent.l0] at H
    by_cases c7 : x13_1 < (t1600.length : Int)
    ·
     rw [if_pos c7] at H
     have c7b0 := decide_eq_true c7
     clear c7
     by_cases c8 : 0 ≤ x13_1
     ·
      rw [if_pos c8] at H
      have c8b0 := decide_eq_true c8
      clear c8
      by_cases c9 : x13_1 < (t1600.length : Int)
      ·
       rw [if_pos c9] at H
       have c9b0 := decide_eq_true c9
       clear c9
       replace H := Option.bind_eq_some_iff.mp H
       obtain ⟨t1604, A100, H⟩ := H
       replace H : ((spec_l1Same.f k1 t1604 (rd_L1 t1600 x13_1)).bind fun t1607 => (if t1607 = true then (spec_CountDifferent.l0 k1 (wrap64 (x4_1 + 1)) t1600 (t1600.length : Int) (wrap64 (x13_1 + 1))) else (spec_CountDifferent.l0 k1 x4_1 t1600 (t1600.length : Int) (wrap64 (x13_1 + 1))))) = some (r1, r2) := H
       have A10 := A_ A100
       clear A100
       replace H := Option.bind_eq_some_iff.mp H
       obtain ⟨t1607, A110, H⟩ := H
       replace H : (if t1607 = true then (spec_CountDifferent.l0 k1 (wrap64 (x4_1 + 1)) t1600 (t1600.length : Int) (wrap64 (x13_1 + 1))) else (spec_CountDifferent.l0 k1 x4_1 t1600 (t1600.length : Int) (wrap64 (x13_1 + 1)))) = some (r1, r2) := H
       have A11 := A_ A110
       clear A110
       by_cases c12 : t1607 = true
       ·
        subst c12
        have H1 : (spec_CountDifferent.l0 k1 (wrap64 (x4_1 + 1)) t1600 (t1600.length : Int) (wrap64 (x13_1 + 1))) = some (r1, r2) := by rw [if_pos rfl] at H; exact H
        clear H
        have H := H1
        clear H1
        have H' := A_ H
        clear H
        have p1603 : 0 ≤ (x13_1 : Int) := od_
        have q1603 : x13_1 < (t1600.length : Int) := od_
        obtain ⟨ad1603, A1603_0, c1603_0, e1603, hx1603_0, hl1603_0, hi1603_0⟩ := at_L1 (Kd.N_reads' HO_11.out).2.2 x13_1 p1603 q1603
        cases e1603
        obtain ⟨ce1603, hce1603, hMe1603, hcc1603⟩ := Kd.N_get HO_11.out [] x13_1 p1603 (by first | exact q1603 | exact od_ | (have e_ := (Kd.N_reads' HO_11.out).1; omega))
        obtain ⟨ua1603_0, uc1603_0, rfl, ul1603_0, ge1603_0⟩ := Kd.FK_slice_open hMe1603
        have hv1603_0 := hcc1603 0 _ rfl
        rw [Nat.add_zero, show ((Kd.slice 3 (Kd.int .i64))).sz = 1 from rfl, Nat.mul_one] at hv1603_0
        replace hv1603_0 := Option.some.inj (hv1603_0.symm.trans hx1603_0)
        injection hv1603_0 with hva_ hvn_ hvc_
        rw [hva_] at ge1603_0
        rw [hvc_] at ul1603_0
        have HL1603_0 := A_ (show Kd.V (Kd.int .i64) 3 _ w.heap.size _ _ (rd_L1 t1600 x13_1) from Kd.V_mk ul1603_0 ge1603_0)
        clear hva_ hvn_ hvc_ ge1603_0 ul1603_0
        clear hcc1603 hce1603
        have HR1603_0 := A_ hi1603_0
        have HC1603_0 := A_ hl1603_0
        clear hi1603_0 hl1603_0
        replace p1603 := eq_true p1603
        replace q1603 := eq_true q1603
        go_wp2_with (first | (refine gc_ 202 ?_; refine goesT_ (some 18) Try.func202 #[.slice A1603_0 (rd_L1 t1600 x13_1).length c1603_0] ?_; (with_reducible refine (spec_quLeast.calls k1 _ _ (rd_L1 t1600 x13_1) t1604 _ ?side1 ?side2 A10.out).mono ?_); (case side1 => repeat (first | exact (by repeat (first | (with_reducible exact HR1603_0.out) | (with_reducible refine Kd.C_alloc ?_ _) | (with_reducible refine Kd.C_drewN ?_ _) | (with_reducible refine Kd.C_drew ?_) | exact HR1603_0.out)) | (with_reducible refine Kd.C_alloc ?_ _) | (with_reducible refine Kd.C_drewN ?_ _) | (with_reducible refine Kd.C_drew ?_))); (case side2 => exact HC1603_0.out); rintro e w13 ⟨v1605, rfl, ho0, hb⟩; refine ⟨_, rfl, ?_⟩; replace HO_11 := A_ (Kd.N_elder' (by (with_reducible repeat (first | apply Kd.N_alloc | apply Kd.N_drewN | apply Kd.N_drew)); exact HO_11.out) (Kd.R_base ho0) hb); replace HL1603_0 := A_ (Kd.V_elder' (by (with_reducible repeat (first | apply Kd.V_alloc | apply Kd.V_drewN | apply Kd.V_drew)); exact HL1603_0.out) (Kd.R_base ho0) hb); have HO1606 := A_ (Kd.R_lower ho0 (below_size tb_)); replace HR1603_0 := A_ (Kd.C_below (by repeat (first | (with_reducible exact HR1603_0.out) | (with_reducible refine Kd.C_alloc ?_ _) | (with_reducible refine Kd.C_drewN ?_ _) | (with_reducible refine Kd.C_drew ?_) | exact HR1603_0.out)) hb); replace HB := A_ (below_step tb_ hb); (try clear hb); (try clear hb2); (try clear hk); (try clear hi); (try clear ho0); obtain ⟨Ao14, co14, eo14⟩ := Kd.R_slice HO1606.out; subst eo14) | (refine gc_ 208 ?_; refine goesT_ (some 20) Try.func208 #[.slice Ao14 t1604.length co14, .slice A1603_0 (rd_L1 t1600 x13_1).length c1603_0] ?_; (with_reducible refine (spec_l1Same.calls k1 _ _ t1604 _ _ (rd_L1 t1600 x13_1) true _ ?side1 ?side2 ?side3 ?side4 A11.out).mono ?_); (case side1 => exact tc0_ (Kd.R_reads' HO1606.out).2.2); (case side2 => exact (Kd.R_reads' HO1606.out).2.1); (case side3 => repeat (first | exact (by repeat (first | (with_reducible exact HR1603_0.out) | (with_reducible refine Kd.C_alloc ?_ _) | (with_reducible refine Kd.C_drewN ?_ _) | (with_reducible refine Kd.C_drew ?_) | exact HR1603_0.out)) | (with_reducible refine Kd.C_alloc ?_ _) | (with_reducible refine Kd.C_drewN ?_ _) | (with_reducible refine Kd.C_drew ?_))); (case side4 => exact HC1603_0.out); rintro e w' ⟨rfl, ⟨nd, rfl⟩⟩; refine ⟨_, rfl, ?_⟩))
        go_roundg k1
        case measure => have := HK1.out; omega
        case rel => exact ⟨(wrap64 (x4_1 + 1)), (wrap64 (x13_1 + 1)), tf_, tf_, H', ⟨by have := HK1.out; omega⟩, ⟨by (with_reducible repeat (first | apply Kd.N_alloc | apply Kd.N_drewN | apply Kd.N_drew)); exact Kd.N_mono HO_11.out (fun _ hk => trivial)⟩, ⟨tb_⟩⟩
       ·
        replace c12 := Bool.eq_false_iff.mpr c12
        subst c12
        have H1 : (spec_CountDifferent.l0 k1 x4_1 t1600 (t1600.length : Int) (wrap64 (x13_1 + 1))) = some (r1, r2) := by rw [if_neg (show ¬ (false = true) by decide)] at H; exact H
        clear H
        have H := H1
        clear H1
        have H' := A_ H
        clear H
        have p1603 : 0 ≤ (x13_1 : Int) := od_
        have q1603 : x13_1 < (t1600.length : Int) := od_
        obtain ⟨ad1603, A1603_0, c1603_0, e1603, hx1603_0, hl1603_0, hi1603_0⟩ := at_L1 (Kd.N_reads' HO_11.out).2.2 x13_1 p1603 q1603
        cases e1603
        obtain ⟨ce1603, hce1603, hMe1603, hcc1603⟩ := Kd.N_get HO_11.out [] x13_1 p1603 (by first | exact q1603 | exact od_ | (have e_ := (Kd.N_reads' HO_11.out).1; omega))
        obtain ⟨ua1603_0, uc1603_0, rfl, ul1603_0, ge1603_0⟩ := Kd.FK_slice_open hMe1603
        have hv1603_0 := hcc1603 0 _ rfl
        rw [Nat.add_zero, show ((Kd.slice 3 (Kd.int .i64))).sz = 1 from rfl, Nat.mul_one] at hv1603_0
        replace hv1603_0 := Option.some.inj (hv1603_0.symm.trans hx1603_0)
        injection hv1603_0 with hva_ hvn_ hvc_
        rw [hva_] at ge1603_0
        rw [hvc_] at ul1603_0
        have HL1603_0 := A_ (show Kd.V (Kd.int .i64) 3 _ w.heap.size _ _ (rd_L1 t1600 x13_1) from Kd.V_mk ul1603_0 ge1603_0)
        clear hva_ hvn_ hvc_ ge1603_0 ul1603_0
        clear hcc1603 hce1603
        have HR1603_0 := A_ hi1603_0
        have HC1603_0 := A_ hl1603_0
        clear hi1603_0 hl1603_0
        replace p1603 := eq_true p1603
        replace q1603 := eq_true q1603
        go_wp2_with (first | (refine gc_ 202 ?_; refine goesT_ (some 18) Try.func202 #[.slice A1603_0 (rd_L1 t1600 x13_1).length c1603_0] ?_; (with_reducible refine (spec_quLeast.calls k1 _ _ (rd_L1 t1600 x13_1) t1604 _ ?side1 ?side2 A10.out).mono ?_); (case side1 => repeat (first | exact (by repeat (first | (with_reducible exact HR1603_0.out) | (with_reducible refine Kd.C_alloc ?_ _) | (with_reducible refine Kd.C_drewN ?_ _) | (with_reducible refine Kd.C_drew ?_) | exact HR1603_0.out)) | (with_reducible refine Kd.C_alloc ?_ _) | (with_reducible refine Kd.C_drewN ?_ _) | (with_reducible refine Kd.C_drew ?_))); (case side2 => exact HC1603_0.out); rintro e w15 ⟨v1605, rfl, ho0, hb⟩; refine ⟨_, rfl, ?_⟩; replace HO_11 := A_ (Kd.N_elder' (by (with_reducible repeat (first | apply Kd.N_alloc | apply Kd.N_drewN | apply Kd.N_drew)); exact HO_11.out) (Kd.R_base ho0) hb); replace HL1603_0 := A_ (Kd.V_elder' (by (with_reducible repeat (first | apply Kd.V_alloc | apply Kd.V_drewN | apply Kd.V_drew)); exact HL1603_0.out) (Kd.R_base ho0) hb); have HO1606 := A_ (Kd.R_lower ho0 (below_size tb_)); replace HR1603_0 := A_ (Kd.C_below (by repeat (first | (with_reducible exact HR1603_0.out) | (with_reducible refine Kd.C_alloc ?_ _) | (with_reducible refine Kd.C_drewN ?_ _) | (with_reducible refine Kd.C_drew ?_) | exact HR1603_0.out)) hb); replace HB := A_ (below_step tb_ hb); (try clear hb); (try clear hb2); (try clear hk); (try clear hi); (try clear ho0); obtain ⟨Ao16, co16, eo16⟩ := Kd.R_slice HO1606.out; subst eo16) | (refine gc_ 208 ?_; refine goesT_ (some 20) Try.func208 #[.slice Ao16 t1604.length co16, .slice A1603_0 (rd_L1 t1600 x13_1).length c1603_0] ?_; (with_reducible refine (spec_l1Same.calls k1 _ _ t1604 _ _ (rd_L1 t1600 x13_1) false _ ?side1 ?side2 ?side3 ?side4 A11.out).mono ?_); (case side1 => exact tc0_ (Kd.R_reads' HO1606.out).2.2); (case side2 => exact (Kd.R_reads' HO1606.out).2.1); (case side3 => repeat (first | exact (by repeat (first | (with_reducible exact HR1603_0.out) | (with_reducible refine Kd.C_alloc ?_ _) | (with_reducible refine Kd.C_drewN ?_ _) | (with_reducible refine Kd.C_drew ?_) | exact HR1603_0.out)) | (with_reducible refine Kd.C_alloc ?_ _) | (with_reducible refine Kd.C_drewN ?_ _) | (with_reducible refine Kd.C_drew ?_))); (case side4 => exact HC1603_0.out); rintro e w' ⟨rfl, ⟨nd, rfl⟩⟩; refine ⟨_, rfl, ?_⟩))
        go_roundg k1
        case measure => have := HK1.out; omega
        case rel => exact ⟨(x4_1), (wrap64 (x13_1 + 1)), tf_, tf_, H', ⟨by have := HK1.out; omega⟩, ⟨by (with_reducible repeat (first | apply Kd.N_alloc | apply Kd.N_drewN | apply Kd.N_drew)); exact Kd.N_mono HO_11.out (fun _ hk => trivial)⟩, ⟨tb_⟩⟩
      ·
       rw [if_neg c9] at H
       exact absurd H (by simp)
     ·
      rw [if_neg c8] at H
      exact absurd H (by simp)
    ·
     rw [if_neg c7] at H
     have c7b0 := decide_eq_false c7
     clear c7
     simp only [Option.some.injEq, Prod.mk.injEq] at H
     obtain ⟨rfl, rfl⟩ := H
     go_wp2
     go_ret2
     exact ⟨te_, tb_⟩
 ·
  replace c3 := Bool.eq_false_iff.mpr c3
  subst c3
  have H1 : (some (0, false)) = some (r1, r2) := by rw [if_neg (show ¬ (false = true) by decide)] at H; exact H
  clear H
  have H := H1
  clear H1
  simp only [Option.some.injEq, Prod.mk.injEq] at H
  obtain ⟨rfl, rfl⟩ := H
  go_enter Try.func104, Try.ntmps104
  go_wp2_with (first | (refine gc_ 167 ?_; refine goesT_ (some 8) Try.func167 #[.int .i64 a0] ?_; (with_reducible refine (spec_quSide.calls a0 false _ A2.out).mono ?_); rintro e w' ⟨rfl, ⟨nd, rfl⟩⟩; refine ⟨_, rfl, ?_⟩))
  go_ret2
  exact ⟨te_, tb_⟩

end
end Go.Proofs.Ytnpacpdpgngdpaa.P
