-- printed functions (wip/slim.py)
import Derived.Test.YtnpacpdpgngdpaaPx0
import Derived.Test.YtnpacpdpgngdpaaQ7aa3faaa4f
import Derived.Test.YtnpacpdpgngdpaaQe055dea2b2
import Derived.Test.YtnpacpdpgngdpaaQc9a424d6e5
namespace Go.Proofs.Ytnpacpdpgngdpaa.P
noncomputable section
set_option maxHeartbeats 8000000
set_option maxRecDepth 100000
open Go.RowKit Go.Proofs.YtnpacpdpgngdpaaW.PrintWords Go.Proofs.YtnpacpdpgngdpaaW.PrintLast Go.Proofs.YtnpacpdpgngdpaaW.PrintMore
attribute [local go_sem] max2_int min2_int max_two min_two max_three min_three max_four min_four   -- for this text's walks alone
set_option linter.unusedVariables false
set_option linter.unusedSimpArgs false

/-! ### impl_onTorus_1: function 243 -/
mutual
def impl_onTorus_1.l0 : Nat → List Int → Int → List Int → Int → Int → Option (Bool)
 | 0, _, _, _, _, _ => none
 | k + 1, x0, x1, x8, x9, x10 => if x10 < x9 then (if 0 ≤ x10 then (if x10 < (x8.length : Int) then (if x10 ≤ (x0.length : Int) then ((some (x0.take (x10 : Int).toNat : List Int)).bind fun y1042 => (impl_onTorus_1.l1 k x0 x1 x10 (rd x8 x10) x8 x9 x10 y1042 (y1042.length : Int) 0)) else (none)) else (none)) else (none)) else (some true)
def impl_onTorus_1.l1 : Nat → List Int → Int → Int → Int → List Int → Int → Int → List Int → Int → Int → Option (Bool)
 | 0, _, _, _, _, _, _, _, _, _, _ => none
 | k + 1, x0, x1, x4, x5, x8, x9, x10, x17, x18, x19 => if x19 < x18 then (if 0 ≤ x19 then (if x19 < (x17.length : Int) then (if x1 = 0 then (none) else (if (Int.tmod (wrap64 ((wrap64 ((wrap64 (x19 + (rd x17 x19))) - x4)) - x5)) x1) = 0 then (some false) else (if (Int.tmod (wrap64 ((wrap64 ((wrap64 (x19 - (rd x17 x19))) - x4)) + x5)) x1) = 0 then (some false) else (impl_onTorus_1.l1 k x0 x1 x4 x5 x8 x9 x10 x17 x18 (wrap64 (x19 + 1)))))) else (none)) else (none)) else (impl_onTorus_1.l0 k x0 x1 x8 x9 (wrap64 (x10 + 1)))
end
def impl_onTorus_1.f (k : Nat) (l0 : List Int) (a1 : Int) : Option (Bool) := impl_onTorus_1.l0 k l0 a1 l0 (l0.length : Int) 0
theorem impl_onTorus_1.mono_l : ∀ k, (∀ y0 y1 y2 y3 y4, LeO (impl_onTorus_1.l0 k y0 y1 y2 y3 y4) (impl_onTorus_1.l0 (k + 1) y0 y1 y2 y3 y4)) ∧ (∀ y0 y1 y2 y3 y4 y5 y6 y7 y8 y9, LeO (impl_onTorus_1.l1 k y0 y1 y2 y3 y4 y5 y6 y7 y8 y9) (impl_onTorus_1.l1 (k + 1) y0 y1 y2 y3 y4 y5 y6 y7 y8 y9))
 | 0 => ⟨fun _ _ _ _ _ r h => by simp [impl_onTorus_1.l0] at h, fun _ _ _ _ _ _ _ _ _ _ r h => by simp [impl_onTorus_1.l1] at h⟩
 | k + 1 => by
  obtain ⟨ih0, ih1⟩ := impl_onTorus_1.mono_l k
  refine ⟨?_, ?_⟩
  ·
   intro y0 y1 y2 y3 y4
   unfold impl_onTorus_1.l0
   repeat' first | (with_reducible first | exact ih0 _ _ _ _ _ | exact ih1 _ _ _ _ _ _ _ _ _ _ | exact LeO.refl _ | exact LeO.none _ | refine LeO.ite ?_ ?_ | refine LeO.bind ?_ (fun _ => ?_)) | exact ih0 _ _ _ _ _ | exact ih1 _ _ _ _ _ _ _ _ _ _ | exact LeO.none _ | refine LeO.ite ?_ ?_ | refine LeO.bind ?_ (fun _ => ?_)
  ·
   intro y0 y1 y2 y3 y4 y5 y6 y7 y8 y9
   unfold impl_onTorus_1.l1
   repeat' first | (with_reducible first | exact ih0 _ _ _ _ _ | exact ih1 _ _ _ _ _ _ _ _ _ _ | exact LeO.refl _ | exact LeO.none _ | refine LeO.ite ?_ ?_ | refine LeO.bind ?_ (fun _ => ?_)) | exact ih0 _ _ _ _ _ | exact ih1 _ _ _ _ _ _ _ _ _ _ | exact LeO.none _ | refine LeO.ite ?_ ?_ | refine LeO.bind ?_ (fun _ => ?_)
theorem impl_onTorus_1.mono : ∀ a0 a1 k, LeO (impl_onTorus_1.f k a0 a1) (impl_onTorus_1.f (k + 1) a0 a1) := by
 intro a0 a1 k
 obtain ⟨ih0, ih1⟩ := impl_onTorus_1.mono_l k
 unfold impl_onTorus_1.f
 repeat' first | (with_reducible first | exact ih0 _ _ _ _ _ | exact ih1 _ _ _ _ _ _ _ _ _ _ | exact LeO.refl _ | exact LeO.none _ | refine LeO.ite ?_ ?_ | refine LeO.bind ?_ (fun _ => ?_)) | exact ih0 _ _ _ _ _ | exact ih1 _ _ _ _ _ _ _ _ _ _ | exact LeO.none _ | refine LeO.ite ?_ ?_ | refine LeO.bind ?_ (fun _ => ?_)
theorem impl_onTorus_1.calls (k : Nat) (A0 : Option Addr) (c0 : Nat) (l0 : List Int) (g1 : Nat) (a1 : Int) (r : Bool) (w : World) (hr0 : Kd.C (Kd.int .i64) w A0 l0.length l0) (hc0 : l0.length ≤ c0) (hq1 : w.cell? ⟨g1, 0, none⟩ = some (.int .i64 a1)) (h : impl_onTorus_1.f k l0 a1 = some r) :
  Calls Try.prog 243 #[.slice A0 l0.length c0, .pointer (some ⟨g1, 0, none⟩)] w fun e w' => e = .returned (.bool r) ∧ Below w.heap.size w w' := by
 have HR0 := A_ hr0
 have HC0 := A_ hc0
 clear hr0 hc0
 have HQ1 := A_ hq1
 clear hq1
 have HB := A_ (Below.refl w.heap.size w)
 have H : (impl_onTorus_1.l0 k l0 a1 l0 (l0.length : Int) 0) = some r := h
 clear h
 have H' := A_ H
 clear H
 go_enter Try.func243, Try.ntmps243
 have hqc1 := (HB.out.cell (World.block_lt_of_cell? w _ HQ1.out)).trans HQ1.out
 go_wp2
 go_loopg [10] k (fun kq v10 w' => ∃ (x10_1 : Int), v10 = .int .i64 x10_1 ∧ Aside0 (impl_onTorus_1.l0 kq l0 a1 l0 (l0.length : Int) x10_1 = some r) ∧ Aside0 (kq ≤ k) ∧ Aside0 (Below w.heap.size w w'))
 case atStart => exact ⟨(0), tf_, H', ⟨Nat.le_refl _⟩, ⟨tb_⟩⟩
 case round =>
  clear H'
  try clear q1
  try clear c2
  try clear p2
  obtain ⟨x10_1, rfl, HA, HK1, HB⟩ := hrel
  cases gk with
  | zero => exact absurd HA.out (by simp [impl_onTorus_1.l0])
  | succ k1 =>
   have H := HA.out
   clear HA
   simp only [impl_onTorus_1.l0] at H
   by_cases c3 : x10_1 < (l0.length : Int)
   ·
    rw [if_pos c3] at H
    have c3b0 := decide_eq_true c3
    clear c3
    by_cases c4 : 0 ≤ x10_1
    ·
     rw [if_pos c4] at H
     have c4b0 := decide_eq_true c4
     clear c4
     by_cases c5 : x10_1 < (l0.length : Int)
     ·
      rw [if_pos c5] at H
      have c5b0 := decide_eq_true c5
      clear c5
      have c6b0 := eq_true (od_ : 0 ≤ x10_1)
      by_cases c7 : x10_1 ≤ (l0.length : Int)
      ·
       rw [if_pos c7] at H
       have c7b0 := eq_true c7
       have c7b1 := decide_eq_true c7
       clear c7
       obtain ⟨y1042, hy1042⟩ : ∃ y_ : List Int, y_ = (l0.take (x10_1 : Int).toNat) := ⟨_, rfl⟩
       replace H : (impl_onTorus_1.l1 k1 l0 a1 x10_1 (rd l0 x10_1) l0 (l0.length : Int) x10_1 y1042 (y1042.length : Int) 0) = some r := ty_ hy1042 H
       have Ny1042 := A_ hy1042
       clear hy1042
       have H' := A_ H
       clear H
       have p1041 : 0 ≤ (x10_1 : Int) := od_
       have q1041 : x10_1 < (l0.length : Int) := od_
       obtain ⟨ad1041, e1041, hx1041_0⟩ := Kd.at_int HR0.out x10_1 p1041 q1041
       cases e1041
       (try replace hx1041_0 := (HB.out.cell (World.block_lt_of_cell? w _ hx1041_0)).trans hx1041_0)
       replace p1041 := eq_true p1041
       replace q1041 := eq_true q1041
       have q8 : (x10_1 : Int) ≤ ((l0.length : Int) : Int) := od_
       obtain ⟨i08, hi08, _, hsz8, _⟩ := info_parts info3
       have hroom8 : l0.length ≤ c0 := HC0.out
       have hC8 : Kd.C (Kd.int .i64) _ (some ad1041) l0.length l0 := HR0.out
       have hcut8 := cut_to (P := Try.prog) 22 3 .i64 Try.underlying22 hi08 (some ad1041) l0.length c0 x10_1 (od_) q8 hroom8
       have hr8 := Kd.C_take (m := (x10_1 : Int).toNat) hC8 (by omega)
       have hy8 : y1042.length = (x10_1 : Int).toNat := (by rw [Ny1042.out, List.length_take]; omega)
       rw [← Ny1042.out] at hr8
       rw [← hy8] at hcut8
       have HR1045 := A_ hr8
       have HC1045 := A_ (show y1042.length ≤ c0 from by omega)
       clear hr8 hC8 hroom8 hi08 hsz8
       have KY8 := A_ hy8
       clear hy8
       replace q8 := eq_true q8
       have hqc1 := (HB.out.cell (World.block_lt_of_cell? w _ HQ1.out)).trans HQ1.out
       go_wp2
       go_loopg [19] k1 (fun kq v19 w' => ∃ (x19_2 : Int), v19 = .int .i64 x19_2 ∧ Aside0 (impl_onTorus_1.l1 kq l0 a1 x10_1 (rd l0 x10_1) l0 (l0.length : Int) x10_1 y1042 (y1042.length : Int) x19_2 = some r) ∧ Aside0 (kq ≤ k1) ∧ Aside0 (Below w.heap.size w w'))
       case atStart => exact ⟨(0), tf_, H', ⟨Nat.le_refl _⟩, ⟨tb_⟩⟩
       case round =>
        clear H'
        try clear p1
        try clear q1
        try clear hx1
        try clear c2
        try clear p2
        try clear c3
        try clear c3b0
        try clear c4
        try clear c4b0
        try clear c5
        try clear c5b0
        try clear c6
        try clear c6b0
        try clear c7
        try clear c7b0
        try clear c7b1
        try clear q8
        try clear hx1041_0
        try clear p1041
        try clear p2
        try clear q1
        try clear q1041
        try clear q8
        obtain ⟨x19_2, rfl, HA, HK2, HB⟩ := hrel
        cases gk with
        | zero => exact absurd HA.out (by simp [impl_onTorus_1.l1])
        | succ k2 =>
         have H := HA.out
         clear HA
         simp only [impl_onTorus_1.l1] at H
         by_cases c9 : x19_2 < (y1042.length : Int)
         ·
          rw [if_pos c9] at H
          have c9b0 := decide_eq_true c9
          clear c9
          by_cases c10 : 0 ≤ x19_2
          ·
           rw [if_pos c10] at H
           have c10b0 := decide_eq_true c10
           clear c10
           by_cases c11 : x19_2 < (y1042.length : Int)
           ·
            rw [if_pos c11] at H
            have c11b0 := decide_eq_true c11
            clear c11
            by_cases c12 : a1 = 0
            ·
             rw [if_pos c12] at H
             exact absurd H (by simp)
            ·
             rw [if_neg c12] at H
             have c12b0 : (a1 == 0) = false := beq_eq_false_iff_ne.mpr c12
             have c12b1 : (a1 != 0) = true := bne_iff_ne.mpr c12
             by_cases c13 : (Int.tmod (wrap64 ((wrap64 ((wrap64 (x19_2 + (rd y1042 x19_2))) - x10_1)) - (rd l0 x10_1))) a1) = 0
             ·
              rw [if_pos c13] at H
              have c13b0 : ((Int.tmod (wrap64 ((wrap64 ((wrap64 (x19_2 + (rd y1042 x19_2))) - x10_1)) - (rd l0 x10_1))) a1) == 0) = true := beq_iff_eq.mpr c13
              have c13b1 : ((Int.tmod (wrap64 ((wrap64 ((wrap64 (x19_2 + (rd y1042 x19_2))) - x10_1)) - (rd l0 x10_1))) a1) != 0) = false := bne_eq_false_iff_eq.mpr c13
              clear c13
              obtain rfl := Option.some.inj H
              have p1046 : 0 ≤ (x19_2 : Int) := od_
              have q1046 : x19_2 < (y1042.length : Int) := od_
              obtain ⟨ad1046, e1046, hx1046_0⟩ := Kd.at_int HR1045.out x19_2 p1046 q1046
              obtain rfl : ad1041 = ad1046 := (by injection e1046)
              (try replace hx1046_0 := (HB.out.cell (World.block_lt_of_cell? w _ hx1046_0)).trans hx1046_0)
              replace p1046 := eq_true p1046
              replace q1046 := eq_true q1046
              have hqc1 := (HB.out.cell (World.block_lt_of_cell? w _ HQ1.out)).trans HQ1.out
              go_wp2
              go_ret
              exact ⟨te_, tb_⟩
             ·
              rw [if_neg c13] at H
              have c13b0 : ((Int.tmod (wrap64 ((wrap64 ((wrap64 (x19_2 + (rd y1042 x19_2))) - x10_1)) - (rd l0 x10_1))) a1) == 0) = false := beq_eq_false_iff_ne.mpr c13
              have c13b1 : ((Int.tmod (wrap64 ((wrap64 ((wrap64 (x19_2 + (rd y1042 x19_2))) - x10_1)) - (rd l0 x10_1))) a1) != 0) = true := bne_iff_ne.mpr c13
              by_cases c14 : (Int.tmod (wrap64 ((wrap64 ((wrap64 (x19_2 - (rd y1042 x19_2))) - x10_1)) + (rd l0 x10_1))) a1) = 0
              ·
               rw [if_pos c14] at H
               have c14b0 : ((Int.tmod (wrap64 ((wrap64 ((wrap64 (x19_2 - (rd y1042 x19_2))) - x10_1)) + (rd l0 x10_1))) a1) == 0) = true := beq_iff_eq.mpr c14
               have c14b1 : ((Int.tmod (wrap64 ((wrap64 ((wrap64 (x19_2 - (rd y1042 x19_2))) - x10_1)) + (rd l0 x10_1))) a1) != 0) = false := bne_eq_false_iff_eq.mpr c14
               clear c14
               obtain rfl := Option.some.inj H
               have p1046 : 0 ≤ (x19_2 : Int) := od_
               have q1046 : x19_2 < (y1042.length : Int) := od_
               obtain ⟨ad1046, e1046, hx1046_0⟩ := Kd.at_int HR1045.out x19_2 p1046 q1046
               obtain rfl : ad1041 = ad1046 := (by injection e1046)
               (try replace hx1046_0 := (HB.out.cell (World.block_lt_of_cell? w _ hx1046_0)).trans hx1046_0)
               replace p1046 := eq_true p1046
               replace q1046 := eq_true q1046
               have hqc1 := (HB.out.cell (World.block_lt_of_cell? w _ HQ1.out)).trans HQ1.out
               go_wp2
               go_ret
               exact ⟨te_, tb_⟩
              ·
               rw [if_neg c14] at H
               have c14b0 : ((Int.tmod (wrap64 ((wrap64 ((wrap64 (x19_2 - (rd y1042 x19_2))) - x10_1)) + (rd l0 x10_1))) a1) == 0) = false := beq_eq_false_iff_ne.mpr c14
               have c14b1 : ((Int.tmod (wrap64 ((wrap64 ((wrap64 (x19_2 - (rd y1042 x19_2))) - x10_1)) + (rd l0 x10_1))) a1) != 0) = true := bne_iff_ne.mpr c14
               have H' := A_ H
               clear H
               have p1046 : 0 ≤ (x19_2 : Int) := od_
               have q1046 : x19_2 < (y1042.length : Int) := od_
               obtain ⟨ad1046, e1046, hx1046_0⟩ := Kd.at_int HR1045.out x19_2 p1046 q1046
               obtain rfl : ad1041 = ad1046 := (by injection e1046)
               (try replace hx1046_0 := (HB.out.cell (World.block_lt_of_cell? w _ hx1046_0)).trans hx1046_0)
               replace p1046 := eq_true p1046
               replace q1046 := eq_true q1046
               have hqc1 := (HB.out.cell (World.block_lt_of_cell? w _ HQ1.out)).trans HQ1.out
               go_wp2
               go_roundg k2
               case measure => have := HK1.out; have := HK2.out; omega
               case rel => exact ⟨(wrap64 (x19_2 + 1)), tf_, H', ⟨by have := HK1.out; have := HK2.out; omega⟩, ⟨tb_⟩⟩
           ·
            rw [if_neg c11] at H
            exact absurd H (by simp)
          ·
           rw [if_neg c10] at H
           exact absurd H (by simp)
         ·
          rw [if_neg c9] at H
          have c9b0 := decide_eq_false c9
          clear c9
          have H' := A_ H
          clear H
          have hqc1 := (HB.out.cell (World.block_lt_of_cell? w _ HQ1.out)).trans HQ1.out
          go_wp2
          go_roundg k2
          case measure => have := HK1.out; have := HK2.out; omega
          case rel => exact ⟨(wrap64 (x10_1 + 1)), tf_, H', ⟨by have := HK1.out; have := HK2.out; omega⟩, ⟨tb_⟩⟩
      ·
       rw [if_neg c7] at H
       exact absurd H (by simp)
     ·
      rw [if_neg c5] at H
      exact absurd H (by simp)
    ·
     rw [if_neg c4] at H
     exact absurd H (by simp)
   ·
    rw [if_neg c3] at H
    have c3b0 := decide_eq_false c3
    clear c3
    obtain rfl := Option.some.inj H
    have hqc1 := (HB.out.cell (World.block_lt_of_cell? w _ HQ1.out)).trans HQ1.out
    go_wp2
    go_ret
    exact ⟨te_, tb_⟩

/-! ### impl_AreOnTorus: function 57 -/
def impl_AreOnTorus.f (k : Nat) (l0 : List Int) : Option (Bool × Bool) := (impl_isList.f k l0).bind fun t => (if t = true then ((impl_onTorus_1.f k l0 (l0.length : Int)).bind fun u => (some (u, true))) else (some (false, false)))
theorem impl_AreOnTorus.mono : ∀ a0 k, LeO (impl_AreOnTorus.f k a0) (impl_AreOnTorus.f (k + 1) a0) := by
 intro a0 k
 unfold impl_AreOnTorus.f
 refine LeO.bind (impl_isList.mono _ _) (fun _ => ?_)
 refine LeO.ite ?_ (LeO.refl _)
 exact LeO.bind (impl_onTorus_1.mono _ _ _) (fun _ => LeO.refl _)
theorem impl_AreOnTorus.maker (n : Int) (w : World) : Calls Try.prog 174 #[.int .i64 n] w fun e w' => ∃ g : Nat, e = .returned (.func (.func 243) #[] #[.pointer (some ⟨g, 0, none⟩)]) ∧ w'.cell? ⟨g, 0, none⟩ = some (.int .i64 n) ∧ Below w.heap.size w w' := by
 have hmf_ : ∀ (fn : Go.Fn) (first cap : Array Value) (w : World), (Instr.makeFunc fn first cap).run Try.prog w = .ok (.func fn first cap) w := fun _ _ _ _ => rfl
 go_enter Try.func174, Try.ntmps174
 go_wp2
 go_ret
 exact ⟨_, rfl, by go_simp, below_alloc (Below.refl _ _) _⟩
theorem impl_AreOnTorus.calls (k : Nat) (A0 : Option Addr) (c0 : Nat) (l0 : List Int) (r1 : Bool) (r2 : Bool) (w : World) (hr0 : Kd.C (Kd.int .i64) w A0 l0.length l0) (hc0 : l0.length ≤ c0) (h : impl_AreOnTorus.f k l0 = some (r1, r2)) :
  Calls Try.prog 57 #[.slice A0 l0.length c0] w fun e w' => e = .returned (.tuple #[.bool r1, .bool r2]) ∧ Below w.heap.size w w' := by
 have HR0 := A_ hr0
 have HC0 := A_ hc0
 clear hr0 hc0
 have HB := A_ (Below.refl w.heap.size w)
 have hmf_ : ∀ (fn : Go.Fn) (first cap : Array Value) (w : World), (Instr.makeFunc fn first cap).run Try.prog w = .ok (.func fn first cap) w := fun _ _ _ _ => rfl
 unfold impl_AreOnTorus.f at h
 obtain ⟨t, A2, H⟩ := Option.bind_eq_some_iff.mp h
 have A2' := A_ A2
 clear A2 h
 cases t with
 | false =>
  simp only [Bool.false_eq_true, if_false, Option.some.injEq, Prod.mk.injEq] at H
  obtain ⟨rfl, rfl⟩ := H
  go_enter Try.func57, Try.ntmps57
  go_wp2_with (first | (go_at_call 170; (with_reducible refine (impl_isList.calls k A0 c0 l0 false _ (Kd.C_below HR0.out ?s1) HC0.out A2'.out).mono ?_); (case s1 => repeat (first | (with_reducible first | exact HB.out | apply below_alloc | apply pw_below_drewN | apply below_drew1) | exact HB.out)); rintro e w1 ⟨rfl, ⟨nd, rfl⟩⟩))
  go_ret2
  exact ⟨rfl, tb_⟩
 | true =>
  simp only [if_true] at H
  obtain ⟨u, A3, H⟩ := Option.bind_eq_some_iff.mp H
  have A3' := A_ A3
  clear A3
  simp only [Option.some.injEq, Prod.mk.injEq] at H
  obtain ⟨rfl, rfl⟩ := H
  go_enter Try.func57, Try.ntmps57
  go_wp2_with (first | (go_at_call 170; (with_reducible refine (impl_isList.calls k A0 c0 l0 true _ (Kd.C_below HR0.out ?s1) HC0.out A2'.out).mono ?_); (case s1 => repeat (first | (with_reducible first | exact HB.out | apply below_alloc | apply pw_below_drewN | apply below_drew1) | exact HB.out)); rintro e w1 ⟨rfl, ⟨nd, rfl⟩⟩) | (go_at_call 174; (with_reducible refine (impl_AreOnTorus.maker (l0.length : Int) _).mono ?_); rintro e w2 ⟨g, rfl, hg, hb⟩; have HG := A_ hg; have HB2 := A_ (below_step (pw_below_drewN HB.out nd) hb); clear hb hg) | (go_at_call 243; (with_reducible refine (impl_onTorus_1.calls k A0 c0 l0 g (l0.length : Int) u _ (Kd.C_below HR0.out HB2.out) HC0.out HG.out A3'.out).mono ?_); rintro e w3 ⟨rfl, hb⟩; have HB3 := A_ (below_step HB2.out hb); clear hb))
  go_ret2
  exact ⟨rfl, by repeat (first | (with_reducible first | exact HB3.out | apply below_alloc | apply pw_below_drewN | apply below_drew1) | exact HB3.out)⟩

/-! ### impl_areQueens: function 175 -/
mutual
def impl_areQueens.l0 : Nat → List Int → List Int → Int → Int → Option (Bool)
 | 0, _, _, _, _ => none
 | k + 1, x0, x7, x8, x9 => if x9 < x8 then (if 0 ≤ x9 then (if x9 < (x7.length : Int) then (if x9 ≤ (x0.length : Int) then ((some (x0.take (x9 : Int).toNat : List Int)).bind fun y1049 => (impl_areQueens.l1 k x0 x9 (rd x7 x9) x7 x8 x9 y1049 (y1049.length : Int) 0)) else (none)) else (none)) else (none)) else (some true)
def impl_areQueens.l1 : Nat → List Int → Int → Int → List Int → Int → Int → List Int → Int → Int → Option (Bool)
 | 0, _, _, _, _, _, _, _, _, _ => none
 | k + 1, x0, x3, x4, x7, x8, x9, x16, x17, x18 => if x18 < x17 then (if 0 ≤ x18 then (if x18 < (x16.length : Int) then ((impl_attacked.f x18 (rd x16 x18) x3 x4).bind fun t1054 => (if t1054 = true then (some false) else (impl_areQueens.l1 k x0 x3 x4 x7 x8 x9 x16 x17 (wrap64 (x18 + 1))))) else (none)) else (none)) else (impl_areQueens.l0 k x0 x7 x8 (wrap64 (x9 + 1)))
end
def impl_areQueens.f (k : Nat) (l0 : List Int) : Option (Bool) := impl_areQueens.l0 k l0 l0 (l0.length : Int) 0
theorem impl_areQueens.mono_l : ∀ k, (∀ y0 y1 y2 y3, LeO (impl_areQueens.l0 k y0 y1 y2 y3) (impl_areQueens.l0 (k + 1) y0 y1 y2 y3)) ∧ (∀ y0 y1 y2 y3 y4 y5 y6 y7 y8, LeO (impl_areQueens.l1 k y0 y1 y2 y3 y4 y5 y6 y7 y8) (impl_areQueens.l1 (k + 1) y0 y1 y2 y3 y4 y5 y6 y7 y8))
 | 0 => ⟨fun _ _ _ _ r h => by simp [impl_areQueens.l0] at h, fun _ _ _ _ _ _ _ _ _ r h => by simp [impl_areQueens.l1] at h⟩
 | k + 1 => by
  obtain ⟨ih0, ih1⟩ := impl_areQueens.mono_l k
  refine ⟨?_, ?_⟩
  ·
   intro y0 y1 y2 y3
   unfold impl_areQueens.l0
   repeat' first | (with_reducible first | exact ih0 _ _ _ _ | exact ih1 _ _ _ _ _ _ _ _ _ | exact LeO.refl _ | exact LeO.none _ | refine LeO.ite ?_ ?_ | refine LeO.bind ?_ (fun _ => ?_)) | exact ih0 _ _ _ _ | exact ih1 _ _ _ _ _ _ _ _ _ | exact LeO.none _ | refine LeO.ite ?_ ?_ | refine LeO.bind ?_ (fun _ => ?_)
  ·
   intro y0 y1 y2 y3 y4 y5 y6 y7 y8
   unfold impl_areQueens.l1
   repeat' first | (with_reducible first | exact ih0 _ _ _ _ | exact ih1 _ _ _ _ _ _ _ _ _ | exact LeO.refl _ | exact LeO.none _ | refine LeO.ite ?_ ?_ | refine LeO.bind ?_ (fun _ => ?_)) | exact ih0 _ _ _ _ | exact ih1 _ _ _ _ _ _ _ _ _ | exact LeO.none _ | refine LeO.ite ?_ ?_ | refine LeO.bind ?_ (fun _ => ?_)
theorem impl_areQueens.mono : ∀ a0 k, LeO (impl_areQueens.f k a0) (impl_areQueens.f (k + 1) a0) := by
 intro a0 k
 obtain ⟨ih0, ih1⟩ := impl_areQueens.mono_l k
 unfold impl_areQueens.f
 repeat' first | (with_reducible first | exact ih0 _ _ _ _ | exact ih1 _ _ _ _ _ _ _ _ _ | exact LeO.refl _ | exact LeO.none _ | refine LeO.ite ?_ ?_ | refine LeO.bind ?_ (fun _ => ?_)) | exact ih0 _ _ _ _ | exact ih1 _ _ _ _ _ _ _ _ _ | exact LeO.none _ | refine LeO.ite ?_ ?_ | refine LeO.bind ?_ (fun _ => ?_)
theorem impl_areQueens.calls (k : Nat) (A0 : Option Addr) (c0 : Nat) (l0 : List Int) (r : Bool) (w : World) (hr0 : Kd.C (Kd.int .i64) w A0 l0.length l0) (hc0 : l0.length ≤ c0) (h : impl_areQueens.f k l0 = some r) :
  Calls Try.prog 175 #[.slice A0 l0.length c0] w fun e w' => e = .returned (.bool r) ∧ Below w.heap.size w w' := by
 have HR0 := A_ hr0
 have HC0 := A_ hc0
 clear hr0 hc0
 have HB := A_ (Below.refl w.heap.size w)
 have H : (impl_areQueens.l0 k l0 l0 (l0.length : Int) 0) = some r := h
 clear h
 have H' := A_ H
 clear H
 go_enter Try.func175, Try.ntmps175
 go_wp2
 go_loopg [9] k (fun kq v9 w' => ∃ (x9_1 : Int), v9 = .int .i64 x9_1 ∧ Aside0 (impl_areQueens.l0 kq l0 l0 (l0.length : Int) x9_1 = some r) ∧ Aside0 (kq ≤ k) ∧ Aside0 (Below w.heap.size w w'))
 case atStart => exact ⟨(0), tf_, H', ⟨Nat.le_refl _⟩, ⟨tb_⟩⟩
 case round =>
  clear H'
  try clear c1
  obtain ⟨x9_1, rfl, HA, HK1, HB⟩ := hrel
  cases gk with
  | zero => exact absurd HA.out (by simp [impl_areQueens.l0])
  | succ k1 =>
   have H := HA.out
   clear HA
   simp only [impl_areQueens.l0] at H
   by_cases c2 : x9_1 < (l0.length : Int)
   ·
    rw [if_pos c2] at H
    have c2b0 := decide_eq_true c2
    clear c2
    by_cases c3 : 0 ≤ x9_1
    ·
     rw [if_pos c3] at H
     have c3b0 := decide_eq_true c3
     clear c3
     by_cases c4 : x9_1 < (l0.length : Int)
     ·
      rw [if_pos c4] at H
      have c4b0 := decide_eq_true c4
      clear c4
      have c5b0 := eq_true (od_ : 0 ≤ x9_1)
      by_cases c6 : x9_1 ≤ (l0.length : Int)
      ·
       rw [if_pos c6] at H
       have c6b0 := eq_true c6
       have c6b1 := decide_eq_true c6
       clear c6
       obtain ⟨y1049, hy1049⟩ : ∃ y_ : List Int, y_ = (l0.take (x9_1 : Int).toNat) := ⟨_, rfl⟩
       replace H : (impl_areQueens.l1 k1 l0 x9_1 (rd l0 x9_1) l0 (l0.length : Int) x9_1 y1049 (y1049.length : Int) 0) = some r := ty_ hy1049 H
       have Ny1049 := A_ hy1049
       clear hy1049
       have H' := A_ H
       clear H
       have p1048 : 0 ≤ (x9_1 : Int) := od_
       have q1048 : x9_1 < (l0.length : Int) := od_
       obtain ⟨ad1048, e1048, hx1048_0⟩ := Kd.at_int HR0.out x9_1 p1048 q1048
       cases e1048
       (try replace hx1048_0 := (HB.out.cell (World.block_lt_of_cell? w _ hx1048_0)).trans hx1048_0)
       replace p1048 := eq_true p1048
       replace q1048 := eq_true q1048
       have q7 : (x9_1 : Int) ≤ ((l0.length : Int) : Int) := od_
       obtain ⟨i07, hi07, _, hsz7, _⟩ := info_parts info3
       have hroom7 : l0.length ≤ c0 := HC0.out
       have hC7 : Kd.C (Kd.int .i64) _ (some ad1048) l0.length l0 := HR0.out
       have hcut7 := cut_to (P := Try.prog) 22 3 .i64 Try.underlying22 hi07 (some ad1048) l0.length c0 x9_1 (od_) q7 hroom7
       have hr7 := Kd.C_take (m := (x9_1 : Int).toNat) hC7 (by omega)
       have hy7 : y1049.length = (x9_1 : Int).toNat := (by rw [Ny1049.out, List.length_take]; omega)
       rw [← Ny1049.out] at hr7
       rw [← hy7] at hcut7
       have HR1052 := A_ hr7
       have HC1052 := A_ (show y1049.length ≤ c0 from by omega)
       clear hr7 hC7 hroom7 hi07 hsz7
       have KY7 := A_ hy7
       clear hy7
       replace q7 := eq_true q7
       go_wp2
       go_loopg [18] k1 (fun kq v18 w' => ∃ (x18_2 : Int), v18 = .int .i64 x18_2 ∧ Aside0 (impl_areQueens.l1 kq l0 x9_1 (rd l0 x9_1) l0 (l0.length : Int) x9_1 y1049 (y1049.length : Int) x18_2 = some r) ∧ Aside0 (kq ≤ k1) ∧ Aside0 (Below w.heap.size w w'))
       case atStart => exact ⟨(0), tf_, H', ⟨Nat.le_refl _⟩, ⟨tb_⟩⟩
       case round =>
        clear H'
        try clear c1
        try clear p1
        try clear q1
        try clear hx1
        try clear c2
        try clear c2b0
        try clear p2
        try clear c3
        try clear c3b0
        try clear c4
        try clear c4b0
        try clear c5
        try clear c5b0
        try clear c6
        try clear c6b0
        try clear c6b1
        try clear q7
        try clear hx1048_0
        try clear p1048
        try clear q1048
        try clear q7
        obtain ⟨x18_2, rfl, HA, HK2, HB⟩ := hrel
        cases gk with
        | zero => exact absurd HA.out (by simp [impl_areQueens.l1])
        | succ k2 =>
         have H := HA.out
         clear HA
         simp only [impl_areQueens.l1] at H
         by_cases c8 : x18_2 < (y1049.length : Int)
         ·
          rw [if_pos c8] at H
          have c8b0 := decide_eq_true c8
          clear c8
          by_cases c9 : 0 ≤ x18_2
          ·
           rw [if_pos c9] at H
           have c9b0 := decide_eq_true c9
           clear c9
           by_cases c10 : x18_2 < (y1049.length : Int)
           ·
            rw [if_pos c10] at H
            have c10b0 := decide_eq_true c10
            clear c10
            replace H := Option.bind_eq_some_iff.mp H
            obtain ⟨t1054, A110, H⟩ := H
            replace H : (if t1054 = true then (some false) else (impl_areQueens.l1 k2 l0 x9_1 (rd l0 x9_1) l0 (l0.length : Int) x9_1 y1049 (y1049.length : Int) (wrap64 (x18_2 + 1)))) = some r := H
            have A11 := A_ A110
            clear A110
            by_cases c12 : t1054 = true
            ·
             subst c12
             have H1 : (some false) = some r := by rw [if_pos rfl] at H; exact H
             clear H
             have H := H1
             clear H1
             obtain rfl := Option.some.inj H
             have p1053 : 0 ≤ (x18_2 : Int) := od_
             have q1053 : x18_2 < (y1049.length : Int) := od_
             obtain ⟨ad1053, e1053, hx1053_0⟩ := Kd.at_int HR1052.out x18_2 p1053 q1053
             obtain rfl : ad1048 = ad1053 := (by injection e1053)
             (try replace hx1053_0 := (HB.out.cell (World.block_lt_of_cell? w _ hx1053_0)).trans hx1053_0)
             replace p1053 := eq_true p1053
             replace q1053 := eq_true q1053
             go_wp2_with (first | (refine gc_ 187 ?_; refine goesT_ (some 27) Try.func187 #[.int .i64 x18_2, .int .i64 (rd y1049 x18_2), .int .i64 x9_1, .int .i64 (rd l0 x9_1)] ?_; (with_reducible refine (impl_attacked.calls x18_2 (rd y1049 x18_2) x9_1 (rd l0 x9_1) true _ A11.out).mono ?_); rintro e w13 ⟨rfl, hb⟩; refine ⟨_, rfl, ?_⟩; replace HB := A_ (below_step tb_ hb); (try clear hb)))
             go_ret
             exact ⟨te_, tb_⟩
            ·
             replace c12 := Bool.eq_false_iff.mpr c12
             subst c12
             have H1 : (impl_areQueens.l1 k2 l0 x9_1 (rd l0 x9_1) l0 (l0.length : Int) x9_1 y1049 (y1049.length : Int) (wrap64 (x18_2 + 1))) = some r := by rw [if_neg (show ¬ (false = true) by decide)] at H; exact H
             clear H
             have H := H1
             clear H1
             have H' := A_ H
             clear H
             have p1053 : 0 ≤ (x18_2 : Int) := od_
             have q1053 : x18_2 < (y1049.length : Int) := od_
             obtain ⟨ad1053, e1053, hx1053_0⟩ := Kd.at_int HR1052.out x18_2 p1053 q1053
             obtain rfl : ad1048 = ad1053 := (by injection e1053)
             (try replace hx1053_0 := (HB.out.cell (World.block_lt_of_cell? w _ hx1053_0)).trans hx1053_0)
             replace p1053 := eq_true p1053
             replace q1053 := eq_true q1053
             go_wp2_with (first | (refine gc_ 187 ?_; refine goesT_ (some 27) Try.func187 #[.int .i64 x18_2, .int .i64 (rd y1049 x18_2), .int .i64 x9_1, .int .i64 (rd l0 x9_1)] ?_; (with_reducible refine (impl_attacked.calls x18_2 (rd y1049 x18_2) x9_1 (rd l0 x9_1) false _ A11.out).mono ?_); rintro e w14 ⟨rfl, hb⟩; refine ⟨_, rfl, ?_⟩; replace HB := A_ (below_step tb_ hb); (try clear hb)))
             go_roundg k2
             case measure => have := HK1.out; have := HK2.out; omega
             case rel => exact ⟨(wrap64 (x18_2 + 1)), tf_, H', ⟨by have := HK1.out; have := HK2.out; omega⟩, ⟨tb_⟩⟩
           ·
            rw [if_neg c10] at H
            exact absurd H (by simp)
          ·
           rw [if_neg c9] at H
           exact absurd H (by simp)
         ·
          rw [if_neg c8] at H
          have c8b0 := decide_eq_false c8
          clear c8
          have H' := A_ H
          clear H
          go_wp2
          go_roundg k2
          case measure => have := HK1.out; have := HK2.out; omega
          case rel => exact ⟨(wrap64 (x9_1 + 1)), tf_, H', ⟨by have := HK1.out; have := HK2.out; omega⟩, ⟨tb_⟩⟩
      ·
       rw [if_neg c6] at H
       exact absurd H (by simp)
     ·
      rw [if_neg c4] at H
      exact absurd H (by simp)
    ·
     rw [if_neg c3] at H
     exact absurd H (by simp)
   ·
    rw [if_neg c2] at H
    have c2b0 := decide_eq_false c2
    clear c2
    obtain rfl := Option.some.inj H
    go_wp2
    go_ret
    exact ⟨te_, tb_⟩

/-! ### impl_AreQueens: function 58 -/
def impl_AreQueens.f (k : Nat) (l0 : List Int) : Option (Bool × Bool) := (impl_isList.f k l0).bind fun t1055 => (if t1055 = true then ((impl_areQueens.f k l0).bind fun t1056 => (some (t1056, true))) else (some (false, false)))
theorem impl_AreQueens.mono : ∀ a0 k, LeO (impl_AreQueens.f k a0) (impl_AreQueens.f (k + 1) a0) := by
 intro a0 k
 unfold impl_AreQueens.f
 repeat' first | (with_reducible first | exact impl_areQueens.mono _ _ | exact impl_isList.mono _ _ | exact LeO.refl _ | exact LeO.none _ | refine LeO.ite ?_ ?_ | refine LeO.bind ?_ (fun _ => ?_)) | exact impl_areQueens.mono _ _ | exact impl_isList.mono _ _ | exact LeO.none _ | refine LeO.ite ?_ ?_ | refine LeO.bind ?_ (fun _ => ?_)
theorem impl_AreQueens.calls (k : Nat) (A0 : Option Addr) (c0 : Nat) (l0 : List Int) (r1 : Bool) (r2 : Bool) (w : World) (hr0 : Kd.C (Kd.int .i64) w A0 l0.length l0) (hc0 : l0.length ≤ c0) (h : impl_AreQueens.f k l0 = some (r1, r2)) :
  Calls Try.prog 58 #[.slice A0 l0.length c0] w fun e w' => e = .returned (.tuple #[.bool r1, .bool r2]) ∧ Below w.heap.size w w' := by
 have HR0 := A_ hr0
 have HC0 := A_ hc0
 clear hr0 hc0
 have HB := A_ (Below.refl w.heap.size w)
 have H : ((impl_isList.f k l0).bind fun t1055 => (if t1055 = true then ((impl_areQueens.f k l0).bind fun t1056 => (some (t1056, true))) else (some (false, false)))) = some (r1, r2) := h
 clear h
 replace H := Option.bind_eq_some_iff.mp H
 obtain ⟨t1055, A20, H⟩ := H
 replace H : (if t1055 = true then ((impl_areQueens.f k l0).bind fun t1056 => (some (t1056, true))) else (some (false, false))) = some (r1, r2) := H
 have A2 := A_ A20
 clear A20
 by_cases c3 : t1055 = true
 ·
  subst c3
  have H1 : ((impl_areQueens.f k l0).bind fun t1056 => (some (t1056, true))) = some (r1, r2) := by rw [if_pos rfl] at H; exact H
  clear H
  have H := H1
  clear H1
  replace H := Option.bind_eq_some_iff.mp H
  obtain ⟨t1056, A40, H⟩ := H
  replace H : (some (t1056, true)) = some (r1, r2) := H
  have A4 := A_ A40
  clear A40
  simp only [Option.some.injEq, Prod.mk.injEq] at H
  obtain ⟨rfl, rfl⟩ := H
  go_enter Try.func58, Try.ntmps58
  go_wp2_with (first | (refine gc_ 170 ?_; refine goesT_ (some 5) Try.func170 #[.slice A0 l0.length c0] ?_; (with_reducible refine (impl_isList.calls k _ _ l0 true _ ?side1 ?side2 A2.out).mono ?_); (case side1 => exact tc0_ HR0.out); (case side2 => exact HC0.out); rintro e w' ⟨rfl, ⟨nd, rfl⟩⟩; refine ⟨_, rfl, ?_⟩) | (refine gc_ 175 ?_; refine goesT_ (some 8) Try.func175 #[.slice A0 l0.length c0] ?_; (with_reducible refine (impl_areQueens.calls k _ _ l0 t1056 _ ?side1 ?side2 A4.out).mono ?_); (case side1 => exact tc0_ HR0.out); (case side2 => exact HC0.out); rintro e w5 ⟨rfl, hb⟩; refine ⟨_, rfl, ?_⟩; replace HB := A_ (below_step tb_ hb); (try clear hb)))
  go_ret2
  exact ⟨te_, tb_⟩
 ·
  replace c3 := Bool.eq_false_iff.mpr c3
  subst c3
  have H1 : (some (false, false)) = some (r1, r2) := by rw [if_neg (show ¬ (false = true) by decide)] at H; exact H
  clear H
  have H := H1
  clear H1
  simp only [Option.some.injEq, Prod.mk.injEq] at H
  obtain ⟨rfl, rfl⟩ := H
  go_enter Try.func58, Try.ntmps58
  go_wp2_with (first | (refine gc_ 170 ?_; refine goesT_ (some 5) Try.func170 #[.slice A0 l0.length c0] ?_; (with_reducible refine (impl_isList.calls k _ _ l0 false _ ?side1 ?side2 A2.out).mono ?_); (case side1 => exact tc0_ HR0.out); (case side2 => exact HC0.out); rintro e w' ⟨rfl, ⟨nd, rfl⟩⟩; refine ⟨_, rfl, ?_⟩))
  go_ret2
  exact ⟨te_, tb_⟩

/-! ### spec_DrawCountQueens: function 176 -/
def spec_DrawCountQueens.f (l0 : List Int) : Option (Int) := (spec_l1Cur_among.f l0 0 0 (([1, 2, 3, 4, 5, 6, 7, 8, 9, 0] : List Int))).bind fun bt1061 => (some bt1061.1)
theorem spec_DrawCountQueens.calls (A0 : Option Addr) (c0 : Nat) (l0 : List Int) (r : Int) (w : World) (hr0 : Kd.C (Kd.int .u8) w A0 l0.length l0) (hc0 : l0.length ≤ c0) (h : spec_DrawCountQueens.f l0 = some r) :
  Calls Try.prog 176 #[.slice A0 l0.length c0] w fun e w' => e = .returned (.int .i64 r) ∧ Below w.heap.size w w' := by
 have hu122 := Try.underlying122
 have HR0 := A_ hr0
 have HC0 := A_ hc0
 clear hr0 hc0
 have HB := A_ (Below.refl w.heap.size w)
 have H : ((spec_l1Cur_among.f l0 0 0 (([1, 2, 3, 4, 5, 6, 7, 8, 9, 0] : List Int))).bind fun bt1061 => (some bt1061.1)) = some r := h
 clear h
 obtain ⟨y1058, hy1058⟩ : ∃ y_ : List Int, y_ = (([1, 2, 3, 4, 5, 6, 7, 8, 9, 0] : List Int)) := ⟨_, rfl⟩
 replace H : ((spec_l1Cur_among.f l0 0 0 y1058).bind fun bt1061 => (some bt1061.1)) = some r := ty_ hy1058 H
 have Ny1058 := A_ hy1058
 clear hy1058
 replace H := Option.bind_eq_some_iff.mp H
 obtain ⟨⟨t1061, t1062, t1063⟩, A20, H⟩ := H
 replace H : (some t1061) = some r := H
 have A2 := A_ A20
 clear A20
 obtain rfl := Option.some.inj H
 go_enter Try.func176, Try.ntmps176
 go_wp2_with (first | (refine gd_ 6 ?_; refine bx_ 6 #[.slice A0 l0.length c0, .int .i64 0, .int .u64 0] 122 ?_; intro gb1057 hg w3 hbox hb; have HI1057 := A_ ((⟨_, _, hbox, (by rw [hg]; exact (below_size tb_)), HR0.out⟩ : IsS122 w w3 gb1057 l0 0 0)); replace HB := A_ (below_step tb_ hb); clear hb hbox hg) | (refine gd_ 8 ?_; refine Kd.R_lit (Kd.int .i64) _ 3 ?hg (N := 8) ?hd (xs := ([1, 2, 3, 4, 5, 6, 7, 8, 9, 0] : List Int)) (inner := [.int .i64 1, .int .i64 2, .int .i64 3, .int .i64 4, .int .i64 5, .int .i64 6, .int .i64 7, .int .i64 8, .int .i64 9, .int .i64 0]) (ok := fun _ => True) (okp := fun _ => True) ?hr ?hp (fun _ hk => hk) trivial (Below.refl _ _) (Nat.le_refl _) (by simp) ?_; (case hd => rfl); (case hg => rfl); (case hr => first | (go_simp; done) | (go_simp; rfl)); (case hp => exact (Reps.one (show Kd.M (Kd.int .i64) _ _ _ 1 [.int .i64 1] from rfl) (Reps.one (show Kd.M (Kd.int .i64) _ _ _ 2 [.int .i64 2] from rfl) (Reps.one (show Kd.M (Kd.int .i64) _ _ _ 3 [.int .i64 3] from rfl) (Reps.one (show Kd.M (Kd.int .i64) _ _ _ 4 [.int .i64 4] from rfl) (Reps.one (show Kd.M (Kd.int .i64) _ _ _ 5 [.int .i64 5] from rfl) (Reps.one (show Kd.M (Kd.int .i64) _ _ _ 6 [.int .i64 6] from rfl) (Reps.one (show Kd.M (Kd.int .i64) _ _ _ 7 [.int .i64 7] from rfl) (Reps.one (show Kd.M (Kd.int .i64) _ _ _ 8 [.int .i64 8] from rfl) (Reps.one (show Kd.M (Kd.int .i64) _ _ _ 9 [.int .i64 9] from rfl) (Reps.one (show Kd.M (Kd.int .i64) _ _ _ 0 [.int .i64 0] from rfl) (Reps.none _ _)))))))))))); intro v1059 w4 ho5 hb hg_ hnew_; clear hg_ hnew_; (first | rw [← Ny1058.out] at ho5 | (simp only [Int.reduceToNat] at ho5; rw [← Ny1058.out] at ho5)); have HO1060 := A_ (Kd.R_lower ho5 (below_size (by repeat (first | (with_reducible first | exact HB.out | apply below_alloc | apply pw_below_drewN | apply below_drew1 | refine below_set ?_ (IsS122.ge HI1057.out)) | exact HB.out)))); replace HB := A_ (below_step (by repeat (first | (with_reducible first | exact HB.out | apply below_alloc | apply pw_below_drewN | apply below_drew1 | refine below_set ?_ (IsS122.ge HI1057.out)) | exact HB.out)) hb); replace HI1057 := A_ (IsS122.below (by repeat (first | (with_reducible first | exact HI1057.out | apply IsS122.alloc | apply IsS122.drewN | apply IsS122.drew | apply IsS122.set_1 | apply IsS122.set_2) | exact HI1057.out)) hb); clear hb ho5; obtain ⟨Ao6, co6, eo6⟩ := Kd.R_slice HO1060.out; subst eo6) | (refine gc_ 160 ?_; refine goesT_ (some 9) Try.func160 #[.pointer (some ⟨gb1057, 0, none⟩), .slice Ao6 y1058.length co6] ?_; (with_reducible refine (spec_l1Cur_among.calls gb1057 l0 0 0 _ _ y1058 t1061 t1062 t1063 w _ ?side1 ?side2 ?side3 ?side4 ?side5 A2.out).mono ?_); (case side1 => repeat (first | (with_reducible first | exact HI1057.out | apply IsS122.alloc | apply IsS122.drewN | apply IsS122.drew | apply IsS122.set_1 | apply IsS122.set_2) | exact HI1057.out)); (case side2 => repeat (first | (with_reducible first | exact HB.out | apply below_alloc | apply pw_below_drewN | apply below_drew1 | refine below_set ?_ (IsS122.ge HI1057.out)) | exact HB.out)); (case side3 => exact tc0_ (Kd.R_reads' HO1060.out).2.2); (case side4 => exact (Kd.R_reads' HO1060.out).2.1); (case side5 => exact far_slice (IsS122.own_ne HI1057.out HO1060.out (by decide))); rintro e w7 ⟨rfl, hi, hb, hk⟩; refine ⟨_, rfl, ?_⟩; replace HO1060 := A_ (Kd.R_mono (Kd.R_keep (IsS122.apart (show IsS122 w _ gb1057 l0 0 0 from by repeat (first | (with_reducible first | exact HI1057.out | apply IsS122.alloc | apply IsS122.drewN | apply IsS122.drew | apply IsS122.set_1 | apply IsS122.set_2) | exact HI1057.out)) (tr_x HO1060.out) (by decide)) hk (fun _ h => h.2)) (fun _ h => h.1)); replace HB := A_ (hb); replace HI1057 := A_ (hi); (try clear hb); (try clear hb2); (try clear hk); (try clear hi)))
 go_ret
 exact ⟨te_, by repeat (first | (with_reducible first | exact HB.out | apply below_alloc | apply pw_below_drewN | apply below_drew1 | refine below_set ?_ (IsS122.ge HI1057.out)) | exact HB.out)⟩

/-! ### spec_DrawCountOnTorus: function 59 -/
def spec_DrawCountOnTorus.f (l0 : List Int) : Option (Int) := (spec_DrawCountQueens.f l0).bind fun t1064 => (some t1064)
theorem spec_DrawCountOnTorus.calls (A0 : Option Addr) (c0 : Nat) (l0 : List Int) (r : Int) (w : World) (hr0 : Kd.C (Kd.int .u8) w A0 l0.length l0) (hc0 : l0.length ≤ c0) (h : spec_DrawCountOnTorus.f l0 = some r) :
  Calls Try.prog 59 #[.slice A0 l0.length c0] w fun e w' => e = .returned (.int .i64 r) ∧ Below w.heap.size w w' := by
 have HR0 := A_ hr0
 have HC0 := A_ hc0
 clear hr0 hc0
 have HB := A_ (Below.refl w.heap.size w)
 have H : ((spec_DrawCountQueens.f l0).bind fun t1064 => (some t1064)) = some r := h
 clear h
 replace H := Option.bind_eq_some_iff.mp H
 obtain ⟨t1064, A20, H⟩ := H
 replace H : (some t1064) = some r := H
 have A2 := A_ A20
 clear A20
 obtain rfl := Option.some.inj H
 go_enter Try.func59, Try.ntmps59
 go_wp2_with (first | (refine gc_ 176 ?_; refine goesT_ (some 4) Try.func176 #[.slice A0 l0.length c0] ?_; (with_reducible refine (spec_DrawCountQueens.calls _ _ l0 t1064 _ ?side1 ?side2 A2.out).mono ?_); (case side1 => exact tc0_ HR0.out); (case side2 => exact HC0.out); rintro e w3 ⟨rfl, hb⟩; refine ⟨_, rfl, ?_⟩; replace HB := A_ (below_step tb_ hb); (try clear hb)))
 go_ret
 exact ⟨te_, tb_⟩

/-! ### impl_grown_1: function 244 -/
mutual
def impl_grown_1.f : Nat → FnT50 → Int → List Int → List (List Int) → Option (List (List Int))
 | 0, _, _, _, _ => none
 | k + 1, good, n, q, out => (good q).bind fun b => if b = true then (if (q.length : Int) = n then ((slices_Clone_int_int.f q).bind fun c => if out.length < 5864062014805 then some (out ++ [c]) else none) else impl_grown_1.l0 k good n q out 0) else some out
def impl_grown_1.l0 : Nat → FnT50 → Int → List Int → List (List Int) → Int → Option (List (List Int))
 | 0, _, _, _, _, _ => none
 | k + 1, good, n, q, out, i => if i < n then ((slices_Contains_int_int.f k q i).bind fun b => if b = true then impl_grown_1.l0 k good n q out (wrap64 (i + 1)) else (if q.length < 17592186044415 then ((impl_grown_1.f k good n (q ++ [i]) out).bind fun out2 => impl_grown_1.l0 k good n q out2 (wrap64 (i + 1))) else none)) else some out
end
theorem impl_grown_1.mono_l : ∀ k, (∀ g n q o, LeO (impl_grown_1.f k g n q o) (impl_grown_1.f (k + 1) g n q o)) ∧ (∀ g n q o i, LeO (impl_grown_1.l0 k g n q o i) (impl_grown_1.l0 (k + 1) g n q o i))
 | 0 => ⟨fun _ _ _ _ r h => by simp [impl_grown_1.f] at h, fun _ _ _ _ _ r h => by simp [impl_grown_1.l0] at h⟩
 | k + 1 => by
  obtain ⟨i0, i1⟩ := impl_grown_1.mono_l k
  refine ⟨?_, ?_⟩
  ·
   intro g n q o
   unfold impl_grown_1.f
   refine LeO.bind (LeO.refl _) (fun b => ?_)
   refine LeO.ite ?_ (LeO.refl _)
   exact LeO.ite (LeO.refl _) (i1 _ _ _ _ _)
  ·
   intro g n q o i
   unfold impl_grown_1.l0
   refine LeO.ite ?_ (LeO.refl _)
   refine LeO.bind (slices_Contains_int_int.mono _ _ _) (fun b => ?_)
   refine LeO.ite (i1 _ _ _ _ _) ?_
   refine LeO.ite ?_ (LeO.refl _)
   exact LeO.bind (i0 _ _ _ _) (fun _ => i1 _ _ _ _ _)
theorem impl_grown_1.mono : ∀ g n q o k, LeO (impl_grown_1.f k g n q o) (impl_grown_1.f (k + 1) g n q o) := fun g n q o k => (impl_grown_1.mono_l k).1 _ _ _ _
def impl_grown_1.self (gg gq gn go gx : Nat) : Value := .func (.func 244) #[] #[.pointer (some ⟨gg, 0, none⟩), .pointer (some ⟨gq, 0, none⟩), .pointer (some ⟨gn, 0, none⟩), .pointer (some ⟨go, 0, none⟩), .pointer (some ⟨gx, 0, none⟩)]
abbrev impl_grown_1.St (w : World) (gg gq gn go gx : Nat) (vg : Value) (n : Int) (W : World) (vq vo : Value) (q : List Int) (out : List (List Int)) : Prop :=
 Cap.QO 3 22 22 38 w [(gg, 50, vg), (gn, 3, .int .i64 n), (gx, 1, impl_grown_1.self gg gq gn go gx)] gq go W vq vo q out
theorem impl_grown_1.enters (gg gq gn go gx : Nat) {w : World} {Q : Ending → World → Prop} (h : Calls Try.prog 244 #[.pointer (some ⟨gg, 0, none⟩), .pointer (some ⟨gq, 0, none⟩), .pointer (some ⟨gn, 0, none⟩), .pointer (some ⟨go, 0, none⟩), .pointer (some ⟨gx, 0, none⟩)] w Q) :
  Fn.CallsV Try.prog (impl_grown_1.self gg gq gn go gx) #[] w Q := ⟨244, _, _, rfl, Try.func244, by kernel_rfl, rfl, by simpa using h⟩
theorem impl_grown_1.calls (k : Nat) : ∀ (w : World) (gg gq gn go gx : Nat) (vg : Value) (good : FnT50) (n : Int) (W : World) (vq vo : Value) (q : List Int) (out r : List (List Int)) (hS : impl_grown_1.St w gg gq gn go gx vg n W vq vo q out) (hF : FnOk50 w vg good) (h : impl_grown_1.f k good n q out = some r),
  Calls Try.prog 244 #[.pointer (some ⟨gg, 0, none⟩), .pointer (some ⟨gq, 0, none⟩), .pointer (some ⟨gn, 0, none⟩), .pointer (some ⟨go, 0, none⟩), .pointer (some ⟨gx, 0, none⟩)] W fun e W' => e = .returned (.tuple #[]) ∧ ∃ vq' vo', impl_grown_1.St w gg gq gn go gx vg n W' vq' vo' q r := by
 induction k using Nat.strongRecOn with
 | _ k ih =>
 intro w gg gq gn go gx vg good n W vq vo q out r hS hF h
 cases k with
 | zero => exact absurd h (by simp [impl_grown_1.f])
 | succ k =>
 simp only [impl_grown_1.f] at h
 obtain ⟨b, A1, H⟩ := Option.bind_eq_some_iff.mp h
 clear h
 replace A1 := A_ A1
 obtain ⟨Aq, cq, rfl⟩ := Kd.R_slice hS.hq
 have hcg := hS.fix.cell (g := gg) (.head _)
 have hcn := hS.fix.cell (g := gn) (.tail _ (.head _))
 have hcq := hS.cellq
 have HS := A_ hS
 have HF := A_ hF
 have HR := A_ (Kd.R_reads' hS.hq)
 clear hS hF
 cases b with
 | false =>
  simp only [Bool.false_eq_true, if_false] at H
  obtain rfl := Option.some.inj H
  clear H
  go_enter Try.func244, Try.ntmps244
  go_wp2_with (first | ((with_reducible refine Fn.gate_value rfl ?_); refine Fn.goesVw_ (some 8) rfl (by first | rfl | (simp [Region.wanted, yielded]; done)) vg rfl #[.slice Aq q.length cq] rfl (by (try simp only [List.map_toArray, List.map_cons, List.map_nil]); first | done | rfl) ?_; (with_reducible refine (FnCall50.calls _ _ q vg good false _ ?q1 ?q2 ?q3 ?q4).mono ?_); (case q1 => exact HR.out.2.2); (case q2 => exact HR.out.2.1); (case q3 => exact (FnOk50.mono HF.out HS.out.bel)); (case q4 => exact A1.out); rintro e w8 ⟨rfl, hb⟩; refine ⟨_, rfl, ?_⟩; have HS8 := A_ (HS.out.below hb); clear hb))
  (try simp only [Exit.inBlock, Exit.then]); refine bodyPost_ret (results_none rfl _ _ _) rfl ?_
  exact ⟨rfl, _, _, HS8.out⟩
 | true =>
  rw [if_pos rfl] at H
  by_cases c3 : (q.length : Int) = n
  ·
   rw [if_pos c3] at H
   have c3b0 : ((q.length : Int) == n) = true := beq_iff_eq.mpr c3
   have c3b1 : ((q.length : Int) != n) = false := bne_eq_false_iff_eq.mpr c3
   clear c3
   obtain ⟨c, A2, H⟩ := Option.bind_eq_some_iff.mp H
   replace A2 := A_ A2
   by_cases c4 : out.length < 5864062014805
   ·
    rw [if_pos c4] at H
    have c4' := A_ c4
    obtain rfl := Option.some.inj H
    clear H c4
    go_enter Try.func244, Try.ntmps244
    go_wp2_with (first | ((with_reducible refine Fn.gate_value rfl ?_); refine Fn.goesVw_ (some 8) rfl (by first | rfl | (simp [Region.wanted, yielded]; done)) vg rfl #[.slice Aq q.length cq] rfl (by (try simp only [List.map_toArray, List.map_cons, List.map_nil]); first | done | rfl) ?_; (with_reducible refine (FnCall50.calls _ _ q vg good true _ ?q1 ?q2 ?q3 ?q4).mono ?_); (case q1 => exact HR.out.2.2); (case q2 => exact HR.out.2.1); (case q3 => exact (FnOk50.mono HF.out HS.out.bel)); (case q4 => exact A1.out); rintro e w8 ⟨rfl, hb⟩; refine ⟨_, rfl, ?_⟩; have HS8 := A_ (HS.out.below hb); have hcq8 := HS8.out.cellq; have hco8 := HS8.out.cello; have hcn8 := HS8.out.fix.cell (g := gn) (.tail _ (.head _)); clear hb))
    refine start_ (n := 6) (S := fun w' => w'.cell? ⟨go, 0, none⟩ = some vo ∧ w'.cell? ⟨gq, 0, none⟩ = some (.slice Aq q.length cq)) (ds := [5]) (Fn.bl 6 0) (by kernel_rfl) rfl rfl ⟨HS8.out.drew.cello, HS8.out.drew.cellq⟩ (fun hHeld => ?_)
    have HS9 := A_ HS8.out.drew
    clear HS HS8 hcq8 hco8 hcn8 hcg hcn hcq
    generalize w8.drew = w9 at HS9 hHeld ⊢
    refine take_ (i := 0) (N := some 14) (v := ?_) (a' := ?_) (Fn.bl 6 1) rfl rfl (by kernel_rfl) (fun _ _ _ h => h) (Or.inl ⟨by rfl, ?_⟩) hHeld ?_ ?_
    rotate_left
    ·
     rintro w' ⟨s0, s1⟩
     go_simp
     with_reducible rfl
    rotate_left
    ·
     simp only [Act.put, List.setIfInBounds_toArray, List.set_cons_zero, List.set_cons_succ, i64_w, i32_w]
     rfl
    refine take_ (i := 1) (N := some 15) (v := ?_) (a' := ?_) (Fn.bl 6 3) rfl rfl (by kernel_rfl) (fun _ _ _ h => h) (Or.inl ⟨by rfl, ?_⟩) hHeld ?_ ?_
    rotate_left
    ·
     rintro w' ⟨s0, s1⟩
     go_simp
     with_reducible rfl
    rotate_left
    ·
     simp only [Act.put, List.setIfInBounds_toArray, List.set_cons_zero, List.set_cons_succ, i64_w, i32_w]
     rfl
    have HR9 := A_ (Kd.R_reads' HS9.out.hq)
    refine one_ (i := 2) (N := some 16) (Fn.bl 6 7) rfl rfl (by kernel_rfl) (by decide) (fun K hK => ?_)
    refine goes_ Try.func196 (by kernel_rfl) rfl #[.slice Aq q.length cq] (by rfl) rfl rfl (by (try simp only [List.map_toArray, List.map_cons, List.map_nil]); first | done | rfl) ?_
    with_reducible refine (slices_Clone_int_int.calls Aq cq q c _ HR9.out.2.2 HR9.out.2.1 A2.out).mono ?_
    rintro e w10 ⟨vc, rfl, hoc, hb⟩
    refine ⟨_, rfl, ?_⟩
    have HS10 := A_ (HS9.out.below hb)
    have HCm := A_ (HS9.out.rowM hoc)
    have HCok := A_ (HS9.out.rowok hoc)
    have HCS := A_ (HS9.out.rowS hb hoc)
    obtain ⟨Ac, cc, ec⟩ := Kd.R_slice hoc
    subst ec
    clear hoc hb
    refine hK.out _ _ ⟨HS10.out.cello, HS10.out.cellq⟩ (fun hHeld => ?_)
    clear hK K
    refine norm_ (a' := ?_) ?_ ?_
    rotate_left
    ·
     show Act.put _ (some 16) _ = _
     simp only [Act.put, List.setIfInBounds_toArray, List.set_cons_zero, List.set_cons_succ, i64_w, i32_w]
     rfl
    refine one_ (i := 3) (N := some 17) (Fn.bl 6 15) rfl rfl (by kernel_rfl) (by decide) (fun K hK => ?_)
    refine value_ (v := .slice (some ⟨w10.heap.size, 0, none⟩) 1 1) (w1 := w10.alloc (.cells #[.slice Ac c.length cc] 22)) (by rfl) rfl ?_ ?_
    ·
     go_simp
    refine hK.out _ _ ⟨(HS10.out.below (below_alloc (Below.refl _ _) _)).cello, (HS10.out.below (below_alloc (Below.refl _ _) _)).cellq⟩ (fun hHeld => ?_)
    clear hK K
    refine norm_ (a' := ?_) ?_ ?_
    rotate_left
    ·
     show Act.put _ (some 17) _ = _
     simp only [Act.put, List.setIfInBounds_toArray, List.set_cons_zero, List.set_cons_succ, i64_w, i32_w]
     rfl
    refine one_ (i := 4) (N := some 18) (Fn.bl 6 31) rfl rfl (by kernel_rfl) (by decide) (fun K hK => ?_)
    refine Kd.S_append_step (Kd.slice 3 (Kd.int .i64)) (w0 := w) w.heap.size (by rfl) (.tmp 14) (.tmp 17) 38 22 (.slice none 0 0) 24 rfl Try.underlying38 info22 rfl (by decide) (by omega) vo out c [.slice Ac c.length cc] _ _ rfl rfl HCm.out HCok.out (fun k hk => HS10.out.fresh hk) HCS.out HS10.out.bel HS10.out.bel.size (by have := c4'.out; omega) ?_
    intro v1 w12 ho hb hg hat
    obtain ⟨A1, c1, e1⟩ := Kd.S_slice ho
    rw [List.length_append, List.length_singleton] at e1
    subst e1
    have HS12 := A_ (HS10.out.seto hb hg ho)
    have hcg12 := HS12.out.2.1
    have hfg12 := HS12.out.2.2
    have hcq12 : w12.cell? ⟨gq, 0, none⟩ = some (.slice Aq q.length cq) := cell_of_one (blk_grown HS10.out.cq hg (fun e => (HS10.out.no e.symm).2.1 rfl))
    clear ho hb hg hat
    refine hK.out _ _ ⟨hcg12, hcq12⟩ (fun hHeld => ?_)
    clear hK K
    refine norm_ (a' := ?_) ?_ ?_
    rotate_left
    ·
     show Act.put _ (some 18) _ = _
     simp only [Act.put, List.setIfInBounds_toArray, List.set_cons_zero, List.set_cons_succ, i64_w, i32_w]
     rfl
    refine last_ (i := 5) (N := none) (Fn.bl 6 63) rfl rfl (by kernel_rfl) (by decide) (fun K hK => ?_)
    refine skip_ (w1 := ?_) (by rfl) rfl ?_ ?_
    rotate_left
    ·
     go_simp
     rfl
    refine hK.out _ _ ?_
    clear hK K
    refine done_ (by kernel_rfl) ?_
    try go_wp2
    (try simp only [Exit.inBlock, Exit.then]); refine bodyPost_ret (results_none rfl _ _ _) rfl ?_
    exact ⟨rfl, _, _, HS12.out.1⟩
   ·
    rw [if_neg c4] at H
    exact absurd H (by simp)
  ·
   rw [if_neg c3] at H
   have c3b0 : ((q.length : Int) == n) = false := beq_eq_false_iff_ne.mpr c3
   have c3b1 : ((q.length : Int) != n) = true := bne_iff_ne.mpr c3
   clear c3
   replace H := A_ H
   go_enter Try.func244, Try.ntmps244
   go_wp2_with (first | ((with_reducible refine Fn.gate_value rfl ?_); refine Fn.goesVw_ (some 8) rfl (by first | rfl | (simp [Region.wanted, yielded]; done)) vg rfl #[.slice Aq q.length cq] rfl (by (try simp only [List.map_toArray, List.map_cons, List.map_nil]); first | done | rfl) ?_; (with_reducible refine (FnCall50.calls _ _ q vg good true _ ?q1 ?q2 ?q3 ?q4).mono ?_); (case q1 => exact HR.out.2.2); (case q2 => exact HR.out.2.1); (case q3 => exact (FnOk50.mono HF.out HS.out.bel)); (case q4 => exact A1.out); rintro e w8 ⟨rfl, hb⟩; refine ⟨_, rfl, ?_⟩; have HS8 := A_ (HS.out.below hb); have hcq8 := HS8.out.cellq; have hco8 := HS8.out.cello; have hcn8 := HS8.out.fix.cell (g := gn) (.tail _ (.head _)); clear hb))
   go_loopg [20] k (fun kq v20 W' => ∃ (i : Int) (o1 : List (List Int)) (vq2 vo2 : Value), v20 = .int .i64 i ∧ Aside0 (impl_grown_1.l0 kq good n q o1 i = some r) ∧ Aside0 (kq ≤ k) ∧ Aside0 (impl_grown_1.St w gg gq gn go gx vg n W' vq2 vo2 q o1))
   case atStart => exact ⟨0, out, _, _, rfl, H, ⟨Nat.le_refl _⟩, HS8⟩
   case round =>
    clear H HS HS8 hcq8 hco8 hcn8 hcg hcn hcq HR A1
    obtain ⟨i, o1, vq2, vo2, rfl, HA, HK1, HS⟩ := hrel
    obtain ⟨Aq2, cq2, e2⟩ := Kd.R_slice HS.out.hq
    subst e2
    have hcq := HS.out.cellq
    have HR := A_ (Kd.R_reads' HS.out.hq)
    cases gk with
    | zero => exact absurd HA.out (by simp [impl_grown_1.l0])
    | succ k1 =>
     have H := HA.out
     clear HA
     simp only [impl_grown_1.l0] at H
     by_cases c4 : i < n
     ·
      rw [if_pos c4] at H
      have c4b := decide_eq_true c4
      clear c4
      obtain ⟨b, A2, H⟩ := Option.bind_eq_some_iff.mp H
      replace A2 := A_ A2
      cases b with
      | true =>
       rw [if_pos rfl] at H
       replace H := A_ H
       go_wp2_with (first | (refine gc_ 182 ?_; refine goesL_ (some 25) rfl rfl Try.func182 (by kernel_rfl) rfl #[.slice Aq2 q.length cq2, .int .i64 i] rfl (by (try simp only [List.map_toArray, List.map_cons, List.map_nil]); first | done | rfl) ?_; (with_reducible refine (slices_Contains_int_int.calls k1 Aq2 cq2 q i true _ HR.out.2.2 HR.out.2.1 A2.out).mono ?_); rintro e w5 ⟨rfl, hd⟩; refine ⟨_, rfl, ?_⟩; have HS5 := A_ (HS.out.below hd.below); have hcq5 := HS5.out.cellq; clear hd))
       go_roundg k1
       case measure => have := HK1.out; omega
       case rel => exact ⟨wrap64 (i + 1), o1, _, _, tf_, H, ⟨by have := HK1.out; omega⟩, HS5⟩
      | false =>
       simp only [Bool.false_eq_true, if_false] at H
       by_cases c5 : q.length < 17592186044415
       ·
        rw [if_pos c5] at H
        have c5a := A_ c5
        clear c5
        obtain ⟨o2, A3, H⟩ := Option.bind_eq_some_iff.mp H
        replace A3 := A_ A3
        replace H := A_ H
        obtain ⟨i0, hi0, _⟩ := info_parts info3
        replace hi0 := A_ hi0
        go_wp2_with (first | (refine gc_ 182 ?_; refine goesL_ (some 25) rfl rfl Try.func182 (by kernel_rfl) rfl #[.slice Aq2 q.length cq2, .int .i64 i] rfl (by (try simp only [List.map_toArray, List.map_cons, List.map_nil]); first | done | rfl) ?_; (with_reducible refine (slices_Contains_int_int.calls k1 Aq2 cq2 q i false _ HR.out.2.2 HR.out.2.1 A2.out).mono ?_); rintro e w5 ⟨rfl, hd⟩; refine ⟨_, rfl, ?_⟩; have HS5 := A_ (HS.out.below hd.below); have hcq5 := HS5.out.cellq; clear hd) | ((with_reducible refine gate_builtin (b := .append) (xs := #[.tmp 27, .tmp 29]) rfl ?_); at_builtin; refine Kd.R_append (Kd.int .i64) (w0 := w) w.heap.size rfl (.tmp 27) (.tmp 29) 22 3 (.int .i64 0) 8 rfl Try.underlying22 info3 rfl (by decide) (by omega) (.slice Aq2 q.length cq2) q i [.int .i64 i] (fun _ => True) (fun _ => False) rfl rfl ?aP (fun _ hk => hk.elim) (fun _ _ => trivial) ?aO ?aB ?aS ?aL ?_; (case aP => exact rfl); (case aO => exact Kd.R_mono HS5.out.hq (fun _ _ => trivial)); (case aB => exact HS5.out.bel); (case aS => exact HS5.out.bel.size); (case aL => have := c5a.out; omega); intro v1 w7 ho hb hg hat; obtain ⟨A1, c1, e1⟩ := Kd.R_slice ho; rw [List.length_append, List.length_singleton] at e1; subst e1; have HT := A_ (HS5.out.setq hb hg ho hat); clear ho hb hg hat; have hcq7 := HT.out.2.1; have hfq7 := HT.out.2.2; have HS7 := A_ HT.out.1; clear HT; have hx7 := HS7.out.fix.cell (g := gx) (.tail _ (.tail _ (.head _)))) | ((with_reducible refine Fn.gate_value rfl ?_); refine Fn.goesVw_ (some 32) rfl (by first | rfl | (simp [Region.wanted, yielded]; done)) (impl_grown_1.self gg gq gn go gx) rfl #[] rfl (by (try simp only [List.map_toArray, List.map_cons, List.map_nil]); first | done | rfl) ?_; refine impl_grown_1.enters gg gq gn go gx ?_; (with_reducible refine (ih k1 (by have := HK1.out; omega) w gg gq gn go gx vg good n _ _ vo2 (q ++ [i]) o1 o2 HS7.out HF.out A3.out).mono ?_); rintro e w8 ⟨rfl, vq8, vo8, hs⟩; refine ⟨_, rfl, ?_⟩; obtain ⟨A8, c8, e8⟩ := Kd.R_slice hs.hq; rw [List.length_append, List.length_singleton] at e8; subst e8; have HS8 := A_ hs; clear hs hx7 hcq7 hfq7; have hcq8 := HS8.out.cellq; have hfq8 := free_of_one HS8.out.cq; have hcut8 := cut_to (P := Try.prog) 22 3 .i64 Try.underlying22 hi0.out A8 (q.length + 1) c8 (wrap64 (q.length : Int)) (by have := c5a.out; unfold wrap64; omega) (by have := c5a.out; unfold wrap64; omega) (by have := (Kd.R_reads' HS8.out.hq).2.1; simpa using this)))
        have hw : wrap64 (q.length : Int) = (q.length : Int) := by have := c5a.out; unfold wrap64; omega
        have HS9 : Aside0 (impl_grown_1.St w gg gq gn go gx vg n (w8.setCell ⟨gq, 0, none⟩ (.slice A8 (wrap64 (q.length : Int)).toNat c8)) (.slice A8 (wrap64 (q.length : Int)).toNat c8) vo8 q o2) := by
         rw [hw, Int.toNat_natCast]
         have hR := Kd.R_take (m := q.length) HS8.out.hq (by simp)
         rw [List.take_left' rfl] at hR
         exact ⟨(HS8.out.setq HS8.out.bel (grown_of_below (Below.refl _ _) _) hR (Or.inl (by cases A8 <;> rfl))).1⟩
        clear hw
        go_roundg k1
        case measure => have := HK1.out; omega
        case rel => exact ⟨wrap64 (i + 1), o2, _, _, tf_, H, ⟨by have := HK1.out; omega⟩, HS9⟩
       ·
        rw [if_neg c5] at H
        exact absurd H (by simp)
     ·
      rw [if_neg c4] at H
      have c4b := decide_eq_false c4
      clear c4
      obtain rfl := Option.some.inj H
      clear H
      go_wp2
      go_end0
      exact ⟨rfl, _, _, HS.out⟩

/-! ### impl_grown: function 177 -/
def impl_grown.f (k : Nat) (a0 : Int) (l1 : List Int) (a2 : FnT50) : Option (List (List Int)) := (slices_Clone_int_int.f l1).bind fun q => impl_grown_1.f k a2 a0 q []
theorem impl_grown.mono : ∀ a0 a1 a2 k, LeO (impl_grown.f k a0 a1 a2) (impl_grown.f (k + 1) a0 a1 a2) := fun a0 a1 a2 k => LeO.bind (LeO.refl _) (fun q => impl_grown_1.mono _ _ _ _ _)
theorem impl_grown.init (w w5 : World) (n : Int) (vg : Value) (Aq : Option Addr) (cq : Nat) (q : List Int)
  (hb : Below (((w.alloc (.cells #[.int .i64 n] 3)).alloc (.cells #[vg] 50)).alloc (.cells #[] 22)).heap.size (((w.alloc (.cells #[.int .i64 n] 3)).alloc (.cells #[vg] 50)).alloc (.cells #[] 22)) w5)
  (hq : (Kd.int .i64).R 3 w5 (((w.alloc (.cells #[.int .i64 n] 3)).alloc (.cells #[vg] 50)).alloc (.cells #[] 22)).heap.size (fun _ => True) (.slice Aq q.length cq) q) :
  impl_grown_1.St w (w.heap.size + 1) (w5.heap.size + 1) w.heap.size w5.heap.size (w5.heap.size + 1 + 1) vg n
   (((w5.alloc (.cells #[.slice (some ⟨w.heap.size + 1 + 1, 0, none⟩) 0 0] 38)).alloc (.cells #[.slice Aq q.length cq] 22)).alloc (.cells #[impl_grown_1.self (w.heap.size + 1) (w5.heap.size + 1) w.heap.size w5.heap.size (w5.heap.size + 1 + 1)] 1))
   (.slice Aq q.length cq) (.slice (some ⟨w.heap.size + 1 + 1, 0, none⟩) 0 0) q [] := by
 have hz : (((w.alloc (.cells #[.int .i64 n] 3)).alloc (.cells #[vg] 50)).alloc (.cells #[] 22)).heap.size = w.heap.size + 1 + 1 + 1 := by simp
 have hz5 : w.heap.size + 1 + 1 + 1 ≤ w5.heap.size := by rw [← hz]; exact hb.size
 have b0 : (((w.alloc (.cells #[.int .i64 n] 3)).alloc (.cells #[vg] 50)).alloc (.cells #[] 22)).heap[w.heap.size]? = some (.cells #[.int .i64 n] 3 (0, 0)) := blk_alloc (blk_alloc (blk_new _ _) _) _
 have b1 : (((w.alloc (.cells #[.int .i64 n] 3)).alloc (.cells #[vg] 50)).alloc (.cells #[] 22)).heap[w.heap.size + 1]? = some (.cells #[vg] 50 (0, 0)) := by
  have := blk_alloc (blk_new (w.alloc (.cells #[.int .i64 n] 3)) (.cells #[vg] 50)) (.cells #[] 22)
  simpa using this
 have c0 := blk_below b0 hb
 have c1 := blk_below b1 hb
 have hS : Kd.S (Kd.slice 3 (Kd.int .i64)) 22 w5 w.heap.size (fun k => k = w.heap.size + 1 + 1) (.slice (some ⟨w.heap.size + 1 + 1, 0, none⟩) 0 0) [] := by
  refine Kd.S_below ?_ hb
  refine ⟨fun _ => 0, ⟨?_, ?_⟩⟩
  ·
   intro k hk
   simp [Value.ownBlock] at hk
   omega
  ·
   have := OwnRow.lit (R := (Kd.tag (fun _ => 0) (Kd.slice 3 (Kd.int .i64))).M (((w.alloc (.cells #[.int .i64 n] 3)).alloc (.cells #[vg] 50)).alloc (.cells #[] 22)) w.heap.size (fun k => k = w.heap.size + 1 + 1 ∧ some k ≠ (Value.slice (some ⟨w.heap.size + 1 + 1, 0, none⟩) 0 0).ownBlock)) (e := 22) (size := 1) (ps := []) ((w.alloc (.cells #[.int .i64 n] 3)).alloc (.cells #[vg] 50)) w.heap.size (inner := []) (Reps.none _ _) (by simp; omega) (by simp)
   show OwnRow _ _ 1 _ _ _ _
   simpa using this
 have hlq := Kd.R_lt hq
 have hbq := Kd.R_base hq
 rw [hz] at hbq
 have bb : Below w.heap.size w w5 := below_then (below_alloc (below_alloc (below_alloc (Below.refl _ _) _) _) _) (by rw [hz]; omega) hb
 have bA : Below w5.heap.size w5 (((w5.alloc (.cells #[.slice (some ⟨w.heap.size + 1 + 1, 0, none⟩) 0 0] 38)).alloc (.cells #[.slice Aq q.length cq] 22)).alloc (.cells #[impl_grown_1.self (w.heap.size + 1) (w5.heap.size + 1) w.heap.size w5.heap.size (w5.heap.size + 1 + 1)] 1)) := below_alloc (below_alloc (below_alloc (Below.refl _ _) _) _) _
 refine ⟨below_then bb bb.size bA, by omega, by omega, by omega, ?_, ?_, ?_, ?_, ?_, ?_, ?_, ?_⟩
 ·
  intro x hx; simp only [List.mem_cons, List.mem_nil_iff, or_false] at hx; rcases hx with rfl | rfl | rfl <;> simp <;> omega
 ·
  intro x hx; simp only [List.mem_cons, List.mem_nil_iff, or_false] at hx; rcases hx with rfl | rfl | rfl <;> simp <;> omega
 ·
  intro x hx
  simp only [List.mem_cons, List.mem_nil_iff, or_false] at hx
  rcases hx with rfl | rfl | rfl
  ·
   exact blk_below c1 bA
  ·
   exact blk_below c0 bA
  ·
   have := blk_new ((w5.alloc (.cells #[.slice (some ⟨w.heap.size + 1 + 1, 0, none⟩) 0 0] 38)).alloc (.cells #[.slice Aq q.length cq] 22)) (.cells #[impl_grown_1.self (w.heap.size + 1) (w5.heap.size + 1) w.heap.size w5.heap.size (w5.heap.size + 1 + 1)] 1)
   simpa using this
 ·
  have := blk_alloc (blk_new (w5.alloc (.cells #[.slice (some ⟨w.heap.size + 1 + 1, 0, none⟩) 0 0] 38)) (.cells #[.slice Aq q.length cq] 22)) (.cells #[impl_grown_1.self (w.heap.size + 1) (w5.heap.size + 1) w.heap.size w5.heap.size (w5.heap.size + 1 + 1)] 1)
  simpa using this
 ·
  exact blk_alloc (blk_alloc (blk_new _ _) _) _
 ·
  intro k hk
  have h1 := hlq k hk
  have h2 := hbq k hk
  refine ⟨by omega, by omega, ?_⟩
  intro x hx; simp only [List.mem_cons, List.mem_nil_iff, or_false] at hx; rcases hx with rfl | rfl | rfl <;> simp <;> omega
 ·
  exact Kd.R_below (Kd.R_lower (Kd.R_tight rfl hq) (by rw [hz]; omega)) bA
 ·
  refine Kd.S_mono (Kd.S_below hS bA) ?_
  rintro k rfl
  refine ⟨fun e => by have := hbq _ e.symm; omega, by omega, by omega, ?_⟩
  intro x hx; simp only [List.mem_cons, List.mem_nil_iff, or_false] at hx; rcases hx with rfl | rfl | rfl <;> simp <;> omega
theorem impl_grown.calls (k : Nat) (a0 : Int) (A1 : Option Addr) (c1 : Nat) (l1 : List Int) (v2 : Value) (a2 : FnT50) (r : List (List Int)) (w : World) (hr1 : Kd.C (Kd.int .i64) w A1 l1.length l1) (hc1 : l1.length ≤ c1) (hF2 : FnOk50 w v2 a2) (h : impl_grown.f k a0 l1 a2 = some r) :
  Calls Try.prog 177 #[.int .i64 a0, .slice A1 l1.length c1, v2] w fun e w' => ∃ v0_ : Value, e = .returned (v0_) ∧ Kd.S (Kd.slice 3 (Kd.int .i64)) 22 w' w.heap.size (fun _ => True) v0_ r ∧ Below w.heap.size w w' := by
 obtain ⟨q, A2, H⟩ := Option.bind_eq_some_iff.mp h
 clear h
 have hq : q = l1 := by
  unfold slices_Clone_int_int.f at A2
  split at A2
  ·
   exact (Option.some.inj A2).symm
  ·
   cases A2
 obtain ⟨fv, cap, hv⟩ : ∃ fv cap, v2 = .func (.func fv) #[] cap := by
  cases k with
  | zero => exact absurd H (by simp [impl_grown_1.f])
  | succ k =>
   simp only [impl_grown_1.f] at H
   obtain ⟨b, hb, _⟩ := Option.bind_eq_some_iff.mp H
   rw [hq] at hb
   obtain ⟨fv, cap, _, hv, _⟩ := hF2 A1 c1 l1 b w hr1 hc1 hb (Below.refl _ _)
   exact ⟨fv, cap, hv⟩
 subst hv
 clear hq
 replace A2 := A_ A2
 replace H := A_ H
 have HR1 := A_ hr1
 have HC1 := A_ hc1
 have HF := A_ hF2
 clear hr1 hc1 hF2
 have HB := A_ (Below.refl w.heap.size w)
 have hmf_ : ∀ (fn : Go.Fn) (first cap : Array Value) (w : World), (Instr.makeFunc fn first cap).run Try.prog w = .ok (.func fn first cap) w := fun _ _ _ _ => rfl
 go_enter Try.func177, Try.ntmps177
 go_wp2_with (first | (refine gc_ 196 ?_; refine goesL_ (some 12) rfl rfl Try.func196 (by kernel_rfl) rfl #[.slice A1 l1.length c1] rfl (by (try simp only [List.map_toArray, List.map_cons, List.map_nil]); first | done | rfl) ?_; (with_reducible refine (slices_Clone_int_int.calls A1 c1 l1 q _ ?q1 ?q2 ?q3).mono ?_); (case q1 => exact (Kd.C_below HR1.out tb_)); (case q2 => exact HC1.out); (case q3 => exact A2.out); rintro e w5 ⟨vq, rfl, ho, hb⟩; refine ⟨_, rfl, ?_⟩; obtain ⟨Aq, cq, eq⟩ := Kd.R_slice ho; subst eq; have HI := A_ (impl_grown.init w w5 a0 _ Aq cq q hb ho); clear ho hb))
 refine (impl_grown_1.calls k w _ _ _ _ _ _ a2 a0 _ _ _ q [] r HI.out HF.out ?q4).mono ?_
 case q4 => exact H.out
 rintro e w8 ⟨rfl, vq8, vo8, hs⟩
 obtain ⟨A8, c8, e8⟩ := Kd.S_slice hs.ho
 subst e8
 have HS8 := A_ hs
 clear hs
 have hco8 := HS8.out.cello
 go_wp2
 go_ret
 exact ⟨_, rfl, Kd.S_mono HS8.out.ho (fun _ _ => trivial), HS8.out.bel⟩

/-! ### impl_CountOnTorus: function 60 -/
def impl_CountOnTorus.good (n : Int) : FnT50 := fun l => Fn.lim fun k => impl_onTorus_1.f k l n
def impl_CountOnTorus.f (k : Nat) (a0 : Int) : Option (Int × Bool) := (impl_isMany.f a0).bind fun t => (if t = true then ((impl_grown.f k a0 ([] : List Int) (impl_CountOnTorus.good a0)).bind fun u => (some ((u.length : Int), true))) else (some (0, false)))
theorem impl_CountOnTorus.mono : ∀ a0 k, LeO (impl_CountOnTorus.f k a0) (impl_CountOnTorus.f (k + 1) a0) := by
 intro a0 k
 unfold impl_CountOnTorus.f
 refine LeO.bind (LeO.refl _) (fun _ => ?_)
 refine LeO.ite ?_ (LeO.refl _)
 exact LeO.bind (impl_grown.mono _ _ _ _) (fun _ => LeO.refl _)
theorem impl_CountOnTorus.goodok (n : Int) (g : Nat) (w : World) (hg : w.cell? ⟨g, 0, none⟩ = some (.int .i64 n)) : FnOk50 w (.func (.func 243) #[] #[.pointer (some ⟨g, 0, none⟩)]) (impl_CountOnTorus.good n) := by
 intro A0 c0 l0 r W hr hc h hB
 obtain ⟨k, h⟩ := Fn.lim_get h
 exact ⟨243, _, _, rfl, Try.func243, by kernel_rfl, rfl, (impl_onTorus_1.calls k A0 c0 l0 g n r W hr hc ((hB.cell (World.block_lt_of_cell? w _ hg)).trans hg) h).mono fun e w' ⟨he, hd⟩ => ⟨he, hd⟩⟩
theorem impl_CountOnTorus.maker (n : Int) (w : World) : Calls Try.prog 174 #[.int .i64 n] w fun e w' => ∃ g : Nat, e = .returned (.func (.func 243) #[] #[.pointer (some ⟨g, 0, none⟩)]) ∧ w'.cell? ⟨g, 0, none⟩ = some (.int .i64 n) ∧ Below w.heap.size w w' := by
 have hmf_ : ∀ (fn : Go.Fn) (first cap : Array Value) (w : World), (Instr.makeFunc fn first cap).run Try.prog w = .ok (.func fn first cap) w := fun _ _ _ _ => rfl
 go_enter Try.func174, Try.ntmps174
 go_wp2
 go_ret
 exact ⟨_, rfl, by go_simp, below_alloc (Below.refl _ _) _⟩
theorem impl_CountOnTorus.calls (k : Nat) (a0 : Int) (r1 : Int) (r2 : Bool) (w : World) (h : impl_CountOnTorus.f k a0 = some (r1, r2)) :
  Calls Try.prog 60 #[.int .i64 a0] w fun e w' => e = .returned (.tuple #[.int .i64 r1, .bool r2]) ∧ Below w.heap.size w w' := by
 have HB := A_ (Below.refl w.heap.size w)
 unfold impl_CountOnTorus.f at h
 obtain ⟨t, A2, H⟩ := Option.bind_eq_some_iff.mp h
 have A2' := A_ A2
 clear A2 h
 cases t with
 | false =>
  simp only [Bool.false_eq_true, if_false, Option.some.injEq, Prod.mk.injEq] at H
  obtain ⟨rfl, rfl⟩ := H
  go_enter Try.func60, Try.ntmps60
  go_wp2_with (first | (go_at_call 161; (with_reducible refine (impl_isMany.calls a0 false _ A2'.out).mono ?_); rintro e w1 ⟨rfl, ⟨nd, rfl⟩⟩))
  go_ret2
  exact ⟨rfl, tb_⟩
 | true =>
  simp only [if_true] at H
  obtain ⟨u, A3, H⟩ := Option.bind_eq_some_iff.mp H
  have A3' := A_ A3
  clear A3
  simp only [Option.some.injEq, Prod.mk.injEq] at H
  obtain ⟨rfl, rfl⟩ := H
  go_enter Try.func60, Try.ntmps60
  go_wp2_with (first | (go_at_call 161; (with_reducible refine (impl_isMany.calls a0 true _ A2'.out).mono ?_); rintro e w1 ⟨rfl, ⟨nd, rfl⟩⟩) | (go_at_call 174; (with_reducible refine (impl_CountOnTorus.maker a0 _).mono ?_); rintro e w2 ⟨g, rfl, hg, hb⟩; have HG := A_ hg; have HB2 := A_ (below_step (pw_below_drewN HB.out nd) hb); clear hb hg) | (go_at_call 177; refine (impl_grown.calls k a0 none 0 ([] : List Int) _ (impl_CountOnTorus.good a0) u _ ?q1 ?q2 ?q3 A3'.out).mono ?_; (case q1 => exact ⟨rfl, by decide, fun h => absurd h (by decide)⟩); (case q2 => exact Nat.le_refl _); (case q3 => exact impl_CountOnTorus.goodok a0 g _ HG.out); rintro e w3 ⟨v3, rfl, ho, hb⟩; obtain ⟨A3, c3, e3⟩ := Kd.S_slice ho; subst e3; have HB3 := A_ (below_step HB2.out hb); clear ho hb))
  go_ret2
  exact ⟨rfl, by repeat (first | (with_reducible first | exact HB3.out | apply below_alloc | apply pw_below_drewN | apply below_drew1) | exact HB3.out)⟩

/-! ### spec_quTorus: function 179 -/
mutual
def spec_quTorus.l0 : Nat → List Int → Int → List Int → Int → Int → Option (Bool)
 | 0, _, _, _, _, _ => none
 | k + 1, x0, x3, x9, x10, x11 => if x11 < x10 then (if 0 ≤ x11 then (if x11 < (x9.length : Int) then (spec_quTorus.l1 k x0 x3 x11 (rd x9 x11) (wrap64 (x11 + 1)) x9 x10 x11) else (none)) else (none)) else (some true)
def spec_quTorus.l1 : Nat → List Int → Int → Int → Int → Int → List Int → Int → Int → Option (Bool)
 | 0, _, _, _, _, _, _, _, _ => none
 | k + 1, x0, x3, x4, x5, x6, x9, x10, x11 => if x6 < x3 then (if 0 ≤ x6 then (if x6 < (x0.length : Int) then (if x3 = 0 then (none) else (if (Int.tmod (wrap64 ((wrap64 ((wrap64 (x6 - x4)) + (rd x0 x6))) - x5)) x3) = 0 then (some false) else (if (Int.tmod (wrap64 ((wrap64 ((wrap64 (x6 - x4)) - (rd x0 x6))) + x5)) x3) = 0 then (some false) else (spec_quTorus.l1 k x0 x3 x4 x5 (wrap64 (x6 + 1)) x9 x10 x11)))) else (none)) else (none)) else (spec_quTorus.l0 k x0 x3 x9 x10 (wrap64 (x11 + 1)))
end
def spec_quTorus.f (k : Nat) (l0 : List Int) : Option (Bool) := spec_quTorus.l0 k l0 (l0.length : Int) l0 (l0.length : Int) 0
theorem spec_quTorus.mono_l : ∀ k, (∀ y0 y1 y2 y3 y4, LeO (spec_quTorus.l0 k y0 y1 y2 y3 y4) (spec_quTorus.l0 (k + 1) y0 y1 y2 y3 y4)) ∧ (∀ y0 y1 y2 y3 y4 y5 y6 y7, LeO (spec_quTorus.l1 k y0 y1 y2 y3 y4 y5 y6 y7) (spec_quTorus.l1 (k + 1) y0 y1 y2 y3 y4 y5 y6 y7))
 | 0 => ⟨fun _ _ _ _ _ r h => by simp [spec_quTorus.l0] at h, fun _ _ _ _ _ _ _ _ r h => by simp [spec_quTorus.l1] at h⟩
 | k + 1 => by
  obtain ⟨ih0, ih1⟩ := spec_quTorus.mono_l k
  refine ⟨?_, ?_⟩
  ·
   intro y0 y1 y2 y3 y4
   unfold spec_quTorus.l0
   repeat' first | (with_reducible first | exact ih0 _ _ _ _ _ | exact ih1 _ _ _ _ _ _ _ _ | exact LeO.refl _ | exact LeO.none _ | refine LeO.ite ?_ ?_ | refine LeO.bind ?_ (fun _ => ?_)) | exact ih0 _ _ _ _ _ | exact ih1 _ _ _ _ _ _ _ _ | exact LeO.none _ | refine LeO.ite ?_ ?_ | refine LeO.bind ?_ (fun _ => ?_)
  ·
   intro y0 y1 y2 y3 y4 y5 y6 y7
   unfold spec_quTorus.l1
   repeat' first | (with_reducible first | exact ih0 _ _ _ _ _ | exact ih1 _ _ _ _ _ _ _ _ | exact LeO.refl _ | exact LeO.none _ | refine LeO.ite ?_ ?_ | refine LeO.bind ?_ (fun _ => ?_)) | exact ih0 _ _ _ _ _ | exact ih1 _ _ _ _ _ _ _ _ | exact LeO.none _ | refine LeO.ite ?_ ?_ | refine LeO.bind ?_ (fun _ => ?_)
theorem spec_quTorus.mono : ∀ a0 k, LeO (spec_quTorus.f k a0) (spec_quTorus.f (k + 1) a0) := by
 intro a0 k
 obtain ⟨ih0, ih1⟩ := spec_quTorus.mono_l k
 unfold spec_quTorus.f
 repeat' first | (with_reducible first | exact ih0 _ _ _ _ _ | exact ih1 _ _ _ _ _ _ _ _ | exact LeO.refl _ | exact LeO.none _ | refine LeO.ite ?_ ?_ | refine LeO.bind ?_ (fun _ => ?_)) | exact ih0 _ _ _ _ _ | exact ih1 _ _ _ _ _ _ _ _ | exact LeO.none _ | refine LeO.ite ?_ ?_ | refine LeO.bind ?_ (fun _ => ?_)
theorem spec_quTorus.calls (k : Nat) (A0 : Option Addr) (c0 : Nat) (l0 : List Int) (r : Bool) (w : World) (hr0 : Kd.C (Kd.int .i64) w A0 l0.length l0) (hc0 : l0.length ≤ c0) (h : spec_quTorus.f k l0 = some r) :
  Calls Try.prog 179 #[.slice A0 l0.length c0] w fun e w' => e = .returned (.bool r) ∧ Drawn0 w w' := by
 have HR0 := A_ hr0
 have HC0 := A_ hc0
 clear hr0 hc0
 have H : (spec_quTorus.l0 k l0 (l0.length : Int) l0 (l0.length : Int) 0) = some r := h
 clear h
 have H' := A_ H
 clear H
 go_enter Try.func179, Try.ntmps179
 go_wp2
 go_loopg [11] k (fun kq v11 w' => ∃ (x11_1 : Int), v11 = .int .i64 x11_1 ∧ Aside0 (spec_quTorus.l0 kq l0 (l0.length : Int) l0 (l0.length : Int) x11_1 = some r) ∧ Aside0 (kq ≤ k) ∧ Drawn0 w w')
 case atStart => exact ⟨(0), tf_, H', ⟨Nat.le_refl _⟩, dr_⟩
 case round =>
  clear H'
  try clear c1
  obtain ⟨x11_1, rfl, HA, HK1, ⟨m1, rfl⟩⟩ := hrel
  cases gk with
  | zero => exact absurd HA.out (by simp [spec_quTorus.l0])
  | succ k1 =>
   have H := HA.out
   clear HA
   simp only [spec_quTorus.l0] at H
   by_cases c2 : x11_1 < (l0.length : Int)
   ·
    rw [if_pos c2] at H
    have c2b0 := decide_eq_true c2
    clear c2
    by_cases c3 : 0 ≤ x11_1
    ·
     rw [if_pos c3] at H
     have c3b0 := decide_eq_true c3
     clear c3
     by_cases c4 : x11_1 < (l0.length : Int)
     ·
      rw [if_pos c4] at H
      have c4b0 := decide_eq_true c4
      clear c4
      have H' := A_ H
      clear H
      have p1065 : 0 ≤ (x11_1 : Int) := od_
      have q1065 : x11_1 < (l0.length : Int) := od_
      obtain ⟨ad1065, e1065, hx1065_0⟩ := Kd.at_int HR0.out x11_1 p1065 q1065
      cases e1065
      replace p1065 := eq_true p1065
      replace q1065 := eq_true q1065
      go_wp2
      go_loopg [6] k1 (fun kq v6 w' => ∃ (x6_2 : Int), v6 = .int .i64 x6_2 ∧ Aside0 (spec_quTorus.l1 kq l0 (l0.length : Int) x11_1 (rd l0 x11_1) x6_2 l0 (l0.length : Int) x11_1 = some r) ∧ Aside0 (kq ≤ k1) ∧ Drawn0 w w')
      case atStart => exact ⟨(wrap64 (x11_1 + 1)), tf_, H', ⟨Nat.le_refl _⟩, dr_⟩
      case round =>
       clear H'
       try clear c1
       try clear p1
       try clear q1
       try clear hx1
       try clear c2
       try clear c2b0
       try clear p2
       try clear c3
       try clear c3b0
       try clear c4
       try clear c4b0
       try clear hx1065_0
       try clear p1065
       try clear q1065
       obtain ⟨x6_2, rfl, HA, HK2, ⟨m2, rfl⟩⟩ := hrel
       cases gk with
       | zero => exact absurd HA.out (by simp [spec_quTorus.l1])
       | succ k2 =>
        have H := HA.out
        clear HA
        simp only [spec_quTorus.l1] at H
        by_cases c5 : x6_2 < (l0.length : Int)
        ·
         rw [if_pos c5] at H
         have c5b0 := decide_eq_true c5
         clear c5
         by_cases c6 : 0 ≤ x6_2
         ·
          rw [if_pos c6] at H
          have c6b0 := decide_eq_true c6
          clear c6
          by_cases c7 : x6_2 < (l0.length : Int)
          ·
           rw [if_pos c7] at H
           have c7b0 := decide_eq_true c7
           clear c7
           by_cases c8 : (l0.length : Int) = 0
           ·
            rw [if_pos c8] at H
            exact absurd H (by simp)
           ·
            rw [if_neg c8] at H
            have c8b0 : ((l0.length : Int) == 0) = false := beq_eq_false_iff_ne.mpr c8
            have c8b1 : ((l0.length : Int) != 0) = true := bne_iff_ne.mpr c8
            have c8b2 : ¬ (l0 = []) := fun h_ => c8 (by rw [h_]; rfl)
            by_cases c9 : (Int.tmod (wrap64 ((wrap64 ((wrap64 (x6_2 - x11_1)) + (rd l0 x6_2))) - (rd l0 x11_1))) (l0.length : Int)) = 0
            ·
             rw [if_pos c9] at H
             have c9b0 : ((Int.tmod (wrap64 ((wrap64 ((wrap64 (x6_2 - x11_1)) + (rd l0 x6_2))) - (rd l0 x11_1))) (l0.length : Int)) == 0) = true := beq_iff_eq.mpr c9
             have c9b1 : ((Int.tmod (wrap64 ((wrap64 ((wrap64 (x6_2 - x11_1)) + (rd l0 x6_2))) - (rd l0 x11_1))) (l0.length : Int)) != 0) = false := bne_eq_false_iff_eq.mpr c9
             clear c9
             obtain rfl := Option.some.inj H
             have p1066 : 0 ≤ (x6_2 : Int) := od_
             have q1066 : x6_2 < (l0.length : Int) := od_
             obtain ⟨ad1066, e1066, hx1066_0⟩ := Kd.at_int HR0.out x6_2 p1066 q1066
             obtain rfl : ad1065 = ad1066 := (by injection e1066)
             replace p1066 := eq_true p1066
             replace q1066 := eq_true q1066
             go_wp2
             go_ret
             exact ⟨tf_, dr_⟩
            ·
             rw [if_neg c9] at H
             have c9b0 : ((Int.tmod (wrap64 ((wrap64 ((wrap64 (x6_2 - x11_1)) + (rd l0 x6_2))) - (rd l0 x11_1))) (l0.length : Int)) == 0) = false := beq_eq_false_iff_ne.mpr c9
             have c9b1 : ((Int.tmod (wrap64 ((wrap64 ((wrap64 (x6_2 - x11_1)) + (rd l0 x6_2))) - (rd l0 x11_1))) (l0.length : Int)) != 0) = true := bne_iff_ne.mpr c9
             by_cases c10 : (Int.tmod (wrap64 ((wrap64 ((wrap64 (x6_2 - x11_1)) - (rd l0 x6_2))) + (rd l0 x11_1))) (l0.length : Int)) = 0
             ·
              rw [if_pos c10] at H
              have c10b0 : ((Int.tmod (wrap64 ((wrap64 ((wrap64 (x6_2 - x11_1)) - (rd l0 x6_2))) + (rd l0 x11_1))) (l0.length : Int)) == 0) = true := beq_iff_eq.mpr c10
              have c10b1 : ((Int.tmod (wrap64 ((wrap64 ((wrap64 (x6_2 - x11_1)) - (rd l0 x6_2))) + (rd l0 x11_1))) (l0.length : Int)) != 0) = false := bne_eq_false_iff_eq.mpr c10
              clear c10
              obtain rfl := Option.some.inj H
              have p1066 : 0 ≤ (x6_2 : Int) := od_
              have q1066 : x6_2 < (l0.length : Int) := od_
              obtain ⟨ad1066, e1066, hx1066_0⟩ := Kd.at_int HR0.out x6_2 p1066 q1066
              obtain rfl : ad1065 = ad1066 := (by injection e1066)
              replace p1066 := eq_true p1066
              replace q1066 := eq_true q1066
              have p1067 : 0 ≤ (x6_2 : Int) := od_
              have q1067 : x6_2 < (l0.length : Int) := od_
              obtain ⟨ad1067, e1067, hx1067_0⟩ := Kd.at_int HR0.out x6_2 p1067 q1067
              obtain rfl : ad1065 = ad1067 := (by injection e1067)
              replace p1067 := eq_true p1067
              replace q1067 := eq_true q1067
              go_wp2
              go_ret
              exact ⟨tf_, dr_⟩
             ·
              rw [if_neg c10] at H
              have c10b0 : ((Int.tmod (wrap64 ((wrap64 ((wrap64 (x6_2 - x11_1)) - (rd l0 x6_2))) + (rd l0 x11_1))) (l0.length : Int)) == 0) = false := beq_eq_false_iff_ne.mpr c10
              have c10b1 : ((Int.tmod (wrap64 ((wrap64 ((wrap64 (x6_2 - x11_1)) - (rd l0 x6_2))) + (rd l0 x11_1))) (l0.length : Int)) != 0) = true := bne_iff_ne.mpr c10
              have H' := A_ H
              clear H
              have p1066 : 0 ≤ (x6_2 : Int) := od_
              have q1066 : x6_2 < (l0.length : Int) := od_
              obtain ⟨ad1066, e1066, hx1066_0⟩ := Kd.at_int HR0.out x6_2 p1066 q1066
              obtain rfl : ad1065 = ad1066 := (by injection e1066)
              replace p1066 := eq_true p1066
              replace q1066 := eq_true q1066
              have p1067 : 0 ≤ (x6_2 : Int) := od_
              have q1067 : x6_2 < (l0.length : Int) := od_
              obtain ⟨ad1067, e1067, hx1067_0⟩ := Kd.at_int HR0.out x6_2 p1067 q1067
              obtain rfl : ad1065 = ad1067 := (by injection e1067)
              replace p1067 := eq_true p1067
              replace q1067 := eq_true q1067
              go_wp2
              go_roundg k2
              case measure => have := HK1.out; have := HK2.out; omega
              case rel => exact ⟨(wrap64 (x6_2 + 1)), tf_, H', ⟨by have := HK1.out; have := HK2.out; omega⟩, dr_⟩
          ·
           rw [if_neg c7] at H
           exact absurd H (by simp)
         ·
          rw [if_neg c6] at H
          exact absurd H (by simp)
        ·
         rw [if_neg c5] at H
         have c5b0 := decide_eq_false c5
         clear c5
         have H' := A_ H
         clear H
         go_wp2
         go_roundg k2
         case measure => have := HK1.out; have := HK2.out; omega
         case rel => exact ⟨(wrap64 (x11_1 + 1)), tf_, H', ⟨by have := HK1.out; have := HK2.out; omega⟩, dr_⟩
     ·
      rw [if_neg c4] at H
      exact absurd H (by simp)
    ·
     rw [if_neg c3] at H
     exact absurd H (by simp)
   ·
    rw [if_neg c2] at H
    have c2b0 := decide_eq_false c2
    clear c2
    obtain rfl := Option.some.inj H
    go_wp2
    go_ret
    exact ⟨tf_, dr_⟩

/-! ### spec_CountOnTorus: function 61 -/
def spec_CountOnTorus.l0 : Nat → Int → List (List Int) → Int → Int → Option (Int × Bool)
 | 0, _, _, _, _ => none
 | k + 1, x4, x11, x12, x13 => if x13 < x12 then (if 0 ≤ x13 then (if x13 < (x11.length : Int) then ((spec_quTorus.f k (rd_L1 x11 x13)).bind fun t1073 => (if t1073 = true then (spec_CountOnTorus.l0 k (wrap64 (x4 + 1)) x11 x12 (wrap64 (x13 + 1))) else (spec_CountOnTorus.l0 k x4 x11 x12 (wrap64 (x13 + 1))))) else (none)) else (none)) else (some (x4, true))
def spec_CountOnTorus.f (k : Nat) (a0 : Int) : Option (Int × Bool) := (spec_quSide.f a0).bind fun t1068 => (if t1068 = true then ((spec_quAll.f k a0 ([] : List Int)).bind fun t1069 => (spec_CountOnTorus.l0 k 0 t1069 (t1069.length : Int) 0)) else (some (0, false)))
theorem spec_CountOnTorus.mono_l : ∀ k, (∀ y0 y1 y2 y3, LeO (spec_CountOnTorus.l0 k y0 y1 y2 y3) (spec_CountOnTorus.l0 (k + 1) y0 y1 y2 y3))
 | 0 => fun _ _ _ _ r h => by simp [spec_CountOnTorus.l0] at h
 | k + 1 => by
  have ih0 := spec_CountOnTorus.mono_l k
  ·
   intro y0 y1 y2 y3
   unfold spec_CountOnTorus.l0
   repeat' first | (with_reducible first | exact ih0 _ _ _ _ | exact spec_quAll.mono _ _ _ | exact spec_quTorus.mono _ _ | exact LeO.refl _ | exact LeO.none _ | refine LeO.ite ?_ ?_ | refine LeO.bind ?_ (fun _ => ?_)) | exact ih0 _ _ _ _ | exact spec_quAll.mono _ _ _ | exact spec_quTorus.mono _ _ | exact LeO.none _ | refine LeO.ite ?_ ?_ | refine LeO.bind ?_ (fun _ => ?_)
theorem spec_CountOnTorus.mono : ∀ a0 k, LeO (spec_CountOnTorus.f k a0) (spec_CountOnTorus.f (k + 1) a0) := by
 intro a0 k
 have ih0 := spec_CountOnTorus.mono_l k
 unfold spec_CountOnTorus.f
 repeat' first | (with_reducible first | exact ih0 _ _ _ _ | exact spec_quAll.mono _ _ _ | exact spec_quTorus.mono _ _ | exact LeO.refl _ | exact LeO.none _ | refine LeO.ite ?_ ?_ | refine LeO.bind ?_ (fun _ => ?_)) | exact ih0 _ _ _ _ | exact spec_quAll.mono _ _ _ | exact spec_quTorus.mono _ _ | exact LeO.none _ | refine LeO.ite ?_ ?_ | refine LeO.bind ?_ (fun _ => ?_)
theorem spec_CountOnTorus.calls (k : Nat) (a0 : Int) (r1 : Int) (r2 : Bool) (w : World) (h : spec_CountOnTorus.f k a0 = some (r1, r2)) :
  Calls Try.prog 61 #[.int .i64 a0] w fun e w' => e = .returned (.tuple #[.int .i64 r1, .bool r2]) ∧ Below w.heap.size w w' := by
 have HB := A_ (Below.refl w.heap.size w)
 have H : ((spec_quSide.f a0).bind fun t1068 => (if t1068 = true then ((spec_quAll.f k a0 ([] : List Int)).bind fun t1069 => (spec_CountOnTorus.l0 k 0 t1069 (t1069.length : Int) 0)) else (some (0, false)))) = some (r1, r2) := h
 clear h
 replace H := Option.bind_eq_some_iff.mp H
 obtain ⟨t1068, A20, H⟩ := H
 replace H : (if t1068 = true then ((spec_quAll.f k a0 ([] : List Int)).bind fun t1069 => (spec_CountOnTorus.l0 k 0 t1069 (t1069.length : Int) 0)) else (some (0, false))) = some (r1, r2) := H
 have A2 := A_ A20
 clear A20
 by_cases c3 : t1068 = true
 ·
  subst c3
  have H1 : ((spec_quAll.f k a0 ([] : List Int)).bind fun t1069 => (spec_CountOnTorus.l0 k 0 t1069 (t1069.length : Int) 0)) = some (r1, r2) := by rw [if_pos rfl] at H; exact H
  clear H
  have H := H1
  clear H1
  replace H := Option.bind_eq_some_iff.mp H
  obtain ⟨t1069, A40, H⟩ := H
  replace H : (spec_CountOnTorus.l0 k 0 t1069 (t1069.length : Int) 0) = some (r1, r2) := H
  have A4 := A_ A40
  clear A40
  have H' := A_ H
  clear H
  go_enter Try.func61, Try.ntmps61
  go_wp2_with (first | (refine gc_ 167 ?_; refine goesT_ (some 8) Try.func167 #[.int .i64 a0] ?_; (with_reducible refine (spec_quSide.calls a0 true _ A2.out).mono ?_); rintro e w' ⟨rfl, ⟨nd, rfl⟩⟩; refine ⟨_, rfl, ?_⟩) | (refine gc_ 178 ?_; refine goesT_ (some 11) Try.func178 #[.int .i64 a0, .slice none 0 0] ?_; (refine (spec_quAll.calls k a0 _ _ ([] : List Int) t1069 _ ?side1 ?side2 A4.out).mono ?_); (case side1 => exact Kd.C_nil _ _); (case side2 => exact Nat.le_refl _); rintro e w5 ⟨v1070, rfl, ho0, hb⟩; refine ⟨_, rfl, ?_⟩; have HO1071 := A_ (Kd.N_lower (Kd.N_mono (ok' := fun k_ => True) ho0 (fun k_ hk_ => trivial)) (below_size tb_)); replace HB := A_ (below_step tb_ hb); (try clear hb); (try clear ho0); obtain ⟨Ao6, co6, eo6⟩ := Kd.N_slice HO1071.out; subst eo6))
  go_loopg [4, 13] k (fun kq v4 v13 w' => ∃ (x4_1 : Int) (x13_1 : Int), v4 = .int .i64 x4_1 ∧ v13 = .int .i64 x13_1 ∧ Aside0 (spec_CountOnTorus.l0 kq x4_1 t1069 (t1069.length : Int) x13_1 = some (r1, r2)) ∧ Aside0 (kq ≤ k) ∧ Aside0 (Kd.N (Kd.slice 3 (Kd.int .i64)) 22 w' w.heap.size (fun _ => True) (.slice Ao6 t1069.length co6) t1069) ∧ Aside0 (Below w.heap.size w w'))
  case atStart => exact ⟨(0), (0), tf_, tf_, H', ⟨Nat.le_refl _⟩, ⟨by (with_reducible repeat (first | apply Kd.N_alloc | apply Kd.N_drewN | apply Kd.N_drew)); exact HO1071.out⟩, ⟨tb_⟩⟩
  case round =>
   clear H'
   try clear c1
   try clear p2
   try clear c3
   try clear c6
   obtain ⟨x4_1, x13_1, rfl, rfl, HA, HK1, HO_11, HB⟩ := hrel
   cases gk with
   | zero => exact absurd HA.out (by simp [spec_CountOnTorus.l0])
   | succ k1 =>
    have H := HA.out
    clear HA
    simp only [spec_CountOnTorus.l0] at H
    by_cases c7 : x13_1 < (t1069.length : Int)
    ·
     rw [if_pos c7] at H
     have c7b0 := decide_eq_true c7
     clear c7
     by_cases c8 : 0 ≤ x13_1
     ·
      rw [if_pos c8] at H
      have c8b0 := decide_eq_true c8
      clear c8
      by_cases c9 : x13_1 < (t1069.length : Int)
      ·
       rw [if_pos c9] at H
       have c9b0 := decide_eq_true c9
       clear c9
       replace H := Option.bind_eq_some_iff.mp H
       obtain ⟨t1073, A100, H⟩ := H
       replace H : (if t1073 = true then (spec_CountOnTorus.l0 k1 (wrap64 (x4_1 + 1)) t1069 (t1069.length : Int) (wrap64 (x13_1 + 1))) else (spec_CountOnTorus.l0 k1 x4_1 t1069 (t1069.length : Int) (wrap64 (x13_1 + 1)))) = some (r1, r2) := H
       have A10 := A_ A100
       clear A100
       by_cases c11 : t1073 = true
       ·
        subst c11
        have H1 : (spec_CountOnTorus.l0 k1 (wrap64 (x4_1 + 1)) t1069 (t1069.length : Int) (wrap64 (x13_1 + 1))) = some (r1, r2) := by rw [if_pos rfl] at H; exact H
        clear H
        have H := H1
        clear H1
        have H' := A_ H
        clear H
        have p1072 : 0 ≤ (x13_1 : Int) := od_
        have q1072 : x13_1 < (t1069.length : Int) := od_
        obtain ⟨ad1072, A1072_0, c1072_0, e1072, hx1072_0, hl1072_0, hi1072_0⟩ := at_L1 (Kd.N_reads' HO_11.out).2.2 x13_1 p1072 q1072
        cases e1072
        obtain ⟨ce1072, hce1072, hMe1072, hcc1072⟩ := Kd.N_get HO_11.out [] x13_1 p1072 (by first | exact q1072 | exact od_ | (have e_ := (Kd.N_reads' HO_11.out).1; omega))
        obtain ⟨ua1072_0, uc1072_0, rfl, ul1072_0, ge1072_0⟩ := Kd.FK_slice_open hMe1072
        have hv1072_0 := hcc1072 0 _ rfl
        rw [Nat.add_zero, show ((Kd.slice 3 (Kd.int .i64))).sz = 1 from rfl, Nat.mul_one] at hv1072_0
        replace hv1072_0 := Option.some.inj (hv1072_0.symm.trans hx1072_0)
        injection hv1072_0 with hva_ hvn_ hvc_
        rw [hva_] at ge1072_0
        rw [hvc_] at ul1072_0
        have HL1072_0 := A_ (show Kd.V (Kd.int .i64) 3 _ w.heap.size _ _ (rd_L1 t1069 x13_1) from Kd.V_mk ul1072_0 ge1072_0)
        clear hva_ hvn_ hvc_ ge1072_0 ul1072_0
        clear hcc1072 hce1072
        have HR1072_0 := A_ hi1072_0
        have HC1072_0 := A_ hl1072_0
        clear hi1072_0 hl1072_0
        replace p1072 := eq_true p1072
        replace q1072 := eq_true q1072
        go_wp2_with (first | (refine gc_ 179 ?_; refine goesT_ (some 18) Try.func179 #[.slice A1072_0 (rd_L1 t1069 x13_1).length c1072_0] ?_; (with_reducible refine (spec_quTorus.calls k1 _ _ (rd_L1 t1069 x13_1) true _ ?side1 ?side2 A10.out).mono ?_); (case side1 => repeat (first | exact (by repeat (first | (with_reducible exact HR1072_0.out) | (with_reducible refine Kd.C_alloc ?_ _) | (with_reducible refine Kd.C_drewN ?_ _) | (with_reducible refine Kd.C_drew ?_) | exact HR1072_0.out)) | (with_reducible refine Kd.C_alloc ?_ _) | (with_reducible refine Kd.C_drewN ?_ _) | (with_reducible refine Kd.C_drew ?_))); (case side2 => exact HC1072_0.out); rintro e w' ⟨rfl, ⟨nd, rfl⟩⟩; refine ⟨_, rfl, ?_⟩))
        go_roundg k1
        case measure => have := HK1.out; omega
        case rel => exact ⟨(wrap64 (x4_1 + 1)), (wrap64 (x13_1 + 1)), tf_, tf_, H', ⟨by have := HK1.out; omega⟩, ⟨by (with_reducible repeat (first | apply Kd.N_alloc | apply Kd.N_drewN | apply Kd.N_drew)); exact HO_11.out⟩, ⟨tb_⟩⟩
       ·
        replace c11 := Bool.eq_false_iff.mpr c11
        subst c11
        have H1 : (spec_CountOnTorus.l0 k1 x4_1 t1069 (t1069.length : Int) (wrap64 (x13_1 + 1))) = some (r1, r2) := by rw [if_neg (show ¬ (false = true) by decide)] at H; exact H
        clear H
        have H := H1
        clear H1
        have H' := A_ H
        clear H
        have p1072 : 0 ≤ (x13_1 : Int) := od_
        have q1072 : x13_1 < (t1069.length : Int) := od_
        obtain ⟨ad1072, A1072_0, c1072_0, e1072, hx1072_0, hl1072_0, hi1072_0⟩ := at_L1 (Kd.N_reads' HO_11.out).2.2 x13_1 p1072 q1072
        cases e1072
        obtain ⟨ce1072, hce1072, hMe1072, hcc1072⟩ := Kd.N_get HO_11.out [] x13_1 p1072 (by first | exact q1072 | exact od_ | (have e_ := (Kd.N_reads' HO_11.out).1; omega))
        obtain ⟨ua1072_0, uc1072_0, rfl, ul1072_0, ge1072_0⟩ := Kd.FK_slice_open hMe1072
        have hv1072_0 := hcc1072 0 _ rfl
        rw [Nat.add_zero, show ((Kd.slice 3 (Kd.int .i64))).sz = 1 from rfl, Nat.mul_one] at hv1072_0
        replace hv1072_0 := Option.some.inj (hv1072_0.symm.trans hx1072_0)
        injection hv1072_0 with hva_ hvn_ hvc_
        rw [hva_] at ge1072_0
        rw [hvc_] at ul1072_0
        have HL1072_0 := A_ (show Kd.V (Kd.int .i64) 3 _ w.heap.size _ _ (rd_L1 t1069 x13_1) from Kd.V_mk ul1072_0 ge1072_0)
        clear hva_ hvn_ hvc_ ge1072_0 ul1072_0
        clear hcc1072 hce1072
        have HR1072_0 := A_ hi1072_0
        have HC1072_0 := A_ hl1072_0
        clear hi1072_0 hl1072_0
        replace p1072 := eq_true p1072
        replace q1072 := eq_true q1072
        go_wp2_with (first | (refine gc_ 179 ?_; refine goesT_ (some 18) Try.func179 #[.slice A1072_0 (rd_L1 t1069 x13_1).length c1072_0] ?_; (with_reducible refine (spec_quTorus.calls k1 _ _ (rd_L1 t1069 x13_1) false _ ?side1 ?side2 A10.out).mono ?_); (case side1 => repeat (first | exact (by repeat (first | (with_reducible exact HR1072_0.out) | (with_reducible refine Kd.C_alloc ?_ _) | (with_reducible refine Kd.C_drewN ?_ _) | (with_reducible refine Kd.C_drew ?_) | exact HR1072_0.out)) | (with_reducible refine Kd.C_alloc ?_ _) | (with_reducible refine Kd.C_drewN ?_ _) | (with_reducible refine Kd.C_drew ?_))); (case side2 => exact HC1072_0.out); rintro e w' ⟨rfl, ⟨nd, rfl⟩⟩; refine ⟨_, rfl, ?_⟩))
        go_roundg k1
        case measure => have := HK1.out; omega
        case rel => exact ⟨(x4_1), (wrap64 (x13_1 + 1)), tf_, tf_, H', ⟨by have := HK1.out; omega⟩, ⟨by (with_reducible repeat (first | apply Kd.N_alloc | apply Kd.N_drewN | apply Kd.N_drew)); exact HO_11.out⟩, ⟨tb_⟩⟩
      ·
       rw [if_neg c9] at H
       exact absurd H (by simp)
     ·
      rw [if_neg c8] at H
      exact absurd H (by simp)
    ·
     rw [if_neg c7] at H
     have c7b0 := decide_eq_false c7
     clear c7
     simp only [Option.some.injEq, Prod.mk.injEq] at H
     obtain ⟨rfl, rfl⟩ := H
     go_wp2
     go_ret2
     exact ⟨te_, tb_⟩
 ·
  replace c3 := Bool.eq_false_iff.mpr c3
  subst c3
  have H1 : (some (0, false)) = some (r1, r2) := by rw [if_neg (show ¬ (false = true) by decide)] at H; exact H
  clear H
  have H := H1
  clear H1
  simp only [Option.some.injEq, Prod.mk.injEq] at H
  obtain ⟨rfl, rfl⟩ := H
  go_enter Try.func61, Try.ntmps61
  go_wp2_with (first | (refine gc_ 167 ?_; refine goesT_ (some 8) Try.func167 #[.int .i64 a0] ?_; (with_reducible refine (spec_quSide.calls a0 false _ A2.out).mono ?_); rintro e w' ⟨rfl, ⟨nd, rfl⟩⟩; refine ⟨_, rfl, ?_⟩))
  go_ret2
  exact ⟨te_, tb_⟩

/-! ### spec_DrawStraightQueens: function 62 -/
def spec_DrawStraightQueens.f (l0 : List Int) : Option (Int × Int) := (spec_l1Cur_among.f l0 0 0 (([1, 2, 4, 5, 6, 7, 8, 9, 0] : List Int))).bind fun bt1078 => ((spec_l1Cur_among.f l0 bt1078.2.1 bt1078.2.2 (([0, 1, 2, 3, 5, 7, (-1)] : List Int))).bind fun bt1084 => (some (bt1078.1, bt1084.1)))
theorem spec_DrawStraightQueens.calls (A0 : Option Addr) (c0 : Nat) (l0 : List Int) (r1 : Int) (r2 : Int) (w : World) (hr0 : Kd.C (Kd.int .u8) w A0 l0.length l0) (hc0 : l0.length ≤ c0) (h : spec_DrawStraightQueens.f l0 = some (r1, r2)) :
  Calls Try.prog 62 #[.slice A0 l0.length c0] w fun e w' => e = .returned (.tuple #[.int .i64 r1, .int .i64 r2]) ∧ Below w.heap.size w w' := by
 have hu122 := Try.underlying122
 have HR0 := A_ hr0
 have HC0 := A_ hc0
 clear hr0 hc0
 have HB := A_ (Below.refl w.heap.size w)
 have H : ((spec_l1Cur_among.f l0 0 0 (([1, 2, 4, 5, 6, 7, 8, 9, 0] : List Int))).bind fun bt1078 => ((spec_l1Cur_among.f l0 bt1078.2.1 bt1078.2.2 (([0, 1, 2, 3, 5, 7, (-1)] : List Int))).bind fun bt1084 => (some (bt1078.1, bt1084.1)))) = some (r1, r2) := h
 clear h
 obtain ⟨y1075, hy1075⟩ : ∃ y_ : List Int, y_ = (([1, 2, 4, 5, 6, 7, 8, 9, 0] : List Int)) := ⟨_, rfl⟩
 replace H : ((spec_l1Cur_among.f l0 0 0 y1075).bind fun bt1078 => ((spec_l1Cur_among.f l0 bt1078.2.1 bt1078.2.2 (([0, 1, 2, 3, 5, 7, (-1)] : List Int))).bind fun bt1084 => (some (bt1078.1, bt1084.1)))) = some (r1, r2) := ty_ hy1075 H
 have Ny1075 := A_ hy1075
 clear hy1075
 replace H := Option.bind_eq_some_iff.mp H
 obtain ⟨⟨t1078, t1079, t1080⟩, A20, H⟩ := H
 replace H : ((spec_l1Cur_among.f l0 t1079 t1080 (([0, 1, 2, 3, 5, 7, (-1)] : List Int))).bind fun bt1084 => (some (t1078, bt1084.1))) = some (r1, r2) := H
 have A2 := A_ A20
 clear A20
 obtain ⟨y1081, hy1081⟩ : ∃ y_ : List Int, y_ = (([0, 1, 2, 3, 5, 7, (-1)] : List Int)) := ⟨_, rfl⟩
 replace H : ((spec_l1Cur_among.f l0 t1079 t1080 y1081).bind fun bt1084 => (some (t1078, bt1084.1))) = some (r1, r2) := ty_ hy1081 H
 have Ny1081 := A_ hy1081
 clear hy1081
 replace H := Option.bind_eq_some_iff.mp H
 obtain ⟨⟨t1084, t1085, t1086⟩, A30, H⟩ := H
 replace H : (some (t1078, t1084)) = some (r1, r2) := H
 have A3 := A_ A30
 clear A30
 simp only [Option.some.injEq, Prod.mk.injEq] at H
 obtain ⟨rfl, rfl⟩ := H
 go_enter Try.func62, Try.ntmps62
 go_wp2_with (first | (refine gd_ 7 ?_; refine bx_ 7 #[.slice A0 l0.length c0, .int .i64 0, .int .u64 0] 122 ?_; intro gb1074 hg w4 hbox hb; have HI1074 := A_ ((⟨_, _, hbox, (by rw [hg]; exact (below_size tb_)), HR0.out⟩ : IsS122 w w4 gb1074 l0 0 0)); replace HB := A_ (below_step tb_ hb); clear hb hbox hg) | (refine gd_ 9 ?_; refine Kd.R_lit (Kd.int .i64) _ 3 ?hg (N := 9) ?hd (xs := ([1, 2, 4, 5, 6, 7, 8, 9, 0] : List Int)) (inner := [.int .i64 1, .int .i64 2, .int .i64 4, .int .i64 5, .int .i64 6, .int .i64 7, .int .i64 8, .int .i64 9, .int .i64 0]) (ok := fun _ => True) (okp := fun _ => True) ?hr ?hp (fun _ hk => hk) trivial (Below.refl _ _) (Nat.le_refl _) (by simp) ?_; (case hd => rfl); (case hg => rfl); (case hr => first | (go_simp; done) | (go_simp; rfl)); (case hp => exact (Reps.one (show Kd.M (Kd.int .i64) _ _ _ 1 [.int .i64 1] from rfl) (Reps.one (show Kd.M (Kd.int .i64) _ _ _ 2 [.int .i64 2] from rfl) (Reps.one (show Kd.M (Kd.int .i64) _ _ _ 4 [.int .i64 4] from rfl) (Reps.one (show Kd.M (Kd.int .i64) _ _ _ 5 [.int .i64 5] from rfl) (Reps.one (show Kd.M (Kd.int .i64) _ _ _ 6 [.int .i64 6] from rfl) (Reps.one (show Kd.M (Kd.int .i64) _ _ _ 7 [.int .i64 7] from rfl) (Reps.one (show Kd.M (Kd.int .i64) _ _ _ 8 [.int .i64 8] from rfl) (Reps.one (show Kd.M (Kd.int .i64) _ _ _ 9 [.int .i64 9] from rfl) (Reps.one (show Kd.M (Kd.int .i64) _ _ _ 0 [.int .i64 0] from rfl) (Reps.none _ _))))))))))); intro v1076 w5 ho6 hb hg_ hnew_; clear hg_ hnew_; (first | rw [← Ny1075.out] at ho6 | (simp only [Int.reduceToNat] at ho6; rw [← Ny1075.out] at ho6)); have HO1077 := A_ (Kd.R_lower ho6 (below_size (by repeat (first | (with_reducible first | exact HB.out | apply below_alloc | apply pw_below_drewN | apply below_drew1 | refine below_set ?_ (IsS122.ge HI1074.out)) | exact HB.out)))); replace HB := A_ (below_step (by repeat (first | (with_reducible first | exact HB.out | apply below_alloc | apply pw_below_drewN | apply below_drew1 | refine below_set ?_ (IsS122.ge HI1074.out)) | exact HB.out)) hb); replace HI1074 := A_ (IsS122.below (by repeat (first | (with_reducible first | exact HI1074.out | apply IsS122.alloc | apply IsS122.drewN | apply IsS122.drew | apply IsS122.set_1 | apply IsS122.set_2) | exact HI1074.out)) hb); clear hb ho6; obtain ⟨Ao7, co7, eo7⟩ := Kd.R_slice HO1077.out; subst eo7) | (refine gc_ 160 ?_; refine goesT_ (some 10) Try.func160 #[.pointer (some ⟨gb1074, 0, none⟩), .slice Ao7 y1075.length co7] ?_; (with_reducible refine (spec_l1Cur_among.calls gb1074 l0 0 0 _ _ y1075 t1078 t1079 t1080 w _ ?side1 ?side2 ?side3 ?side4 ?side5 A2.out).mono ?_); (case side1 => repeat (first | (with_reducible first | exact HI1074.out | apply IsS122.alloc | apply IsS122.drewN | apply IsS122.drew | apply IsS122.set_1 | apply IsS122.set_2) | exact HI1074.out)); (case side2 => repeat (first | (with_reducible first | exact HB.out | apply below_alloc | apply pw_below_drewN | apply below_drew1 | refine below_set ?_ (IsS122.ge HI1074.out)) | exact HB.out)); (case side3 => exact tc0_ (Kd.R_reads' HO1077.out).2.2); (case side4 => exact (Kd.R_reads' HO1077.out).2.1); (case side5 => exact far_slice (IsS122.own_ne HI1074.out HO1077.out (by decide))); rintro e w8 ⟨rfl, hi, hb, hk⟩; refine ⟨_, rfl, ?_⟩; replace HO1077 := A_ (Kd.R_mono (Kd.R_keep (IsS122.apart (show IsS122 w _ gb1074 l0 0 0 from by repeat (first | (with_reducible first | exact HI1074.out | apply IsS122.alloc | apply IsS122.drewN | apply IsS122.drew | apply IsS122.set_1 | apply IsS122.set_2) | exact HI1074.out)) (tr_x HO1077.out) (by decide)) hk (fun _ h => h.2)) (fun _ h => h.1)); replace HB := A_ (hb); replace HI1074 := A_ (hi); (try clear hb); (try clear hb2); (try clear hk); (try clear hi)) | (refine gd_ 12 ?_; refine Kd.R_lit (Kd.int .i64) _ 3 ?hg (N := 12) ?hd (xs := ([0, 1, 2, 3, 5, 7, (-1)] : List Int)) (inner := [.int .i64 0, .int .i64 1, .int .i64 2, .int .i64 3, .int .i64 5, .int .i64 7, .int .i64 (-1)]) (ok := fun _ => True) (okp := fun _ => True) ?hr ?hp (fun _ hk => hk) trivial (Below.refl _ _) (Nat.le_refl _) (by simp) ?_; (case hd => rfl); (case hg => rfl); (case hr => first | (go_simp; done) | (go_simp; rfl)); (case hp => exact (Reps.one (show Kd.M (Kd.int .i64) _ _ _ 0 [.int .i64 0] from rfl) (Reps.one (show Kd.M (Kd.int .i64) _ _ _ 1 [.int .i64 1] from rfl) (Reps.one (show Kd.M (Kd.int .i64) _ _ _ 2 [.int .i64 2] from rfl) (Reps.one (show Kd.M (Kd.int .i64) _ _ _ 3 [.int .i64 3] from rfl) (Reps.one (show Kd.M (Kd.int .i64) _ _ _ 5 [.int .i64 5] from rfl) (Reps.one (show Kd.M (Kd.int .i64) _ _ _ 7 [.int .i64 7] from rfl) (Reps.one (show Kd.M (Kd.int .i64) _ _ _ (-1) [.int .i64 (-1)] from rfl) (Reps.none _ _))))))))); intro v1082 w9 ho10 hb hg_ hnew_; clear hg_ hnew_; (first | rw [← Ny1081.out] at ho10 | (simp only [Int.reduceToNat] at ho10; rw [← Ny1081.out] at ho10)); have HO1083 := A_ (Kd.R_lower (Kd.R_new' ho10 (Kd.R_lt (tr_x HO1077.out))) (below_size (by repeat (first | (with_reducible first | exact HB.out | apply below_alloc | apply pw_below_drewN | apply below_drew1 | refine below_set ?_ (IsS122.ge HI1074.out)) | exact HB.out)))); replace HO1077 := A_ (Kd.R_elder' (tr_x HO1077.out) (Kd.R_base ho10) hb); replace HB := A_ (below_step (by repeat (first | (with_reducible first | exact HB.out | apply below_alloc | apply pw_below_drewN | apply below_drew1 | refine below_set ?_ (IsS122.ge HI1074.out)) | exact HB.out)) hb); replace HI1074 := A_ (IsS122.below (by repeat (first | (with_reducible first | exact HI1074.out | apply IsS122.alloc | apply IsS122.drewN | apply IsS122.drew | apply IsS122.set_1 | apply IsS122.set_2) | exact HI1074.out)) hb); clear hb ho10; obtain ⟨Ao11, co11, eo11⟩ := Kd.R_slice HO1083.out; subst eo11) | (refine gc_ 160 ?_; refine goesT_ (some 13) Try.func160 #[.pointer (some ⟨gb1074, 0, none⟩), .slice Ao11 y1081.length co11] ?_; (with_reducible refine (spec_l1Cur_among.calls gb1074 l0 t1079 t1080 _ _ y1081 t1084 t1085 t1086 w _ ?side1 ?side2 ?side3 ?side4 ?side5 A3.out).mono ?_); (case side1 => repeat (first | (with_reducible first | exact HI1074.out | apply IsS122.alloc | apply IsS122.drewN | apply IsS122.drew | apply IsS122.set_1 | apply IsS122.set_2) | exact HI1074.out)); (case side2 => repeat (first | (with_reducible first | exact HB.out | apply below_alloc | apply pw_below_drewN | apply below_drew1 | refine below_set ?_ (IsS122.ge HI1074.out)) | exact HB.out)); (case side3 => exact tc0_ (Kd.R_reads' HO1083.out).2.2); (case side4 => exact (Kd.R_reads' HO1083.out).2.1); (case side5 => exact far_slice (IsS122.own_ne HI1074.out HO1083.out (by decide))); rintro e w12 ⟨rfl, hi, hb, hk⟩; refine ⟨_, rfl, ?_⟩; replace HO1077 := A_ (Kd.R_mono (Kd.R_keep (IsS122.apart (show IsS122 w _ gb1074 l0 t1079 t1080 from by repeat (first | (with_reducible first | exact HI1074.out | apply IsS122.alloc | apply IsS122.drewN | apply IsS122.drew | apply IsS122.set_1 | apply IsS122.set_2) | exact HI1074.out)) (tr_x HO1077.out) (by decide)) hk (fun _ h => h.2)) (fun _ h => h.1)); replace HO1083 := A_ (Kd.R_mono (Kd.R_keep (IsS122.apart (show IsS122 w _ gb1074 l0 t1079 t1080 from by repeat (first | (with_reducible first | exact HI1074.out | apply IsS122.alloc | apply IsS122.drewN | apply IsS122.drew | apply IsS122.set_1 | apply IsS122.set_2) | exact HI1074.out)) (tr_x HO1083.out) (by decide)) hk (fun _ h => h.2)) (fun _ h => h.1)); replace HB := A_ (hb); replace HI1074 := A_ (hi); (try clear hb); (try clear hb2); (try clear hk); (try clear hi)))
 go_ret2
 exact ⟨te_, by repeat (first | (with_reducible first | exact HB.out | apply below_alloc | apply pw_below_drewN | apply below_drew1 | refine below_set ?_ (IsS122.ge HI1074.out)) | exact HB.out)⟩

end
end Go.Proofs.Ytnpacpdpgngdpaa.P
