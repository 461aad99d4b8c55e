-- printed functions (wip/slim.py)
import Derived.Test.YthlcaikplebpmaaPx0
import Derived.Test.YthlcaikplebpmaaQ189f40801e
import Derived.Test.YthlcaikplebpmaaQ51a4843c15
import Derived.Test.YthlcaikplebpmaaQ1e97019e3e
import Derived.Test.YthlcaikplebpmaaQ12fa181597
import Derived.Test.YthlcaikplebpmaaQ49fe55b005
import Derived.Test.YthlcaikplebpmaaQ9d9c7c2b41
import Derived.Test.YthlcaikplebpmaaQe801c6b909
import Derived.Test.YthlcaikplebpmaaQb30a44e1d8
namespace Go.Proofs.Ythlcaikplebpmaa.P
noncomputable section
set_option maxHeartbeats 8000000
set_option maxRecDepth 100000
open Go.RowKit Go.Proofs.YthlcaikplebpmaaW.PrintWords Go.Proofs.YthlcaikplebpmaaW.PrintLast Go.Proofs.YthlcaikplebpmaaW.PrintMore
attribute [local go_sem] max2_int min2_int max_two min_two max_three min_three max_four min_four   -- for this text's walks alone
set_option linter.unusedVariables false
set_option linter.unusedSimpArgs false

/-! ### impl_FilesOfCycles: function 70 -/
mutual
def impl_FilesOfCycles.l0 : Nat → List Int → List (List Int) → Int → Int → Option (List Int × Bool)
 | 0, _, _, _, _ => none
 | k + 1, x4, x17, x18, x19 => if x19 < x18 then (if 0 ≤ x19 then (if x19 < (x17.length : Int) then (impl_FilesOfCycles.l1 k x4 (rd_L1 x17 x19) x17 x18 x19 (rd_L1 x17 x19) ((rd_L1 x17 x19).length : Int) 0) else (none)) else (none)) else (some (x4, true))
def impl_FilesOfCycles.l1 : Nat → List Int → List Int → List (List Int) → Int → Int → List Int → Int → Int → Option (List Int × Bool)
 | 0, _, _, _, _, _, _, _, _ => none
 | k + 1, x4, x6, x17, x18, x19, x23, x24, x25 => if x25 < x24 then (if 0 ≤ x25 then (if x25 < (x23.length : Int) then (impl_FilesOfCycles.l2 k x4 x6 (rd x23 x25) (wrap64 (x25 - 1)) x17 x18 x19 x23 x24 x25) else (none)) else (none)) else (impl_FilesOfCycles.l0 k x4 x17 x18 (wrap64 (x19 + 1)))
def impl_FilesOfCycles.l2 : Nat → List Int → List Int → Int → Int → List (List Int) → Int → Int → List Int → Int → Int → Option (List Int × Bool)
 | 0, _, _, _, _, _, _, _, _, _, _ => none
 | k + 1, x4, x6, x8, x9, x17, x18, x19, x23, x24, x25 => if x9 ≥ 0 then (if 0 ≤ x8 then (if x8 < (x4.length : Int) then (impl_FilesOfCycles.j3 k x4 x6 x8 x9 x17 x18 x19 x23 x24 x25 ((rd x4 x8) == (-1))) else (none)) else (none)) else (impl_FilesOfCycles.j3 k x4 x6 x8 x9 x17 x18 x19 x23 x24 x25 false)
def impl_FilesOfCycles.j3 : Nat → List Int → List Int → Int → Int → List (List Int) → Int → Int → List Int → Int → Int → Bool → Option (List Int × Bool)
 | 0, _, _, _, _, _, _, _, _, _, _, _ => none
 | k + 1, x4, x6, x8, x9, x17, x18, x19, x23, x24, x25, x40 => if x40 = true then (if 0 ≤ x9 then (if x9 < (x6.length : Int) then (if (rd x6 x9) < x8 then (if 0 ≤ x8 then (if x8 < (x4.length : Int) then (impl_FilesOfCycles.l2 k (x4.set (x8 : Int).toNat (rd x6 x9)) x6 x8 (wrap64 (x9 - 1)) x17 x18 x19 x23 x24 x25) else (none)) else (none)) else (impl_FilesOfCycles.l2 k x4 x6 x8 (wrap64 (x9 - 1)) x17 x18 x19 x23 x24 x25)) else (none)) else (none)) else (impl_FilesOfCycles.l1 k x4 x6 x17 x18 x19 x23 x24 (wrap64 (x25 + 1)))
end
def impl_FilesOfCycles.f (k : Nat) (l0 : List (List Int)) : Option (List Int × Bool) := (impl_areBlocks.f k l0 false).bind fun t1320 => (if t1320 = true then ((impl_size.f k l0).bind fun t1324 => ((slices_Repeat_int_int.f (([(-1)] : List Int)) t1324).bind fun t1325 => (impl_FilesOfCycles.l0 k t1325 l0 (l0.length : Int) 0))) else (some (([] : List Int), false)))
theorem impl_FilesOfCycles.mono_l : ∀ k, (∀ y0 y1 y2 y3, LeO (impl_FilesOfCycles.l0 k y0 y1 y2 y3) (impl_FilesOfCycles.l0 (k + 1) y0 y1 y2 y3)) ∧ (∀ y0 y1 y2 y3 y4 y5 y6 y7, LeO (impl_FilesOfCycles.l1 k y0 y1 y2 y3 y4 y5 y6 y7) (impl_FilesOfCycles.l1 (k + 1) y0 y1 y2 y3 y4 y5 y6 y7)) ∧ (∀ y0 y1 y2 y3 y4 y5 y6 y7 y8 y9, LeO (impl_FilesOfCycles.l2 k y0 y1 y2 y3 y4 y5 y6 y7 y8 y9) (impl_FilesOfCycles.l2 (k + 1) y0 y1 y2 y3 y4 y5 y6 y7 y8 y9)) ∧ (∀ y0 y1 y2 y3 y4 y5 y6 y7 y8 y9 y10, LeO (impl_FilesOfCycles.j3 k y0 y1 y2 y3 y4 y5 y6 y7 y8 y9 y10) (impl_FilesOfCycles.j3 (k + 1) y0 y1 y2 y3 y4 y5 y6 y7 y8 y9 y10))
 | 0 => ⟨fun _ _ _ _ r h => by simp [impl_FilesOfCycles.l0] at h, fun _ _ _ _ _ _ _ _ r h => by simp [impl_FilesOfCycles.l1] at h, fun _ _ _ _ _ _ _ _ _ _ r h => by simp [impl_FilesOfCycles.l2] at h, fun _ _ _ _ _ _ _ _ _ _ _ r h => by simp [impl_FilesOfCycles.j3] at h⟩
 | k + 1 => by
  obtain ⟨ih0, ih1, ih2, ih3⟩ := impl_FilesOfCycles.mono_l k
  refine ⟨?_, ?_, ?_, ?_⟩
  ·
   intro y0 y1 y2 y3
   unfold impl_FilesOfCycles.l0
   repeat' first | (with_reducible first | exact ih0 _ _ _ _ | exact ih1 _ _ _ _ _ _ _ _ | exact ih2 _ _ _ _ _ _ _ _ _ _ | exact ih3 _ _ _ _ _ _ _ _ _ _ _ | exact impl_areBlocks.mono _ _ _ | exact impl_size.mono _ _ | exact LeO.refl _ | exact LeO.none _ | refine LeO.ite ?_ ?_ | refine LeO.bind ?_ (fun _ => ?_)) | exact ih0 _ _ _ _ | exact ih1 _ _ _ _ _ _ _ _ | exact ih2 _ _ _ _ _ _ _ _ _ _ | exact ih3 _ _ _ _ _ _ _ _ _ _ _ | exact impl_areBlocks.mono _ _ _ | exact impl_size.mono _ _ | exact LeO.none _ | refine LeO.ite ?_ ?_ | refine LeO.bind ?_ (fun _ => ?_)
  ·
   intro y0 y1 y2 y3 y4 y5 y6 y7
   unfold impl_FilesOfCycles.l1
   repeat' first | (with_reducible first | exact ih0 _ _ _ _ | exact ih1 _ _ _ _ _ _ _ _ | exact ih2 _ _ _ _ _ _ _ _ _ _ | exact ih3 _ _ _ _ _ _ _ _ _ _ _ | exact impl_areBlocks.mono _ _ _ | exact impl_size.mono _ _ | exact LeO.refl _ | exact LeO.none _ | refine LeO.ite ?_ ?_ | refine LeO.bind ?_ (fun _ => ?_)) | exact ih0 _ _ _ _ | exact ih1 _ _ _ _ _ _ _ _ | exact ih2 _ _ _ _ _ _ _ _ _ _ | exact ih3 _ _ _ _ _ _ _ _ _ _ _ | exact impl_areBlocks.mono _ _ _ | exact impl_size.mono _ _ | exact LeO.none _ | refine LeO.ite ?_ ?_ | refine LeO.bind ?_ (fun _ => ?_)
  ·
   intro y0 y1 y2 y3 y4 y5 y6 y7 y8 y9
   unfold impl_FilesOfCycles.l2
   repeat' first | (with_reducible first | exact ih0 _ _ _ _ | exact ih1 _ _ _ _ _ _ _ _ | exact ih2 _ _ _ _ _ _ _ _ _ _ | exact ih3 _ _ _ _ _ _ _ _ _ _ _ | exact impl_areBlocks.mono _ _ _ | exact impl_size.mono _ _ | exact LeO.refl _ | exact LeO.none _ | refine LeO.ite ?_ ?_ | refine LeO.bind ?_ (fun _ => ?_)) | exact ih0 _ _ _ _ | exact ih1 _ _ _ _ _ _ _ _ | exact ih2 _ _ _ _ _ _ _ _ _ _ | exact ih3 _ _ _ _ _ _ _ _ _ _ _ | exact impl_areBlocks.mono _ _ _ | exact impl_size.mono _ _ | exact LeO.none _ | refine LeO.ite ?_ ?_ | refine LeO.bind ?_ (fun _ => ?_)
  ·
   intro y0 y1 y2 y3 y4 y5 y6 y7 y8 y9 y10
   unfold impl_FilesOfCycles.j3
   repeat' first | (with_reducible first | exact ih0 _ _ _ _ | exact ih1 _ _ _ _ _ _ _ _ | exact ih2 _ _ _ _ _ _ _ _ _ _ | exact ih3 _ _ _ _ _ _ _ _ _ _ _ | exact impl_areBlocks.mono _ _ _ | exact impl_size.mono _ _ | exact LeO.refl _ | exact LeO.none _ | refine LeO.ite ?_ ?_ | refine LeO.bind ?_ (fun _ => ?_)) | exact ih0 _ _ _ _ | exact ih1 _ _ _ _ _ _ _ _ | exact ih2 _ _ _ _ _ _ _ _ _ _ | exact ih3 _ _ _ _ _ _ _ _ _ _ _ | exact impl_areBlocks.mono _ _ _ | exact impl_size.mono _ _ | exact LeO.none _ | refine LeO.ite ?_ ?_ | refine LeO.bind ?_ (fun _ => ?_)
theorem impl_FilesOfCycles.mono : ∀ a0 k, LeO (impl_FilesOfCycles.f k a0) (impl_FilesOfCycles.f (k + 1) a0) := by
 intro a0 k
 obtain ⟨ih0, ih1, ih2, ih3⟩ := impl_FilesOfCycles.mono_l k
 unfold impl_FilesOfCycles.f
 repeat' first | (with_reducible first | exact ih0 _ _ _ _ | exact ih1 _ _ _ _ _ _ _ _ | exact ih2 _ _ _ _ _ _ _ _ _ _ | exact ih3 _ _ _ _ _ _ _ _ _ _ _ | exact impl_areBlocks.mono _ _ _ | exact impl_size.mono _ _ | exact LeO.refl _ | exact LeO.none _ | refine LeO.ite ?_ ?_ | refine LeO.bind ?_ (fun _ => ?_)) | exact ih0 _ _ _ _ | exact ih1 _ _ _ _ _ _ _ _ | exact ih2 _ _ _ _ _ _ _ _ _ _ | exact ih3 _ _ _ _ _ _ _ _ _ _ _ | exact impl_areBlocks.mono _ _ _ | exact impl_size.mono _ _ | exact LeO.none _ | refine LeO.ite ?_ ?_ | refine LeO.bind ?_ (fun _ => ?_)
theorem impl_FilesOfCycles.calls (k : Nat) (A0 : Option Addr) (c0 : Nat) (l0 : List (List Int)) (r1 : List Int) (r2 : Bool) (w : World) (hr0 : Kd.C (Kd.slice 3 (Kd.int .i64)) w A0 l0.length l0) (hc0 : l0.length ≤ c0) (h : impl_FilesOfCycles.f k l0 = some (r1, r2)) :
  Calls Try.prog 70 #[.slice A0 l0.length c0] w fun e w' => ∃ v0_ : Value, e = .returned (.tuple #[v0_, .bool r2]) ∧ Kd.R (Kd.int .i64) 3 w' w.heap.size (fun _ => True) v0_ r1 ∧ Below w.heap.size w w' := by
 have HR0 := A_ hr0
 have HC0 := A_ hc0
 clear hr0 hc0
 have HB := A_ (Below.refl w.heap.size w)
 have H : ((impl_areBlocks.f k l0 false).bind fun t1320 => (if t1320 = true then ((impl_size.f k l0).bind fun t1324 => ((slices_Repeat_int_int.f (([(-1)] : List Int)) t1324).bind fun t1325 => (impl_FilesOfCycles.l0 k t1325 l0 (l0.length : Int) 0))) else (some (([] : List Int), false)))) = some (r1, r2) := h
 clear h
 replace H := Option.bind_eq_some_iff.mp H
 obtain ⟨t1320, A20, H⟩ := H
 replace H : (if t1320 = true then ((impl_size.f k l0).bind fun t1324 => ((slices_Repeat_int_int.f (([(-1)] : List Int)) t1324).bind fun t1325 => (impl_FilesOfCycles.l0 k t1325 l0 (l0.length : Int) 0))) else (some (([] : List Int), false))) = some (r1, r2) := H
 have A2 := A_ A20
 clear A20
 by_cases c3 : t1320 = true
 ·
  subst c3
  have H1 : ((impl_size.f k l0).bind fun t1324 => ((slices_Repeat_int_int.f (([(-1)] : List Int)) t1324).bind fun t1325 => (impl_FilesOfCycles.l0 k t1325 l0 (l0.length : Int) 0))) = some (r1, r2) := by rw [if_pos rfl] at H; exact H
  clear H
  have H := H1
  clear H1
  obtain ⟨y1321, hy1321⟩ : ∃ y_ : List Int, y_ = (([(-1)] : List Int)) := ⟨_, rfl⟩
  replace H : ((impl_size.f k l0).bind fun t1324 => ((slices_Repeat_int_int.f y1321 t1324).bind fun t1325 => (impl_FilesOfCycles.l0 k t1325 l0 (l0.length : Int) 0))) = some (r1, r2) := ty_ hy1321 H
  have Ny1321 := A_ hy1321
  clear hy1321
  replace H := Option.bind_eq_some_iff.mp H
  obtain ⟨t1324, A40, H⟩ := H
  replace H : ((slices_Repeat_int_int.f y1321 t1324).bind fun t1325 => (impl_FilesOfCycles.l0 k t1325 l0 (l0.length : Int) 0)) = some (r1, r2) := H
  have A4 := A_ A40
  clear A40
  replace H := Option.bind_eq_some_iff.mp H
  obtain ⟨t1325, A50, H⟩ := H
  replace H : (impl_FilesOfCycles.l0 k t1325 l0 (l0.length : Int) 0) = some (r1, r2) := H
  have A5 := A_ A50
  clear A50
  have H' := A_ H
  clear H
  go_enter Try.func70, Try.ntmps70
  go_wp2_with (first | (refine gc_ 145 ?_; refine goesT_ (some 11) Try.func145 #[.slice A0 l0.length c0, .bool false] ?_; (with_reducible refine (impl_areBlocks.calls k _ _ l0 false true _ ?side1 ?side2 A2.out).mono ?_); (case side1 => exact tc0_ HR0.out); (case side2 => exact HC0.out); rintro e w6 ⟨rfl, hb⟩; refine ⟨_, rfl, ?_⟩; replace HB := A_ (below_step tb_ hb); (try clear hb)) | (refine gd_ 13 ?_; refine Kd.R_lit (Kd.int .i64) _ 3 ?hg (N := 13) ?hd (xs := ([(-1)] : List Int)) (inner := [.int .i64 (-1)]) (ok := fun _ => True) (okp := fun _ => True) ?hr ?hp (fun _ hk => hk) trivial (Below.refl _ _) (Nat.le_refl _) (by simp) ?_; (case hd => rfl); (case hg => rfl); (case hr => first | (go_simp; done) | (go_simp; rfl)); (case hp => exact (Reps.one (show Kd.M (Kd.int .i64) _ _ _ (-1) [.int .i64 (-1)] from rfl) (Reps.none _ _))); intro v1322 w7 ho8 hb hg_ hnew_; clear hg_ hnew_; (first | rw [← Ny1321.out] at ho8 | (simp only [Int.reduceToNat] at ho8; rw [← Ny1321.out] at ho8)); have HO1323 := A_ (Kd.R_lower ho8 (below_size tb_)); replace HB := A_ (below_step tb_ hb); clear hb ho8) | (refine gc_ 147 ?_; refine goesT_ (some 15) Try.func147 #[.slice A0 l0.length c0] ?_; (with_reducible refine (impl_size.calls k _ _ l0 t1324 _ ?side1 ?side2 A4.out).mono ?_); (case side1 => exact tc_ HR0.out); (case side2 => exact HC0.out); rintro e w' ⟨rfl, ⟨nd, rfl⟩⟩; refine ⟨_, rfl, ?_⟩; obtain ⟨Ao9, co9, eo9⟩ := Kd.R_slice HO1323.out; subst eo9) | (refine gc_ 146 ?_; refine goesT_ (some 16) Try.func146 #[.slice Ao9 y1321.length co9, .int .i64 t1324] ?_; (with_reducible refine (slices_Repeat_int_int.calls _ _ y1321 t1324 t1325 _ ?side1 ?side2 A5.out).mono ?_); (case side1 => exact tc0_ (Kd.R_reads' HO1323.out).2.2); (case side2 => exact (Kd.R_reads' HO1323.out).2.1); rintro e w10 ⟨v1326, rfl, ho0, hb⟩; refine ⟨_, rfl, ?_⟩; have HO1327 := A_ (Kd.R_lower (Kd.R_new' ho0 (Kd.R_lt (tr_x HO1323.out))) (below_size tb_)); replace HO1323 := A_ (Kd.R_elder' (tr_x HO1323.out) (Kd.R_base ho0) hb); replace HB := A_ (below_step tb_ hb); (try clear hb); (try clear ho0)))
  go_loopg [19] k (fun kq v19 w' => ∃ (x4_1 : List Int) (x19_1 : Int), v19 = .int .i64 x19_1 ∧ Aside0 (impl_FilesOfCycles.l0 kq x4_1 l0 (l0.length : Int) x19_1 = some (r1, r2)) ∧ Aside0 (kq ≤ k) ∧ Aside0 (Kd.R (Kd.int .i64) 3 w' w.heap.size (fun _ => True) v1326 x4_1) ∧ Aside0 (Below w.heap.size w w'))
  case atStart => exact ⟨(t1325), (0), tf_, H', ⟨Nat.le_refl _⟩, ⟨by (with_reducible repeat (first | apply Kd.R_alloc | apply Kd.R_drewN | apply Kd.R_drew)); exact Kd.R_mono HO1327.out (fun _ hk => trivial)⟩, ⟨tb_⟩⟩
  case round =>
   clear H'
   try clear c1
   try clear p2
   try clear c3
   try clear c7
   obtain ⟨x4_1, x19_1, rfl, HA, HK1, HO_4, HB⟩ := hrel
   cases gk with
   | zero => exact absurd HA.out (by simp [impl_FilesOfCycles.l0])
   | succ k1 =>
    have H := HA.out
    clear HA
    simp only [impl_FilesOfCycles.l0] at H
    by_cases c11 : x19_1 < (l0.length : Int)
    ·
     rw [if_pos c11] at H
     have c11b0 := decide_eq_true c11
     clear c11
     by_cases c12 : 0 ≤ x19_1
     ·
      rw [if_pos c12] at H
      have c12b0 := decide_eq_true c12
      clear c12
      by_cases c13 : x19_1 < (l0.length : Int)
      ·
       rw [if_pos c13] at H
       have c13b0 := decide_eq_true c13
       clear c13
       have H' := A_ H
       clear H
       have p1328 : 0 ≤ (x19_1 : Int) := od_
       have q1328 : x19_1 < (l0.length : Int) := od_
       obtain ⟨ad1328, A1328_0, c1328_0, e1328, hx1328_0, hl1328_0, hi1328_0⟩ := at_L1 HR0.out x19_1 p1328 q1328
       cases e1328
       (try replace hx1328_0 := (HB.out.cell (World.block_lt_of_cell? w _ hx1328_0)).trans hx1328_0)
       have HR1328_0 := A_ hi1328_0
       have HC1328_0 := A_ hl1328_0
       clear hi1328_0 hl1328_0
       replace p1328 := eq_true p1328
       replace q1328 := eq_true q1328
       go_wp2
       go_loopg [25] k1 (fun kq v25 w' => ∃ (x4_2 : List Int) (x25_2 : Int), v25 = .int .i64 x25_2 ∧ Aside0 (impl_FilesOfCycles.l1 kq x4_2 (rd_L1 l0 x19_1) l0 (l0.length : Int) x19_1 (rd_L1 l0 x19_1) ((rd_L1 l0 x19_1).length : Int) x25_2 = some (r1, r2)) ∧ Aside0 (kq ≤ k1) ∧ Aside0 (Kd.R (Kd.int .i64) 3 w' w.heap.size (fun _ => True) v1326 x4_2) ∧ Aside0 (Below w.heap.size w w'))
       case atStart => exact ⟨(x4_1), (0), tf_, H', ⟨Nat.le_refl _⟩, ⟨tr_x HO_4.out⟩, ⟨tb_⟩⟩
       case round =>
        clear H'
        try clear c1
        try clear p1
        try clear q1
        try clear hx1
        try clear p2
        try clear c3
        try clear c7
        try clear c11
        try clear c11b0
        try clear c12
        try clear c12b0
        try clear c13
        try clear c13b0
        try clear p13
        try clear q13
        try clear hx13
        try clear hx1328_0
        try clear p1328
        try clear p2
        try clear q1328
        obtain ⟨x4_2, x25_2, rfl, HA, HK2, HO_4, HB⟩ := hrel
        cases gk with
        | zero => exact absurd HA.out (by simp [impl_FilesOfCycles.l1])
        | succ k2 =>
         have H := HA.out
         clear HA
         simp only [impl_FilesOfCycles.l1] at H
         by_cases c14 : x25_2 < ((rd_L1 l0 x19_1).length : Int)
         ·
          rw [if_pos c14] at H
          have c14b0 := decide_eq_true c14
          clear c14
          by_cases c15 : 0 ≤ x25_2
          ·
           rw [if_pos c15] at H
           have c15b0 := decide_eq_true c15
           clear c15
           by_cases c16 : x25_2 < ((rd_L1 l0 x19_1).length : Int)
           ·
            rw [if_pos c16] at H
            have c16b0 := decide_eq_true c16
            clear c16
            have H' := A_ H
            clear H
            have p1329 : 0 ≤ (x25_2 : Int) := od_
            have q1329 : x25_2 < ((rd_L1 l0 x19_1).length : Int) := od_
            obtain ⟨ad1329, e1329, hx1329_0⟩ := Kd.at_int HR1328_0.out x25_2 p1329 q1329
            cases e1329
            (try replace hx1329_0 := (HB.out.cell (World.block_lt_of_cell? w _ hx1329_0)).trans hx1329_0)
            replace p1329 := eq_true p1329
            replace q1329 := eq_true q1329
            go_wp2
            go_loopg [9] k2 (fun kq v9 w' => ∃ (x4_3 : List Int) (x9_3 : Int), v9 = .int .i64 x9_3 ∧ Aside0 (impl_FilesOfCycles.l2 kq x4_3 (rd_L1 l0 x19_1) (rd (rd_L1 l0 x19_1) x25_2) x9_3 l0 (l0.length : Int) x19_1 (rd_L1 l0 x19_1) ((rd_L1 l0 x19_1).length : Int) x25_2 = some (r1, r2)) ∧ Aside0 (kq ≤ k2) ∧ Aside0 (Kd.R (Kd.int .i64) 3 w' w.heap.size (fun _ => True) v1326 x4_3) ∧ Aside0 (Below w.heap.size w w'))
            case atStart => exact ⟨(x4_2), (wrap64 (x25_2 - 1)), tf_, H', ⟨Nat.le_refl _⟩, ⟨tr_x HO_4.out⟩, ⟨tb_⟩⟩
            case round =>
             clear H'
             try clear c1
             try clear p1
             try clear q1
             try clear hx1
             try clear p2
             try clear c3
             try clear p6
             try clear c7
             try clear c11
             try clear c11b0
             try clear c12
             try clear c12b0
             try clear c13
             try clear c13b0
             try clear p13
             try clear q13
             try clear hx13
             try clear c14
             try clear c14b0
             try clear c15
             try clear c15b0
             try clear c16
             try clear c16b0
             try clear hx1328_0
             try clear hx1329_0
             try clear p1
             try clear p13
             try clear p1328
             try clear p1329
             try clear p2
             try clear q1
             try clear q13
             try clear q1328
             try clear q1329
             obtain ⟨x4_3, x9_3, rfl, HA, HK3, HO_4, HB⟩ := hrel
             cases gk with
             | zero => exact absurd HA.out (by simp [impl_FilesOfCycles.l2])
             | succ k3 =>
              have H := HA.out
              clear HA
              simp only [impl_FilesOfCycles.l2] at H
              have HC17 := A_ H
              clear H
              go_upto_region 11 with (fail)
              go_cut [40] (fun v40 wc => ∃ (kq : Nat) (x40_16 : Bool), v40 = .bool x40_16 ∧ Aside0 (impl_FilesOfCycles.j3 kq x4_3 (rd_L1 l0 x19_1) (rd (rd_L1 l0 x19_1) x25_2) x9_3 l0 (l0.length : Int) x19_1 (rd_L1 l0 x19_1) ((rd_L1 l0 x19_1).length : Int) x25_2 x40_16 = some (r1, r2)) ∧ Aside0 (kq ≤ k3) ∧ Aside0 (Kd.R (Kd.int .i64) 3 wc w.heap.size (fun _ => True) v1326 x4_3) ∧ Aside0 (Below w.heap.size w wc))
              case first =>
               have H := HC17.out
               clear HC17
               by_cases c18 : x9_3 ≥ 0
               ·
                rw [if_pos c18] at H
                have c18b0 := decide_eq_true c18
                clear c18
                (first | rw [c18b0] | rw [c18b1] | (simp only [i64_w, i32_w]; rw [c18b0]) | skip)
                by_cases c19 : 0 ≤ (rd (rd_L1 l0 x19_1) x25_2)
                ·
                 rw [if_pos c19] at H
                 have c19b0 := decide_eq_true c19
                 clear c19
                 by_cases c20 : (rd (rd_L1 l0 x19_1) x25_2) < (x4_3.length : Int)
                 ·
                  rw [if_pos c20] at H
                  have c20b0 := decide_eq_true c20
                  clear c20
                  have H' := A_ H
                  clear H
                  obtain ⟨Ao21, co21, eo21⟩ := Kd.R_slice HO_4.out
                  subst eo21
                  have p1330 : 0 ≤ ((rd (rd_L1 l0 x19_1) x25_2) : Int) := od_
                  have q1330 : (rd (rd_L1 l0 x19_1) x25_2) < (x4_3.length : Int) := od_
                  obtain ⟨ad1330, e1330, hx1330_0⟩ := Kd.at_int (Kd.R_reads' HO_4.out).2.2 (rd (rd_L1 l0 x19_1) x25_2) p1330 q1330
                  cases e1330
                  replace p1330 := eq_true p1330
                  replace q1330 := eq_true q1330
                  go_wp2
                  go_meet
                  case rel => exact ⟨_, (((rd x4_3 (rd (rd_L1 l0 x19_1) x25_2)) == (-1))), tf_, H', ⟨by have := HK1.out; have := HK2.out; have := HK3.out; first | omega | exact Nat.le_refl _⟩, ⟨tr_x HO_4.out⟩, ⟨tb_⟩⟩
                 ·
                  rw [if_neg c20] at H
                  exact absurd H (by simp)
                ·
                 rw [if_neg c19] at H
                 exact absurd H (by simp)
               ·
                rw [if_neg c18] at H
                have c18b0 := decide_eq_false c18
                clear c18
                (first | rw [c18b0] | rw [c18b1] | (simp only [i64_w, i32_w]; rw [c18b0]) | skip)
                have H' := A_ H
                clear H
                go_wp2
                go_meet
                case rel => exact ⟨_, (false), tf_, H', ⟨by have := HK1.out; have := HK2.out; have := HK3.out; first | omega | exact Nat.le_refl _⟩, ⟨tr_x HO_4.out⟩, ⟨tb_⟩⟩
              case rest =>
               clear HC17
               try clear c1
               try clear p1
               try clear q1
               try clear hx1
               try clear c2
               try clear p2
               try clear c3
               try clear p6
               try clear c7
               try clear c11
               try clear c11b0
               try clear c12
               try clear c12b0
               try clear c13
               try clear c13b0
               try clear p13
               try clear q13
               try clear hx13
               try clear c14
               try clear c14b0
               try clear c15
               try clear c15b0
               try clear c16
               try clear c16b0
               try clear c18
               try clear c18b0
               try clear c19
               try clear c19b0
               try clear c20
               try clear c20b0
               try clear hx1328_0
               try clear hx1329_0
               try clear hx1330_0
               try clear p1
               try clear p13
               try clear p1328
               try clear p1329
               try clear p1330
               try clear p2
               try clear p6
               try clear q1
               try clear q13
               try clear q1328
               try clear q1329
               try clear q1330
               obtain ⟨kq, x40_16, rfl, HA, HJ16, HO_4, HB⟩ := hcut
               cases kq with
               | zero => exact absurd HA.out (by simp [impl_FilesOfCycles.j3])
               | succ kj16 =>
                have H := HA.out
                clear HA
                simp only [impl_FilesOfCycles.j3] at H
                by_cases c22 : x40_16 = true
                ·
                 subst c22
                 have H1 : (if 0 ≤ x9_3 then (if x9_3 < ((rd_L1 l0 x19_1).length : Int) then (if (rd (rd_L1 l0 x19_1) x9_3) < (rd (rd_L1 l0 x19_1) x25_2) then (if 0 ≤ (rd (rd_L1 l0 x19_1) x25_2) then (if (rd (rd_L1 l0 x19_1) x25_2) < (x4_3.length : Int) then (impl_FilesOfCycles.l2 kj16 (x4_3.set ((rd (rd_L1 l0 x19_1) x25_2) : Int).toNat (rd (rd_L1 l0 x19_1) x9_3)) (rd_L1 l0 x19_1) (rd (rd_L1 l0 x19_1) x25_2) (wrap64 (x9_3 - 1)) l0 (l0.length : Int) x19_1 (rd_L1 l0 x19_1) ((rd_L1 l0 x19_1).length : Int) x25_2) else (none)) else (none)) else (impl_FilesOfCycles.l2 kj16 x4_3 (rd_L1 l0 x19_1) (rd (rd_L1 l0 x19_1) x25_2) (wrap64 (x9_3 - 1)) l0 (l0.length : Int) x19_1 (rd_L1 l0 x19_1) ((rd_L1 l0 x19_1).length : Int) x25_2)) else (none)) else (none)) = some (r1, r2) := by rw [if_pos rfl] at H; exact H
                 clear H
                 have H := H1
                 clear H1
                 by_cases c23 : 0 ≤ x9_3
                 ·
                  rw [if_pos c23] at H
                  have c23b0 := decide_eq_true c23
                  clear c23
                  by_cases c24 : x9_3 < ((rd_L1 l0 x19_1).length : Int)
                  ·
                   rw [if_pos c24] at H
                   have c24b0 := decide_eq_true c24
                   clear c24
                   by_cases c25 : (rd (rd_L1 l0 x19_1) x9_3) < (rd (rd_L1 l0 x19_1) x25_2)
                   ·
                    rw [if_pos c25] at H
                    have c25b0 := decide_eq_true c25
                    clear c25
                    by_cases c26 : 0 ≤ (rd (rd_L1 l0 x19_1) x25_2)
                    ·
                     rw [if_pos c26] at H
                     have c26b0 := decide_eq_true c26
                     clear c26
                     by_cases c27 : (rd (rd_L1 l0 x19_1) x25_2) < (x4_3.length : Int)
                     ·
                      rw [if_pos c27] at H
                      have c27b0 := decide_eq_true c27
                      clear c27
                      obtain ⟨y1333, hy1333⟩ : ∃ y_ : List Int, y_ = (x4_3.set ((rd (rd_L1 l0 x19_1) x25_2) : Int).toNat (rd (rd_L1 l0 x19_1) x9_3)) := ⟨_, rfl⟩
                      replace H : (impl_FilesOfCycles.l2 kj16 y1333 (rd_L1 l0 x19_1) (rd (rd_L1 l0 x19_1) x25_2) (wrap64 (x9_3 - 1)) l0 (l0.length : Int) x19_1 (rd_L1 l0 x19_1) ((rd_L1 l0 x19_1).length : Int) x25_2) = some (r1, r2) := ty_ hy1333 H
                      have Ny1333 := A_ hy1333
                      clear hy1333
                      have H' := A_ H
                      clear H
                      have p1331 : 0 ≤ (x9_3 : Int) := od_
                      have q1331 : x9_3 < ((rd_L1 l0 x19_1).length : Int) := od_
                      obtain ⟨ad1331, e1331, hx1331_0⟩ := Kd.at_int HR1328_0.out x9_3 p1331 q1331
                      obtain rfl : ad1329 = ad1331 := (by injection e1331)
                      (try replace hx1331_0 := (HB.out.cell (World.block_lt_of_cell? w _ hx1331_0)).trans hx1331_0)
                      replace p1331 := eq_true p1331
                      replace q1331 := eq_true q1331
                      have p1332 : 0 ≤ (x9_3 : Int) := od_
                      have q1332 : x9_3 < ((rd_L1 l0 x19_1).length : Int) := od_
                      obtain ⟨ad1332, e1332, hx1332_0⟩ := Kd.at_int HR1328_0.out x9_3 p1332 q1332
                      obtain rfl : ad1329 = ad1332 := (by injection e1332)
                      (try replace hx1332_0 := (HB.out.cell (World.block_lt_of_cell? w _ hx1332_0)).trans hx1332_0)
                      replace p1332 := eq_true p1332
                      replace q1332 := eq_true q1332
                      have p28 : 0 ≤ ((rd (rd_L1 l0 x19_1) x25_2) : Int) := od_
                      have q28 : ((rd (rd_L1 l0 x19_1) x25_2) : Int) < ((x4_3.length : Int) : Int) := od_
                      obtain ⟨go28, co28, eo28, gb28, gl28, cl28, HG28⟩ := Kd.R_form HO_4.out (by omega)
                      (first | cases eo28 | (injection eo28 with ea_ en_ ec_; (first | subst ea_ | (injection ea_ with ea_; subst ea_)); subst ec_; clear en_))
                      have GB28 := A_ gb28
                      have GG28 := A_ HG28
                      clear gb28 gl28 HG28
                      obtain ⟨hx28_0, hf28_0⟩ := Kd.R_celln 0 HO_4.out ((rd (rd_L1 l0 x19_1) x25_2) : Int) p28 q28
                      replace p28 := eq_true p28
                      replace q28 := eq_true q28
                      have HP29 := Kd.R_putg HO_4.out ((rd (rd_L1 l0 x19_1) x25_2) : Int) (rd (rd_L1 l0 x19_1) x9_3)
                      go_wp2_with (first | ((with_reducible refine gate_store (t := 3) (p := 55) rfl ?_); refine store_event (t := 3) (p := 55) (v := ?vo_w30) (w1 := (wc.setCell ⟨go28, ((rd (rd_L1 l0 x19_1) x25_2) : Int).toNat, none⟩ (.int .i64 (rd (rd_L1 l0 x19_1) x9_3)))) ?hg ?ho ?hn ?hr ?_; (case ho => rfl); (case hg => rfl); (case hn => rfl); (case hr => first | (go_simp; done) | (go_simp; rfl)); intro w30 hw; have hg : wc.grownBy w30 (some go28) := (by rw [hw]; exact HP29.2); have hp_ : Kd.R (Kd.int .i64) 3 w30 w.heap.size (fun _ => True) (.slice (some ⟨go28, 0, none⟩) x4_3.length co28) y1333 := (by rw [hw, Ny1333.out]; exact HP29.1); clear HP29; replace HO_4 := A_ (hp_); replace HB := A_ ((by rw [hw]; exact below_set (HB.out) GB28.out : Below w.heap.size w w30)); clear hg hw hp_))
                      go_roundg kj16
                      case measure => have := HK1.out; have := HK2.out; have := HK3.out; have := HJ16.out; omega
                      case rel => exact ⟨(y1333), (wrap64 (x9_3 - 1)), tf_, H', ⟨by have := HK1.out; have := HK2.out; have := HK3.out; have := HJ16.out; omega⟩, ⟨tr_x HO_4.out⟩, ⟨tb_⟩⟩
                     ·
                      rw [if_neg c27] at H
                      exact absurd H (by simp)
                    ·
                     rw [if_neg c26] at H
                     exact absurd H (by simp)
                   ·
                    rw [if_neg c25] at H
                    have c25b0 := decide_eq_false c25
                    clear c25
                    have H' := A_ H
                    clear H
                    have p1331 : 0 ≤ (x9_3 : Int) := od_
                    have q1331 : x9_3 < ((rd_L1 l0 x19_1).length : Int) := od_
                    obtain ⟨ad1331, e1331, hx1331_0⟩ := Kd.at_int HR1328_0.out x9_3 p1331 q1331
                    obtain rfl : ad1329 = ad1331 := (by injection e1331)
                    (try replace hx1331_0 := (HB.out.cell (World.block_lt_of_cell? w _ hx1331_0)).trans hx1331_0)
                    replace p1331 := eq_true p1331
                    replace q1331 := eq_true q1331
                    go_wp2
                    go_roundg kj16
                    case measure => have := HK1.out; have := HK2.out; have := HK3.out; have := HJ16.out; omega
                    case rel => exact ⟨(x4_3), (wrap64 (x9_3 - 1)), tf_, H', ⟨by have := HK1.out; have := HK2.out; have := HK3.out; have := HJ16.out; omega⟩, ⟨tr_x HO_4.out⟩, ⟨tb_⟩⟩
                  ·
                   rw [if_neg c24] at H
                   exact absurd H (by simp)
                 ·
                  rw [if_neg c23] at H
                  exact absurd H (by simp)
                ·
                 replace c22 := Bool.eq_false_iff.mpr c22
                 subst c22
                 have H1 : (impl_FilesOfCycles.l1 kj16 x4_3 (rd_L1 l0 x19_1) l0 (l0.length : Int) x19_1 (rd_L1 l0 x19_1) ((rd_L1 l0 x19_1).length : Int) (wrap64 (x25_2 + 1))) = some (r1, r2) := by rw [if_neg (show ¬ (false = true) by decide)] at H; exact H
                 clear H
                 have H := H1
                 clear H1
                 have H' := A_ H
                 clear H
                 go_wp2
                 go_roundg kj16
                 case measure => have := HK1.out; have := HK2.out; have := HK3.out; have := HJ16.out; omega
                 case rel => exact ⟨(x4_3), (wrap64 (x25_2 + 1)), tf_, H', ⟨by have := HK1.out; have := HK2.out; have := HK3.out; have := HJ16.out; omega⟩, ⟨tr_x HO_4.out⟩, ⟨tb_⟩⟩
           ·
            rw [if_neg c16] at H
            exact absurd H (by simp)
          ·
           rw [if_neg c15] at H
           exact absurd H (by simp)
         ·
          rw [if_neg c14] at H
          have c14b0 := decide_eq_false c14
          clear c14
          have H' := A_ H
          clear H
          go_wp2
          go_roundg k2
          case measure => have := HK1.out; have := HK2.out; omega
          case rel => exact ⟨(x4_2), (wrap64 (x19_1 + 1)), tf_, H', ⟨by have := HK1.out; have := HK2.out; omega⟩, ⟨tr_x HO_4.out⟩, ⟨tb_⟩⟩
      ·
       rw [if_neg c13] at H
       exact absurd H (by simp)
     ·
      rw [if_neg c12] at H
      exact absurd H (by simp)
    ·
     rw [if_neg c11] at H
     have c11b0 := decide_eq_false c11
     clear c11
     simp only [Option.some.injEq, Prod.mk.injEq] at H
     obtain ⟨rfl, rfl⟩ := H
     go_wp2
     go_ret2
     exact ⟨_, te_, tr_x HO_4.out, tb_⟩
 ·
  replace c3 := Bool.eq_false_iff.mpr c3
  subst c3
  have H1 : (some (([] : List Int), false)) = some (r1, r2) := by rw [if_neg (show ¬ (false = true) by decide)] at H; exact H
  clear H
  have H := H1
  clear H1
  simp only [Option.some.injEq, Prod.mk.injEq] at H
  obtain ⟨rfl, rfl⟩ := H
  go_enter Try.func70, Try.ntmps70
  go_wp2_with (first | (refine gc_ 145 ?_; refine goesT_ (some 11) Try.func145 #[.slice A0 l0.length c0, .bool false] ?_; (with_reducible refine (impl_areBlocks.calls k _ _ l0 false false _ ?side1 ?side2 A2.out).mono ?_); (case side1 => exact tc0_ HR0.out); (case side2 => exact HC0.out); rintro e w31 ⟨rfl, hb⟩; refine ⟨_, rfl, ?_⟩; replace HB := A_ (below_step tb_ hb); (try clear hb)))
  go_ret2
  exact ⟨_, te_, by first | exact Kd.R_nil _ _ _ _ _ | exact Kd.N_nil _ _ _ _ _ | exact Kd.V_nil _ _ _ _ _ | exact Kd.Q_nil _ _ _ _ _ | exact Kd.S_nil _ _ _ _ _, tb_⟩

/-! ### impl_IsFilePlacement_1: function 152 -/
def impl_IsFilePlacement_1.f (a0 : Int) : Option (Bool) := (impl_within.f a0 (-1) 999).bind fun t1334 => (some (!t1334))
theorem impl_IsFilePlacement_1.calls (a0 : Int) (r : Bool) (w : World) (h : impl_IsFilePlacement_1.f a0 = some r) :
  Calls Try.prog 152 #[.int .i64 a0] w fun e w' => e = .returned (.bool r) ∧ Drawn0 w w' := by
 have H : ((impl_within.f a0 (-1) 999).bind fun t1334 => (some (!t1334))) = some r := h
 clear h
 replace H := Option.bind_eq_some_iff.mp H
 obtain ⟨t1334, A20, H⟩ := H
 replace H : (some (!t1334)) = some r := H
 have A2 := A_ A20
 clear A20
 obtain rfl := Option.some.inj H
 go_enter Try.func152, Try.ntmps152
 go_wp2_with (first | (refine gc_ 113 ?_; refine goesT_ (some 4) Try.func113 #[.int .i64 a0, .int .i64 (-1), .int .i64 999] ?_; (with_reducible refine (impl_within.calls a0 (-1) 999 t1334 _ A2.out).mono ?_); rintro e w' ⟨rfl, ⟨nd, rfl⟩⟩; refine ⟨_, rfl, ?_⟩))
 go_ret
 exact ⟨tf_, dr_⟩

def impl_IsFilePlacement_1.fn : FnT47 := fun a0 => impl_IsFilePlacement_1.f a0
theorem impl_IsFilePlacement_1.fnok (w : World) : FnOk47 w (.func (.func 152) #[] #[]) impl_IsFilePlacement_1.fn := fun a0 r W h _ => ⟨152, #[], _, rfl, Try.func152, by kernel_rfl, rfl, by simpa using (impl_IsFilePlacement_1.calls a0 r W h).mono fun e w' ⟨he, hd⟩ => ⟨he, hd.below⟩⟩

/-! ### impl_IsFilePlacement: function 72 -/
def impl_IsFilePlacement.f (k : Nat) (a0_0 : Int) (a0_1 : Int) (l0_2 : List Int) (l1 : List Int) : Option (Bool × Bool) := (impl_IsBoard.f a0_0 a0_1 l0_2).bind fun t1336 => (if t1336 = true then (if (l1.length : Int) = a0_1 then ((slices_ContainsFunc_int_int_151.f k l1 impl_IsFilePlacement_1.fn).bind fun t1337 => (if t1337 = true then (some (false, false)) else ((impl_Board_isFile.f k a0_0 a0_1 l0_2 l1).bind fun t1338 => (some (t1338, true))))) else (some (false, false))) else (some (false, false)))
theorem impl_IsFilePlacement.mono : ∀ a0 a1 a2 a3 k, LeO (impl_IsFilePlacement.f k a0 a1 a2 a3) (impl_IsFilePlacement.f (k + 1) a0 a1 a2 a3) := by
 intro a0 a1 a2 a3 k
 unfold impl_IsFilePlacement.f
 repeat' first | (with_reducible first | exact impl_Board_isFile.mono _ _ _ _ _ | exact slices_ContainsFunc_int_int_151.mono _ _ _ | exact LeO.refl _ | exact LeO.none _ | refine LeO.ite ?_ ?_ | refine LeO.bind ?_ (fun _ => ?_)) | exact impl_Board_isFile.mono _ _ _ _ _ | exact slices_ContainsFunc_int_int_151.mono _ _ _ | exact LeO.none _ | refine LeO.ite ?_ ?_ | refine LeO.bind ?_ (fun _ => ?_)
theorem impl_IsFilePlacement.calls (k : Nat) (a0_0 : Int) (a0_1 : Int) (A0_2 : Option Addr) (c0_2 : Nat) (l0_2 : List Int) (A1 : Option Addr) (c1 : Nat) (l1 : List Int) (r1 : Bool) (r2 : Bool) (w : World) (hr0_2 : Kd.C (Kd.int .i64) w A0_2 l0_2.length l0_2) (hc0_2 : l0_2.length ≤ c0_2) (hr1 : Kd.C (Kd.int .i64) w A1 l1.length l1) (hc1 : l1.length ≤ c1) (h : impl_IsFilePlacement.f k a0_0 a0_1 l0_2 l1 = some (r1, r2)) :
  Calls Try.prog 72 #[.agg #[.int .i64 a0_0, .int .i64 a0_1, .slice A0_2 l0_2.length c0_2], .slice A1 l1.length c1] w fun e w' => e = .returned (.tuple #[.bool r1, .bool r2]) ∧ Below w.heap.size w w' := by
 have hu26 := Try.underlying26
 have HR0_2 := A_ hr0_2
 have HC0_2 := A_ hc0_2
 clear hr0_2 hc0_2
 have HR1 := A_ hr1
 have HC1 := A_ hc1
 clear hr1 hc1
 have HB := A_ (Below.refl w.heap.size w)
 have H : ((impl_IsBoard.f a0_0 a0_1 l0_2).bind fun t1336 => (if t1336 = true then (if (l1.length : Int) = a0_1 then ((slices_ContainsFunc_int_int_151.f k l1 impl_IsFilePlacement_1.fn).bind fun t1337 => (if t1337 = true then (some (false, false)) else ((impl_Board_isFile.f k a0_0 a0_1 l0_2 l1).bind fun t1338 => (some (t1338, true))))) else (some (false, false))) else (some (false, false)))) = some (r1, r2) := h
 clear h
 replace H := Option.bind_eq_some_iff.mp H
 obtain ⟨t1336, A30, H⟩ := H
 replace H : (if t1336 = true then (if (l1.length : Int) = a0_1 then ((slices_ContainsFunc_int_int_151.f k l1 impl_IsFilePlacement_1.fn).bind fun t1337 => (if t1337 = true then (some (false, false)) else ((impl_Board_isFile.f k a0_0 a0_1 l0_2 l1).bind fun t1338 => (some (t1338, true))))) else (some (false, false))) else (some (false, false))) = some (r1, r2) := H
 have A3 := A_ A30
 clear A30
 by_cases c4 : t1336 = true
 ·
  subst c4
  have H1 : (if (l1.length : Int) = a0_1 then ((slices_ContainsFunc_int_int_151.f k l1 impl_IsFilePlacement_1.fn).bind fun t1337 => (if t1337 = true then (some (false, false)) else ((impl_Board_isFile.f k a0_0 a0_1 l0_2 l1).bind fun t1338 => (some (t1338, true))))) else (some (false, false))) = some (r1, r2) := by rw [if_pos rfl] at H; exact H
  clear H
  have H := H1
  clear H1
  by_cases c5 : (l1.length : Int) = a0_1
  ·
   rw [if_pos c5] at H
   have c5b0 : ((l1.length : Int) == a0_1) = true := beq_iff_eq.mpr c5
   have c5b1 : ((l1.length : Int) != a0_1) = false := bne_eq_false_iff_eq.mpr c5
   clear c5
   replace H := Option.bind_eq_some_iff.mp H
   obtain ⟨t1337, A60, H⟩ := H
   replace H : (if t1337 = true then (some (false, false)) else ((impl_Board_isFile.f k a0_0 a0_1 l0_2 l1).bind fun t1338 => (some (t1338, true)))) = some (r1, r2) := H
   have A6 := A_ A60
   clear A60
   by_cases c7 : t1337 = true
   ·
    subst c7
    have H1 : (some (false, false)) = some (r1, r2) := by rw [if_pos rfl] at H; exact H
    clear H
    have H := H1
    clear H1
    simp only [Option.some.injEq, Prod.mk.injEq] at H
    obtain ⟨rfl, rfl⟩ := H
    go_enter Try.func72, Try.ntmps72
    go_wp2_with (first | (refine gd_ 2 ?_; (try (refine gate_guard (by rfl) ?_; dsimp only)); refine bx_ 2 #[.int .i64 a0_0, .int .i64 a0_1, .slice A0_2 l0_2.length c0_2] 26 ?_; intro gb1335 hg w8 hbox hb; have BK1335 := A_ (hbox); have GW1335 := A_ ((ts_ hg : w.heap.size ≤ gb1335)); have GE1335 := A_ ((ts_ hg : w.heap.size ≤ gb1335)); replace HB := A_ (below_step tb_ hb); clear hb hbox hg; obtain ⟨hcz9_0, hcz9_1, hcz9_2, hfz9_0, hfz9_1, hfz9_2⟩ := cf3_ BK1335.out) | (refine gc_ 93 ?_; refine goesT_ (some 7) Try.func93 #[.agg #[.int .i64 a0_0, .int .i64 a0_1, .slice A0_2 l0_2.length c0_2]] ?_; (with_reducible refine (impl_IsBoard.calls a0_0 a0_1 _ _ l0_2 true _ ?side1 ?side2 A3.out).mono ?_); (case side1 => exact tc_ HR0_2.out); (case side2 => exact HC0_2.out); rintro e w10 ⟨rfl, hb⟩; refine ⟨_, rfl, ?_⟩; replace BK1335 := A_ (blk_below (g := gb1335) (o := .cells #[.int .i64 a0_0, .int .i64 a0_1, .slice A0_2 l0_2.length c0_2] 26 (0, 0)) (tk_ BK1335) hb); replace HB := A_ (below_step tb_ hb); (try clear hb); obtain ⟨hcz11_0, hcz11_1, hcz11_2, hfz11_0, hfz11_1, hfz11_2⟩ := cf3_ BK1335.out) | (go_at_call 151; (with_reducible refine (slices_ContainsFunc_int_int_151.calls k _ _ l1 (.func (.func 152) #[] #[]) impl_IsFilePlacement_1.fn true _ ?side1 ?side2 ?side3 A6.out).mono ?_); (case side1 => exact tc_ HR1.out); (case side2 => exact HC1.out); (case side3 => exact impl_IsFilePlacement_1.fnok _); rintro e w12 ⟨rfl, hb⟩; replace BK1335 := A_ (blk_below (g := gb1335) (o := .cells #[.int .i64 a0_0, .int .i64 a0_1, .slice A0_2 l0_2.length c0_2] 26 (0, 0)) (tk_ BK1335) hb); replace HB := A_ (below_step tb_ hb); (try clear hb)))
    go_ret2
    exact ⟨te_, tb_⟩
   ·
    replace c7 := Bool.eq_false_iff.mpr c7
    subst c7
    have H1 : ((impl_Board_isFile.f k a0_0 a0_1 l0_2 l1).bind fun t1338 => (some (t1338, true))) = some (r1, r2) := by rw [if_neg (show ¬ (false = true) by decide)] at H; exact H
    clear H
    have H := H1
    clear H1
    replace H := Option.bind_eq_some_iff.mp H
    obtain ⟨t1338, A130, H⟩ := H
    replace H : (some (t1338, true)) = some (r1, r2) := H
    have A13 := A_ A130
    clear A130
    simp only [Option.some.injEq, Prod.mk.injEq] at H
    obtain ⟨rfl, rfl⟩ := H
    go_enter Try.func72, Try.ntmps72
    go_wp2_with (first | (refine gd_ 2 ?_; (try (refine gate_guard (by rfl) ?_; dsimp only)); refine bx_ 2 #[.int .i64 a0_0, .int .i64 a0_1, .slice A0_2 l0_2.length c0_2] 26 ?_; intro gb1335 hg w14 hbox hb; have BK1335 := A_ (hbox); have GW1335 := A_ ((ts_ hg : w.heap.size ≤ gb1335)); have GE1335 := A_ ((ts_ hg : w.heap.size ≤ gb1335)); replace HB := A_ (below_step tb_ hb); clear hb hbox hg; obtain ⟨hcz15_0, hcz15_1, hcz15_2, hfz15_0, hfz15_1, hfz15_2⟩ := cf3_ BK1335.out) | (refine gc_ 93 ?_; refine goesT_ (some 7) Try.func93 #[.agg #[.int .i64 a0_0, .int .i64 a0_1, .slice A0_2 l0_2.length c0_2]] ?_; (with_reducible refine (impl_IsBoard.calls a0_0 a0_1 _ _ l0_2 true _ ?side1 ?side2 A3.out).mono ?_); (case side1 => exact tc_ HR0_2.out); (case side2 => exact HC0_2.out); rintro e w16 ⟨rfl, hb⟩; refine ⟨_, rfl, ?_⟩; replace BK1335 := A_ (blk_below (g := gb1335) (o := .cells #[.int .i64 a0_0, .int .i64 a0_1, .slice A0_2 l0_2.length c0_2] 26 (0, 0)) (tk_ BK1335) hb); replace HB := A_ (below_step tb_ hb); (try clear hb); obtain ⟨hcz17_0, hcz17_1, hcz17_2, hfz17_0, hfz17_1, hfz17_2⟩ := cf3_ BK1335.out) | (go_at_call 151; (with_reducible refine (slices_ContainsFunc_int_int_151.calls k _ _ l1 (.func (.func 152) #[] #[]) impl_IsFilePlacement_1.fn false _ ?side1 ?side2 ?side3 A6.out).mono ?_); (case side1 => exact tc_ HR1.out); (case side2 => exact HC1.out); (case side3 => exact impl_IsFilePlacement_1.fnok _); rintro e w18 ⟨rfl, hb⟩; replace BK1335 := A_ (blk_below (g := gb1335) (o := .cells #[.int .i64 a0_0, .int .i64 a0_1, .slice A0_2 l0_2.length c0_2] 26 (0, 0)) (tk_ BK1335) hb); replace HB := A_ (below_step tb_ hb); (try clear hb); obtain ⟨hcz19_0, hcz19_1, hcz19_2, hfz19_0, hfz19_1, hfz19_2⟩ := cf3_ BK1335.out) | (refine gc_ 132 ?_; refine goesT_ (some 22) Try.func132 #[.agg #[.int .i64 a0_0, .int .i64 a0_1, .slice A0_2 l0_2.length c0_2], .slice A1 l1.length c1] ?_; (with_reducible refine (impl_Board_isFile.calls k a0_0 a0_1 _ _ l0_2 _ _ l1 t1338 _ ?side1 ?side2 ?side3 ?side4 A13.out).mono ?_); (case side1 => exact tc_ HR0_2.out); (case side2 => exact HC0_2.out); (case side3 => exact tc_ HR1.out); (case side4 => exact HC1.out); rintro e w20 ⟨rfl, hb⟩; refine ⟨_, rfl, ?_⟩; replace BK1335 := A_ (blk_below (g := gb1335) (o := .cells #[.int .i64 a0_0, .int .i64 a0_1, .slice A0_2 l0_2.length c0_2] 26 (0, 0)) (tk_ BK1335) hb); replace HB := A_ (below_step tb_ hb); (try clear hb)))
    go_ret2
    exact ⟨te_, tb_⟩
  ·
   rw [if_neg c5] at H
   have c5b0 : ((l1.length : Int) == a0_1) = false := beq_eq_false_iff_ne.mpr c5
   have c5b1 : ((l1.length : Int) != a0_1) = true := bne_iff_ne.mpr c5
   simp only [Option.some.injEq, Prod.mk.injEq] at H
   obtain ⟨rfl, rfl⟩ := H
   go_enter Try.func72, Try.ntmps72
   go_wp2_with (first | (refine gd_ 2 ?_; (try (refine gate_guard (by rfl) ?_; dsimp only)); refine bx_ 2 #[.int .i64 a0_0, .int .i64 a0_1, .slice A0_2 l0_2.length c0_2] 26 ?_; intro gb1335 hg w21 hbox hb; have BK1335 := A_ (hbox); have GW1335 := A_ ((ts_ hg : w.heap.size ≤ gb1335)); have GE1335 := A_ ((ts_ hg : w.heap.size ≤ gb1335)); replace HB := A_ (below_step tb_ hb); clear hb hbox hg; obtain ⟨hcz22_0, hcz22_1, hcz22_2, hfz22_0, hfz22_1, hfz22_2⟩ := cf3_ BK1335.out) | (refine gc_ 93 ?_; refine goesT_ (some 7) Try.func93 #[.agg #[.int .i64 a0_0, .int .i64 a0_1, .slice A0_2 l0_2.length c0_2]] ?_; (with_reducible refine (impl_IsBoard.calls a0_0 a0_1 _ _ l0_2 true _ ?side1 ?side2 A3.out).mono ?_); (case side1 => exact tc_ HR0_2.out); (case side2 => exact HC0_2.out); rintro e w23 ⟨rfl, hb⟩; refine ⟨_, rfl, ?_⟩; replace BK1335 := A_ (blk_below (g := gb1335) (o := .cells #[.int .i64 a0_0, .int .i64 a0_1, .slice A0_2 l0_2.length c0_2] 26 (0, 0)) (tk_ BK1335) hb); replace HB := A_ (below_step tb_ hb); (try clear hb); obtain ⟨hcz24_0, hcz24_1, hcz24_2, hfz24_0, hfz24_1, hfz24_2⟩ := cf3_ BK1335.out))
   go_ret2
   exact ⟨te_, tb_⟩
 ·
  replace c4 := Bool.eq_false_iff.mpr c4
  subst c4
  have H1 : (some (false, false)) = some (r1, r2) := by rw [if_neg (show ¬ (false = true) by decide)] at H; exact H
  clear H
  have H := H1
  clear H1
  simp only [Option.some.injEq, Prod.mk.injEq] at H
  obtain ⟨rfl, rfl⟩ := H
  go_enter Try.func72, Try.ntmps72
  go_wp2_with (first | (refine gd_ 2 ?_; (try (refine gate_guard (by rfl) ?_; dsimp only)); refine bx_ 2 #[.int .i64 a0_0, .int .i64 a0_1, .slice A0_2 l0_2.length c0_2] 26 ?_; intro gb1335 hg w25 hbox hb; have BK1335 := A_ (hbox); have GW1335 := A_ ((ts_ hg : w.heap.size ≤ gb1335)); have GE1335 := A_ ((ts_ hg : w.heap.size ≤ gb1335)); replace HB := A_ (below_step tb_ hb); clear hb hbox hg; obtain ⟨hcz26_0, hcz26_1, hcz26_2, hfz26_0, hfz26_1, hfz26_2⟩ := cf3_ BK1335.out) | (refine gc_ 93 ?_; refine goesT_ (some 7) Try.func93 #[.agg #[.int .i64 a0_0, .int .i64 a0_1, .slice A0_2 l0_2.length c0_2]] ?_; (with_reducible refine (impl_IsBoard.calls a0_0 a0_1 _ _ l0_2 false _ ?side1 ?side2 A3.out).mono ?_); (case side1 => exact tc_ HR0_2.out); (case side2 => exact HC0_2.out); rintro e w27 ⟨rfl, hb⟩; refine ⟨_, rfl, ?_⟩; replace BK1335 := A_ (blk_below (g := gb1335) (o := .cells #[.int .i64 a0_0, .int .i64 a0_1, .slice A0_2 l0_2.length c0_2] 26 (0, 0)) (tk_ BK1335) hb); replace HB := A_ (below_step tb_ hb); (try clear hb)))
  go_ret2
  exact ⟨te_, tb_⟩

/-! ### spec_DrawFilesOfCycles: function 74 -/
def spec_DrawFilesOfCycles.f (k : Nat) (l0 : List Int) : Option ((List (List Int))) := (spec_l1Cur_blocks.f k l0 0 0 false).bind fun bt1425 => (some bt1425.1)
theorem spec_DrawFilesOfCycles.mono : ∀ a0 k, LeO (spec_DrawFilesOfCycles.f k a0) (spec_DrawFilesOfCycles.f (k + 1) a0) := by
 intro a0 k
 unfold spec_DrawFilesOfCycles.f
 repeat' first | (with_reducible first | exact spec_l1Cur_blocks.mono _ _ _ _ _ | exact LeO.refl _ | exact LeO.none _ | refine LeO.ite ?_ ?_ | refine LeO.bind ?_ (fun _ => ?_)) | exact spec_l1Cur_blocks.mono _ _ _ _ _ | exact LeO.none _ | refine LeO.ite ?_ ?_ | refine LeO.bind ?_ (fun _ => ?_)
theorem spec_DrawFilesOfCycles.calls (k : Nat) (A0 : Option Addr) (c0 : Nat) (l0 : List Int) (r : List (List Int)) (w : World) (hr0 : Kd.C (Kd.int .u8) w A0 l0.length l0) (hc0 : l0.length ≤ c0) (h : spec_DrawFilesOfCycles.f k l0 = some r) :
  Calls Try.prog 74 #[.slice A0 l0.length c0] w fun e w' => ∃ v0_ : Value, e = .returned (v0_) ∧ Kd.S (Kd.slice 3 (Kd.int .i64)) 22 w' w.heap.size (fun _ => True) v0_ r ∧ Below w.heap.size w w' := by
 have hu100 := Try.underlying100
 have HR0 := A_ hr0
 have HC0 := A_ hc0
 clear hr0 hc0
 have HB := A_ (Below.refl w.heap.size w)
 have H : ((spec_l1Cur_blocks.f k l0 0 0 false).bind fun bt1425 => (some bt1425.1)) = some r := h
 clear h
 replace H := Option.bind_eq_some_iff.mp H
 obtain ⟨⟨t1425, t1428, t1429⟩, A20, H⟩ := H
 replace H : (some t1425) = some r := H
 have A2 := A_ A20
 clear A20
 obtain rfl := Option.some.inj H
 go_enter Try.func74, Try.ntmps74
 go_wp2_with (first | (refine gd_ 6 ?_; refine bx_ 6 #[.slice A0 l0.length c0, .int .i64 0, .int .u64 0] 100 ?_; intro gb1424 hg w3 hbox hb; have HI1424 := A_ ((⟨_, _, hbox, (by rw [hg]; exact (below_size tb_)), HR0.out⟩ : IsS100 w w3 gb1424 l0 0 0)); replace HB := A_ (below_step tb_ hb); clear hb hbox hg) | (refine gc_ 153 ?_; refine goesT_ (some 8) Try.func153 #[.pointer (some ⟨gb1424, 0, none⟩), .bool false] ?_; (with_reducible refine (spec_l1Cur_blocks.calls k gb1424 l0 0 0 false t1425 t1428 t1429 w _ ?side1 ?side2 A2.out).mono ?_); (case side1 => repeat (first | (with_reducible first | exact HI1424.out | apply IsS100.alloc | apply IsS100.drewN | apply IsS100.drew | apply IsS100.set_1 | apply IsS100.set_2) | exact HI1424.out)); (case side2 => repeat (first | (with_reducible first | exact HB.out | apply below_alloc | apply pw_below_drewN | apply below_drew1 | refine below_set ?_ (IsS100.ge HI1424.out)) | exact HB.out)); rintro e w4 ⟨v1426, rfl, ho0, hi, hb, hk⟩; refine ⟨_, rfl, ?_⟩; have HO1427 := A_ (Kd.S_lower ho0 (below_size (by repeat (first | (with_reducible first | exact HB.out | apply below_alloc | apply pw_below_drewN | apply below_drew1 | refine below_set ?_ (IsS100.ge HI1424.out)) | exact HB.out)))); replace HB := A_ (hb); replace HI1424 := A_ (hi); (try clear hb); (try clear hb2); (try clear hk); (try clear hi); (try clear ho0)))
 go_ret
 exact ⟨_, te_, by (with_reducible repeat (first | apply Kd.S_alloc | apply Kd.S_drewN | apply Kd.S_drew)); exact HO1427.out, by repeat (first | (with_reducible first | exact HB.out | apply below_alloc | apply pw_below_drewN | apply below_drew1 | refine below_set ?_ (IsS100.ge HI1424.out)) | exact HB.out)⟩

/-! ### spec_FilesOfCycles: function 75 -/
mutual
def spec_FilesOfCycles.l0 : Nat → List Int → List (List Int) → Int → Int → Option (List Int × Bool)
 | 0, _, _, _, _ => none
 | k + 1, x5, x18, x19, x20 => if x20 < x19 then (if 0 ≤ x20 then (if x20 < (x18.length : Int) then (spec_FilesOfCycles.l1 k x5 (rd_L1 x18 x20) x18 x19 x20 (rd_L1 x18 x20) ((rd_L1 x18 x20).length : Int) 0) else (none)) else (none)) else (some (x5, true))
def spec_FilesOfCycles.l1 : Nat → List Int → List Int → List (List Int) → Int → Int → List Int → Int → Int → Option (List Int × Bool)
 | 0, _, _, _, _, _, _, _, _ => none
 | k + 1, x5, x7, x18, x19, x20, x24, x25, x26 => if x26 < x25 then (if 0 ≤ x26 then (if x26 < (x24.length : Int) then (if 0 ≤ (rd x24 x26) then (if (rd x24 x26) < (x5.length : Int) then (if x26 ≤ (x7.length : Int) then ((some (x7.take (x26 : Int).toNat : List Int)).bind fun y1457 => (spec_FilesOfCycles.l2 k (x5.set ((rd x24 x26) : Int).toNat (-1)) x7 (rd x24 x26) x18 x19 x20 x24 x25 x26 y1457 (y1457.length : Int) 0)) else (none)) else (none)) else (none)) else (none)) else (none)) else (spec_FilesOfCycles.l0 k x5 x18 x19 (wrap64 (x20 + 1)))
def spec_FilesOfCycles.l2 : Nat → List Int → List Int → Int → List (List Int) → Int → Int → List Int → Int → Int → List Int → Int → Int → Option (List Int × Bool)
 | 0, _, _, _, _, _, _, _, _, _, _, _, _ => none
 | k + 1, x5, x7, x9, x18, x19, x20, x24, x25, x26, x36, x37, x38 => if x38 < x37 then (if 0 ≤ x38 then (if x38 < (x36.length : Int) then (if (rd x36 x38) < x9 then (if 0 ≤ x9 then (if x9 < (x5.length : Int) then (spec_FilesOfCycles.l2 k (x5.set (x9 : Int).toNat (rd x36 x38)) x7 x9 x18 x19 x20 x24 x25 x26 x36 x37 (wrap64 (x38 + 1))) else (none)) else (none)) else (spec_FilesOfCycles.l2 k x5 x7 x9 x18 x19 x20 x24 x25 x26 x36 x37 (wrap64 (x38 + 1)))) else (none)) else (none)) else (spec_FilesOfCycles.l1 k x5 x7 x18 x19 x20 x24 x25 (wrap64 (x26 + 1)))
end
def spec_FilesOfCycles.f (k : Nat) (l0 : List (List Int)) : Option (List Int × Bool) := (spec_fiBlocks.f k l0 false).bind fun t1450 => (if t1450 = 0 then (some (([] : List Int), false)) else (if 0 ≤ t1450 then (if (t1450 : Int).toNat ≤ 35184372088832 then (spec_FilesOfCycles.l0 k (List.replicate (t1450 : Int).toNat 0) l0 (l0.length : Int) 0) else (none)) else (none)))
theorem spec_FilesOfCycles.mono_l : ∀ k, (∀ y0 y1 y2 y3, LeO (spec_FilesOfCycles.l0 k y0 y1 y2 y3) (spec_FilesOfCycles.l0 (k + 1) y0 y1 y2 y3)) ∧ (∀ y0 y1 y2 y3 y4 y5 y6 y7, LeO (spec_FilesOfCycles.l1 k y0 y1 y2 y3 y4 y5 y6 y7) (spec_FilesOfCycles.l1 (k + 1) y0 y1 y2 y3 y4 y5 y6 y7)) ∧ (∀ y0 y1 y2 y3 y4 y5 y6 y7 y8 y9 y10 y11, LeO (spec_FilesOfCycles.l2 k y0 y1 y2 y3 y4 y5 y6 y7 y8 y9 y10 y11) (spec_FilesOfCycles.l2 (k + 1) y0 y1 y2 y3 y4 y5 y6 y7 y8 y9 y10 y11))
 | 0 => ⟨fun _ _ _ _ r h => by simp [spec_FilesOfCycles.l0] at h, fun _ _ _ _ _ _ _ _ r h => by simp [spec_FilesOfCycles.l1] at h, fun _ _ _ _ _ _ _ _ _ _ _ _ r h => by simp [spec_FilesOfCycles.l2] at h⟩
 | k + 1 => by
  obtain ⟨ih0, ih1, ih2⟩ := spec_FilesOfCycles.mono_l k
  refine ⟨?_, ?_, ?_⟩
  ·
   intro y0 y1 y2 y3
   unfold spec_FilesOfCycles.l0
   repeat' first | (with_reducible first | exact ih0 _ _ _ _ | exact ih1 _ _ _ _ _ _ _ _ | exact ih2 _ _ _ _ _ _ _ _ _ _ _ _ | exact spec_fiBlocks.mono _ _ _ | exact LeO.refl _ | exact LeO.none _ | refine LeO.ite ?_ ?_ | refine LeO.bind ?_ (fun _ => ?_)) | exact ih0 _ _ _ _ | exact ih1 _ _ _ _ _ _ _ _ | exact ih2 _ _ _ _ _ _ _ _ _ _ _ _ | exact spec_fiBlocks.mono _ _ _ | exact LeO.none _ | refine LeO.ite ?_ ?_ | refine LeO.bind ?_ (fun _ => ?_)
  ·
   intro y0 y1 y2 y3 y4 y5 y6 y7
   unfold spec_FilesOfCycles.l1
   repeat' first | (with_reducible first | exact ih0 _ _ _ _ | exact ih1 _ _ _ _ _ _ _ _ | exact ih2 _ _ _ _ _ _ _ _ _ _ _ _ | exact spec_fiBlocks.mono _ _ _ | exact LeO.refl _ | exact LeO.none _ | refine LeO.ite ?_ ?_ | refine LeO.bind ?_ (fun _ => ?_)) | exact ih0 _ _ _ _ | exact ih1 _ _ _ _ _ _ _ _ | exact ih2 _ _ _ _ _ _ _ _ _ _ _ _ | exact spec_fiBlocks.mono _ _ _ | exact LeO.none _ | refine LeO.ite ?_ ?_ | refine LeO.bind ?_ (fun _ => ?_)
  ·
   intro y0 y1 y2 y3 y4 y5 y6 y7 y8 y9 y10 y11
   unfold spec_FilesOfCycles.l2
   repeat' first | (with_reducible first | exact ih0 _ _ _ _ | exact ih1 _ _ _ _ _ _ _ _ | exact ih2 _ _ _ _ _ _ _ _ _ _ _ _ | exact spec_fiBlocks.mono _ _ _ | exact LeO.refl _ | exact LeO.none _ | refine LeO.ite ?_ ?_ | refine LeO.bind ?_ (fun _ => ?_)) | exact ih0 _ _ _ _ | exact ih1 _ _ _ _ _ _ _ _ | exact ih2 _ _ _ _ _ _ _ _ _ _ _ _ | exact spec_fiBlocks.mono _ _ _ | exact LeO.none _ | refine LeO.ite ?_ ?_ | refine LeO.bind ?_ (fun _ => ?_)
theorem spec_FilesOfCycles.mono : ∀ a0 k, LeO (spec_FilesOfCycles.f k a0) (spec_FilesOfCycles.f (k + 1) a0) := by
 intro a0 k
 obtain ⟨ih0, ih1, ih2⟩ := spec_FilesOfCycles.mono_l k
 unfold spec_FilesOfCycles.f
 repeat' first | (with_reducible first | exact ih0 _ _ _ _ | exact ih1 _ _ _ _ _ _ _ _ | exact ih2 _ _ _ _ _ _ _ _ _ _ _ _ | exact spec_fiBlocks.mono _ _ _ | exact LeO.refl _ | exact LeO.none _ | refine LeO.ite ?_ ?_ | refine LeO.bind ?_ (fun _ => ?_)) | exact ih0 _ _ _ _ | exact ih1 _ _ _ _ _ _ _ _ | exact ih2 _ _ _ _ _ _ _ _ _ _ _ _ | exact spec_fiBlocks.mono _ _ _ | exact LeO.none _ | refine LeO.ite ?_ ?_ | refine LeO.bind ?_ (fun _ => ?_)
theorem spec_FilesOfCycles.calls (k : Nat) (A0 : Option Addr) (c0 : Nat) (l0 : List (List Int)) (r1 : List Int) (r2 : Bool) (w : World) (hr0 : Kd.C (Kd.slice 3 (Kd.int .i64)) w A0 l0.length l0) (hc0 : l0.length ≤ c0) (h : spec_FilesOfCycles.f k l0 = some (r1, r2)) :
  Calls Try.prog 75 #[.slice A0 l0.length c0] w fun e w' => ∃ v0_ : Value, e = .returned (.tuple #[v0_, .bool r2]) ∧ Kd.R (Kd.int .i64) 3 w' w.heap.size (fun _ => True) v0_ r1 ∧ Below w.heap.size w w' := by
 have HR0 := A_ hr0
 have HC0 := A_ hc0
 clear hr0 hc0
 have HB := A_ (Below.refl w.heap.size w)
 have H : ((spec_fiBlocks.f k l0 false).bind fun t1450 => (if t1450 = 0 then (some (([] : List Int), false)) else (if 0 ≤ t1450 then (if (t1450 : Int).toNat ≤ 35184372088832 then (spec_FilesOfCycles.l0 k (List.replicate (t1450 : Int).toNat 0) l0 (l0.length : Int) 0) else (none)) else (none)))) = some (r1, r2) := h
 clear h
 replace H := Option.bind_eq_some_iff.mp H
 obtain ⟨t1450, A20, H⟩ := H
 replace H : (if t1450 = 0 then (some (([] : List Int), false)) else (if 0 ≤ t1450 then (if (t1450 : Int).toNat ≤ 35184372088832 then (spec_FilesOfCycles.l0 k (List.replicate (t1450 : Int).toNat 0) l0 (l0.length : Int) 0) else (none)) else (none))) = some (r1, r2) := H
 have A2 := A_ A20
 clear A20
 by_cases c3 : t1450 = 0
 ·
  rw [if_pos c3] at H
  have c3b0 : (t1450 == 0) = true := beq_iff_eq.mpr c3
  have c3b1 : (t1450 != 0) = false := bne_eq_false_iff_eq.mpr c3
  clear c3
  simp only [Option.some.injEq, Prod.mk.injEq] at H
  obtain ⟨rfl, rfl⟩ := H
  go_enter Try.func75, Try.ntmps75
  go_wp2_with (first | (refine gc_ 154 ?_; refine goesT_ (some 13) Try.func154 #[.slice A0 l0.length c0, .bool false] ?_; (with_reducible refine (spec_fiBlocks.calls k _ _ l0 false t1450 _ ?side1 ?side2 A2.out).mono ?_); (case side1 => exact tc0_ HR0.out); (case side2 => exact HC0.out); rintro e w4 ⟨rfl, hb⟩; refine ⟨_, rfl, ?_⟩; replace HB := A_ (below_step tb_ hb); (try clear hb)))
  go_ret2
  exact ⟨_, te_, by first | exact Kd.R_nil _ _ _ _ _ | exact Kd.N_nil _ _ _ _ _ | exact Kd.V_nil _ _ _ _ _ | exact Kd.Q_nil _ _ _ _ _ | exact Kd.S_nil _ _ _ _ _, tb_⟩
 ·
  rw [if_neg c3] at H
  have c3b0 : (t1450 == 0) = false := beq_eq_false_iff_ne.mpr c3
  have c3b1 : (t1450 != 0) = true := bne_iff_ne.mpr c3
  by_cases c5 : 0 ≤ t1450
  ·
   rw [if_pos c5] at H
   have c5b0 := eq_true c5
   have c5b1 := decide_eq_true c5
   clear c5
   by_cases c6 : (t1450 : Int).toNat ≤ 35184372088832
   ·
    rw [if_pos c6] at H
    have c6b0 := eq_true c6
    have c6b1 := decide_eq_true c6
    clear c6
    obtain ⟨y1451, hy1451⟩ : ∃ y_ : List Int, y_ = (List.replicate (t1450 : Int).toNat 0) := ⟨_, rfl⟩
    replace H : (spec_FilesOfCycles.l0 k y1451 l0 (l0.length : Int) 0) = some (r1, r2) := ty_ hy1451 H
    have Ny1451 := A_ hy1451
    clear hy1451
    have H' := A_ H
    clear H
    go_enter Try.func75, Try.ntmps75
    go_wp2_with (first | (refine gc_ 154 ?_; refine goesT_ (some 13) Try.func154 #[.slice A0 l0.length c0, .bool false] ?_; (with_reducible refine (spec_fiBlocks.calls k _ _ l0 false t1450 _ ?side1 ?side2 A2.out).mono ?_); (case side1 => exact tc0_ HR0.out); (case side2 => exact HC0.out); rintro e w7 ⟨rfl, hb⟩; refine ⟨_, rfl, ?_⟩; replace HB := A_ (below_step tb_ hb); (try clear hb)) | (refine gd_ 17 ?_; refine Kd.R_make (Kd.int .i64) _ 3 rfl (N := 17) rfl 22 _ _ rfl t1450 rfl rfl Try.underlying22 (.int .i64 0) 8 info3 rfl (by decide) (by omega) 0 (ok := fun _ => True) (okp := fun _ => True) rfl (fun _ hk => hk) trivial (od_) (Nat.le_trans (Nat.mul_le_mul_right _ (od_ : t1450.toNat ≤ 35184372088832)) (by omega)) (Below.refl _ _) (Nat.le_refl _) ?_; intro v1452 w8 ho9 hb hg_ hnew_; clear hg_ hnew_; (first | rw [← Ny1451.out] at ho9 | (simp only [Int.reduceToNat] at ho9; rw [← Ny1451.out] at ho9)); have HO1453 := A_ (Kd.R_lower ho9 (below_size tb_)); replace HB := A_ (below_step tb_ hb); clear hb ho9))
    go_loopg [20] k (fun kq v20 w' => ∃ (x5_1 : List Int) (x20_1 : Int), v20 = .int .i64 x20_1 ∧ Aside0 (spec_FilesOfCycles.l0 kq x5_1 l0 (l0.length : Int) x20_1 = some (r1, r2)) ∧ Aside0 (kq ≤ k) ∧ Aside0 (Kd.R (Kd.int .i64) 3 w' w.heap.size (fun _ => True) v1452 x5_1) ∧ Aside0 (Below w.heap.size w w'))
    case atStart => exact ⟨(y1451), (0), tf_, H', ⟨Nat.le_refl _⟩, ⟨tr_x HO1453.out⟩, ⟨tb_⟩⟩
    case round =>
     clear H'
     try clear c1
     try clear p2
     try clear c3
     try clear c3b0
     try clear c3b1
     try clear c5
     try clear c5b0
     try clear c5b1
     try clear c6
     try clear c6b0
     try clear c6b1
     try clear c7
     obtain ⟨x5_1, x20_1, rfl, HA, HK1, HO_5, HB⟩ := hrel
     cases gk with
     | zero => exact absurd HA.out (by simp [spec_FilesOfCycles.l0])
     | succ k1 =>
      have H := HA.out
      clear HA
      simp only [spec_FilesOfCycles.l0] at H
      by_cases c10 : x20_1 < (l0.length : Int)
      ·
       rw [if_pos c10] at H
       have c10b0 := decide_eq_true c10
       clear c10
       by_cases c11 : 0 ≤ x20_1
       ·
        rw [if_pos c11] at H
        have c11b0 := decide_eq_true c11
        clear c11
        by_cases c12 : x20_1 < (l0.length : Int)
        ·
         rw [if_pos c12] at H
         have c12b0 := decide_eq_true c12
         clear c12
         have H' := A_ H
         clear H
         have p1454 : 0 ≤ (x20_1 : Int) := od_
         have q1454 : x20_1 < (l0.length : Int) := od_
         obtain ⟨ad1454, A1454_0, c1454_0, e1454, hx1454_0, hl1454_0, hi1454_0⟩ := at_L1 HR0.out x20_1 p1454 q1454
         cases e1454
         (try replace hx1454_0 := (HB.out.cell (World.block_lt_of_cell? w _ hx1454_0)).trans hx1454_0)
         have HR1454_0 := A_ hi1454_0
         have HC1454_0 := A_ hl1454_0
         clear hi1454_0 hl1454_0
         replace p1454 := eq_true p1454
         replace q1454 := eq_true q1454
         go_wp2
         go_loopg [26] k1 (fun kq v26 w' => ∃ (x5_2 : List Int) (x26_2 : Int), v26 = .int .i64 x26_2 ∧ Aside0 (spec_FilesOfCycles.l1 kq x5_2 (rd_L1 l0 x20_1) l0 (l0.length : Int) x20_1 (rd_L1 l0 x20_1) ((rd_L1 l0 x20_1).length : Int) x26_2 = some (r1, r2)) ∧ Aside0 (kq ≤ k1) ∧ Aside0 (Kd.R (Kd.int .i64) 3 w' w.heap.size (fun _ => True) v1452 x5_2) ∧ Aside0 (Below w.heap.size w w'))
         case atStart => exact ⟨(x5_1), (0), tf_, H', ⟨Nat.le_refl _⟩, ⟨tr_x HO_5.out⟩, ⟨tb_⟩⟩
         case round =>
          clear H'
          try clear c1
          try clear p1
          try clear q1
          try clear hx1
          try clear p2
          try clear c3
          try clear c3b0
          try clear c3b1
          try clear c5
          try clear c5b0
          try clear c5b1
          try clear c6
          try clear c6b0
          try clear c6b1
          try clear c7
          try clear c10
          try clear c10b0
          try clear c11
          try clear c11b0
          try clear c12
          try clear c12b0
          try clear hx1454_0
          try clear p1454
          try clear p2
          try clear q1454
          obtain ⟨x5_2, x26_2, rfl, HA, HK2, HO_5, HB⟩ := hrel
          cases gk with
          | zero => exact absurd HA.out (by simp [spec_FilesOfCycles.l1])
          | succ k2 =>
           have H := HA.out
           clear HA
           simp only [spec_FilesOfCycles.l1] at H
           by_cases c13 : x26_2 < ((rd_L1 l0 x20_1).length : Int)
           ·
            rw [if_pos c13] at H
            have c13b0 := decide_eq_true c13
            clear c13
            by_cases c14 : 0 ≤ x26_2
            ·
             rw [if_pos c14] at H
             have c14b0 := decide_eq_true c14
             clear c14
             by_cases c15 : x26_2 < ((rd_L1 l0 x20_1).length : Int)
             ·
              rw [if_pos c15] at H
              have c15b0 := decide_eq_true c15
              clear c15
              by_cases c16 : 0 ≤ (rd (rd_L1 l0 x20_1) x26_2)
              ·
               rw [if_pos c16] at H
               have c16b0 := decide_eq_true c16
               clear c16
               by_cases c17 : (rd (rd_L1 l0 x20_1) x26_2) < (x5_2.length : Int)
               ·
                rw [if_pos c17] at H
                have c17b0 := decide_eq_true c17
                clear c17
                obtain ⟨y1456, hy1456⟩ : ∃ y_ : List Int, y_ = (x5_2.set ((rd (rd_L1 l0 x20_1) x26_2) : Int).toNat (-1)) := ⟨_, rfl⟩
                replace H : (if x26_2 ≤ ((rd_L1 l0 x20_1).length : Int) then ((some ((rd_L1 l0 x20_1).take (x26_2 : Int).toNat : List Int)).bind fun y1457 => (spec_FilesOfCycles.l2 k2 y1456 (rd_L1 l0 x20_1) (rd (rd_L1 l0 x20_1) x26_2) l0 (l0.length : Int) x20_1 (rd_L1 l0 x20_1) ((rd_L1 l0 x20_1).length : Int) x26_2 y1457 (y1457.length : Int) 0)) else (none)) = some (r1, r2) := ty_ hy1456 H
                have Ny1456 := A_ hy1456
                clear hy1456
                have c19b0 := eq_true (od_ : 0 ≤ x26_2)
                by_cases c20 : x26_2 ≤ ((rd_L1 l0 x20_1).length : Int)
                ·
                 rw [if_pos c20] at H
                 have c20b0 := eq_true c20
                 have c20b1 := decide_eq_true c20
                 clear c20
                 obtain ⟨y1457, hy1457⟩ : ∃ y_ : List Int, y_ = ((rd_L1 l0 x20_1).take (x26_2 : Int).toNat) := ⟨_, rfl⟩
                 replace H : (spec_FilesOfCycles.l2 k2 y1456 (rd_L1 l0 x20_1) (rd (rd_L1 l0 x20_1) x26_2) l0 (l0.length : Int) x20_1 (rd_L1 l0 x20_1) ((rd_L1 l0 x20_1).length : Int) x26_2 y1457 (y1457.length : Int) 0) = some (r1, r2) := ty_ hy1457 H
                 have Ny1457 := A_ hy1457
                 clear hy1457
                 have H' := A_ H
                 clear H
                 have p1455 : 0 ≤ (x26_2 : Int) := od_
                 have q1455 : x26_2 < ((rd_L1 l0 x20_1).length : Int) := od_
                 obtain ⟨ad1455, e1455, hx1455_0⟩ := Kd.at_int HR1454_0.out x26_2 p1455 q1455
                 cases e1455
                 (try replace hx1455_0 := (HB.out.cell (World.block_lt_of_cell? w _ hx1455_0)).trans hx1455_0)
                 replace p1455 := eq_true p1455
                 replace q1455 := eq_true q1455
                 have p18 : 0 ≤ ((rd (rd_L1 l0 x20_1) x26_2) : Int) := od_
                 have q18 : ((rd (rd_L1 l0 x20_1) x26_2) : Int) < ((x5_2.length : Int) : Int) := od_
                 obtain ⟨go18, co18, eo18, gb18, gl18, cl18, HG18⟩ := Kd.R_form HO_5.out (by omega)
                 (first | cases eo18 | (injection eo18 with ea_ en_ ec_; (first | subst ea_ | (injection ea_ with ea_; subst ea_)); subst ec_; clear en_))
                 have GB18 := A_ gb18
                 have GG18 := A_ HG18
                 clear gb18 gl18 HG18
                 obtain ⟨hx18_0, hf18_0⟩ := Kd.R_celln 0 HO_5.out ((rd (rd_L1 l0 x20_1) x26_2) : Int) p18 q18
                 replace p18 := eq_true p18
                 replace q18 := eq_true q18
                 have HP21 := Kd.R_putg HO_5.out ((rd (rd_L1 l0 x20_1) x26_2) : Int) (-1)
                 go_wp2_with (first | ((with_reducible refine gate_store (t := 3) (p := 33) rfl ?_); refine store_event (t := 3) (p := 33) (v := ?vo_w22) (w1 := (wr.setCell ⟨go18, ((rd (rd_L1 l0 x20_1) x26_2) : Int).toNat, none⟩ (.int .i64 (-1)))) ?hg ?ho ?hn ?hr ?_; (case ho => rfl); (case hg => rfl); (case hn => rfl); (case hr => first | (go_simp; done) | (go_simp; rfl)); intro w22 hw; have hg : wr.grownBy w22 (some go18) := (by rw [hw]; exact HP21.2); have hp_ : Kd.R (Kd.int .i64) 3 w22 w.heap.size (fun _ => True) (.slice (some ⟨go18, 0, none⟩) x5_2.length co18) y1456 := (by rw [hw, Ny1456.out]; exact HP21.1); clear HP21; replace HO_5 := A_ (hp_); replace HB := A_ ((by rw [hw]; exact below_set (HB.out) GB18.out : Below w.heap.size w w22)); clear hg hw hp_; have q23 : (x26_2 : Int) ≤ (((rd_L1 l0 x20_1).length : Int) : Int) := od_; obtain ⟨i023, hi023, _, hsz23, _⟩ := info_parts info3; have hroom23 : (rd_L1 l0 x20_1).length ≤ c1454_0 := HC1454_0.out; have hC23 : Kd.C (Kd.int .i64) _ (some ad1455) (rd_L1 l0 x20_1).length (rd_L1 l0 x20_1) := HR1454_0.out; have hcut23 := cut_to (P := Try.prog) 22 3 .i64 Try.underlying22 hi023 (some ad1455) (rd_L1 l0 x20_1).length c1454_0 x26_2 (od_) q23 hroom23; have hr23 := Kd.C_take (m := (x26_2 : Int).toNat) hC23 (by omega); have hy23 : y1457.length = (x26_2 : Int).toNat := (by rw [Ny1457.out, List.length_take]; omega); rw [← Ny1457.out] at hr23; rw [← hy23] at hcut23; have HR1460 := A_ hr23; have HC1460 := A_ (show y1457.length ≤ c1454_0 from by omega); clear hr23 hC23 hroom23 hi023 hsz23; have KY23 := A_ hy23; clear hy23; replace q23 := eq_true q23))
                 go_loopg [38] k2 (fun kq v38 w' => ∃ (x5_3 : List Int) (x38_3 : Int), v38 = .int .i64 x38_3 ∧ Aside0 (spec_FilesOfCycles.l2 kq x5_3 (rd_L1 l0 x20_1) (rd (rd_L1 l0 x20_1) x26_2) l0 (l0.length : Int) x20_1 (rd_L1 l0 x20_1) ((rd_L1 l0 x20_1).length : Int) x26_2 y1457 (y1457.length : Int) x38_3 = some (r1, r2)) ∧ Aside0 (kq ≤ k2) ∧ Aside0 (Kd.R (Kd.int .i64) 3 w' w.heap.size (fun _ => True) (.slice (some ⟨go18, 0, none⟩) x5_2.length co18) x5_3) ∧ Aside0 (Below w.heap.size w w'))
                 case atStart => exact ⟨(y1456), (0), tf_, H', ⟨Nat.le_refl _⟩, ⟨tr_x HO_5.out⟩, ⟨tb_⟩⟩
                 case round =>
                  clear H'
                  try clear c1
                  try clear p1
                  try clear q1
                  try clear hx1
                  try clear hf1
                  try clear c2
                  try clear p2
                  try clear q2
                  try clear c3
                  try clear c3b0
                  try clear c3b1
                  try clear c5
                  try clear c5b0
                  try clear c5b1
                  try clear c6
                  try clear c6b0
                  try clear c6b1
                  try clear c7
                  try clear c10
                  try clear c10b0
                  try clear c11
                  try clear c11b0
                  try clear c12
                  try clear c12b0
                  try clear c13
                  try clear c13b0
                  try clear c14
                  try clear c14b0
                  try clear p14
                  try clear q14
                  try clear hx14
                  try clear c15
                  try clear c15b0
                  try clear c16
                  try clear c16b0
                  try clear c17
                  try clear c17b0
                  try clear p18
                  try clear q18
                  try clear hx18
                  try clear hf18
                  try clear c19
                  try clear c19b0
                  try clear c20
                  try clear c20b0
                  try clear c20b1
                  try clear q23
                  try clear hx1454_0
                  try clear hx1455_0
                  try clear hx18_0
                  try clear p1
                  try clear p1454
                  try clear p1455
                  try clear p18
                  try clear p2
                  try clear q1
                  try clear q1454
                  try clear q1455
                  try clear q18
                  try clear q23
                  obtain ⟨x5_3, x38_3, rfl, HA, HK3, HO_5, HB⟩ := hrel
                  have hl5_3 := (Kd.R_reads' HO_5.out).1
                  rw [hl5_3] at HO_5
                  (try simp only [hl5_3])
                  cases gk with
                  | zero => exact absurd HA.out (by simp [spec_FilesOfCycles.l2])
                  | succ k3 =>
                   have H := HA.out
                   clear HA
                   simp only [spec_FilesOfCycles.l2] at H
                   by_cases c24 : x38_3 < (y1457.length : Int)
                   ·
                    rw [if_pos c24] at H
                    have c24b0 := decide_eq_true c24
                    (try (have c24b7 := c24b0; rw [hl5_3] at c24b7))
                    clear c24
                    by_cases c25 : 0 ≤ x38_3
                    ·
                     rw [if_pos c25] at H
                     have c25b0 := decide_eq_true c25
                     clear c25
                     by_cases c26 : x38_3 < (y1457.length : Int)
                     ·
                      rw [if_pos c26] at H
                      have c26b0 := decide_eq_true c26
                      (try (have c26b7 := c26b0; rw [hl5_3] at c26b7))
                      clear c26
                      by_cases c27 : (rd y1457 x38_3) < (rd (rd_L1 l0 x20_1) x26_2)
                      ·
                       rw [if_pos c27] at H
                       have c27b0 := decide_eq_true c27
                       clear c27
                       by_cases c28 : 0 ≤ (rd (rd_L1 l0 x20_1) x26_2)
                       ·
                        rw [if_pos c28] at H
                        have c28b0 := decide_eq_true c28
                        clear c28
                        by_cases c29 : (rd (rd_L1 l0 x20_1) x26_2) < (x5_3.length : Int)
                        ·
                         rw [if_pos c29] at H
                         have c29b0 := decide_eq_true c29
                         (try (have c29b7 := c29b0; rw [hl5_3] at c29b7))
                         clear c29
                         obtain ⟨y1462, hy1462⟩ : ∃ y_ : List Int, y_ = (x5_3.set ((rd (rd_L1 l0 x20_1) x26_2) : Int).toNat (rd y1457 x38_3)) := ⟨_, rfl⟩
                         replace H : (spec_FilesOfCycles.l2 k3 y1462 (rd_L1 l0 x20_1) (rd (rd_L1 l0 x20_1) x26_2) l0 (l0.length : Int) x20_1 (rd_L1 l0 x20_1) ((rd_L1 l0 x20_1).length : Int) x26_2 y1457 (y1457.length : Int) (wrap64 (x38_3 + 1))) = some (r1, r2) := ty_ hy1462 H
                         have Ny1462 := A_ hy1462
                         clear hy1462
                         have H' := A_ H
                         clear H
                         have p1461 : 0 ≤ (x38_3 : Int) := od_
                         have q1461 : x38_3 < (y1457.length : Int) := od_
                         obtain ⟨ad1461, e1461, hx1461_0⟩ := Kd.at_int HR1460.out x38_3 p1461 q1461
                         obtain rfl : ad1455 = ad1461 := (by injection e1461)
                         (try replace hx1461_0 := (HB.out.cell (World.block_lt_of_cell? w _ hx1461_0)).trans hx1461_0)
                         replace p1461 := eq_true p1461
                         replace q1461 := eq_true q1461
                         have p30 : 0 ≤ ((rd (rd_L1 l0 x20_1) x26_2) : Int) := od_
                         have q30 : ((rd (rd_L1 l0 x20_1) x26_2) : Int) < ((x5_3.length : Int) : Int) := od_
                         obtain ⟨hx30_0, hf30_0⟩ := Kd.R_celln 0 HO_5.out ((rd (rd_L1 l0 x20_1) x26_2) : Int) p30 q30
                         replace p30 := eq_true p30
                         replace q30 := eq_true q30
                         have HP31 := Kd.R_putg HO_5.out ((rd (rd_L1 l0 x20_1) x26_2) : Int) (rd y1457 x38_3)
                         go_wp2_with (first | ((with_reducible refine gate_store (t := 3) (p := 48) rfl ?_); refine store_event (t := 3) (p := 48) (v := ?vo_w32) (w1 := (wr.setCell ⟨go18, ((rd (rd_L1 l0 x20_1) x26_2) : Int).toNat, none⟩ (.int .i64 (rd y1457 x38_3)))) ?hg ?ho ?hn ?hr ?_; (case ho => rfl); (case hg => rfl); (case hn => rfl); (case hr => first | (go_simp; done) | (go_simp; rfl)); intro w32 hw; have hg : wr.grownBy w32 (some go18) := (by rw [hw]; exact HP31.2); have hp_ : Kd.R (Kd.int .i64) 3 w32 w.heap.size (fun _ => True) (.slice (some ⟨go18, 0, none⟩) x5_3.length co18) y1462 := (by rw [hw, Ny1462.out]; exact HP31.1); clear HP31; replace HO_5 := A_ (hp_); replace HB := A_ ((by rw [hw]; exact below_set (HB.out) GB18.out : Below w.heap.size w w32)); clear hg hw hp_))
                         (try simp only [← hl5_3])
                         go_roundg k3
                         case measure => have := HK1.out; have := HK2.out; have := HK3.out; omega
                         case rel => exact ⟨(y1462), (wrap64 (x38_3 + 1)), tf_, H', ⟨by have := HK1.out; have := HK2.out; have := HK3.out; omega⟩, ⟨by (try simp only [hl5_3]); (with_reducible repeat (first | apply Kd.R_alloc | apply Kd.R_drewN | apply Kd.R_drew)); exact HO_5.out⟩, ⟨tb_⟩⟩
                        ·
                         rw [if_neg c29] at H
                         exact absurd H (by simp)
                       ·
                        rw [if_neg c28] at H
                        exact absurd H (by simp)
                      ·
                       rw [if_neg c27] at H
                       have c27b0 := decide_eq_false c27
                       clear c27
                       have H' := A_ H
                       clear H
                       have p1461 : 0 ≤ (x38_3 : Int) := od_
                       have q1461 : x38_3 < (y1457.length : Int) := od_
                       obtain ⟨ad1461, e1461, hx1461_0⟩ := Kd.at_int HR1460.out x38_3 p1461 q1461
                       obtain rfl : ad1455 = ad1461 := (by injection e1461)
                       (try replace hx1461_0 := (HB.out.cell (World.block_lt_of_cell? w _ hx1461_0)).trans hx1461_0)
                       replace p1461 := eq_true p1461
                       replace q1461 := eq_true q1461
                       go_wp2
                       (try simp only [← hl5_3])
                       go_roundg k3
                       case measure => have := HK1.out; have := HK2.out; have := HK3.out; omega
                       case rel => exact ⟨(x5_3), (wrap64 (x38_3 + 1)), tf_, H', ⟨by have := HK1.out; have := HK2.out; have := HK3.out; omega⟩, ⟨by (try simp only [hl5_3]); (with_reducible repeat (first | apply Kd.R_alloc | apply Kd.R_drewN | apply Kd.R_drew)); exact HO_5.out⟩, ⟨tb_⟩⟩
                     ·
                      rw [if_neg c26] at H
                      exact absurd H (by simp)
                    ·
                     rw [if_neg c25] at H
                     exact absurd H (by simp)
                   ·
                    rw [if_neg c24] at H
                    have c24b0 := decide_eq_false c24
                    (try (have c24b7 := c24b0; rw [hl5_3] at c24b7))
                    clear c24
                    have H' := A_ H
                    clear H
                    go_wp2
                    (try simp only [← hl5_3])
                    go_roundg k3
                    case measure => have := HK1.out; have := HK2.out; have := HK3.out; omega
                    case rel => exact ⟨(x5_3), (wrap64 (x26_2 + 1)), tf_, H', ⟨by have := HK1.out; have := HK2.out; have := HK3.out; omega⟩, ⟨by (try simp only [hl5_3]); (with_reducible repeat (first | apply Kd.R_alloc | apply Kd.R_drewN | apply Kd.R_drew)); exact HO_5.out⟩, ⟨tb_⟩⟩
                ·
                 rw [if_neg c20] at H
                 exact absurd H (by simp)
               ·
                rw [if_neg c17] at H
                exact absurd H (by simp)
              ·
               rw [if_neg c16] at H
               exact absurd H (by simp)
             ·
              rw [if_neg c15] at H
              exact absurd H (by simp)
            ·
             rw [if_neg c14] at H
             exact absurd H (by simp)
           ·
            rw [if_neg c13] at H
            have c13b0 := decide_eq_false c13
            (try (have c13b7 := c13b0; rw [hl5_3] at c13b7))
            clear c13
            have H' := A_ H
            clear H
            go_wp2
            go_roundg k2
            case measure => have := HK1.out; have := HK2.out; omega
            case rel => exact ⟨(x5_2), (wrap64 (x20_1 + 1)), tf_, H', ⟨by have := HK1.out; have := HK2.out; omega⟩, ⟨tr_x HO_5.out⟩, ⟨tb_⟩⟩
        ·
         rw [if_neg c12] at H
         exact absurd H (by simp)
       ·
        rw [if_neg c11] at H
        exact absurd H (by simp)
      ·
       rw [if_neg c10] at H
       have c10b0 := decide_eq_false c10
       (try (have c10b7 := c10b0; rw [hl5_3] at c10b7))
       clear c10
       simp only [Option.some.injEq, Prod.mk.injEq] at H
       obtain ⟨rfl, rfl⟩ := H
       go_wp2
       go_ret2
       exact ⟨_, te_, tr_x HO_5.out, tb_⟩
   ·
    rw [if_neg c6] at H
    exact absurd H (by simp)
  ·
   rw [if_neg c5] at H
   exact absurd H (by simp)

end
end Go.Proofs.Ythlcaikplebpmaa.P
