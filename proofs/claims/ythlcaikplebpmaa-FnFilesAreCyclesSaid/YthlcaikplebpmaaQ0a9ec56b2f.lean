-- printed functions (wip/slim.py)
import Derived.Test.YthlcaikplebpmaaPx0
import Derived.Test.YthlcaikplebpmaaQ9d9c7c2b41
import Derived.Test.YthlcaikplebpmaaQe801c6b909
import Derived.Test.YthlcaikplebpmaaQb30a44e1d8
import Derived.Test.YthlcaikplebpmaaQ5243cf6e44
namespace Go.Proofs.Ythlcaikplebpmaa.P
noncomputable section
set_option maxHeartbeats 8000000
set_option maxRecDepth 100000
open Go.RowKit Go.Proofs.YthlcaikplebpmaaW.PrintWords Go.Proofs.YthlcaikplebpmaaW.PrintLast Go.Proofs.YthlcaikplebpmaaW.PrintMore
attribute [local go_sem] max2_int min2_int max_two min_two max_three min_three max_four min_four   -- for this text's walks alone
set_option linter.unusedVariables false
set_option linter.unusedSimpArgs false

/-! ### laws_FnFilesAreCycles: function 15 -/
mutual
def laws_FnFilesAreCycles.j0 : Nat → List Int → List Int → List (List Int) → Bool → Bool → Option (Bool)
 | 0, _, _, _, _, _ => none
 | k + 1, x1, x5, x6, x7, x49 => if x49 = true then (none) else (if x7 = true then ((impl_FilesOfCycles.f k x6).bind fun bt1476 => ((impl_ArrowBoard.f k (x5.length : Int)).bind fun bt1480 => ((impl_IsFilePlacement.f k bt1480.1 bt1480.2.1 bt1480.2.2.1 x5).bind fun bt1487 => (laws_FnFilesAreCycles.l0 k x1 x5 x6 bt1476.1 bt1476.2 bt1480.2.2.2 bt1487.1 bt1487.2 0 x5 (x5.length : Int) 0)))) else (laws_FnFilesAreCycles.j2 k x1))
def laws_FnFilesAreCycles.j2 : Nat → List Int → Option (Bool)
 | 0, _ => none
 | k + 1, x1 => (spec_DrawFilesOfCycles.f k x1).bind fun t1491 => ((impl_FilesOfCycles.f k t1491).bind fun bt1494 => ((spec_FilesOfCycles.f k t1491).bind fun bt1498 => (if (bt1494.2 != bt1498.2) = true then (none) else ((laws_kSame.f k bt1494.1 bt1498.1).bind fun t1502 => (laws_FnFilesAreCycles.j3 k t1491 bt1494.1 bt1494.2 (!t1502))))))
def laws_FnFilesAreCycles.j3 : Nat → List (List Int) → List Int → Bool → Bool → Option (Bool)
 | 0, _, _, _, _ => none
 | k + 1, x19, x20, x21, x128 => if x128 = true then (none) else (if x21 = true then ((impl_CyclesOfFiles.f k x20).bind fun bt1503 => (if bt1503.2 = true then ((laws_kRows.f k bt1503.1 x19).bind fun t1507 => (some t1507)) else (none))) else (some true))
def laws_FnFilesAreCycles.l0 : Nat → List Int → List Int → List (List Int) → List Int → Bool → Bool → Bool → Bool → Int → List Int → Int → Int → Option (Bool)
 | 0, _, _, _, _, _, _, _, _, _, _, _, _ => none
 | k + 1, x1, x5, x6, x10, x11, x13, x14, x15, x16, x68, x69, x70 => if x70 < x69 then (if 0 ≤ x70 then (if x70 < (x68.length : Int) then (if (rd x68 x70) ≥ 0 then (laws_FnFilesAreCycles.l0 k x1 x5 x6 x10 x11 x13 x14 x15 (wrap64 (x16 + 1)) x68 x69 (wrap64 (x70 + 1))) else (laws_FnFilesAreCycles.l0 k x1 x5 x6 x10 x11 x13 x14 x15 x16 x68 x69 (wrap64 (x70 + 1)))) else (none)) else (none)) else (if x11 = true then ((laws_kSame.f k x10 x5).bind fun t1490 => (if t1490 = true then (if x13 = true then (if x15 = true then (if x14 = true then (if (wrap64 (x16 + (x6.length : Int))) = (x5.length : Int) then (laws_FnFilesAreCycles.j2 k x1) else (none)) else (none)) else (none)) else (none)) else (none))) else (none))
end
def laws_FnFilesAreCycles.f (k : Nat) (l0 : List Int) (l1 : List Int) : Option (Bool) := (laws_big.f l0 l1).bind fun t1463 => (if t1463 = true then (some true) else ((spec_DrawCyclesOfFiles.f k l0).bind fun t1464 => ((impl_CyclesOfFiles.f k t1464).bind fun bt1467 => ((spec_CyclesOfFiles.f k t1464).bind fun bt1471 => (if (bt1467.2 != bt1471.2) = true then (none) else ((laws_kRows.f k bt1467.1 bt1471.1).bind fun t1475 => (laws_FnFilesAreCycles.j0 k l1 t1464 bt1467.1 bt1467.2 (!t1475))))))))
theorem laws_FnFilesAreCycles.mono_l : ∀ k, (∀ y0 y1 y2 y3 y4, LeO (laws_FnFilesAreCycles.j0 k y0 y1 y2 y3 y4) (laws_FnFilesAreCycles.j0 (k + 1) y0 y1 y2 y3 y4)) ∧ (∀ y0, LeO (laws_FnFilesAreCycles.j2 k y0) (laws_FnFilesAreCycles.j2 (k + 1) y0)) ∧ (∀ y0 y1 y2 y3, LeO (laws_FnFilesAreCycles.j3 k y0 y1 y2 y3) (laws_FnFilesAreCycles.j3 (k + 1) y0 y1 y2 y3)) ∧ (∀ y0 y1 y2 y3 y4 y5 y6 y7 y8 y9 y10 y11, LeO (laws_FnFilesAreCycles.l0 k y0 y1 y2 y3 y4 y5 y6 y7 y8 y9 y10 y11) (laws_FnFilesAreCycles.l0 (k + 1) y0 y1 y2 y3 y4 y5 y6 y7 y8 y9 y10 y11))
 | 0 => ⟨fun _ _ _ _ _ r h => by simp [laws_FnFilesAreCycles.j0] at h, fun _ r h => by simp [laws_FnFilesAreCycles.j2] at h, fun _ _ _ _ r h => by simp [laws_FnFilesAreCycles.j3] at h, fun _ _ _ _ _ _ _ _ _ _ _ _ r h => by simp [laws_FnFilesAreCycles.l0] at h⟩
 | k + 1 => by
  obtain ⟨ih0, ih1, ih2, ih3⟩ := laws_FnFilesAreCycles.mono_l k
  refine ⟨?_, ?_, ?_, ?_⟩
  ·
   intro y0 y1 y2 y3 y4
   unfold laws_FnFilesAreCycles.j0
   repeat' first | (with_reducible first | exact ih0 _ _ _ _ _ | exact ih1 _ | exact ih2 _ _ _ _ | exact ih3 _ _ _ _ _ _ _ _ _ _ _ _ | exact impl_ArrowBoard.mono _ _ | exact impl_CyclesOfFiles.mono _ _ | exact impl_FilesOfCycles.mono _ _ | exact impl_IsFilePlacement.mono _ _ _ _ _ | exact laws_kRows.mono _ _ _ | exact laws_kSame.mono _ _ _ | exact spec_CyclesOfFiles.mono _ _ | exact spec_DrawCyclesOfFiles.mono _ _ | exact spec_DrawFilesOfCycles.mono _ _ | exact spec_FilesOfCycles.mono _ _ | exact LeO.refl _ | exact LeO.none _ | refine LeO.ite ?_ ?_ | refine LeO.bind ?_ (fun _ => ?_)) | exact ih0 _ _ _ _ _ | exact ih1 _ | exact ih2 _ _ _ _ | exact ih3 _ _ _ _ _ _ _ _ _ _ _ _ | exact impl_ArrowBoard.mono _ _ | exact impl_CyclesOfFiles.mono _ _ | exact impl_FilesOfCycles.mono _ _ | exact impl_IsFilePlacement.mono _ _ _ _ _ | exact laws_kRows.mono _ _ _ | exact laws_kSame.mono _ _ _ | exact spec_CyclesOfFiles.mono _ _ | exact spec_DrawCyclesOfFiles.mono _ _ | exact spec_DrawFilesOfCycles.mono _ _ | exact spec_FilesOfCycles.mono _ _ | exact LeO.none _ | refine LeO.ite ?_ ?_ | refine LeO.bind ?_ (fun _ => ?_)
  ·
   intro y0
   unfold laws_FnFilesAreCycles.j2
   repeat' first | (with_reducible first | exact ih0 _ _ _ _ _ | exact ih1 _ | exact ih2 _ _ _ _ | exact ih3 _ _ _ _ _ _ _ _ _ _ _ _ | exact impl_ArrowBoard.mono _ _ | exact impl_CyclesOfFiles.mono _ _ | exact impl_FilesOfCycles.mono _ _ | exact impl_IsFilePlacement.mono _ _ _ _ _ | exact laws_kRows.mono _ _ _ | exact laws_kSame.mono _ _ _ | exact spec_CyclesOfFiles.mono _ _ | exact spec_DrawCyclesOfFiles.mono _ _ | exact spec_DrawFilesOfCycles.mono _ _ | exact spec_FilesOfCycles.mono _ _ | exact LeO.refl _ | exact LeO.none _ | refine LeO.ite ?_ ?_ | refine LeO.bind ?_ (fun _ => ?_)) | exact ih0 _ _ _ _ _ | exact ih1 _ | exact ih2 _ _ _ _ | exact ih3 _ _ _ _ _ _ _ _ _ _ _ _ | exact impl_ArrowBoard.mono _ _ | exact impl_CyclesOfFiles.mono _ _ | exact impl_FilesOfCycles.mono _ _ | exact impl_IsFilePlacement.mono _ _ _ _ _ | exact laws_kRows.mono _ _ _ | exact laws_kSame.mono _ _ _ | exact spec_CyclesOfFiles.mono _ _ | exact spec_DrawCyclesOfFiles.mono _ _ | exact spec_DrawFilesOfCycles.mono _ _ | exact spec_FilesOfCycles.mono _ _ | exact LeO.none _ | refine LeO.ite ?_ ?_ | refine LeO.bind ?_ (fun _ => ?_)
  ·
   intro y0 y1 y2 y3
   unfold laws_FnFilesAreCycles.j3
   repeat' first | (with_reducible first | exact ih0 _ _ _ _ _ | exact ih1 _ | exact ih2 _ _ _ _ | exact ih3 _ _ _ _ _ _ _ _ _ _ _ _ | exact impl_ArrowBoard.mono _ _ | exact impl_CyclesOfFiles.mono _ _ | exact impl_FilesOfCycles.mono _ _ | exact impl_IsFilePlacement.mono _ _ _ _ _ | exact laws_kRows.mono _ _ _ | exact laws_kSame.mono _ _ _ | exact spec_CyclesOfFiles.mono _ _ | exact spec_DrawCyclesOfFiles.mono _ _ | exact spec_DrawFilesOfCycles.mono _ _ | exact spec_FilesOfCycles.mono _ _ | exact LeO.refl _ | exact LeO.none _ | refine LeO.ite ?_ ?_ | refine LeO.bind ?_ (fun _ => ?_)) | exact ih0 _ _ _ _ _ | exact ih1 _ | exact ih2 _ _ _ _ | exact ih3 _ _ _ _ _ _ _ _ _ _ _ _ | exact impl_ArrowBoard.mono _ _ | exact impl_CyclesOfFiles.mono _ _ | exact impl_FilesOfCycles.mono _ _ | exact impl_IsFilePlacement.mono _ _ _ _ _ | exact laws_kRows.mono _ _ _ | exact laws_kSame.mono _ _ _ | exact spec_CyclesOfFiles.mono _ _ | exact spec_DrawCyclesOfFiles.mono _ _ | exact spec_DrawFilesOfCycles.mono _ _ | exact spec_FilesOfCycles.mono _ _ | exact LeO.none _ | refine LeO.ite ?_ ?_ | refine LeO.bind ?_ (fun _ => ?_)
  ·
   intro y0 y1 y2 y3 y4 y5 y6 y7 y8 y9 y10 y11
   unfold laws_FnFilesAreCycles.l0
   repeat' first | (with_reducible first | exact ih0 _ _ _ _ _ | exact ih1 _ | exact ih2 _ _ _ _ | exact ih3 _ _ _ _ _ _ _ _ _ _ _ _ | exact impl_ArrowBoard.mono _ _ | exact impl_CyclesOfFiles.mono _ _ | exact impl_FilesOfCycles.mono _ _ | exact impl_IsFilePlacement.mono _ _ _ _ _ | exact laws_kRows.mono _ _ _ | exact laws_kSame.mono _ _ _ | exact spec_CyclesOfFiles.mono _ _ | exact spec_DrawCyclesOfFiles.mono _ _ | exact spec_DrawFilesOfCycles.mono _ _ | exact spec_FilesOfCycles.mono _ _ | exact LeO.refl _ | exact LeO.none _ | refine LeO.ite ?_ ?_ | refine LeO.bind ?_ (fun _ => ?_)) | exact ih0 _ _ _ _ _ | exact ih1 _ | exact ih2 _ _ _ _ | exact ih3 _ _ _ _ _ _ _ _ _ _ _ _ | exact impl_ArrowBoard.mono _ _ | exact impl_CyclesOfFiles.mono _ _ | exact impl_FilesOfCycles.mono _ _ | exact impl_IsFilePlacement.mono _ _ _ _ _ | exact laws_kRows.mono _ _ _ | exact laws_kSame.mono _ _ _ | exact spec_CyclesOfFiles.mono _ _ | exact spec_DrawCyclesOfFiles.mono _ _ | exact spec_DrawFilesOfCycles.mono _ _ | exact spec_FilesOfCycles.mono _ _ | exact LeO.none _ | refine LeO.ite ?_ ?_ | refine LeO.bind ?_ (fun _ => ?_)
theorem laws_FnFilesAreCycles.mono : ∀ a0 a1 k, LeO (laws_FnFilesAreCycles.f k a0 a1) (laws_FnFilesAreCycles.f (k + 1) a0 a1) := by
 intro a0 a1 k
 obtain ⟨ih0, ih1, ih2, ih3⟩ := laws_FnFilesAreCycles.mono_l k
 unfold laws_FnFilesAreCycles.f
 repeat' first | (with_reducible first | exact ih0 _ _ _ _ _ | exact ih1 _ | exact ih2 _ _ _ _ | exact ih3 _ _ _ _ _ _ _ _ _ _ _ _ | exact impl_ArrowBoard.mono _ _ | exact impl_CyclesOfFiles.mono _ _ | exact impl_FilesOfCycles.mono _ _ | exact impl_IsFilePlacement.mono _ _ _ _ _ | exact laws_kRows.mono _ _ _ | exact laws_kSame.mono _ _ _ | exact spec_CyclesOfFiles.mono _ _ | exact spec_DrawCyclesOfFiles.mono _ _ | exact spec_DrawFilesOfCycles.mono _ _ | exact spec_FilesOfCycles.mono _ _ | exact LeO.refl _ | exact LeO.none _ | refine LeO.ite ?_ ?_ | refine LeO.bind ?_ (fun _ => ?_)) | exact ih0 _ _ _ _ _ | exact ih1 _ | exact ih2 _ _ _ _ | exact ih3 _ _ _ _ _ _ _ _ _ _ _ _ | exact impl_ArrowBoard.mono _ _ | exact impl_CyclesOfFiles.mono _ _ | exact impl_FilesOfCycles.mono _ _ | exact impl_IsFilePlacement.mono _ _ _ _ _ | exact laws_kRows.mono _ _ _ | exact laws_kSame.mono _ _ _ | exact spec_CyclesOfFiles.mono _ _ | exact spec_DrawCyclesOfFiles.mono _ _ | exact spec_DrawFilesOfCycles.mono _ _ | exact spec_FilesOfCycles.mono _ _ | exact LeO.none _ | refine LeO.ite ?_ ?_ | refine LeO.bind ?_ (fun _ => ?_)
theorem laws_FnFilesAreCycles.calls (k : Nat) (A0 : Option Addr) (c0 : Nat) (l0 : List Int) (A1 : Option Addr) (c1 : Nat) (l1 : List Int) (r : Bool) (w : World) (hr0 : Kd.C (Kd.int .u8) w A0 l0.length l0) (hc0 : l0.length ≤ c0) (hr1 : Kd.C (Kd.int .u8) w A1 l1.length l1) (hc1 : l1.length ≤ c1) (h : laws_FnFilesAreCycles.f k l0 l1 = some r) :
  Calls Try.prog 15 #[.slice A0 l0.length c0, .slice A1 l1.length c1] w fun e w' => e = .returned (.bool r) ∧ Below w.heap.size w w' := by
 have hu26 := Try.underlying26
 have HR0 := A_ hr0
 have HC0 := A_ hc0
 clear hr0 hc0
 have HR1 := A_ hr1
 have HC1 := A_ hc1
 clear hr1 hc1
 have HB := A_ (Below.refl w.heap.size w)
 have H : ((laws_big.f l0 l1).bind fun t1463 => (if t1463 = true then (some true) else ((spec_DrawCyclesOfFiles.f k l0).bind fun t1464 => ((impl_CyclesOfFiles.f k t1464).bind fun bt1467 => ((spec_CyclesOfFiles.f k t1464).bind fun bt1471 => (if (bt1467.2 != bt1471.2) = true then (none) else ((laws_kRows.f k bt1467.1 bt1471.1).bind fun t1475 => (laws_FnFilesAreCycles.j0 k l1 t1464 bt1467.1 bt1467.2 (!t1475))))))))) = some r := h
 clear h
 replace H := Option.bind_eq_some_iff.mp H
 obtain ⟨t1463, A30, H⟩ := H
 replace H : (if t1463 = true then (some true) else ((spec_DrawCyclesOfFiles.f k l0).bind fun t1464 => ((impl_CyclesOfFiles.f k t1464).bind fun bt1467 => ((spec_CyclesOfFiles.f k t1464).bind fun bt1471 => (if (bt1467.2 != bt1471.2) = true then (none) else ((laws_kRows.f k bt1467.1 bt1471.1).bind fun t1475 => (laws_FnFilesAreCycles.j0 k l1 t1464 bt1467.1 bt1467.2 (!t1475)))))))) = some r := H
 have A3 := A_ A30
 clear A30
 by_cases c4 : t1463 = true
 ·
  subst c4
  have H1 : (some true) = some r := by rw [if_pos rfl] at H; exact H
  clear H
  have H := H1
  clear H1
  obtain rfl := Option.some.inj H
  go_enter Try.func15, Try.ntmps15
  go_wp2_with (first | (refine gc_ 46 ?_; refine goesT_ (some 28) Try.func46 #[.slice A0 l0.length c0, .slice A1 l1.length c1] ?_; (with_reducible refine (laws_big.calls _ _ l0 _ _ l1 true _ ?side1 ?side2 ?side3 ?side4 A3.out).mono ?_); (case side1 => exact tc0_ HR0.out); (case side2 => exact HC0.out); (case side3 => exact tc0_ HR1.out); (case side4 => exact HC1.out); rintro e w' ⟨rfl, ⟨nd, rfl⟩⟩; refine ⟨_, rfl, ?_⟩))
  go_ret
  exact ⟨te_, tb_⟩
 ·
  replace c4 := Bool.eq_false_iff.mpr c4
  subst c4
  have H1 : ((spec_DrawCyclesOfFiles.f k l0).bind fun t1464 => ((impl_CyclesOfFiles.f k t1464).bind fun bt1467 => ((spec_CyclesOfFiles.f k t1464).bind fun bt1471 => (if (bt1467.2 != bt1471.2) = true then (none) else ((laws_kRows.f k bt1467.1 bt1471.1).bind fun t1475 => (laws_FnFilesAreCycles.j0 k l1 t1464 bt1467.1 bt1467.2 (!t1475))))))) = some r := by rw [if_neg (show ¬ (false = true) by decide)] at H; exact H
  clear H
  have H := H1
  clear H1
  replace H := Option.bind_eq_some_iff.mp H
  obtain ⟨t1464, A50, H⟩ := H
  replace H : ((impl_CyclesOfFiles.f k t1464).bind fun bt1467 => ((spec_CyclesOfFiles.f k t1464).bind fun bt1471 => (if (bt1467.2 != bt1471.2) = true then (none) else ((laws_kRows.f k bt1467.1 bt1471.1).bind fun t1475 => (laws_FnFilesAreCycles.j0 k l1 t1464 bt1467.1 bt1467.2 (!t1475)))))) = some r := H
  have A5 := A_ A50
  clear A50
  replace H := Option.bind_eq_some_iff.mp H
  obtain ⟨⟨t1467, t1468⟩, A60, H⟩ := H
  replace H : ((spec_CyclesOfFiles.f k t1464).bind fun bt1471 => (if (t1468 != bt1471.2) = true then (none) else ((laws_kRows.f k t1467 bt1471.1).bind fun t1475 => (laws_FnFilesAreCycles.j0 k l1 t1464 t1467 t1468 (!t1475))))) = some r := H
  have A6 := A_ A60
  clear A60
  replace H := Option.bind_eq_some_iff.mp H
  obtain ⟨⟨t1471, t1472⟩, A70, H⟩ := H
  replace H : (if (t1468 != t1472) = true then (none) else ((laws_kRows.f k t1467 t1471).bind fun t1475 => (laws_FnFilesAreCycles.j0 k l1 t1464 t1467 t1468 (!t1475)))) = some r := H
  have A7 := A_ A70
  clear A70
  have HC8 := A_ H
  clear H
  go_enter Try.func15, Try.ntmps15
  go_upto_region 6 with (first | (refine gc_ 46 ?_; refine goesT_ (some 28) Try.func46 #[.slice A0 l0.length c0, .slice A1 l1.length c1] ?_; (with_reducible refine (laws_big.calls _ _ l0 _ _ l1 false _ ?side1 ?side2 ?side3 ?side4 A3.out).mono ?_); (case side1 => exact tc0_ HR0.out); (case side2 => exact HC0.out); (case side3 => exact tc0_ HR1.out); (case side4 => exact HC1.out); rintro e w' ⟨rfl, ⟨nd, rfl⟩⟩; refine ⟨_, rfl, ?_⟩) | (refine gc_ 69 ?_; refine goesT_ (some 30) Try.func69 #[.slice A0 l0.length c0] ?_; (with_reducible refine (spec_DrawCyclesOfFiles.calls k _ _ l0 t1464 _ ?side1 ?side2 A5.out).mono ?_); (case side1 => exact tc0_ HR0.out); (case side2 => exact HC0.out); rintro e w9 ⟨v1465, rfl, ho0, hb⟩; refine ⟨_, rfl, ?_⟩; have HO1466 := A_ (Kd.R_lower ho0 (below_size tb_)); replace HB := A_ (below_step tb_ hb); (try clear hb); (try clear ho0); obtain ⟨Ao10, co10, eo10⟩ := Kd.R_slice HO1466.out; subst eo10) | (refine gc_ 54 ?_; refine goesT_ (some 33) Try.func54 #[.slice Ao10 t1464.length co10] ?_; (with_reducible refine (impl_CyclesOfFiles.calls k _ _ t1464 t1467 t1468 _ ?side1 ?side2 A6.out).mono ?_); (case side1 => exact tc0_ (Kd.R_reads' HO1466.out).2.2); (case side2 => exact (Kd.R_reads' HO1466.out).2.1); rintro e w11 ⟨v1469, rfl, ho0, hb⟩; refine ⟨_, rfl, ?_⟩; have HO1470 := A_ (Kd.S_lower (Kd.S_new' ho0 (Kd.R_lt (tr_x HO1466.out))) (below_size tb_)); replace HO1466 := A_ (Kd.R_below (tr_x HO1466.out) hb); replace HB := A_ (below_step tb_ hb); (try clear hb); (try clear ho0)) | (refine gc_ 52 ?_; refine goesT_ (some 38) Try.func52 #[.slice Ao10 t1464.length co10] ?_; (with_reducible refine (spec_CyclesOfFiles.calls k _ _ t1464 t1471 t1472 _ ?side1 ?side2 A7.out).mono ?_); (case side1 => exact tc0_ (Kd.R_reads' HO1466.out).2.2); (case side2 => exact (Kd.R_reads' HO1466.out).2.1); rintro e w12 ⟨v1473, rfl, ho0, hb⟩; refine ⟨_, rfl, ?_⟩; have HO1474 := A_ (Kd.S_lower (Kd.S_new' (Kd.S_new' ho0 (Kd.R_lt (tr_x HO1466.out))) (Kd.S_lt (ts1_x HO1470.out))) (below_size tb_)); replace HO1466 := A_ (Kd.R_below (tr_x HO1466.out) hb); replace HO1470 := A_ (Kd.S_elder' (ts1_x HO1470.out) (Kd.S_base ho0) hb); replace HB := A_ (below_step tb_ hb); (try clear hb); (try clear ho0)))
  (try simp only [Act.put, List.setIfInBounds_toArray, List.set_cons_zero, List.set_cons_succ])
  go_cut [49] (fun v49 wc => ∃ (kq : Nat) (x49_7 : Bool), v49 = .bool x49_7 ∧ Aside0 (laws_FnFilesAreCycles.j0 kq l1 t1464 t1467 t1468 x49_7 = some r) ∧ Aside0 (kq ≤ k) ∧ Aside0 (Kd.R (Kd.int .i64) 3 wc w.heap.size (fun _ => True) (.slice Ao10 t1464.length co10) t1464) ∧ Aside0 (Kd.S (Kd.slice 3 (Kd.int .i64)) 22 wc w.heap.size (fun k_ => some k_ ≠ ((.slice Ao10 t1464.length co10) : Value).ownBlock) v1469 t1467) ∧ Aside0 (Below w.heap.size w wc))
  case first =>
   as_aux_lemma =>
    have H := HC8.out
    clear HC8
    by_cases c13 : (t1468 != t1472) = true
    ·
     rw [if_pos c13] at H
     exact absurd H (by simp)
    ·
     rw [if_neg c13] at H
     have c13b0 : (t1468 != t1472) = false := by simpa using c13
     (try (have c13b1 : decide (t1468 = t1472) = true := by simpa using c13))
     (try (have c13b2 : (t1468 == t1472) = true := by simpa using c13))
     clear c13
     (first | rw [c13b0] | rw [c13b1] | (simp only [i64_w, i32_w]; rw [c13b0]) | skip)
     replace H := Option.bind_eq_some_iff.mp H
     obtain ⟨t1475, A140, H⟩ := H
     replace H : (laws_FnFilesAreCycles.j0 k l1 t1464 t1467 t1468 (!t1475)) = some r := H
     have A14 := A_ A140
     clear A140
     have H' := A_ H
     clear H
     obtain ⟨Ao15, co15, eo15⟩ := Kd.S_slice HO1470.out
     subst eo15
     obtain ⟨Ao16, co16, eo16⟩ := Kd.S_slice HO1474.out
     subst eo16
     go_wp2_with (first | (go_at_call 48; (with_reducible refine (laws_kRows.calls k _ _ t1467 _ _ t1471 t1475 _ ?side1 ?side2 ?side3 ?side4 A14.out).mono ?_); (case side1 => repeat (first | exact (Kd.S_reads' HO1470.out).2.2 | (with_reducible refine Kd.C_alloc ?_ _) | (with_reducible refine Kd.C_drewN ?_ _) | (with_reducible refine Kd.C_drew ?_))); (case side2 => exact (Kd.S_reads' HO1470.out).2.1); (case side3 => repeat (first | exact (Kd.S_reads' HO1474.out).2.2 | (with_reducible refine Kd.C_alloc ?_ _) | (with_reducible refine Kd.C_drewN ?_ _) | (with_reducible refine Kd.C_drew ?_))); (case side4 => exact (Kd.S_reads' HO1474.out).2.1); rintro e w' ⟨rfl, ⟨nd, rfl⟩⟩))
     go_meet
     case rel => exact ⟨_, (!t1475), tf_, H', ⟨by first | omega | exact Nat.le_refl _⟩, ⟨tr_x HO1466.out⟩, ⟨by (with_reducible repeat (first | apply Kd.S_alloc | apply Kd.S_drewN | apply Kd.S_drew)); exact Kd.S_mono HO1470.out (fun _ hk => hk.1.2)⟩, ⟨tb_⟩⟩
  case rest =>
   as_aux_lemma =>
    clear HC8
    try clear c1
    try clear p2
    try clear c4
    try clear c5
    try clear c6
    try clear c13
    try clear c13b0
    try clear c13b1
    try clear c13b2
    try clear c15
    obtain ⟨kq, x49_7, rfl, HA, HJ7, HO_5, HO_6, HB⟩ := hcut
    cases kq with
    | zero => exact absurd HA.out (by simp [laws_FnFilesAreCycles.j0])
    | succ kj7 =>
     have H := HA.out
     clear HA
     simp only [laws_FnFilesAreCycles.j0] at H
     by_cases c17 : x49_7 = true
     ·
      subst c17
      have H1 : (none) = some r := by rw [if_pos rfl] at H; exact H
      clear H
      have H := H1
      clear H1
      exact absurd H (by simp)
     ·
      replace c17 := Bool.eq_false_iff.mpr c17
      subst c17
      have H1 : (if t1468 = true then ((impl_FilesOfCycles.f kj7 t1467).bind fun bt1476 => ((impl_ArrowBoard.f kj7 (t1464.length : Int)).bind fun bt1480 => ((impl_IsFilePlacement.f kj7 bt1480.1 bt1480.2.1 bt1480.2.2.1 t1464).bind fun bt1487 => (laws_FnFilesAreCycles.l0 kj7 l1 t1464 t1467 bt1476.1 bt1476.2 bt1480.2.2.2 bt1487.1 bt1487.2 0 t1464 (t1464.length : Int) 0)))) else (laws_FnFilesAreCycles.j2 kj7 l1)) = some r := by rw [if_neg (show ¬ (false = true) by decide)] at H; exact H
      clear H
      have H := H1
      clear H1
      have HC18 := A_ H
      clear H
      go_upto_if 50 with (fail)
      go_cut [] (fun wc => ∃ (kq : Nat), Aside0 (laws_FnFilesAreCycles.j2 kq l1 = some r) ∧ Aside0 (kq ≤ kj7) ∧ Aside0 (Below w.heap.size w wc))
      case first =>
       as_aux_lemma =>
        have H := HC18.out
        clear HC18
        by_cases c19 : t1468 = true
        ·
         subst c19
         have H1 : ((impl_FilesOfCycles.f kj7 t1467).bind fun bt1476 => ((impl_ArrowBoard.f kj7 (t1464.length : Int)).bind fun bt1480 => ((impl_IsFilePlacement.f kj7 bt1480.1 bt1480.2.1 bt1480.2.2.1 t1464).bind fun bt1487 => (laws_FnFilesAreCycles.l0 kj7 l1 t1464 t1467 bt1476.1 bt1476.2 bt1480.2.2.2 bt1487.1 bt1487.2 0 t1464 (t1464.length : Int) 0)))) = some r := by rw [if_pos rfl] at H; exact H
         clear H
         have H := H1
         clear H1
         replace H := Option.bind_eq_some_iff.mp H
         obtain ⟨⟨t1476, t1477⟩, A200, H⟩ := H
         replace H : ((impl_ArrowBoard.f kj7 (t1464.length : Int)).bind fun bt1480 => ((impl_IsFilePlacement.f kj7 bt1480.1 bt1480.2.1 bt1480.2.2.1 t1464).bind fun bt1487 => (laws_FnFilesAreCycles.l0 kj7 l1 t1464 t1467 t1476 t1477 bt1480.2.2.2 bt1487.1 bt1487.2 0 t1464 (t1464.length : Int) 0))) = some r := H
         have A20 := A_ A200
         clear A200
         replace H := Option.bind_eq_some_iff.mp H
         obtain ⟨⟨t1480, t1481, t1482, t1485⟩, A210, H⟩ := H
         replace H : ((impl_IsFilePlacement.f kj7 t1480 t1481 t1482 t1464).bind fun bt1487 => (laws_FnFilesAreCycles.l0 kj7 l1 t1464 t1467 t1476 t1477 t1485 bt1487.1 bt1487.2 0 t1464 (t1464.length : Int) 0)) = some r := H
         have A21 := A_ A210
         clear A210
         replace H := Option.bind_eq_some_iff.mp H
         obtain ⟨⟨t1487, t1488⟩, A220, H⟩ := H
         replace H : (laws_FnFilesAreCycles.l0 kj7 l1 t1464 t1467 t1476 t1477 t1485 t1487 t1488 0 t1464 (t1464.length : Int) 0) = some r := H
         have A22 := A_ A220
         clear A220
         have H' := A_ H
         clear H
         obtain ⟨Ao23, co23, eo23⟩ := Kd.S_slice HO_6.out
         subst eo23
         go_wp2_with (first | (refine gc_ 70 ?_; refine goesT_ (some 53) Try.func70 #[.slice Ao23 t1467.length co23] ?_; (with_reducible refine (impl_FilesOfCycles.calls kj7 _ _ t1467 t1476 t1477 _ ?side1 ?side2 A20.out).mono ?_); (case side1 => repeat (first | exact (Kd.S_reads' HO_6.out).2.2 | (with_reducible refine Kd.C_alloc ?_ _) | (with_reducible refine Kd.C_drewN ?_ _) | (with_reducible refine Kd.C_drew ?_))); (case side2 => exact (Kd.S_reads' HO_6.out).2.1); rintro e w24 ⟨v1478, rfl, ho0, hb⟩; refine ⟨_, rfl, ?_⟩; replace HO_6 := A_ (Kd.S_elder' (ts1_x HO_6.out) (Kd.R_base ho0) hb); have HO1479 := A_ (Kd.R_lower (Kd.R_new' ho0 (Kd.R_lt (tr_x HO_5.out))) (below_size tb_)); replace HO_5 := A_ (Kd.R_elder' (tr_x HO_5.out) (Kd.R_base ho0) hb); replace HB := A_ (below_step tb_ hb); (try clear hb); (try clear ho0)) | (refine gc_ 71 ?_; refine goesT_ (some 59) Try.func71 #[.int .i64 (t1464.length : Int)] ?_; (with_reducible refine (impl_ArrowBoard.calls kj7 (t1464.length : Int) t1480 t1481 t1482 t1485 _ A21.out).mono ?_); rintro e w25 ⟨v1483, rfl, ho0, hb⟩; refine ⟨_, rfl, ?_⟩; replace HO_6 := A_ (Kd.S_elder' (ts1_x HO_6.out) (Kd.R_base ho0) hb); have HO1484 := A_ (Kd.R_lower (Kd.R_new' (Kd.R_new' ho0 (Kd.R_lt (tr_x HO_5.out))) (Kd.R_lt (tr_x HO1479.out))) (below_size tb_)); replace HO_5 := A_ (Kd.R_elder' (tr_x HO_5.out) (Kd.R_base ho0) hb); replace HO1479 := A_ (Kd.R_elder' (tr_x HO1479.out) (Kd.R_base ho0) hb); replace HB := A_ (below_step tb_ hb); (try clear hb); (try clear ho0)) | (refine gd_ 12 ?_; (try (refine gate_guard (by rfl) ?_; dsimp only)); refine bx_ 12 #[.int .i64 0, .int .i64 0, .slice none 0 0] 26 ?_; intro gb1486 hg w26 hbox hb; replace HO_5 := A_ (Kd.R_below (tr_x HO_5.out) hb); replace HO_6 := A_ (Kd.S_below (ts1_x HO_6.out) hb); replace HO1479 := A_ (Kd.R_below (tr_x HO1479.out) hb); replace HO1484 := A_ (Kd.R_below (tr_x HO1484.out) hb); have BK1486 := A_ (hbox); have GW1486 := A_ ((ts_ hg : w.heap.size ≤ gb1486)); have GE1486 := A_ ((ts_ hg : w.heap.size ≤ gb1486)); replace HB := A_ (below_step tb_ hb); clear hb hbox hg; obtain ⟨hcz27_0, hcz27_1, hcz27_2, hfz27_0, hfz27_1, hfz27_2⟩ := cf3_ BK1486.out; obtain ⟨Ao28, co28, eo28⟩ := Kd.R_slice HO1484.out; subst eo28) | (refine gc_ 72 ?_; refine goesT_ (some 65) Try.func72 #[.agg #[.int .i64 t1480, .int .i64 t1481, .slice Ao28 t1482.length co28], .slice Ao10 t1464.length co10] ?_; (with_reducible refine (impl_IsFilePlacement.calls kj7 t1480 t1481 _ _ t1482 _ _ t1464 t1487 t1488 _ ?side1 ?side2 ?side3 ?side4 A22.out).mono ?_); (case side1 => refine (Kd.R_reads' (e := 3) (base := w.heap.size) (ok := fun k_ => ((True ∧ some k_ ≠ (.slice Ao10 t1464.length co10 : Value).ownBlock) ∧ some k_ ≠ (v1478 : Value).ownBlock)) (n := t1482.length) (c := co28) ?_).2.2; exact (tr_ (h := by exact (Kd.R_mono (Kd.R_far (p := ⟨gb1486, 2, none⟩) (Kd.R_far (p := ⟨gb1486, 1, none⟩) (Kd.R_far (p := ⟨gb1486, 0, none⟩) (Kd.R_types HO1484.out BK1486.out (by decide)) (fun _ hk => hk.2) (.int .i64 t1480)) (fun _ hk => hk.2) (.int .i64 t1481)) (fun _ hk => hk.2) (.slice Ao28 t1482.length co28)) (fun _ h_ => h_.1))))); (case side2 => exact (Kd.R_reads' HO1484.out).2.1); (case side3 => refine (Kd.R_reads' (e := 3) (base := w.heap.size) (ok := fun k_ => ((True ∧ some k_ ≠ (v1478 : Value).ownBlock) ∧ some k_ ≠ (.slice Ao28 t1482.length co28 : Value).ownBlock)) (n := t1464.length) (c := co10) ?_).2.2; exact (tr_ (h := by exact (Kd.R_mono (Kd.R_far (p := ⟨gb1486, 2, none⟩) (Kd.R_far (p := ⟨gb1486, 1, none⟩) (Kd.R_far (p := ⟨gb1486, 0, none⟩) (Kd.R_types HO_5.out BK1486.out (by decide)) (fun _ hk => hk.2) (.int .i64 t1480)) (fun _ hk => hk.2) (.int .i64 t1481)) (fun _ hk => hk.2) (.slice Ao28 t1482.length co28)) (fun _ h_ => h_.1))))); (case side4 => exact (Kd.R_reads' HO_5.out).2.1); rintro e w29 ⟨rfl, hb⟩; refine ⟨_, rfl, ?_⟩; replace HO_5 := A_ (Kd.R_below (tr_ (h := by exact (Kd.R_mono (Kd.R_far (p := ⟨gb1486, 2, none⟩) (Kd.R_far (p := ⟨gb1486, 1, none⟩) (Kd.R_far (p := ⟨gb1486, 0, none⟩) (Kd.R_types HO_5.out BK1486.out (by decide)) (fun _ hk => hk.2) (.int .i64 t1480)) (fun _ hk => hk.2) (.int .i64 t1481)) (fun _ hk => hk.2) (.slice Ao28 t1482.length co28)) (fun _ h_ => h_.1)))) hb); replace HO_6 := A_ (Kd.S_below (ts1_ (h := by exact (Kd.S_mono (Kd.S_far (p := ⟨gb1486, 2, none⟩) (Kd.S_far (p := ⟨gb1486, 1, none⟩) (Kd.S_far (p := ⟨gb1486, 0, none⟩) (Kd.S_types HO_6.out BK1486.out (by decide)) (fun _ hk => hk.2) (.int .i64 t1480)) (fun _ hk => hk.2) (.int .i64 t1481)) (fun _ hk => hk.2) (.slice Ao28 t1482.length co28)) (fun _ h_ => h_.1)))) hb); replace HO1479 := A_ (Kd.R_below (tr_ (h := by exact (Kd.R_mono (Kd.R_far (p := ⟨gb1486, 2, none⟩) (Kd.R_far (p := ⟨gb1486, 1, none⟩) (Kd.R_far (p := ⟨gb1486, 0, none⟩) (Kd.R_types HO1479.out BK1486.out (by decide)) (fun _ hk => hk.2) (.int .i64 t1480)) (fun _ hk => hk.2) (.int .i64 t1481)) (fun _ hk => hk.2) (.slice Ao28 t1482.length co28)) (fun _ h_ => h_.1)))) hb); replace HO1484 := A_ (Kd.R_below (tr_ (h := by exact (Kd.R_mono (Kd.R_far (p := ⟨gb1486, 2, none⟩) (Kd.R_far (p := ⟨gb1486, 1, none⟩) (Kd.R_far (p := ⟨gb1486, 0, none⟩) (Kd.R_types HO1484.out BK1486.out (by decide)) (fun _ hk => hk.2) (.int .i64 t1480)) (fun _ hk => hk.2) (.int .i64 t1481)) (fun _ hk => hk.2) (.slice Ao28 t1482.length co28)) (fun _ h_ => h_.1)))) hb); replace BK1486 := A_ (blk_below (g := gb1486) (o := .cells #[.int .i64 t1480, .int .i64 t1481, .slice Ao28 t1482.length co28] 26 (0, 0)) (by (with_reducible repeat (first | refine blk_drewN ?_ _ | refine blk_drew ?_ | refine blk_alloc ?_ _)); refine blk_put (cs := #[.int .i64 t1480, .int .i64 t1481, .slice none 0 0]) ?_ 2 _ rfl; (with_reducible repeat (first | refine blk_drewN ?_ _ | refine blk_drew ?_ | refine blk_alloc ?_ _)); refine blk_put (cs := #[.int .i64 t1480, .int .i64 0, .slice none 0 0]) ?_ 1 _ rfl; (with_reducible repeat (first | refine blk_drewN ?_ _ | refine blk_drew ?_ | refine blk_alloc ?_ _)); refine blk_put (cs := #[.int .i64 0, .int .i64 0, .slice none 0 0]) ?_ 0 _ rfl; (with_reducible repeat (first | refine blk_drewN ?_ _ | refine blk_drew ?_ | refine blk_alloc ?_ _)); exact BK1486.out) hb); replace HB := A_ (below_step tb_ hb); (try clear hb)))
         go_loopg [16, 70] kj7 (fun kq v16 v70 w' => ∃ (x16_2 : Int) (x70_2 : Int), v16 = .int .i64 x16_2 ∧ v70 = .int .i64 x70_2 ∧ Aside0 (laws_FnFilesAreCycles.l0 kq l1 t1464 t1467 t1476 t1477 t1485 t1487 t1488 x16_2 t1464 (t1464.length : Int) x70_2 = some r) ∧ Aside0 (kq ≤ kj7) ∧ Aside0 (Kd.R (Kd.int .i64) 3 w' w.heap.size (fun k_ => some k_ ≠ (v1478 : Value).ownBlock ∧ some k_ ≠ ((.slice Ao28 t1482.length co28) : Value).ownBlock) (.slice Ao10 t1464.length co10) t1464) ∧ Aside0 (Kd.S (Kd.slice 3 (Kd.int .i64)) 22 w' w.heap.size (fun k_ => some k_ ≠ ((.slice Ao10 t1464.length co10) : Value).ownBlock ∧ some k_ ≠ (v1478 : Value).ownBlock ∧ some k_ ≠ ((.slice Ao10 t1464.length co10) : Value).ownBlock ∧ some k_ ≠ ((.slice Ao28 t1482.length co28) : Value).ownBlock) (.slice Ao23 t1467.length co23) t1467) ∧ Aside0 (Kd.R (Kd.int .i64) 3 w' w.heap.size (fun k_ => some k_ ≠ ((.slice Ao10 t1464.length co10) : Value).ownBlock ∧ some k_ ≠ ((.slice Ao10 t1464.length co10) : Value).ownBlock ∧ some k_ ≠ ((.slice Ao28 t1482.length co28) : Value).ownBlock) v1478 t1476) ∧ Aside0 (Kd.R (Kd.int .i64) 3 w' w.heap.size (fun k_ => some k_ ≠ (v1478 : Value).ownBlock ∧ some k_ ≠ ((.slice Ao28 t1482.length co28) : Value).ownBlock) (.slice Ao10 t1464.length co10) t1464) ∧ Aside0 (Kd.R (Kd.int .i64) 3 w' w.heap.size (fun k_ => some k_ ≠ ((.slice Ao10 t1464.length co10) : Value).ownBlock ∧ some k_ ≠ (v1478 : Value).ownBlock ∧ some k_ ≠ ((.slice Ao10 t1464.length co10) : Value).ownBlock) (.slice Ao28 t1482.length co28) t1482) ∧ Aside0 (w'.heap[gb1486]? = some (.cells #[.int .i64 t1480, .int .i64 t1481, (.slice Ao28 t1482.length co28)] 26 (0, 0))) ∧ Aside0 (Below w.heap.size w w'))
         case atStart => exact ⟨(0), (0), tf_, tf_, H', ⟨Nat.le_refl _⟩, ⟨by (with_reducible repeat (first | apply Kd.R_alloc | apply Kd.R_drewN | apply Kd.R_drew)); exact Kd.R_mono HO_5.out om_⟩, ⟨by (with_reducible repeat (first | apply Kd.S_alloc | apply Kd.S_drewN | apply Kd.S_drew)); exact Kd.S_mono HO_6.out om_⟩, ⟨by (with_reducible repeat (first | apply Kd.R_alloc | apply Kd.R_drewN | apply Kd.R_drew)); exact Kd.R_mono HO1479.out om_⟩, ⟨by (with_reducible repeat (first | apply Kd.R_alloc | apply Kd.R_drewN | apply Kd.R_drew)); exact Kd.R_mono HO_5.out om_⟩, ⟨by (with_reducible repeat (first | apply Kd.R_alloc | apply Kd.R_drewN | apply Kd.R_drew)); exact Kd.R_mono HO1484.out om_⟩, ⟨tk_ BK1486⟩, ⟨tb_⟩⟩
         case round =>
          clear H'
          try clear c1
          try clear p2
          try clear c4
          try clear c5
          try clear c6
          try clear c7
          try clear c13
          try clear c13b0
          try clear c13b1
          try clear c13b2
          try clear c15
          try clear c17
          try clear c19
          try clear hcz27_0
          try clear hcz27_1
          try clear hcz27_2
          try clear hfz27_0
          try clear hfz27_1
          try clear hfz27_2
          try clear p2
          obtain ⟨x16_2, x70_2, rfl, rfl, HA, HK2, HO_5, HO_6, HO_10, HO_68, HO_1487002, BK1486, HB⟩ := hrel
          cases gk with
          | zero => exact absurd HA.out (by simp [laws_FnFilesAreCycles.l0])
          | succ k2 =>
           have H := HA.out
           clear HA
           simp only [laws_FnFilesAreCycles.l0] at H
           by_cases c30 : x70_2 < (t1464.length : Int)
           ·
            rw [if_pos c30] at H
            have c30b0 := decide_eq_true c30
            clear c30
            (first | rw [c30b0] | rw [c30b1] | (simp only [i64_w, i32_w]; rw [c30b0]) | skip)
            by_cases c31 : 0 ≤ x70_2
            ·
             rw [if_pos c31] at H
             have c31b0 := decide_eq_true c31
             clear c31
             by_cases c32 : x70_2 < (t1464.length : Int)
             ·
              rw [if_pos c32] at H
              have c32b0 := decide_eq_true c32
              clear c32
              by_cases c33 : (rd t1464 x70_2) ≥ 0
              ·
               rw [if_pos c33] at H
               have c33b0 := decide_eq_true c33
               clear c33
               have H' := A_ H
               clear H
               have p1489 : 0 ≤ (x70_2 : Int) := od_
               have q1489 : x70_2 < (t1464.length : Int) := od_
               obtain ⟨ad1489, e1489, hx1489_0⟩ := Kd.at_int (Kd.R_reads' HO_68.out).2.2 x70_2 p1489 q1489
               cases e1489
               replace p1489 := eq_true p1489
               replace q1489 := eq_true q1489
               go_wp2
               go_roundg k2
               case measure => have := HJ7.out; have := HK2.out; omega
               case rel => exact ⟨(wrap64 (x16_2 + 1)), (wrap64 (x70_2 + 1)), tf_, tf_, H', ⟨by have := HJ7.out; have := HK2.out; omega⟩, ⟨tr_x HO_5.out⟩, ⟨ts1_x HO_6.out⟩, ⟨tr_x HO_10.out⟩, ⟨tr_x HO_68.out⟩, ⟨tr_x HO_1487002.out⟩, ⟨tk_ BK1486⟩, ⟨tb_⟩⟩
              ·
               rw [if_neg c33] at H
               have c33b0 := decide_eq_false c33
               clear c33
               have H' := A_ H
               clear H
               have p1489 : 0 ≤ (x70_2 : Int) := od_
               have q1489 : x70_2 < (t1464.length : Int) := od_
               obtain ⟨ad1489, e1489, hx1489_0⟩ := Kd.at_int (Kd.R_reads' HO_68.out).2.2 x70_2 p1489 q1489
               cases e1489
               replace p1489 := eq_true p1489
               replace q1489 := eq_true q1489
               go_wp2
               go_roundg k2
               case measure => have := HJ7.out; have := HK2.out; omega
               case rel => exact ⟨(x16_2), (wrap64 (x70_2 + 1)), tf_, tf_, H', ⟨by have := HJ7.out; have := HK2.out; omega⟩, ⟨tr_x HO_5.out⟩, ⟨ts1_x HO_6.out⟩, ⟨tr_x HO_10.out⟩, ⟨tr_x HO_68.out⟩, ⟨tr_x HO_1487002.out⟩, ⟨tk_ BK1486⟩, ⟨tb_⟩⟩
             ·
              rw [if_neg c32] at H
              exact absurd H (by simp)
            ·
             rw [if_neg c31] at H
             exact absurd H (by simp)
           ·
            rw [if_neg c30] at H
            have c30b0 := decide_eq_false c30
            clear c30
            (first | rw [c30b0] | rw [c30b1] | (simp only [i64_w, i32_w]; rw [c30b0]) | skip)
            by_cases c34 : t1477 = true
            ·
             subst c34
             have H1 : ((laws_kSame.f k2 t1476 t1464).bind fun t1490 => (if t1490 = true then (if t1485 = true then (if t1488 = true then (if t1487 = true then (if (wrap64 (x16_2 + (t1467.length : Int))) = (t1464.length : Int) then (laws_FnFilesAreCycles.j2 k2 l1) else (none)) else (none)) else (none)) else (none)) else (none))) = some r := by rw [if_pos rfl] at H; exact H
             clear H
             have H := H1
             clear H1
             replace H := Option.bind_eq_some_iff.mp H
             obtain ⟨t1490, A350, H⟩ := H
             replace H : (if t1490 = true then (if t1485 = true then (if t1488 = true then (if t1487 = true then (if (wrap64 (x16_2 + (t1467.length : Int))) = (t1464.length : Int) then (laws_FnFilesAreCycles.j2 k2 l1) else (none)) else (none)) else (none)) else (none)) else (none)) = some r := H
             have A35 := A_ A350
             clear A350
             by_cases c36 : t1490 = true
             ·
              subst c36
              have H1 : (if t1485 = true then (if t1488 = true then (if t1487 = true then (if (wrap64 (x16_2 + (t1467.length : Int))) = (t1464.length : Int) then (laws_FnFilesAreCycles.j2 k2 l1) else (none)) else (none)) else (none)) else (none)) = some r := by rw [if_pos rfl] at H; exact H
              clear H
              have H := H1
              clear H1
              by_cases c37 : t1485 = true
              ·
               subst c37
               have H1 : (if t1488 = true then (if t1487 = true then (if (wrap64 (x16_2 + (t1467.length : Int))) = (t1464.length : Int) then (laws_FnFilesAreCycles.j2 k2 l1) else (none)) else (none)) else (none)) = some r := by rw [if_pos rfl] at H; exact H
               clear H
               have H := H1
               clear H1
               by_cases c38 : t1488 = true
               ·
                subst c38
                have H1 : (if t1487 = true then (if (wrap64 (x16_2 + (t1467.length : Int))) = (t1464.length : Int) then (laws_FnFilesAreCycles.j2 k2 l1) else (none)) else (none)) = some r := by rw [if_pos rfl] at H; exact H
                clear H
                have H := H1
                clear H1
                by_cases c39 : t1487 = true
                ·
                 subst c39
                 have H1 : (if (wrap64 (x16_2 + (t1467.length : Int))) = (t1464.length : Int) then (laws_FnFilesAreCycles.j2 k2 l1) else (none)) = some r := by rw [if_pos rfl] at H; exact H
                 clear H
                 have H := H1
                 clear H1
                 by_cases c40 : (wrap64 (x16_2 + (t1467.length : Int))) = (t1464.length : Int)
                 ·
                  rw [if_pos c40] at H
                  have c40b0 : ((wrap64 (x16_2 + (t1467.length : Int))) == (t1464.length : Int)) = true := beq_iff_eq.mpr c40
                  have c40b1 : ((wrap64 (x16_2 + (t1467.length : Int))) != (t1464.length : Int)) = false := bne_eq_false_iff_eq.mpr c40
                  clear c40
                  have H' := A_ H
                  clear H
                  obtain ⟨Ao41, co41, eo41⟩ := Kd.R_slice HO_10.out
                  subst eo41
                  go_wp2_with (first | (go_at_call 73; (with_reducible refine (laws_kSame.calls k2 _ _ t1476 _ _ t1464 true _ ?side1 ?side2 ?side3 ?side4 A35.out).mono ?_); (case side1 => exact tc0_ (Kd.R_reads' HO_10.out).2.2); (case side2 => exact (Kd.R_reads' HO_10.out).2.1); (case side3 => exact tc0_ (Kd.R_reads' HO_5.out).2.2); (case side4 => exact (Kd.R_reads' HO_5.out).2.1); rintro e w' ⟨rfl, ⟨nd, rfl⟩⟩))
                  go_meet
                  case rel => exact ⟨_, H', ⟨by have := HJ7.out; have := HK2.out; first | omega | exact Nat.le_refl _⟩, ⟨tb_⟩⟩
                 ·
                  rw [if_neg c40] at H
                  exact absurd H (by simp)
                ·
                 replace c39 := Bool.eq_false_iff.mpr c39
                 subst c39
                 have H1 : (none) = some r := by rw [if_neg (show ¬ (false = true) by decide)] at H; exact H
                 clear H
                 have H := H1
                 clear H1
                 exact absurd H (by simp)
               ·
                replace c38 := Bool.eq_false_iff.mpr c38
                subst c38
                have H1 : (none) = some r := by rw [if_neg (show ¬ (false = true) by decide)] at H; exact H
                clear H
                have H := H1
                clear H1
                exact absurd H (by simp)
              ·
               replace c37 := Bool.eq_false_iff.mpr c37
               subst c37
               have H1 : (none) = some r := by rw [if_neg (show ¬ (false = true) by decide)] at H; exact H
               clear H
               have H := H1
               clear H1
               exact absurd H (by simp)
             ·
              replace c36 := Bool.eq_false_iff.mpr c36
              subst c36
              have H1 : (none) = some r := by rw [if_neg (show ¬ (false = true) by decide)] at H; exact H
              clear H
              have H := H1
              clear H1
              exact absurd H (by simp)
            ·
             replace c34 := Bool.eq_false_iff.mpr c34
             subst c34
             have H1 : (none) = some r := by rw [if_neg (show ¬ (false = true) by decide)] at H; exact H
             clear H
             have H := H1
             clear H1
             exact absurd H (by simp)
        ·
         replace c19 := Bool.eq_false_iff.mpr c19
         subst c19
         have H1 : (laws_FnFilesAreCycles.j2 kj7 l1) = some r := by rw [if_neg (show ¬ (false = true) by decide)] at H; exact H
         clear H
         have H := H1
         clear H1
         have H' := A_ H
         clear H
         go_wp2
         go_meet
         case rel => exact ⟨_, H', ⟨by have := HJ7.out; first | omega | exact Nat.le_refl _⟩, ⟨tb_⟩⟩
      case rest =>
       as_aux_lemma =>
        clear HC18
        try clear c1
        try clear p1
        try clear q1
        try clear hx1
        try clear p2
        try clear c3
        try clear c4
        try clear c5
        try clear c6
        try clear p6
        try clear c7
        try clear c13
        try clear c13b0
        try clear c13b1
        try clear c13b2
        try clear p14
        try clear q14
        try clear hx14
        try clear c15
        try clear c17
        try clear c19
        try clear c30
        try clear c30b0
        try clear c31
        try clear c31b0
        try clear c32
        try clear c32b0
        try clear c33
        try clear c33b0
        try clear c34
        try clear c36
        try clear c37
        try clear c38
        try clear c39
        try clear c40
        try clear c40b0
        try clear c40b1
        try clear hcz27_0
        try clear hcz27_1
        try clear hcz27_2
        try clear hfz27_0
        try clear hfz27_1
        try clear hfz27_2
        try clear hx1489_0
        try clear p1489
        try clear p2
        try clear q1489
        obtain ⟨kq, HA, HJ17, HB⟩ := hcut
        cases kq with
        | zero => exact absurd HA.out (by simp [laws_FnFilesAreCycles.j2])
        | succ kj17 =>
         have H := HA.out
         clear HA
         simp only [laws_FnFilesAreCycles.j2] at H
         replace H := Option.bind_eq_some_iff.mp H
         obtain ⟨t1491, A420, H⟩ := H
         replace H : ((impl_FilesOfCycles.f kj17 t1491).bind fun bt1494 => ((spec_FilesOfCycles.f kj17 t1491).bind fun bt1498 => (if (bt1494.2 != bt1498.2) = true then (none) else ((laws_kSame.f kj17 bt1494.1 bt1498.1).bind fun t1502 => (laws_FnFilesAreCycles.j3 kj17 t1491 bt1494.1 bt1494.2 (!t1502)))))) = some r := H
         have A42 := A_ A420
         clear A420
         replace H := Option.bind_eq_some_iff.mp H
         obtain ⟨⟨t1494, t1495⟩, A430, H⟩ := H
         replace H : ((spec_FilesOfCycles.f kj17 t1491).bind fun bt1498 => (if (t1495 != bt1498.2) = true then (none) else ((laws_kSame.f kj17 t1494 bt1498.1).bind fun t1502 => (laws_FnFilesAreCycles.j3 kj17 t1491 t1494 t1495 (!t1502))))) = some r := H
         have A43 := A_ A430
         clear A430
         replace H := Option.bind_eq_some_iff.mp H
         obtain ⟨⟨t1498, t1499⟩, A440, H⟩ := H
         replace H : (if (t1495 != t1499) = true then (none) else ((laws_kSame.f kj17 t1494 t1498).bind fun t1502 => (laws_FnFilesAreCycles.j3 kj17 t1491 t1494 t1495 (!t1502)))) = some r := H
         have A44 := A_ A440
         clear A440
         have HC45 := A_ H
         clear H
         go_upto_region 24 with (first | (refine gc_ 74 ?_; refine goesT_ (some 109) Try.func74 #[.slice A1 l1.length c1] ?_; (with_reducible refine (spec_DrawFilesOfCycles.calls kj17 _ _ l1 t1491 _ ?side1 ?side2 A42.out).mono ?_); (case side1 => exact tc_ HR1.out); (case side2 => exact HC1.out); rintro e w46 ⟨v1492, rfl, ho0, hb⟩; refine ⟨_, rfl, ?_⟩; have HO1493 := A_ (Kd.S_lower ho0 (below_size tb_)); replace HB := A_ (below_step tb_ hb); (try clear hb); (try clear ho0); obtain ⟨Ao47, co47, eo47⟩ := Kd.S_slice HO1493.out; subst eo47) | (refine gc_ 70 ?_; refine goesT_ (some 112) Try.func70 #[.slice Ao47 t1491.length co47] ?_; (with_reducible refine (impl_FilesOfCycles.calls kj17 _ _ t1491 t1494 t1495 _ ?side1 ?side2 A43.out).mono ?_); (case side1 => repeat (first | exact (Kd.S_reads' HO1493.out).2.2 | (with_reducible refine Kd.C_alloc ?_ _) | (with_reducible refine Kd.C_drewN ?_ _) | (with_reducible refine Kd.C_drew ?_))); (case side2 => exact (Kd.S_reads' HO1493.out).2.1); rintro e w48 ⟨v1496, rfl, ho0, hb⟩; refine ⟨_, rfl, ?_⟩; replace HO1493 := A_ (Kd.S_elder' (ts1_x HO1493.out) (Kd.R_base ho0) hb); have HO1497 := A_ (Kd.R_lower ho0 (below_size tb_)); replace HB := A_ (below_step tb_ hb); (try clear hb); (try clear ho0)) | (refine gc_ 75 ?_; refine goesT_ (some 117) Try.func75 #[.slice Ao47 t1491.length co47] ?_; (with_reducible refine (spec_FilesOfCycles.calls kj17 _ _ t1491 t1498 t1499 _ ?side1 ?side2 A44.out).mono ?_); (case side1 => repeat (first | exact (Kd.S_reads' HO1493.out).2.2 | (with_reducible refine Kd.C_alloc ?_ _) | (with_reducible refine Kd.C_drewN ?_ _) | (with_reducible refine Kd.C_drew ?_))); (case side2 => exact (Kd.S_reads' HO1493.out).2.1); rintro e w49 ⟨v1500, rfl, ho0, hb⟩; refine ⟨_, rfl, ?_⟩; replace HO1493 := A_ (Kd.S_elder' (ts1_x HO1493.out) (Kd.R_base ho0) hb); have HO1501 := A_ (Kd.R_lower (Kd.R_new' ho0 (Kd.R_lt (tr_x HO1497.out))) (below_size tb_)); replace HO1497 := A_ (Kd.R_elder' (tr_x HO1497.out) (Kd.R_base ho0) hb); replace HB := A_ (below_step tb_ hb); (try clear hb); (try clear ho0)))
         (try simp only [Act.put, List.setIfInBounds_toArray, List.set_cons_zero, List.set_cons_succ])
         go_cut [128] (fun v128 wc => ∃ (kq : Nat) (x128_44 : Bool), v128 = .bool x128_44 ∧ Aside0 (laws_FnFilesAreCycles.j3 kq t1491 t1494 t1495 x128_44 = some r) ∧ Aside0 (kq ≤ kj17) ∧ Aside0 (Kd.S (Kd.slice 3 (Kd.int .i64)) 22 wc w.heap.size (fun k_ => some k_ ≠ (v1496 : Value).ownBlock) (.slice Ao47 t1491.length co47) t1491) ∧ Aside0 (Kd.R (Kd.int .i64) 3 wc w.heap.size (fun _ => True) v1496 t1494) ∧ Aside0 (Below w.heap.size w wc))
         case first =>
          as_aux_lemma =>
           have H := HC45.out
           clear HC45
           by_cases c50 : (t1495 != t1499) = true
           ·
            rw [if_pos c50] at H
            exact absurd H (by simp)
           ·
            rw [if_neg c50] at H
            have c50b0 : (t1495 != t1499) = false := by simpa using c50
            (try (have c50b1 : decide (t1495 = t1499) = true := by simpa using c50))
            (try (have c50b2 : (t1495 == t1499) = true := by simpa using c50))
            clear c50
            (first | rw [c50b0] | rw [c50b1] | (simp only [i64_w, i32_w]; rw [c50b0]) | skip)
            replace H := Option.bind_eq_some_iff.mp H
            obtain ⟨t1502, A510, H⟩ := H
            replace H : (laws_FnFilesAreCycles.j3 kj17 t1491 t1494 t1495 (!t1502)) = some r := H
            have A51 := A_ A510
            clear A510
            have H' := A_ H
            clear H
            obtain ⟨Ao52, co52, eo52⟩ := Kd.R_slice HO1497.out
            subst eo52
            obtain ⟨Ao53, co53, eo53⟩ := Kd.R_slice HO1501.out
            subst eo53
            go_wp2_with (first | (go_at_call 73; (with_reducible refine (laws_kSame.calls kj17 _ _ t1494 _ _ t1498 t1502 _ ?side1 ?side2 ?side3 ?side4 A51.out).mono ?_); (case side1 => exact tc0_ (Kd.R_reads' HO1497.out).2.2); (case side2 => exact (Kd.R_reads' HO1497.out).2.1); (case side3 => exact tc0_ (Kd.R_reads' HO1501.out).2.2); (case side4 => exact (Kd.R_reads' HO1501.out).2.1); rintro e w' ⟨rfl, ⟨nd, rfl⟩⟩))
            go_meet
            case rel => exact ⟨_, (!t1502), tf_, H', ⟨by have := HJ7.out; have := HJ17.out; first | omega | exact Nat.le_refl _⟩, ⟨by (with_reducible repeat (first | apply Kd.S_alloc | apply Kd.S_drewN | apply Kd.S_drew)); exact Kd.S_mono HO1493.out (fun _ hk => hk.1.2)⟩, ⟨by (with_reducible repeat (first | apply Kd.R_alloc | apply Kd.R_drewN | apply Kd.R_drew)); exact Kd.R_mono HO1497.out (fun _ hk => trivial)⟩, ⟨tb_⟩⟩
         case rest =>
          as_aux_lemma =>
           clear HC45
           try clear c1
           try clear p1
           try clear q1
           try clear hx1
           try clear p2
           try clear c3
           try clear c4
           try clear c5
           try clear c6
           try clear p6
           try clear c7
           try clear c13
           try clear c13b0
           try clear c13b1
           try clear c13b2
           try clear p14
           try clear q14
           try clear hx14
           try clear c15
           try clear c17
           try clear c19
           try clear c30
           try clear c30b0
           try clear c31
           try clear c31b0
           try clear c32
           try clear c32b0
           try clear c33
           try clear c33b0
           try clear c34
           try clear c36
           try clear c37
           try clear c38
           try clear c39
           try clear c40
           try clear c40b0
           try clear c40b1
           try clear c46
           try clear c50
           try clear c50b0
           try clear c50b1
           try clear c50b2
           try clear c52
           try clear hcz27_0
           try clear hcz27_1
           try clear hcz27_2
           try clear hfz27_0
           try clear hfz27_1
           try clear hfz27_2
           try clear hx1489_0
           try clear p1
           try clear p14
           try clear p1489
           try clear p2
           try clear p6
           try clear q1
           try clear q14
           try clear q1489
           obtain ⟨kq, x128_44, rfl, HA, HJ44, HO_19, HO_20, HB⟩ := hcut
           cases kq with
           | zero => exact absurd HA.out (by simp [laws_FnFilesAreCycles.j3])
           | succ kj44 =>
            have H := HA.out
            clear HA
            simp only [laws_FnFilesAreCycles.j3] at H
            by_cases c54 : x128_44 = true
            ·
             subst c54
             have H1 : (none) = some r := by rw [if_pos rfl] at H; exact H
             clear H
             have H := H1
             clear H1
             exact absurd H (by simp)
            ·
             replace c54 := Bool.eq_false_iff.mpr c54
             subst c54
             have H1 : (if t1495 = true then ((impl_CyclesOfFiles.f kj44 t1494).bind fun bt1503 => (if bt1503.2 = true then ((laws_kRows.f kj44 bt1503.1 t1491).bind fun t1507 => (some t1507)) else (none))) else (some true)) = some r := by rw [if_neg (show ¬ (false = true) by decide)] at H; exact H
             clear H
             have H := H1
             clear H1
             by_cases c55 : t1495 = true
             ·
              subst c55
              have H1 : ((impl_CyclesOfFiles.f kj44 t1494).bind fun bt1503 => (if bt1503.2 = true then ((laws_kRows.f kj44 bt1503.1 t1491).bind fun t1507 => (some t1507)) else (none))) = some r := by rw [if_pos rfl] at H; exact H
              clear H
              have H := H1
              clear H1
              replace H := Option.bind_eq_some_iff.mp H
              obtain ⟨⟨t1503, t1504⟩, A560, H⟩ := H
              replace H : (if t1504 = true then ((laws_kRows.f kj44 t1503 t1491).bind fun t1507 => (some t1507)) else (none)) = some r := H
              have A56 := A_ A560
              clear A560
              by_cases c57 : t1504 = true
              ·
               subst c57
               have H1 : ((laws_kRows.f kj44 t1503 t1491).bind fun t1507 => (some t1507)) = some r := by rw [if_pos rfl] at H; exact H
               clear H
               have H := H1
               clear H1
               replace H := Option.bind_eq_some_iff.mp H
               obtain ⟨t1507, A580, H⟩ := H
               replace H : (some t1507) = some r := H
               have A58 := A_ A580
               clear A580
               obtain rfl := Option.some.inj H
               obtain ⟨Ao59, co59, eo59⟩ := Kd.R_slice HO_20.out
               subst eo59
               go_wp2_with (first | (refine gc_ 54 ?_; refine goesT_ (some 132) Try.func54 #[.slice Ao59 t1494.length co59] ?_; (with_reducible refine (impl_CyclesOfFiles.calls kj44 _ _ t1494 t1503 true _ ?side1 ?side2 A56.out).mono ?_); (case side1 => exact tc0_ (Kd.R_reads' HO_20.out).2.2); (case side2 => exact (Kd.R_reads' HO_20.out).2.1); rintro e w60 ⟨v1505, rfl, ho0, hb⟩; refine ⟨_, rfl, ?_⟩; have HO1506 := A_ (Kd.S_lower (Kd.S_new' (Kd.S_new' ho0 (Kd.S_lt (ts1_x HO_19.out))) (Kd.R_lt (tr_x HO_20.out))) (below_size tb_)); replace HO_19 := A_ (Kd.S_elder' (ts1_x HO_19.out) (Kd.S_base ho0) hb); replace HO_20 := A_ (Kd.R_below (tr_x HO_20.out) hb); replace HB := A_ (below_step tb_ hb); (try clear hb); (try clear ho0); obtain ⟨Ao61, co61, eo61⟩ := Kd.S_slice HO1506.out; subst eo61) | (go_at_call 48; (with_reducible refine (laws_kRows.calls kj44 _ _ t1503 _ _ t1491 t1507 _ ?side1 ?side2 ?side3 ?side4 A58.out).mono ?_); (case side1 => repeat (first | exact (Kd.S_reads' HO1506.out).2.2 | (with_reducible refine Kd.C_alloc ?_ _) | (with_reducible refine Kd.C_drewN ?_ _) | (with_reducible refine Kd.C_drew ?_))); (case side2 => exact (Kd.S_reads' HO1506.out).2.1); (case side3 => repeat (first | exact (Kd.S_reads' HO_19.out).2.2 | (with_reducible refine Kd.C_alloc ?_ _) | (with_reducible refine Kd.C_drewN ?_ _) | (with_reducible refine Kd.C_drew ?_))); (case side4 => exact (Kd.S_reads' HO_19.out).2.1); rintro e w' ⟨rfl, ⟨nd, rfl⟩⟩))
               go_ret
               exact ⟨te_, tb_⟩
              ·
               replace c57 := Bool.eq_false_iff.mpr c57
               subst c57
               have H1 : (none) = some r := by rw [if_neg (show ¬ (false = true) by decide)] at H; exact H
               clear H
               have H := H1
               clear H1
               exact absurd H (by simp)
             ·
              replace c55 := Bool.eq_false_iff.mpr c55
              subst c55
              have H1 : (some true) = some r := by rw [if_neg (show ¬ (false = true) by decide)] at H; exact H
              clear H
              have H := H1
              clear H1
              obtain rfl := Option.some.inj H
              go_wp2
              go_ret
              exact ⟨te_, tb_⟩
   
/-- THE ONE PURE STATEMENT of laws_FnFilesAreCycles: yours. -/
def laws_FnFilesAreCycles.Pure : Prop := ∀ (l0 : List Int) (l1 : List Int), l0.length ≤ maxLen → l0.length * 1 ≤ 140737488351232 → (∀ x ∈ l0, (Lit.int .u8 x).wf = true) → l1.length ≤ maxLen → l1.length * 1 ≤ 140737488351232 → (∀ x ∈ l1, (Lit.int .u8 x).wf = true) → ∃ k, laws_FnFilesAreCycles.f k l0 l1 = some true
theorem laws_FnFilesAreCycles.walk (P : laws_FnFilesAreCycles.Pure) (a0 : Option Addr) (len0 cap0 : Nat) (z0 : List Int) (a1 : Option Addr) (len1 cap1 : Nat) (z1 : List Int) (w : World) (w0 : (a0 = none ∧ len0 = 0 ∧ cap0 = 0 ∧ z0 = []) ∨ ∃ x, a0 = some x ∧ len0 ≤ cap0 ∧ cap0 ≤ maxLen ∧ z0.length = cap0 ∧ (∀ i, i < z0.length → w.cell? (x.add i) = some (.int .u8 (z0.getD i 0))) ∧ ∀ n ∈ z0, (Lit.int .u8 n).wf = true) (y0 : len0 * 1 ≤ 140737488351232) (w1 : (a1 = none ∧ len1 = 0 ∧ cap1 = 0 ∧ z1 = []) ∨ ∃ x, a1 = some x ∧ len1 ≤ cap1 ∧ cap1 ≤ maxLen ∧ z1.length = cap1 ∧ (∀ i, i < z1.length → w.cell? (x.add i) = some (.int .u8 (z1.getD i 0))) ∧ ∀ n ∈ z1, (Lit.int .u8 n).wf = true) (y1 : len1 * 1 ≤ 140737488351232) :
  Calls Try.prog 15 #[.slice a0 len0 cap0, .slice a1 len1 cap1] w fun e w' => e = .returned (.bool true) ∧ Below w.heap.size w w' := by
 obtain ⟨l0, rfl, hr0, hm0, hw0, hc0⟩ := ReadsInt.ofRowC w0
 obtain ⟨l1, rfl, hr1, hm1, hw1, hc1⟩ := ReadsInt.ofRowC w1
 obtain ⟨k, h⟩ := P l0 l1 hm0 y0 hw0 hm1 y1 hw1
 refine (laws_FnFilesAreCycles.calls k _ _ l0 _ _ l1 true w (Kd.C_of_reads (d := (0 : Int)) (h1 := fun _ => rfl) hr0) hc0 (Kd.C_of_reads (d := (0 : Int)) (h1 := fun _ => rfl) hr1) hc1 h).mono ?_
 rintro e w' ⟨rfl, hd⟩
 exact ⟨rfl, hd⟩

end
end Go.Proofs.Ythlcaikplebpmaa.P
