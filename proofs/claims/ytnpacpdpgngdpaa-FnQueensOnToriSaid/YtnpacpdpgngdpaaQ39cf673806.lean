-- printed functions (wip/slim.py)
import Derived.Test.YtnpacpdpgngdpaaPx0
import Derived.Test.YtnpacpdpgngdpaaQ7aa3faaa4f
import Derived.Test.YtnpacpdpgngdpaaQc9a424d6e5
import Derived.Test.YtnpacpdpgngdpaaQ688861e3bd
namespace Go.Proofs.Ytnpacpdpgngdpaa.P
noncomputable section
set_option maxHeartbeats 8000000
set_option maxRecDepth 100000
open Go.RowKit Go.Proofs.YtnpacpdpgngdpaaW.PrintWords Go.Proofs.YtnpacpdpgngdpaaW.PrintLast Go.Proofs.YtnpacpdpgngdpaaW.PrintMore
attribute [local go_sem] max2_int min2_int max_two min_two max_three min_three max_four min_four   -- for this text's walks alone
set_option linter.unusedVariables false
set_option linter.unusedSimpArgs false

/-! ### impl_StraightQueens: function 63 -/
mutual
def impl_StraightQueens.j0 : Nat → Int → Int → Bool → Option (List Int × Bool)
 | 0, _, _, _ => none
 | k + 1, x0, x1, x20 => if x20 = true then (some (([] : List Int), false)) else (impl_StraightQueens.l0 k x0 x1 (([] : List Int)) x0 0)
def impl_StraightQueens.l0 : Nat → Int → Int → List Int → Int → Int → Option (List Int × Bool)
 | 0, _, _, _, _, _ => none
 | k + 1, x0, x1, x6, x22, x23 => if x23 < x22 then (if x0 = 0 then (none) else (if x6.length < 17592186044416 then (impl_StraightQueens.l0 k x0 x1 (x6 ++ [Int.tmod (wrap64 (x1 * x23)) x0]) x22 (wrap64 (x23 + 1))) else (none))) else ((impl_isPerm.f k x6 x0).bind fun t1095 => (if t1095 = true then (some (x6, true)) else (some (([] : List Int), false))))
end
def impl_StraightQueens.f (k : Nat) (a0 : Int) (a1 : Int) : Option (List Int × Bool) := (impl_isMany.f a0).bind fun t1087 => (if t1087 = true then ((impl_within.f a1 (mn 1 (wrap64 (a0 - 1))) (wrap64 (a0 - 1))).bind fun t1088 => (impl_StraightQueens.j0 k a0 a1 (!t1088))) else (impl_StraightQueens.j0 k a0 a1 true))
theorem impl_StraightQueens.mono_l : ∀ k, (∀ y0 y1 y2, LeO (impl_StraightQueens.j0 k y0 y1 y2) (impl_StraightQueens.j0 (k + 1) y0 y1 y2)) ∧ (∀ y0 y1 y2 y3 y4, LeO (impl_StraightQueens.l0 k y0 y1 y2 y3 y4) (impl_StraightQueens.l0 (k + 1) y0 y1 y2 y3 y4))
 | 0 => ⟨fun _ _ _ r h => by simp [impl_StraightQueens.j0] at h, fun _ _ _ _ _ r h => by simp [impl_StraightQueens.l0] at h⟩
 | k + 1 => by
  obtain ⟨ih0, ih1⟩ := impl_StraightQueens.mono_l k
  refine ⟨?_, ?_⟩
  ·
   intro y0 y1 y2
   unfold impl_StraightQueens.j0
   repeat' first | (with_reducible first | exact ih0 _ _ _ | exact ih1 _ _ _ _ _ | exact impl_isPerm.mono _ _ _ | exact LeO.refl _ | exact LeO.none _ | refine LeO.ite ?_ ?_ | refine LeO.bind ?_ (fun _ => ?_)) | exact ih0 _ _ _ | exact ih1 _ _ _ _ _ | exact impl_isPerm.mono _ _ _ | exact LeO.none _ | refine LeO.ite ?_ ?_ | refine LeO.bind ?_ (fun _ => ?_)
  ·
   intro y0 y1 y2 y3 y4
   unfold impl_StraightQueens.l0
   repeat' first | (with_reducible first | exact ih0 _ _ _ | exact ih1 _ _ _ _ _ | exact impl_isPerm.mono _ _ _ | exact LeO.refl _ | exact LeO.none _ | refine LeO.ite ?_ ?_ | refine LeO.bind ?_ (fun _ => ?_)) | exact ih0 _ _ _ | exact ih1 _ _ _ _ _ | exact impl_isPerm.mono _ _ _ | exact LeO.none _ | refine LeO.ite ?_ ?_ | refine LeO.bind ?_ (fun _ => ?_)
theorem impl_StraightQueens.mono : ∀ a0 a1 k, LeO (impl_StraightQueens.f k a0 a1) (impl_StraightQueens.f (k + 1) a0 a1) := by
 intro a0 a1 k
 obtain ⟨ih0, ih1⟩ := impl_StraightQueens.mono_l k
 unfold impl_StraightQueens.f
 repeat' first | (with_reducible first | exact ih0 _ _ _ | exact ih1 _ _ _ _ _ | exact impl_isPerm.mono _ _ _ | exact LeO.refl _ | exact LeO.none _ | refine LeO.ite ?_ ?_ | refine LeO.bind ?_ (fun _ => ?_)) | exact ih0 _ _ _ | exact ih1 _ _ _ _ _ | exact impl_isPerm.mono _ _ _ | exact LeO.none _ | refine LeO.ite ?_ ?_ | refine LeO.bind ?_ (fun _ => ?_)
theorem impl_StraightQueens.calls (k : Nat) (a0 : Int) (a1 : Int) (r1 : List Int) (r2 : Bool) (w : World) (h : impl_StraightQueens.f k a0 a1 = some (r1, r2)) :
  Calls Try.prog 63 #[.int .i64 a0, .int .i64 a1] w fun e w' => ∃ v0_ : Value, e = .returned (.tuple #[v0_, .bool r2]) ∧ Kd.R (Kd.int .i64) 3 w' w.heap.size (fun _ => True) v0_ r1 ∧ Below w.heap.size w w' := by
 have HB := A_ (Below.refl w.heap.size w)
 have H : ((impl_isMany.f a0).bind fun t1087 => (if t1087 = true then ((impl_within.f a1 (mn 1 (wrap64 (a0 - 1))) (wrap64 (a0 - 1))).bind fun t1088 => (impl_StraightQueens.j0 k a0 a1 (!t1088))) else (impl_StraightQueens.j0 k a0 a1 true))) = some (r1, r2) := h
 clear h
 have HC3 := A_ H
 clear H
 go_enter Try.func63, Try.ntmps63
 go_upto_region 1 with (fail)
 go_cut [20] (fun v20 wc => ∃ (kq : Nat) (x20_2 : Bool), v20 = .bool x20_2 ∧ Aside0 (impl_StraightQueens.j0 kq a0 a1 x20_2 = some (r1, r2)) ∧ Aside0 (kq ≤ k) ∧ Aside0 (Below w.heap.size w wc))
 case first =>
  have H := HC3.out
  clear HC3
  replace H := Option.bind_eq_some_iff.mp H
  obtain ⟨t1087, A40, H⟩ := H
  replace H : (if t1087 = true then ((impl_within.f a1 (mn 1 (wrap64 (a0 - 1))) (wrap64 (a0 - 1))).bind fun t1088 => (impl_StraightQueens.j0 k a0 a1 (!t1088))) else (impl_StraightQueens.j0 k a0 a1 true)) = some (r1, r2) := H
  have A4 := A_ A40
  clear A40
  by_cases c5 : t1087 = true
  ·
   subst c5
   have H1 : ((impl_within.f a1 (mn 1 (wrap64 (a0 - 1))) (wrap64 (a0 - 1))).bind fun t1088 => (impl_StraightQueens.j0 k a0 a1 (!t1088))) = some (r1, r2) := by rw [if_pos rfl] at H; exact H
   clear H
   have H := H1
   clear H1
   obtain ⟨ji6, hji6⟩ : ∃ j_ : Int, (mn 1 (wrap64 (a0 - 1))) = j_ := ⟨_, rfl⟩
   replace H : ((impl_within.f a1 (ji6) (wrap64 (a0 - 1))).bind fun t1088 => (impl_StraightQueens.j0 k a0 a1 (!t1088))) = some (r1, r2) := by first | (rw [hji6] at H; exact H) | (simp only [hji6] at H ⊢; exact H)
   (try rw [hji6] at A4)
   (try (have hji6h : ji6 ≤ 1 := by (rw [← hji6]; unfold mn; (repeat' split) <;> omega)))
   (try (have hji6g : ji6 ≤ 64 := by omega))
   have hji6_ : (if (wrap64 (a0 - 1)) < 1 then (wrap64 (a0 - 1)) else 1) = ji6 := hji6
   replace H := Option.bind_eq_some_iff.mp H
   obtain ⟨t1088, A70, H⟩ := H
   replace H : (impl_StraightQueens.j0 k a0 a1 (!t1088)) = some (r1, r2) := H
   have A7 := A_ A70
   clear A70
   have H' := A_ H
   clear H
   go_wp2_with (first | (refine gc_ 161 ?_; refine goesT_ (some 9) Try.func161 #[.int .i64 a0] ?_; (with_reducible refine (impl_isMany.calls a0 true _ A4.out).mono ?_); rintro e w' ⟨rfl, ⟨nd, rfl⟩⟩; refine ⟨_, rfl, ?_⟩) | (go_at_call 139; (with_reducible refine (impl_within.calls a1 ji6 (wrap64 (a0 - 1)) t1088 _ A7.out).mono ?_); rintro e w' ⟨rfl, ⟨nd, rfl⟩⟩))
   go_meet
   case rel => exact ⟨_, (!t1088), tf_, H', ⟨by first | omega | exact Nat.le_refl _⟩, ⟨tb_⟩⟩
  ·
   replace c5 := Bool.eq_false_iff.mpr c5
   subst c5
   have H1 : (impl_StraightQueens.j0 k a0 a1 true) = some (r1, r2) := by rw [if_neg (show ¬ (false = true) by decide)] at H; exact H
   clear H
   have H := H1
   clear H1
   have H' := A_ H
   clear H
   go_wp2_with (first | (refine gc_ 161 ?_; refine goesT_ (some 9) Try.func161 #[.int .i64 a0] ?_; (with_reducible refine (impl_isMany.calls a0 false _ A4.out).mono ?_); rintro e w' ⟨rfl, ⟨nd, rfl⟩⟩; refine ⟨_, rfl, ?_⟩))
   go_meet
   case rel => exact ⟨_, (true), tf_, H', ⟨by first | omega | exact Nat.le_refl _⟩, ⟨tb_⟩⟩
 case rest =>
  clear HC3
  try clear c1
  try clear p2
  try clear c5
  try clear c6
  try clear p6
  obtain ⟨kq, x20_2, rfl, HA, HJ2, HB⟩ := hcut
  cases kq with
  | zero => exact absurd HA.out (by simp [impl_StraightQueens.j0])
  | succ kj2 =>
   have H := HA.out
   clear HA
   simp only [impl_StraightQueens.j0] at H
   by_cases c8 : x20_2 = true
   ·
    subst c8
    have H1 : (some (([] : List Int), false)) = some (r1, r2) := by rw [if_pos rfl] at H; exact H
    clear H
    have H := H1
    clear H1
    simp only [Option.some.injEq, Prod.mk.injEq] at H
    obtain ⟨rfl, rfl⟩ := H
    go_wp2
    go_ret2
    exact ⟨_, te_, by first | exact Kd.R_nil _ _ _ _ _ | exact Kd.N_nil _ _ _ _ _ | exact Kd.V_nil _ _ _ _ _ | exact Kd.Q_nil _ _ _ _ _ | exact Kd.S_nil _ _ _ _ _, tb_⟩
   ·
    replace c8 := Bool.eq_false_iff.mpr c8
    subst c8
    have H1 : (impl_StraightQueens.l0 kj2 a0 a1 (([] : List Int)) a0 0) = some (r1, r2) := by rw [if_neg (show ¬ (false = true) by decide)] at H; exact H
    clear H
    have H := H1
    clear H1
    obtain ⟨y1089, hy1089⟩ : ∃ y_ : List Int, y_ = (([] : List Int)) := ⟨_, rfl⟩
    replace H : (impl_StraightQueens.l0 kj2 a0 a1 y1089 a0 0) = some (r1, r2) := ty_ hy1089 H
    have Ny1089 := A_ hy1089
    clear hy1089
    have H' := A_ H
    clear H
    go_wp2_with (first | (refine gd_ 21 ?_; (try (refine gate_guard (by rfl) ?_; dsimp only)); refine Kd.R_lit (Kd.int .i64) _ 3 ?hg (N := 21) ?hd (xs := ([] : List Int)) (inner := []) (ok := fun _ => True) (okp := fun _ => True) ?hr ?hp (fun _ hk => hk) trivial (Below.refl _ _) (Nat.le_refl _) (by simp) ?_; (case hd => rfl); (case hg => rfl); (case hr => first | (go_simp; done) | (go_simp; rfl)); (case hp => exact (Reps.none _ _)); intro v1090 w9 ho10 hb hg_ hnew_; clear hg_ hnew_; (first | rw [← Ny1089.out] at ho10 | (simp only [Int.reduceToNat] at ho10; rw [← Ny1089.out] at ho10)); have HO1091 := A_ (Kd.R_lower ho10 (below_size tb_)); replace HB := A_ (below_step tb_ hb); clear hb ho10))
    go_loopg [6, 23] kj2 (fun kq v6 v23 w' => ∃ (x6_2 : List Int) (x23_2 : Int), v23 = .int .i64 x23_2 ∧ Aside0 (impl_StraightQueens.l0 kq a0 a1 x6_2 a0 x23_2 = some (r1, r2)) ∧ Aside0 (kq ≤ kj2) ∧ Aside0 (Kd.R (Kd.int .i64) 3 w' w.heap.size (fun _ => True) v6 x6_2) ∧ Aside0 (Below w.heap.size w w'))
    case atStart => exact ⟨(y1089), (0), tf_, H', ⟨Nat.le_refl _⟩, ⟨tr_x HO1091.out⟩, ⟨tb_⟩⟩
    case round =>
     clear H'
     try clear c1
     try clear p2
     try clear c5
     try clear c6
     try clear p6
     try clear c8
     try clear p2
     try clear p6
     obtain ⟨x6_2, x23_2, rfl, HA, HK2, HO_6, HB⟩ := hrel
     cases gk with
     | zero => exact absurd HA.out (by simp [impl_StraightQueens.l0])
     | succ k2 =>
      have H := HA.out
      clear HA
      simp only [impl_StraightQueens.l0] at H
      by_cases c11 : x23_2 < a0
      ·
       rw [if_pos c11] at H
       have c11b0 := decide_eq_true c11
       clear c11
       by_cases c12 : a0 = 0
       ·
        rw [if_pos c12] at H
        exact absurd H (by simp)
       ·
        rw [if_neg c12] at H
        have c12b0 : (a0 == 0) = false := beq_eq_false_iff_ne.mpr c12
        have c12b1 : (a0 != 0) = true := bne_iff_ne.mpr c12
        by_cases c13 : x6_2.length < 17592186044416
        ·
         rw [if_pos c13] at H
         have LMc13 := A_ c13
         clear c13
         obtain ⟨y1092, hy1092⟩ : ∃ y_ : List Int, y_ = (x6_2 ++ [Int.tmod (wrap64 (a1 * x23_2)) a0]) := ⟨_, rfl⟩
         replace H : (impl_StraightQueens.l0 k2 a0 a1 y1092 a0 (wrap64 (x23_2 + 1))) = some (r1, r2) := ty_ hy1092 H
         have Ny1092 := A_ hy1092
         clear hy1092
         have H' := A_ H
         clear H
         go_wp2_with (first | ((with_reducible refine gate_builtin (b := .append) (xs := #[.tmp 26, .tmp 32]) rfl ?_); (try (refine gate_guard (by rfl) ?_; dsimp only)); at_builtin; refine Kd.R_append (Kd.int .i64) (w0 := w) w.heap.size rfl (.tmp 26) (.tmp 32) 22 3 (.int .i64 0) 8 rfl Try.underlying22 info3 rfl (by decide) (by omega) u6 x6_2 (Int.tmod (wrap64 (a1 * x23_2)) a0) [.int .i64 (Int.tmod (wrap64 (a1 * x23_2)) a0)] (fun _ => True) (fun _ => False) rfl rfl ?aP (fun _ hk => hk.elim) ?aF ?aO ?aB ?aS ?aL ?_; (case aP => exact rfl); (case aB => exact tb_); (case aF => exact (fun _ _ => trivial)); (case aO => exact (tr_x HO_6.out)); (case aS => exact (below_size tb_)); (case aL => have := LMc13.out; omega); intro v1093 w14 ho hb hg hat; rw [← Ny1092.out] at ho; have n0_ := A_ (hb); have n1_ := A_ (ho); clear HB; clear HO_6; have HB := n0_; have HO1094 := n1_; clear n0_ n1_; clear ho hb hg hat))
         go_roundg k2
         case measure => have := HJ2.out; have := HK2.out; omega
         case rel => exact ⟨(y1092), (wrap64 (x23_2 + 1)), tf_, H', ⟨by have := HJ2.out; have := HK2.out; omega⟩, ⟨tr_x HO1094.out⟩, ⟨tb_⟩⟩
        ·
         rw [if_neg c13] at H
         exact absurd H (by simp)
      ·
       rw [if_neg c11] at H
       have c11b0 := decide_eq_false c11
       clear c11
       replace H := Option.bind_eq_some_iff.mp H
       obtain ⟨t1095, A150, H⟩ := H
       replace H : (if t1095 = true then (some (x6_2, true)) else (some (([] : List Int), false))) = some (r1, r2) := H
       have A15 := A_ A150
       clear A150
       by_cases c16 : t1095 = true
       ·
        subst c16
        have H1 : (some (x6_2, true)) = some (r1, r2) := by rw [if_pos rfl] at H; exact H
        clear H
        have H := H1
        clear H1
        simp only [Option.some.injEq, Prod.mk.injEq] at H
        obtain ⟨rfl, rfl⟩ := H
        obtain ⟨Ao17, co17, eo17⟩ := Kd.R_slice HO_6.out
        subst eo17
        go_wp2_with (first | (refine gc_ 180 ?_; refine goesT_ (some 37) Try.func180 #[.slice Ao17 x6_2.length co17, .int .i64 a0] ?_; (with_reducible refine (impl_isPerm.calls k2 _ _ x6_2 a0 true _ ?side1 ?side2 A15.out).mono ?_); (case side1 => exact tc0_ (Kd.R_reads' HO_6.out).2.2); (case side2 => exact (Kd.R_reads' HO_6.out).2.1); rintro e w' ⟨rfl, ⟨nd, rfl⟩⟩; refine ⟨_, rfl, ?_⟩))
        go_ret2
        exact ⟨_, te_, tr_x HO_6.out, tb_⟩
       ·
        replace c16 := Bool.eq_false_iff.mpr c16
        subst c16
        have H1 : (some (([] : List Int), false)) = some (r1, r2) := by rw [if_neg (show ¬ (false = true) by decide)] at H; exact H
        clear H
        have H := H1
        clear H1
        simp only [Option.some.injEq, Prod.mk.injEq] at H
        obtain ⟨rfl, rfl⟩ := H
        obtain ⟨Ao18, co18, eo18⟩ := Kd.R_slice HO_6.out
        subst eo18
        go_wp2_with (first | (refine gc_ 180 ?_; refine goesT_ (some 37) Try.func180 #[.slice Ao18 x6_2.length co18, .int .i64 a0] ?_; (with_reducible refine (impl_isPerm.calls k2 _ _ x6_2 a0 false _ ?side1 ?side2 A15.out).mono ?_); (case side1 => exact tc0_ (Kd.R_reads' HO_6.out).2.2); (case side2 => exact (Kd.R_reads' HO_6.out).2.1); rintro e w' ⟨rfl, ⟨nd, rfl⟩⟩; refine ⟨_, rfl, ?_⟩))
        go_ret2
        exact ⟨_, te_, by first | exact Kd.R_nil _ _ _ _ _ | exact Kd.N_nil _ _ _ _ _ | exact Kd.V_nil _ _ _ _ _ | exact Kd.Q_nil _ _ _ _ _ | exact Kd.S_nil _ _ _ _ _, tb_⟩

/-! ### spec_AreOnTorus: function 66 -/
def spec_AreOnTorus.f (k : Nat) (l0 : List Int) : Option (Bool × Bool) := (spec_quGood.f k l0).bind fun t1096 => (if t1096 = true then ((spec_quTorus.f k l0).bind fun t1097 => (some (t1097, true))) else (some (false, false)))
theorem spec_AreOnTorus.mono : ∀ a0 k, LeO (spec_AreOnTorus.f k a0) (spec_AreOnTorus.f (k + 1) a0) := by
 intro a0 k
 unfold spec_AreOnTorus.f
 repeat' first | (with_reducible first | exact spec_quGood.mono _ _ | exact spec_quTorus.mono _ _ | exact LeO.refl _ | exact LeO.none _ | refine LeO.ite ?_ ?_ | refine LeO.bind ?_ (fun _ => ?_)) | exact spec_quGood.mono _ _ | exact spec_quTorus.mono _ _ | exact LeO.none _ | refine LeO.ite ?_ ?_ | refine LeO.bind ?_ (fun _ => ?_)
theorem spec_AreOnTorus.calls (k : Nat) (A0 : Option Addr) (c0 : Nat) (l0 : List Int) (r1 : Bool) (r2 : Bool) (w : World) (hr0 : Kd.C (Kd.int .i64) w A0 l0.length l0) (hc0 : l0.length ≤ c0) (h : spec_AreOnTorus.f k l0 = some (r1, r2)) :
  Calls Try.prog 66 #[.slice A0 l0.length c0] w fun e w' => e = .returned (.tuple #[.bool r1, .bool r2]) ∧ Drawn0 w w' := by
 have HR0 := A_ hr0
 have HC0 := A_ hc0
 clear hr0 hc0
 have H : ((spec_quGood.f k l0).bind fun t1096 => (if t1096 = true then ((spec_quTorus.f k l0).bind fun t1097 => (some (t1097, true))) else (some (false, false)))) = some (r1, r2) := h
 clear h
 replace H := Option.bind_eq_some_iff.mp H
 obtain ⟨t1096, A20, H⟩ := H
 replace H : (if t1096 = true then ((spec_quTorus.f k l0).bind fun t1097 => (some (t1097, true))) else (some (false, false))) = some (r1, r2) := H
 have A2 := A_ A20
 clear A20
 by_cases c3 : t1096 = true
 ·
  subst c3
  have H1 : ((spec_quTorus.f k l0).bind fun t1097 => (some (t1097, true))) = some (r1, r2) := by rw [if_pos rfl] at H; exact H
  clear H
  have H := H1
  clear H1
  replace H := Option.bind_eq_some_iff.mp H
  obtain ⟨t1097, A40, H⟩ := H
  replace H : (some (t1097, true)) = some (r1, r2) := H
  have A4 := A_ A40
  clear A40
  simp only [Option.some.injEq, Prod.mk.injEq] at H
  obtain ⟨rfl, rfl⟩ := H
  go_enter Try.func66, Try.ntmps66
  go_wp2_with (first | (refine gc_ 172 ?_; refine goesT_ (some 5) Try.func172 #[.slice A0 l0.length c0] ?_; (with_reducible refine (spec_quGood.calls k _ _ l0 true _ ?side1 ?side2 A2.out).mono ?_); (case side1 => exact tc0_ HR0.out); (case side2 => exact HC0.out); rintro e w' ⟨rfl, ⟨nd, rfl⟩⟩; refine ⟨_, rfl, ?_⟩) | (refine gc_ 179 ?_; refine goesT_ (some 8) Try.func179 #[.slice A0 l0.length c0] ?_; (with_reducible refine (spec_quTorus.calls k _ _ l0 t1097 _ ?side1 ?side2 A4.out).mono ?_); (case side1 => exact tc0_ HR0.out); (case side2 => exact HC0.out); rintro e w' ⟨rfl, ⟨nd, rfl⟩⟩; refine ⟨_, rfl, ?_⟩))
  go_ret2
  exact ⟨tf_, dr_⟩
 ·
  replace c3 := Bool.eq_false_iff.mpr c3
  subst c3
  have H1 : (some (false, false)) = some (r1, r2) := by rw [if_neg (show ¬ (false = true) by decide)] at H; exact H
  clear H
  have H := H1
  clear H1
  simp only [Option.some.injEq, Prod.mk.injEq] at H
  obtain ⟨rfl, rfl⟩ := H
  go_enter Try.func66, Try.ntmps66
  go_wp2_with (first | (refine gc_ 172 ?_; refine goesT_ (some 5) Try.func172 #[.slice A0 l0.length c0] ?_; (with_reducible refine (spec_quGood.calls k _ _ l0 false _ ?side1 ?side2 A2.out).mono ?_); (case side1 => exact tc0_ HR0.out); (case side2 => exact HC0.out); rintro e w' ⟨rfl, ⟨nd, rfl⟩⟩; refine ⟨_, rfl, ?_⟩))
  go_ret2
  exact ⟨tf_, dr_⟩

end
end Go.Proofs.Ytnpacpdpgngdpaa.P
