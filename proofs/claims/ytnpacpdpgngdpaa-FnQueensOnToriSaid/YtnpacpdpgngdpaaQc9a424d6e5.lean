-- printed functions (wip/slim.py)
import Derived.Test.YtnpacpdpgngdpaaPx0
import Derived.Test.YtnpacpdpgngdpaaQ7aa3faaa4f
import Derived.Test.YtnpacpdpgngdpaaQe055dea2b2
namespace Go.Proofs.Ytnpacpdpgngdpaa.P
noncomputable section
set_option maxHeartbeats 8000000
set_option maxRecDepth 100000
open Go.RowKit Go.Proofs.YtnpacpdpgngdpaaW.PrintWords Go.Proofs.YtnpacpdpgngdpaaW.PrintLast Go.Proofs.YtnpacpdpgngdpaaW.PrintMore
attribute [local go_sem] max2_int min2_int max_two min_two max_three min_three max_four min_four   -- for this text's walks alone
set_option linter.unusedVariables false
set_option linter.unusedSimpArgs false

/-! ### spec_DrawAreOnTorus: function 65 -/
def spec_DrawAreOnTorus.f (k : Nat) (l0 : List Int) : Option (List Int) := (spec_l1Cur_among.f l0 0 0 (([1, 5, 7] : List Int))).bind fun bt971 => ((spec_l1Cur_among.f l0 bt971.2.1 bt971.2.2 (([0, 2, 3] : List Int))).bind fun bt977 => ((spec_StraightQueens.f k bt971.1 bt977.1).bind fun bt980 => (if bt980.2 = true then ((spec_l1Cur_one.f l0 bt977.2.1 bt977.2.2 2).bind fun bt984 => (if bt984.1 = true then (some bt980.1) else ((spec_l1Cur_queens.f k l0 bt984.2.1 bt984.2.2).bind fun bt987 => (some bt987.1)))) else ((spec_l1Cur_queens.f k l0 bt977.2.1 bt977.2.2).bind fun bt992 => (some bt992.1)))))
theorem spec_DrawAreOnTorus.mono : ∀ a0 k, LeO (spec_DrawAreOnTorus.f k a0) (spec_DrawAreOnTorus.f (k + 1) a0) := by
 intro a0 k
 unfold spec_DrawAreOnTorus.f
 repeat' first | (with_reducible first | exact spec_StraightQueens.mono _ _ _ | exact spec_l1Cur_queens.mono _ _ _ _ | exact LeO.refl _ | exact LeO.none _ | refine LeO.ite ?_ ?_ | refine LeO.bind ?_ (fun _ => ?_)) | exact spec_StraightQueens.mono _ _ _ | exact spec_l1Cur_queens.mono _ _ _ _ | exact LeO.none _ | refine LeO.ite ?_ ?_ | refine LeO.bind ?_ (fun _ => ?_)
theorem spec_DrawAreOnTorus.calls (k : Nat) (A0 : Option Addr) (c0 : Nat) (l0 : List Int) (r : List Int) (w : World) (hr0 : Kd.C (Kd.int .u8) w A0 l0.length l0) (hc0 : l0.length ≤ c0) (h : spec_DrawAreOnTorus.f k l0 = some r) :
  Calls Try.prog 65 #[.slice A0 l0.length c0] w fun e w' => ∃ v0_ : Value, e = .returned (v0_) ∧ Kd.R (Kd.int .i64) 3 w' w.heap.size (fun _ => True) v0_ r ∧ Below w.heap.size w w' := by
 have hu122 := Try.underlying122
 have HR0 := A_ hr0
 have HC0 := A_ hc0
 clear hr0 hc0
 have HB := A_ (Below.refl w.heap.size w)
 have H : ((spec_l1Cur_among.f l0 0 0 (([1, 5, 7] : List Int))).bind fun bt971 => ((spec_l1Cur_among.f l0 bt971.2.1 bt971.2.2 (([0, 2, 3] : List Int))).bind fun bt977 => ((spec_StraightQueens.f k bt971.1 bt977.1).bind fun bt980 => (if bt980.2 = true then ((spec_l1Cur_one.f l0 bt977.2.1 bt977.2.2 2).bind fun bt984 => (if bt984.1 = true then (some bt980.1) else ((spec_l1Cur_queens.f k l0 bt984.2.1 bt984.2.2).bind fun bt987 => (some bt987.1)))) else ((spec_l1Cur_queens.f k l0 bt977.2.1 bt977.2.2).bind fun bt992 => (some bt992.1)))))) = some r := h
 clear h
 obtain ⟨y968, hy968⟩ : ∃ y_ : List Int, y_ = (([1, 5, 7] : List Int)) := ⟨_, rfl⟩
 replace H : ((spec_l1Cur_among.f l0 0 0 y968).bind fun bt971 => ((spec_l1Cur_among.f l0 bt971.2.1 bt971.2.2 (([0, 2, 3] : List Int))).bind fun bt977 => ((spec_StraightQueens.f k bt971.1 bt977.1).bind fun bt980 => (if bt980.2 = true then ((spec_l1Cur_one.f l0 bt977.2.1 bt977.2.2 2).bind fun bt984 => (if bt984.1 = true then (some bt980.1) else ((spec_l1Cur_queens.f k l0 bt984.2.1 bt984.2.2).bind fun bt987 => (some bt987.1)))) else ((spec_l1Cur_queens.f k l0 bt977.2.1 bt977.2.2).bind fun bt992 => (some bt992.1)))))) = some r := ty_ hy968 H
 have Ny968 := A_ hy968
 clear hy968
 replace H := Option.bind_eq_some_iff.mp H
 obtain ⟨⟨t971, t972, t973⟩, A20, H⟩ := H
 replace H : ((spec_l1Cur_among.f l0 t972 t973 (([0, 2, 3] : List Int))).bind fun bt977 => ((spec_StraightQueens.f k t971 bt977.1).bind fun bt980 => (if bt980.2 = true then ((spec_l1Cur_one.f l0 bt977.2.1 bt977.2.2 2).bind fun bt984 => (if bt984.1 = true then (some bt980.1) else ((spec_l1Cur_queens.f k l0 bt984.2.1 bt984.2.2).bind fun bt987 => (some bt987.1)))) else ((spec_l1Cur_queens.f k l0 bt977.2.1 bt977.2.2).bind fun bt992 => (some bt992.1))))) = some r := H
 have A2 := A_ A20
 clear A20
 obtain ⟨y974, hy974⟩ : ∃ y_ : List Int, y_ = (([0, 2, 3] : List Int)) := ⟨_, rfl⟩
 replace H : ((spec_l1Cur_among.f l0 t972 t973 y974).bind fun bt977 => ((spec_StraightQueens.f k t971 bt977.1).bind fun bt980 => (if bt980.2 = true then ((spec_l1Cur_one.f l0 bt977.2.1 bt977.2.2 2).bind fun bt984 => (if bt984.1 = true then (some bt980.1) else ((spec_l1Cur_queens.f k l0 bt984.2.1 bt984.2.2).bind fun bt987 => (some bt987.1)))) else ((spec_l1Cur_queens.f k l0 bt977.2.1 bt977.2.2).bind fun bt992 => (some bt992.1))))) = some r := ty_ hy974 H
 have Ny974 := A_ hy974
 clear hy974
 replace H := Option.bind_eq_some_iff.mp H
 obtain ⟨⟨t977, t978, t979⟩, A30, H⟩ := H
 replace H : ((spec_StraightQueens.f k t971 t977).bind fun bt980 => (if bt980.2 = true then ((spec_l1Cur_one.f l0 t978 t979 2).bind fun bt984 => (if bt984.1 = true then (some bt980.1) else ((spec_l1Cur_queens.f k l0 bt984.2.1 bt984.2.2).bind fun bt987 => (some bt987.1)))) else ((spec_l1Cur_queens.f k l0 t978 t979).bind fun bt992 => (some bt992.1)))) = some r := H
 have A3 := A_ A30
 clear A30
 replace H := Option.bind_eq_some_iff.mp H
 obtain ⟨⟨t980, t981⟩, A40, H⟩ := H
 replace H : (if t981 = true then ((spec_l1Cur_one.f l0 t978 t979 2).bind fun bt984 => (if bt984.1 = true then (some t980) else ((spec_l1Cur_queens.f k l0 bt984.2.1 bt984.2.2).bind fun bt987 => (some bt987.1)))) else ((spec_l1Cur_queens.f k l0 t978 t979).bind fun bt992 => (some bt992.1))) = some r := H
 have A4 := A_ A40
 clear A40
 by_cases c5 : t981 = true
 ·
  subst c5
  have H1 : ((spec_l1Cur_one.f l0 t978 t979 2).bind fun bt984 => (if bt984.1 = true then (some t980) else ((spec_l1Cur_queens.f k l0 bt984.2.1 bt984.2.2).bind fun bt987 => (some bt987.1)))) = some r := by rw [if_pos rfl] at H; exact H
  clear H
  have H := H1
  clear H1
  replace H := Option.bind_eq_some_iff.mp H
  obtain ⟨⟨t984, t985, t986⟩, A60, H⟩ := H
  replace H : (if t984 = true then (some t980) else ((spec_l1Cur_queens.f k l0 t985 t986).bind fun bt987 => (some bt987.1))) = some r := H
  have A6 := A_ A60
  clear A60
  by_cases c7 : t984 = true
  ·
   subst c7
   have H1 : (some t980) = some r := by rw [if_pos rfl] at H; exact H
   clear H
   have H := H1
   clear H1
   obtain rfl := Option.some.inj H
   go_enter Try.func65, Try.ntmps65
   go_wp2_with (first | (refine gd_ 8 ?_; refine bx_ 8 #[.slice A0 l0.length c0, .int .i64 0, .int .u64 0] 122 ?_; intro gb967 hg w8 hbox hb; have HI967 := A_ ((⟨_, _, hbox, (by rw [hg]; exact (below_size tb_)), HR0.out⟩ : IsS122 w w8 gb967 l0 0 0)); replace HB := A_ (below_step tb_ hb); clear hb hbox hg) | (refine gd_ 11 ?_; refine Kd.R_lit (Kd.int .i64) _ 3 ?hg (N := 11) ?hd (xs := ([1, 5, 7] : List Int)) (inner := [.int .i64 1, .int .i64 5, .int .i64 7]) (ok := fun _ => True) (okp := fun _ => True) ?hr ?hp (fun _ hk => hk) trivial (Below.refl _ _) (Nat.le_refl _) (by simp) ?_; (case hd => rfl); (case hg => rfl); (case hr => first | (go_simp; done) | (go_simp; rfl)); (case hp => exact (Reps.one (show Kd.M (Kd.int .i64) _ _ _ 1 [.int .i64 1] from rfl) (Reps.one (show Kd.M (Kd.int .i64) _ _ _ 5 [.int .i64 5] from rfl) (Reps.one (show Kd.M (Kd.int .i64) _ _ _ 7 [.int .i64 7] from rfl) (Reps.none _ _))))); intro v969 w9 ho10 hb hg_ hnew_; clear hg_ hnew_; (first | rw [← Ny968.out] at ho10 | (simp only [Int.reduceToNat] at ho10; rw [← Ny968.out] at ho10)); have HO970 := A_ (Kd.R_lower ho10 (below_size (by repeat (first | (with_reducible first | exact HB.out | apply below_alloc | apply pw_below_drewN | apply below_drew1 | refine below_set ?_ (IsS122.ge HI967.out)) | exact HB.out)))); replace HB := A_ (below_step (by repeat (first | (with_reducible first | exact HB.out | apply below_alloc | apply pw_below_drewN | apply below_drew1 | refine below_set ?_ (IsS122.ge HI967.out)) | exact HB.out)) hb); replace HI967 := A_ (IsS122.below (by repeat (first | (with_reducible first | exact HI967.out | apply IsS122.alloc | apply IsS122.drewN | apply IsS122.drew | apply IsS122.set_1 | apply IsS122.set_2) | exact HI967.out)) hb); clear hb ho10; obtain ⟨Ao11, co11, eo11⟩ := Kd.R_slice HO970.out; subst eo11) | (refine gc_ 160 ?_; refine goesT_ (some 12) Try.func160 #[.pointer (some ⟨gb967, 0, none⟩), .slice Ao11 y968.length co11] ?_; (with_reducible refine (spec_l1Cur_among.calls gb967 l0 0 0 _ _ y968 t971 t972 t973 w _ ?side1 ?side2 ?side3 ?side4 ?side5 A2.out).mono ?_); (case side1 => repeat (first | (with_reducible first | exact HI967.out | apply IsS122.alloc | apply IsS122.drewN | apply IsS122.drew | apply IsS122.set_1 | apply IsS122.set_2) | exact HI967.out)); (case side2 => repeat (first | (with_reducible first | exact HB.out | apply below_alloc | apply pw_below_drewN | apply below_drew1 | refine below_set ?_ (IsS122.ge HI967.out)) | exact HB.out)); (case side3 => exact tc0_ (Kd.R_reads' HO970.out).2.2); (case side4 => exact (Kd.R_reads' HO970.out).2.1); (case side5 => exact far_slice (IsS122.own_ne HI967.out HO970.out (by decide))); rintro e w12 ⟨rfl, hi, hb, hk⟩; refine ⟨_, rfl, ?_⟩; replace HO970 := A_ (Kd.R_mono (Kd.R_keep (IsS122.apart (show IsS122 w _ gb967 l0 0 0 from by repeat (first | (with_reducible first | exact HI967.out | apply IsS122.alloc | apply IsS122.drewN | apply IsS122.drew | apply IsS122.set_1 | apply IsS122.set_2) | exact HI967.out)) (tr_x HO970.out) (by decide)) hk (fun _ h => h.2)) (fun _ h => h.1)); replace HB := A_ (hb); replace HI967 := A_ (hi); (try clear hb); (try clear hb2); (try clear hk); (try clear hi)) | (refine gd_ 14 ?_; refine Kd.R_lit (Kd.int .i64) _ 3 ?hg (N := 14) ?hd (xs := ([0, 2, 3] : List Int)) (inner := [.int .i64 0, .int .i64 2, .int .i64 3]) (ok := fun _ => True) (okp := fun _ => True) ?hr ?hp (fun _ hk => hk) trivial (Below.refl _ _) (Nat.le_refl _) (by simp) ?_; (case hd => rfl); (case hg => rfl); (case hr => first | (go_simp; done) | (go_simp; rfl)); (case hp => exact (Reps.one (show Kd.M (Kd.int .i64) _ _ _ 0 [.int .i64 0] from rfl) (Reps.one (show Kd.M (Kd.int .i64) _ _ _ 2 [.int .i64 2] from rfl) (Reps.one (show Kd.M (Kd.int .i64) _ _ _ 3 [.int .i64 3] from rfl) (Reps.none _ _))))); intro v975 w13 ho14 hb hg_ hnew_; clear hg_ hnew_; (first | rw [← Ny974.out] at ho14 | (simp only [Int.reduceToNat] at ho14; rw [← Ny974.out] at ho14)); have HO976 := A_ (Kd.R_lower (Kd.R_new' ho14 (Kd.R_lt (tr_x HO970.out))) (below_size (by repeat (first | (with_reducible first | exact HB.out | apply below_alloc | apply pw_below_drewN | apply below_drew1 | refine below_set ?_ (IsS122.ge HI967.out)) | exact HB.out)))); replace HO970 := A_ (Kd.R_elder' (tr_x HO970.out) (Kd.R_base ho14) hb); replace HB := A_ (below_step (by repeat (first | (with_reducible first | exact HB.out | apply below_alloc | apply pw_below_drewN | apply below_drew1 | refine below_set ?_ (IsS122.ge HI967.out)) | exact HB.out)) hb); replace HI967 := A_ (IsS122.below (by repeat (first | (with_reducible first | exact HI967.out | apply IsS122.alloc | apply IsS122.drewN | apply IsS122.drew | apply IsS122.set_1 | apply IsS122.set_2) | exact HI967.out)) hb); clear hb ho14; obtain ⟨Ao15, co15, eo15⟩ := Kd.R_slice HO976.out; subst eo15) | (refine gc_ 160 ?_; refine goesT_ (some 15) Try.func160 #[.pointer (some ⟨gb967, 0, none⟩), .slice Ao15 y974.length co15] ?_; (with_reducible refine (spec_l1Cur_among.calls gb967 l0 t972 t973 _ _ y974 t977 t978 t979 w _ ?side1 ?side2 ?side3 ?side4 ?side5 A3.out).mono ?_); (case side1 => repeat (first | (with_reducible first | exact HI967.out | apply IsS122.alloc | apply IsS122.drewN | apply IsS122.drew | apply IsS122.set_1 | apply IsS122.set_2) | exact HI967.out)); (case side2 => repeat (first | (with_reducible first | exact HB.out | apply below_alloc | apply pw_below_drewN | apply below_drew1 | refine below_set ?_ (IsS122.ge HI967.out)) | exact HB.out)); (case side3 => exact tc0_ (Kd.R_reads' HO976.out).2.2); (case side4 => exact (Kd.R_reads' HO976.out).2.1); (case side5 => exact far_slice (IsS122.own_ne HI967.out HO976.out (by decide))); rintro e w16 ⟨rfl, hi, hb, hk⟩; refine ⟨_, rfl, ?_⟩; replace HO970 := A_ (Kd.R_mono (Kd.R_keep (IsS122.apart (show IsS122 w _ gb967 l0 t972 t973 from by repeat (first | (with_reducible first | exact HI967.out | apply IsS122.alloc | apply IsS122.drewN | apply IsS122.drew | apply IsS122.set_1 | apply IsS122.set_2) | exact HI967.out)) (tr_x HO970.out) (by decide)) hk (fun _ h => h.2)) (fun _ h => h.1)); replace HO976 := A_ (Kd.R_mono (Kd.R_keep (IsS122.apart (show IsS122 w _ gb967 l0 t972 t973 from by repeat (first | (with_reducible first | exact HI967.out | apply IsS122.alloc | apply IsS122.drewN | apply IsS122.drew | apply IsS122.set_1 | apply IsS122.set_2) | exact HI967.out)) (tr_x HO976.out) (by decide)) hk (fun _ h => h.2)) (fun _ h => h.1)); replace HB := A_ (hb); replace HI967 := A_ (hi); (try clear hb); (try clear hb2); (try clear hk); (try clear hi)) | (refine gc_ 64 ?_; refine goesT_ (some 16) Try.func64 #[.int .i64 t971, .int .i64 t977] ?_; (with_reducible refine (spec_StraightQueens.calls k t971 t977 t980 true _ A4.out).mono ?_); rintro e w17 ⟨v982, rfl, ho0, hb⟩; refine ⟨_, rfl, ?_⟩; have HO983 := A_ (Kd.R_lower (Kd.R_new' (Kd.R_new' ho0 (Kd.R_lt (tr_x HO970.out))) (Kd.R_lt (tr_x HO976.out))) (below_size (by repeat (first | (with_reducible first | exact HB.out | apply below_alloc | apply pw_below_drewN | apply below_drew1 | refine below_set ?_ (IsS122.ge HI967.out)) | exact HB.out)))); replace HO970 := A_ (Kd.R_elder' (tr_x HO970.out) (Kd.R_base ho0) hb); replace HO976 := A_ (Kd.R_elder' (tr_x HO976.out) (Kd.R_base ho0) hb); replace HB := A_ (below_step (by repeat (first | (with_reducible first | exact HB.out | apply below_alloc | apply pw_below_drewN | apply below_drew1 | refine below_set ?_ (IsS122.ge HI967.out)) | exact HB.out)) hb); replace HI967 := A_ (IsS122.below (by repeat (first | (with_reducible first | exact HI967.out | apply IsS122.alloc | apply IsS122.drewN | apply IsS122.drew | apply IsS122.set_1 | apply IsS122.set_2) | exact HI967.out)) hb); (try clear hb); (try clear hb2); (try clear hk); (try clear hi); (try clear ho0)) | (go_at_call 166; (with_reducible refine (spec_l1Cur_one.calls gb967 l0 t978 t979 2 true t985 t986 w _ ?side1 ?side2 A6.out).mono ?_); (case side1 => repeat (first | (with_reducible first | exact HI967.out | apply IsS122.alloc | apply IsS122.drewN | apply IsS122.drew | apply IsS122.set_1 | apply IsS122.set_2) | exact HI967.out)); (case side2 => repeat (first | (with_reducible first | exact HB.out | apply below_alloc | apply pw_below_drewN | apply below_drew1 | refine below_set ?_ (IsS122.ge HI967.out)) | exact HB.out)); rintro e w18 ⟨rfl, hi, hb, hk⟩; replace HO970 := A_ (Kd.R_mono (Kd.R_keep (IsS122.apart (show IsS122 w _ gb967 l0 t978 t979 from by repeat (first | (with_reducible first | exact HI967.out | apply IsS122.alloc | apply IsS122.drewN | apply IsS122.drew | apply IsS122.set_1 | apply IsS122.set_2) | exact HI967.out)) (tr_x HO970.out) (by decide)) hk (fun _ h => h.2)) (fun _ h => h.1)); replace HO976 := A_ (Kd.R_mono (Kd.R_keep (IsS122.apart (show IsS122 w _ gb967 l0 t978 t979 from by repeat (first | (with_reducible first | exact HI967.out | apply IsS122.alloc | apply IsS122.drewN | apply IsS122.drew | apply IsS122.set_1 | apply IsS122.set_2) | exact HI967.out)) (tr_x HO976.out) (by decide)) hk (fun _ h => h.2)) (fun _ h => h.1)); replace HO983 := A_ (Kd.R_mono (Kd.R_keep (IsS122.apart (show IsS122 w _ gb967 l0 t978 t979 from by repeat (first | (with_reducible first | exact HI967.out | apply IsS122.alloc | apply IsS122.drewN | apply IsS122.drew | apply IsS122.set_1 | apply IsS122.set_2) | exact HI967.out)) (tr_x HO983.out) (by decide)) hk (fun _ h => h.2)) (fun _ h => h.1)); replace HB := A_ (hb); replace HI967 := A_ (hi); (try clear hb); (try clear hb2); (try clear hk); (try clear hi)))
   go_ret
   exact ⟨_, te_, by (with_reducible repeat (first | apply Kd.R_alloc | apply Kd.R_drewN | apply Kd.R_drew)); exact Kd.R_mono HO983.out (fun _ hk => trivial), by repeat (first | (with_reducible first | exact HB.out | apply below_alloc | apply pw_below_drewN | apply below_drew1 | refine below_set ?_ (IsS122.ge HI967.out)) | exact HB.out)⟩
  ·
   replace c7 := Bool.eq_false_iff.mpr c7
   subst c7
   have H1 : ((spec_l1Cur_queens.f k l0 t985 t986).bind fun bt987 => (some bt987.1)) = some r := by rw [if_neg (show ¬ (false = true) by decide)] at H; exact H
   clear H
   have H := H1
   clear H1
   replace H := Option.bind_eq_some_iff.mp H
   obtain ⟨⟨t987, t990, t991⟩, A190, H⟩ := H
   replace H : (some t987) = some r := H
   have A19 := A_ A190
   clear A190
   obtain rfl := Option.some.inj H
   go_enter Try.func65, Try.ntmps65
   go_wp2_with (first | (refine gd_ 8 ?_; refine bx_ 8 #[.slice A0 l0.length c0, .int .i64 0, .int .u64 0] 122 ?_; intro gb967 hg w20 hbox hb; have HI967 := A_ ((⟨_, _, hbox, (by rw [hg]; exact (below_size tb_)), HR0.out⟩ : IsS122 w w20 gb967 l0 0 0)); replace HB := A_ (below_step tb_ hb); clear hb hbox hg) | (refine gd_ 11 ?_; refine Kd.R_lit (Kd.int .i64) _ 3 ?hg (N := 11) ?hd (xs := ([1, 5, 7] : List Int)) (inner := [.int .i64 1, .int .i64 5, .int .i64 7]) (ok := fun _ => True) (okp := fun _ => True) ?hr ?hp (fun _ hk => hk) trivial (Below.refl _ _) (Nat.le_refl _) (by simp) ?_; (case hd => rfl); (case hg => rfl); (case hr => first | (go_simp; done) | (go_simp; rfl)); (case hp => exact (Reps.one (show Kd.M (Kd.int .i64) _ _ _ 1 [.int .i64 1] from rfl) (Reps.one (show Kd.M (Kd.int .i64) _ _ _ 5 [.int .i64 5] from rfl) (Reps.one (show Kd.M (Kd.int .i64) _ _ _ 7 [.int .i64 7] from rfl) (Reps.none _ _))))); intro v969 w21 ho22 hb hg_ hnew_; clear hg_ hnew_; (first | rw [← Ny968.out] at ho22 | (simp only [Int.reduceToNat] at ho22; rw [← Ny968.out] at ho22)); have HO970 := A_ (Kd.R_lower ho22 (below_size (by repeat (first | (with_reducible first | exact HB.out | apply below_alloc | apply pw_below_drewN | apply below_drew1 | refine below_set ?_ (IsS122.ge HI967.out)) | exact HB.out)))); replace HB := A_ (below_step (by repeat (first | (with_reducible first | exact HB.out | apply below_alloc | apply pw_below_drewN | apply below_drew1 | refine below_set ?_ (IsS122.ge HI967.out)) | exact HB.out)) hb); replace HI967 := A_ (IsS122.below (by repeat (first | (with_reducible first | exact HI967.out | apply IsS122.alloc | apply IsS122.drewN | apply IsS122.drew | apply IsS122.set_1 | apply IsS122.set_2) | exact HI967.out)) hb); clear hb ho22; obtain ⟨Ao23, co23, eo23⟩ := Kd.R_slice HO970.out; subst eo23) | (refine gc_ 160 ?_; refine goesT_ (some 12) Try.func160 #[.pointer (some ⟨gb967, 0, none⟩), .slice Ao23 y968.length co23] ?_; (with_reducible refine (spec_l1Cur_among.calls gb967 l0 0 0 _ _ y968 t971 t972 t973 w _ ?side1 ?side2 ?side3 ?side4 ?side5 A2.out).mono ?_); (case side1 => repeat (first | (with_reducible first | exact HI967.out | apply IsS122.alloc | apply IsS122.drewN | apply IsS122.drew | apply IsS122.set_1 | apply IsS122.set_2) | exact HI967.out)); (case side2 => repeat (first | (with_reducible first | exact HB.out | apply below_alloc | apply pw_below_drewN | apply below_drew1 | refine below_set ?_ (IsS122.ge HI967.out)) | exact HB.out)); (case side3 => exact tc0_ (Kd.R_reads' HO970.out).2.2); (case side4 => exact (Kd.R_reads' HO970.out).2.1); (case side5 => exact far_slice (IsS122.own_ne HI967.out HO970.out (by decide))); rintro e w24 ⟨rfl, hi, hb, hk⟩; refine ⟨_, rfl, ?_⟩; replace HO970 := A_ (Kd.R_mono (Kd.R_keep (IsS122.apart (show IsS122 w _ gb967 l0 0 0 from by repeat (first | (with_reducible first | exact HI967.out | apply IsS122.alloc | apply IsS122.drewN | apply IsS122.drew | apply IsS122.set_1 | apply IsS122.set_2) | exact HI967.out)) (tr_x HO970.out) (by decide)) hk (fun _ h => h.2)) (fun _ h => h.1)); replace HB := A_ (hb); replace HI967 := A_ (hi); (try clear hb); (try clear hb2); (try clear hk); (try clear hi)) | (refine gd_ 14 ?_; refine Kd.R_lit (Kd.int .i64) _ 3 ?hg (N := 14) ?hd (xs := ([0, 2, 3] : List Int)) (inner := [.int .i64 0, .int .i64 2, .int .i64 3]) (ok := fun _ => True) (okp := fun _ => True) ?hr ?hp (fun _ hk => hk) trivial (Below.refl _ _) (Nat.le_refl _) (by simp) ?_; (case hd => rfl); (case hg => rfl); (case hr => first | (go_simp; done) | (go_simp; rfl)); (case hp => exact (Reps.one (show Kd.M (Kd.int .i64) _ _ _ 0 [.int .i64 0] from rfl) (Reps.one (show Kd.M (Kd.int .i64) _ _ _ 2 [.int .i64 2] from rfl) (Reps.one (show Kd.M (Kd.int .i64) _ _ _ 3 [.int .i64 3] from rfl) (Reps.none _ _))))); intro v975 w25 ho26 hb hg_ hnew_; clear hg_ hnew_; (first | rw [← Ny974.out] at ho26 | (simp only [Int.reduceToNat] at ho26; rw [← Ny974.out] at ho26)); have HO976 := A_ (Kd.R_lower (Kd.R_new' ho26 (Kd.R_lt (tr_x HO970.out))) (below_size (by repeat (first | (with_reducible first | exact HB.out | apply below_alloc | apply pw_below_drewN | apply below_drew1 | refine below_set ?_ (IsS122.ge HI967.out)) | exact HB.out)))); replace HO970 := A_ (Kd.R_elder' (tr_x HO970.out) (Kd.R_base ho26) hb); replace HB := A_ (below_step (by repeat (first | (with_reducible first | exact HB.out | apply below_alloc | apply pw_below_drewN | apply below_drew1 | refine below_set ?_ (IsS122.ge HI967.out)) | exact HB.out)) hb); replace HI967 := A_ (IsS122.below (by repeat (first | (with_reducible first | exact HI967.out | apply IsS122.alloc | apply IsS122.drewN | apply IsS122.drew | apply IsS122.set_1 | apply IsS122.set_2) | exact HI967.out)) hb); clear hb ho26; obtain ⟨Ao27, co27, eo27⟩ := Kd.R_slice HO976.out; subst eo27) | (refine gc_ 160 ?_; refine goesT_ (some 15) Try.func160 #[.pointer (some ⟨gb967, 0, none⟩), .slice Ao27 y974.length co27] ?_; (with_reducible refine (spec_l1Cur_among.calls gb967 l0 t972 t973 _ _ y974 t977 t978 t979 w _ ?side1 ?side2 ?side3 ?side4 ?side5 A3.out).mono ?_); (case side1 => repeat (first | (with_reducible first | exact HI967.out | apply IsS122.alloc | apply IsS122.drewN | apply IsS122.drew | apply IsS122.set_1 | apply IsS122.set_2) | exact HI967.out)); (case side2 => repeat (first | (with_reducible first | exact HB.out | apply below_alloc | apply pw_below_drewN | apply below_drew1 | refine below_set ?_ (IsS122.ge HI967.out)) | exact HB.out)); (case side3 => exact tc0_ (Kd.R_reads' HO976.out).2.2); (case side4 => exact (Kd.R_reads' HO976.out).2.1); (case side5 => exact far_slice (IsS122.own_ne HI967.out HO976.out (by decide))); rintro e w28 ⟨rfl, hi, hb, hk⟩; refine ⟨_, rfl, ?_⟩; replace HO970 := A_ (Kd.R_mono (Kd.R_keep (IsS122.apart (show IsS122 w _ gb967 l0 t972 t973 from by repeat (first | (with_reducible first | exact HI967.out | apply IsS122.alloc | apply IsS122.drewN | apply IsS122.drew | apply IsS122.set_1 | apply IsS122.set_2) | exact HI967.out)) (tr_x HO970.out) (by decide)) hk (fun _ h => h.2)) (fun _ h => h.1)); replace HO976 := A_ (Kd.R_mono (Kd.R_keep (IsS122.apart (show IsS122 w _ gb967 l0 t972 t973 from by repeat (first | (with_reducible first | exact HI967.out | apply IsS122.alloc | apply IsS122.drewN | apply IsS122.drew | apply IsS122.set_1 | apply IsS122.set_2) | exact HI967.out)) (tr_x HO976.out) (by decide)) hk (fun _ h => h.2)) (fun _ h => h.1)); replace HB := A_ (hb); replace HI967 := A_ (hi); (try clear hb); (try clear hb2); (try clear hk); (try clear hi)) | (refine gc_ 64 ?_; refine goesT_ (some 16) Try.func64 #[.int .i64 t971, .int .i64 t977] ?_; (with_reducible refine (spec_StraightQueens.calls k t971 t977 t980 true _ A4.out).mono ?_); rintro e w29 ⟨v982, rfl, ho0, hb⟩; refine ⟨_, rfl, ?_⟩; have HO983 := A_ (Kd.R_lower (Kd.R_new' (Kd.R_new' ho0 (Kd.R_lt (tr_x HO970.out))) (Kd.R_lt (tr_x HO976.out))) (below_size (by repeat (first | (with_reducible first | exact HB.out | apply below_alloc | apply pw_below_drewN | apply below_drew1 | refine below_set ?_ (IsS122.ge HI967.out)) | exact HB.out)))); replace HO970 := A_ (Kd.R_elder' (tr_x HO970.out) (Kd.R_base ho0) hb); replace HO976 := A_ (Kd.R_elder' (tr_x HO976.out) (Kd.R_base ho0) hb); replace HB := A_ (below_step (by repeat (first | (with_reducible first | exact HB.out | apply below_alloc | apply pw_below_drewN | apply below_drew1 | refine below_set ?_ (IsS122.ge HI967.out)) | exact HB.out)) hb); replace HI967 := A_ (IsS122.below (by repeat (first | (with_reducible first | exact HI967.out | apply IsS122.alloc | apply IsS122.drewN | apply IsS122.drew | apply IsS122.set_1 | apply IsS122.set_2) | exact HI967.out)) hb); (try clear hb); (try clear hb2); (try clear hk); (try clear hi); (try clear ho0)) | (go_at_call 166; (with_reducible refine (spec_l1Cur_one.calls gb967 l0 t978 t979 2 false t985 t986 w _ ?side1 ?side2 A6.out).mono ?_); (case side1 => repeat (first | (with_reducible first | exact HI967.out | apply IsS122.alloc | apply IsS122.drewN | apply IsS122.drew | apply IsS122.set_1 | apply IsS122.set_2) | exact HI967.out)); (case side2 => repeat (first | (with_reducible first | exact HB.out | apply below_alloc | apply pw_below_drewN | apply below_drew1 | refine below_set ?_ (IsS122.ge HI967.out)) | exact HB.out)); rintro e w30 ⟨rfl, hi, hb, hk⟩; replace HO970 := A_ (Kd.R_mono (Kd.R_keep (IsS122.apart (show IsS122 w _ gb967 l0 t978 t979 from by repeat (first | (with_reducible first | exact HI967.out | apply IsS122.alloc | apply IsS122.drewN | apply IsS122.drew | apply IsS122.set_1 | apply IsS122.set_2) | exact HI967.out)) (tr_x HO970.out) (by decide)) hk (fun _ h => h.2)) (fun _ h => h.1)); replace HO976 := A_ (Kd.R_mono (Kd.R_keep (IsS122.apart (show IsS122 w _ gb967 l0 t978 t979 from by repeat (first | (with_reducible first | exact HI967.out | apply IsS122.alloc | apply IsS122.drewN | apply IsS122.drew | apply IsS122.set_1 | apply IsS122.set_2) | exact HI967.out)) (tr_x HO976.out) (by decide)) hk (fun _ h => h.2)) (fun _ h => h.1)); replace HO983 := A_ (Kd.R_mono (Kd.R_keep (IsS122.apart (show IsS122 w _ gb967 l0 t978 t979 from by repeat (first | (with_reducible first | exact HI967.out | apply IsS122.alloc | apply IsS122.drewN | apply IsS122.drew | apply IsS122.set_1 | apply IsS122.set_2) | exact HI967.out)) (tr_x HO983.out) (by decide)) hk (fun _ h => h.2)) (fun _ h => h.1)); replace HB := A_ (hb); replace HI967 := A_ (hi); (try clear hb); (try clear hb2); (try clear hk); (try clear hi)) | (refine gc_ 181 ?_; refine goesT_ (some 26) Try.func181 #[.pointer (some ⟨gb967, 0, none⟩)] ?_; (with_reducible refine (spec_l1Cur_queens.calls k gb967 l0 t985 t986 t987 t990 t991 w _ ?side1 ?side2 A19.out).mono ?_); (case side1 => repeat (first | (with_reducible first | exact HI967.out | apply IsS122.alloc | apply IsS122.drewN | apply IsS122.drew | apply IsS122.set_1 | apply IsS122.set_2) | exact HI967.out)); (case side2 => repeat (first | (with_reducible first | exact HB.out | apply below_alloc | apply pw_below_drewN | apply below_drew1 | refine below_set ?_ (IsS122.ge HI967.out)) | exact HB.out)); rintro e w31 ⟨v988, rfl, ho0, hi, hb, hk⟩; refine ⟨_, rfl, ?_⟩; have HO989 := A_ (Kd.R_lower (Kd.R_new' (Kd.R_new' (Kd.R_new' ho0 (Kd.R_lt (tr_x HO970.out))) (Kd.R_lt (tr_x HO976.out))) (Kd.R_lt (tr_x HO983.out))) (below_size (by repeat (first | (with_reducible first | exact HB.out | apply below_alloc | apply pw_below_drewN | apply below_drew1 | refine below_set ?_ (IsS122.ge HI967.out)) | exact HB.out)))); replace HO970 := A_ (Kd.R_mono (Kd.R_told (Kd.R_oldK (IsS122.apart (show IsS122 w _ gb967 l0 t985 t986 from by repeat (first | (with_reducible first | exact HI967.out | apply IsS122.alloc | apply IsS122.drewN | apply IsS122.drew | apply IsS122.set_1 | apply IsS122.set_2) | exact HI967.out)) (tr_x HO970.out) (by decide)) hk) (Kd.R_base ho0)) (fun _ h_ => h_.1)); replace HO976 := A_ (Kd.R_mono (Kd.R_told (Kd.R_oldK (IsS122.apart (show IsS122 w _ gb967 l0 t985 t986 from by repeat (first | (with_reducible first | exact HI967.out | apply IsS122.alloc | apply IsS122.drewN | apply IsS122.drew | apply IsS122.set_1 | apply IsS122.set_2) | exact HI967.out)) (tr_x HO976.out) (by decide)) hk) (Kd.R_base ho0)) (fun _ h_ => h_.1)); replace HO983 := A_ (Kd.R_mono (Kd.R_told (Kd.R_oldK (IsS122.apart (show IsS122 w _ gb967 l0 t985 t986 from by repeat (first | (with_reducible first | exact HI967.out | apply IsS122.alloc | apply IsS122.drewN | apply IsS122.drew | apply IsS122.set_1 | apply IsS122.set_2) | exact HI967.out)) (tr_x HO983.out) (by decide)) hk) (Kd.R_base ho0)) (fun _ h_ => h_.1)); replace HB := A_ (hb); replace HI967 := A_ (hi); (try clear hb); (try clear hb2); (try clear hk); (try clear hi); (try clear ho0)))
   go_ret
   exact ⟨_, te_, by (with_reducible repeat (first | apply Kd.R_alloc | apply Kd.R_drewN | apply Kd.R_drew)); exact Kd.R_mono HO989.out (fun _ hk => trivial), by repeat (first | (with_reducible first | exact HB.out | apply below_alloc | apply pw_below_drewN | apply below_drew1 | refine below_set ?_ (IsS122.ge HI967.out)) | exact HB.out)⟩
 ·
  replace c5 := Bool.eq_false_iff.mpr c5
  subst c5
  have H1 : ((spec_l1Cur_queens.f k l0 t978 t979).bind fun bt992 => (some bt992.1)) = some r := by rw [if_neg (show ¬ (false = true) by decide)] at H; exact H
  clear H
  have H := H1
  clear H1
  replace H := Option.bind_eq_some_iff.mp H
  obtain ⟨⟨t992, t995, t996⟩, A320, H⟩ := H
  replace H : (some t992) = some r := H
  have A32 := A_ A320
  clear A320
  obtain rfl := Option.some.inj H
  go_enter Try.func65, Try.ntmps65
  go_wp2_with (first | (refine gd_ 8 ?_; refine bx_ 8 #[.slice A0 l0.length c0, .int .i64 0, .int .u64 0] 122 ?_; intro gb967 hg w33 hbox hb; have HI967 := A_ ((⟨_, _, hbox, (by rw [hg]; exact (below_size tb_)), HR0.out⟩ : IsS122 w w33 gb967 l0 0 0)); replace HB := A_ (below_step tb_ hb); clear hb hbox hg) | (refine gd_ 11 ?_; refine Kd.R_lit (Kd.int .i64) _ 3 ?hg (N := 11) ?hd (xs := ([1, 5, 7] : List Int)) (inner := [.int .i64 1, .int .i64 5, .int .i64 7]) (ok := fun _ => True) (okp := fun _ => True) ?hr ?hp (fun _ hk => hk) trivial (Below.refl _ _) (Nat.le_refl _) (by simp) ?_; (case hd => rfl); (case hg => rfl); (case hr => first | (go_simp; done) | (go_simp; rfl)); (case hp => exact (Reps.one (show Kd.M (Kd.int .i64) _ _ _ 1 [.int .i64 1] from rfl) (Reps.one (show Kd.M (Kd.int .i64) _ _ _ 5 [.int .i64 5] from rfl) (Reps.one (show Kd.M (Kd.int .i64) _ _ _ 7 [.int .i64 7] from rfl) (Reps.none _ _))))); intro v969 w34 ho35 hb hg_ hnew_; clear hg_ hnew_; (first | rw [← Ny968.out] at ho35 | (simp only [Int.reduceToNat] at ho35; rw [← Ny968.out] at ho35)); have HO970 := A_ (Kd.R_lower ho35 (below_size (by repeat (first | (with_reducible first | exact HB.out | apply below_alloc | apply pw_below_drewN | apply below_drew1 | refine below_set ?_ (IsS122.ge HI967.out)) | exact HB.out)))); replace HB := A_ (below_step (by repeat (first | (with_reducible first | exact HB.out | apply below_alloc | apply pw_below_drewN | apply below_drew1 | refine below_set ?_ (IsS122.ge HI967.out)) | exact HB.out)) hb); replace HI967 := A_ (IsS122.below (by repeat (first | (with_reducible first | exact HI967.out | apply IsS122.alloc | apply IsS122.drewN | apply IsS122.drew | apply IsS122.set_1 | apply IsS122.set_2) | exact HI967.out)) hb); clear hb ho35; obtain ⟨Ao36, co36, eo36⟩ := Kd.R_slice HO970.out; subst eo36) | (refine gc_ 160 ?_; refine goesT_ (some 12) Try.func160 #[.pointer (some ⟨gb967, 0, none⟩), .slice Ao36 y968.length co36] ?_; (with_reducible refine (spec_l1Cur_among.calls gb967 l0 0 0 _ _ y968 t971 t972 t973 w _ ?side1 ?side2 ?side3 ?side4 ?side5 A2.out).mono ?_); (case side1 => repeat (first | (with_reducible first | exact HI967.out | apply IsS122.alloc | apply IsS122.drewN | apply IsS122.drew | apply IsS122.set_1 | apply IsS122.set_2) | exact HI967.out)); (case side2 => repeat (first | (with_reducible first | exact HB.out | apply below_alloc | apply pw_below_drewN | apply below_drew1 | refine below_set ?_ (IsS122.ge HI967.out)) | exact HB.out)); (case side3 => exact tc0_ (Kd.R_reads' HO970.out).2.2); (case side4 => exact (Kd.R_reads' HO970.out).2.1); (case side5 => exact far_slice (IsS122.own_ne HI967.out HO970.out (by decide))); rintro e w37 ⟨rfl, hi, hb, hk⟩; refine ⟨_, rfl, ?_⟩; replace HO970 := A_ (Kd.R_mono (Kd.R_keep (IsS122.apart (show IsS122 w _ gb967 l0 0 0 from by repeat (first | (with_reducible first | exact HI967.out | apply IsS122.alloc | apply IsS122.drewN | apply IsS122.drew | apply IsS122.set_1 | apply IsS122.set_2) | exact HI967.out)) (tr_x HO970.out) (by decide)) hk (fun _ h => h.2)) (fun _ h => h.1)); replace HB := A_ (hb); replace HI967 := A_ (hi); (try clear hb); (try clear hb2); (try clear hk); (try clear hi)) | (refine gd_ 14 ?_; refine Kd.R_lit (Kd.int .i64) _ 3 ?hg (N := 14) ?hd (xs := ([0, 2, 3] : List Int)) (inner := [.int .i64 0, .int .i64 2, .int .i64 3]) (ok := fun _ => True) (okp := fun _ => True) ?hr ?hp (fun _ hk => hk) trivial (Below.refl _ _) (Nat.le_refl _) (by simp) ?_; (case hd => rfl); (case hg => rfl); (case hr => first | (go_simp; done) | (go_simp; rfl)); (case hp => exact (Reps.one (show Kd.M (Kd.int .i64) _ _ _ 0 [.int .i64 0] from rfl) (Reps.one (show Kd.M (Kd.int .i64) _ _ _ 2 [.int .i64 2] from rfl) (Reps.one (show Kd.M (Kd.int .i64) _ _ _ 3 [.int .i64 3] from rfl) (Reps.none _ _))))); intro v975 w38 ho39 hb hg_ hnew_; clear hg_ hnew_; (first | rw [← Ny974.out] at ho39 | (simp only [Int.reduceToNat] at ho39; rw [← Ny974.out] at ho39)); have HO976 := A_ (Kd.R_lower (Kd.R_new' ho39 (Kd.R_lt (tr_x HO970.out))) (below_size (by repeat (first | (with_reducible first | exact HB.out | apply below_alloc | apply pw_below_drewN | apply below_drew1 | refine below_set ?_ (IsS122.ge HI967.out)) | exact HB.out)))); replace HO970 := A_ (Kd.R_elder' (tr_x HO970.out) (Kd.R_base ho39) hb); replace HB := A_ (below_step (by repeat (first | (with_reducible first | exact HB.out | apply below_alloc | apply pw_below_drewN | apply below_drew1 | refine below_set ?_ (IsS122.ge HI967.out)) | exact HB.out)) hb); replace HI967 := A_ (IsS122.below (by repeat (first | (with_reducible first | exact HI967.out | apply IsS122.alloc | apply IsS122.drewN | apply IsS122.drew | apply IsS122.set_1 | apply IsS122.set_2) | exact HI967.out)) hb); clear hb ho39; obtain ⟨Ao40, co40, eo40⟩ := Kd.R_slice HO976.out; subst eo40) | (refine gc_ 160 ?_; refine goesT_ (some 15) Try.func160 #[.pointer (some ⟨gb967, 0, none⟩), .slice Ao40 y974.length co40] ?_; (with_reducible refine (spec_l1Cur_among.calls gb967 l0 t972 t973 _ _ y974 t977 t978 t979 w _ ?side1 ?side2 ?side3 ?side4 ?side5 A3.out).mono ?_); (case side1 => repeat (first | (with_reducible first | exact HI967.out | apply IsS122.alloc | apply IsS122.drewN | apply IsS122.drew | apply IsS122.set_1 | apply IsS122.set_2) | exact HI967.out)); (case side2 => repeat (first | (with_reducible first | exact HB.out | apply below_alloc | apply pw_below_drewN | apply below_drew1 | refine below_set ?_ (IsS122.ge HI967.out)) | exact HB.out)); (case side3 => exact tc0_ (Kd.R_reads' HO976.out).2.2); (case side4 => exact (Kd.R_reads' HO976.out).2.1); (case side5 => exact far_slice (IsS122.own_ne HI967.out HO976.out (by decide))); rintro e w41 ⟨rfl, hi, hb, hk⟩; refine ⟨_, rfl, ?_⟩; replace HO970 := A_ (Kd.R_mono (Kd.R_keep (IsS122.apart (show IsS122 w _ gb967 l0 t972 t973 from by repeat (first | (with_reducible first | exact HI967.out | apply IsS122.alloc | apply IsS122.drewN | apply IsS122.drew | apply IsS122.set_1 | apply IsS122.set_2) | exact HI967.out)) (tr_x HO970.out) (by decide)) hk (fun _ h => h.2)) (fun _ h => h.1)); replace HO976 := A_ (Kd.R_mono (Kd.R_keep (IsS122.apart (show IsS122 w _ gb967 l0 t972 t973 from by repeat (first | (with_reducible first | exact HI967.out | apply IsS122.alloc | apply IsS122.drewN | apply IsS122.drew | apply IsS122.set_1 | apply IsS122.set_2) | exact HI967.out)) (tr_x HO976.out) (by decide)) hk (fun _ h => h.2)) (fun _ h => h.1)); replace HB := A_ (hb); replace HI967 := A_ (hi); (try clear hb); (try clear hb2); (try clear hk); (try clear hi)) | (refine gc_ 64 ?_; refine goesT_ (some 16) Try.func64 #[.int .i64 t971, .int .i64 t977] ?_; (with_reducible refine (spec_StraightQueens.calls k t971 t977 t980 false _ A4.out).mono ?_); rintro e w42 ⟨v982, rfl, ho0, hb⟩; refine ⟨_, rfl, ?_⟩; have HO983 := A_ (Kd.R_lower (Kd.R_new' (Kd.R_new' ho0 (Kd.R_lt (tr_x HO970.out))) (Kd.R_lt (tr_x HO976.out))) (below_size (by repeat (first | (with_reducible first | exact HB.out | apply below_alloc | apply pw_below_drewN | apply below_drew1 | refine below_set ?_ (IsS122.ge HI967.out)) | exact HB.out)))); replace HO970 := A_ (Kd.R_elder' (tr_x HO970.out) (Kd.R_base ho0) hb); replace HO976 := A_ (Kd.R_elder' (tr_x HO976.out) (Kd.R_base ho0) hb); replace HB := A_ (below_step (by repeat (first | (with_reducible first | exact HB.out | apply below_alloc | apply pw_below_drewN | apply below_drew1 | refine below_set ?_ (IsS122.ge HI967.out)) | exact HB.out)) hb); replace HI967 := A_ (IsS122.below (by repeat (first | (with_reducible first | exact HI967.out | apply IsS122.alloc | apply IsS122.drewN | apply IsS122.drew | apply IsS122.set_1 | apply IsS122.set_2) | exact HI967.out)) hb); (try clear hb); (try clear hb2); (try clear hk); (try clear hi); (try clear ho0)) | (refine gc_ 181 ?_; refine goesT_ (some 26) Try.func181 #[.pointer (some ⟨gb967, 0, none⟩)] ?_; (with_reducible refine (spec_l1Cur_queens.calls k gb967 l0 t978 t979 t992 t995 t996 w _ ?side1 ?side2 A32.out).mono ?_); (case side1 => repeat (first | (with_reducible first | exact HI967.out | apply IsS122.alloc | apply IsS122.drewN | apply IsS122.drew | apply IsS122.set_1 | apply IsS122.set_2) | exact HI967.out)); (case side2 => repeat (first | (with_reducible first | exact HB.out | apply below_alloc | apply pw_below_drewN | apply below_drew1 | refine below_set ?_ (IsS122.ge HI967.out)) | exact HB.out)); rintro e w43 ⟨v993, rfl, ho0, hi, hb, hk⟩; refine ⟨_, rfl, ?_⟩; have HO994 := A_ (Kd.R_lower (Kd.R_new' (Kd.R_new' (Kd.R_new' ho0 (Kd.R_lt (tr_x HO970.out))) (Kd.R_lt (tr_x HO976.out))) (Kd.R_lt (tr_x HO983.out))) (below_size (by repeat (first | (with_reducible first | exact HB.out | apply below_alloc | apply pw_below_drewN | apply below_drew1 | refine below_set ?_ (IsS122.ge HI967.out)) | exact HB.out)))); replace HO970 := A_ (Kd.R_mono (Kd.R_told (Kd.R_oldK (IsS122.apart (show IsS122 w _ gb967 l0 t978 t979 from by repeat (first | (with_reducible first | exact HI967.out | apply IsS122.alloc | apply IsS122.drewN | apply IsS122.drew | apply IsS122.set_1 | apply IsS122.set_2) | exact HI967.out)) (tr_x HO970.out) (by decide)) hk) (Kd.R_base ho0)) (fun _ h_ => h_.1)); replace HO976 := A_ (Kd.R_mono (Kd.R_told (Kd.R_oldK (IsS122.apart (show IsS122 w _ gb967 l0 t978 t979 from by repeat (first | (with_reducible first | exact HI967.out | apply IsS122.alloc | apply IsS122.drewN | apply IsS122.drew | apply IsS122.set_1 | apply IsS122.set_2) | exact HI967.out)) (tr_x HO976.out) (by decide)) hk) (Kd.R_base ho0)) (fun _ h_ => h_.1)); replace HO983 := A_ (Kd.R_mono (Kd.R_told (Kd.R_oldK (IsS122.apart (show IsS122 w _ gb967 l0 t978 t979 from by repeat (first | (with_reducible first | exact HI967.out | apply IsS122.alloc | apply IsS122.drewN | apply IsS122.drew | apply IsS122.set_1 | apply IsS122.set_2) | exact HI967.out)) (tr_x HO983.out) (by decide)) hk) (Kd.R_base ho0)) (fun _ h_ => h_.1)); replace HB := A_ (hb); replace HI967 := A_ (hi); (try clear hb); (try clear hb2); (try clear hk); (try clear hi); (try clear ho0)))
  go_ret
  exact ⟨_, te_, by (with_reducible repeat (first | apply Kd.R_alloc | apply Kd.R_drewN | apply Kd.R_drew)); exact Kd.R_mono HO994.out (fun _ hk => trivial), by repeat (first | (with_reducible first | exact HB.out | apply below_alloc | apply pw_below_drewN | apply below_drew1 | refine below_set ?_ (IsS122.ge HI967.out)) | exact HB.out)⟩

/-! ### spec_DrawShiftQueens: function 53 -/
def spec_DrawShiftQueens.f (k : Nat) (l0 : List Int) : Option (List Int × Int × Int) := (spec_DrawAreOnTorus.f k l0).bind fun t998 => ((spec_l1Cur_among.f l0 0 0 (([0, 1, (-1), 5, 100, (-100), 101] : List Int))).bind fun bt1004 => ((spec_l1Cur_among.f l0 bt1004.2.1 bt1004.2.2 (([0, 1, (-1), 3, (-7), (-101)] : List Int))).bind fun bt1010 => (some (t998, bt1004.1, bt1010.1))))
theorem spec_DrawShiftQueens.mono : ∀ a0 k, LeO (spec_DrawShiftQueens.f k a0) (spec_DrawShiftQueens.f (k + 1) a0) := by
 intro a0 k
 unfold spec_DrawShiftQueens.f
 repeat' first | (with_reducible first | exact spec_DrawAreOnTorus.mono _ _ | exact LeO.refl _ | exact LeO.none _ | refine LeO.ite ?_ ?_ | refine LeO.bind ?_ (fun _ => ?_)) | exact spec_DrawAreOnTorus.mono _ _ | exact LeO.none _ | refine LeO.ite ?_ ?_ | refine LeO.bind ?_ (fun _ => ?_)
theorem spec_DrawShiftQueens.calls (k : Nat) (A0 : Option Addr) (c0 : Nat) (l0 : List Int) (r1 : List Int) (r2 : Int) (r3 : Int) (w : World) (hr0 : Kd.C (Kd.int .u8) w A0 l0.length l0) (hc0 : l0.length ≤ c0) (h : spec_DrawShiftQueens.f k l0 = some (r1, r2, r3)) :
  Calls Try.prog 53 #[.slice A0 l0.length c0] w fun e w' => ∃ v0_ : Value, e = .returned (.tuple #[v0_, .int .i64 r2, .int .i64 r3]) ∧ Kd.R (Kd.int .i64) 3 w' w.heap.size (fun _ => True) v0_ r1 ∧ Below w.heap.size w w' := by
 have hu122 := Try.underlying122
 have HR0 := A_ hr0
 have HC0 := A_ hc0
 clear hr0 hc0
 have HB := A_ (Below.refl w.heap.size w)
 have H : ((spec_DrawAreOnTorus.f k l0).bind fun t998 => ((spec_l1Cur_among.f l0 0 0 (([0, 1, (-1), 5, 100, (-100), 101] : List Int))).bind fun bt1004 => ((spec_l1Cur_among.f l0 bt1004.2.1 bt1004.2.2 (([0, 1, (-1), 3, (-7), (-101)] : List Int))).bind fun bt1010 => (some (t998, bt1004.1, bt1010.1))))) = some (r1, r2, r3) := h
 clear h
 replace H := Option.bind_eq_some_iff.mp H
 obtain ⟨t998, A20, H⟩ := H
 replace H : ((spec_l1Cur_among.f l0 0 0 (([0, 1, (-1), 5, 100, (-100), 101] : List Int))).bind fun bt1004 => ((spec_l1Cur_among.f l0 bt1004.2.1 bt1004.2.2 (([0, 1, (-1), 3, (-7), (-101)] : List Int))).bind fun bt1010 => (some (t998, bt1004.1, bt1010.1)))) = some (r1, r2, r3) := H
 have A2 := A_ A20
 clear A20
 obtain ⟨y1001, hy1001⟩ : ∃ y_ : List Int, y_ = (([0, 1, (-1), 5, 100, (-100), 101] : List Int)) := ⟨_, rfl⟩
 replace H : ((spec_l1Cur_among.f l0 0 0 y1001).bind fun bt1004 => ((spec_l1Cur_among.f l0 bt1004.2.1 bt1004.2.2 (([0, 1, (-1), 3, (-7), (-101)] : List Int))).bind fun bt1010 => (some (t998, bt1004.1, bt1010.1)))) = some (r1, r2, r3) := ty_ hy1001 H
 have Ny1001 := A_ hy1001
 clear hy1001
 replace H := Option.bind_eq_some_iff.mp H
 obtain ⟨⟨t1004, t1005, t1006⟩, A30, H⟩ := H
 replace H : ((spec_l1Cur_among.f l0 t1005 t1006 (([0, 1, (-1), 3, (-7), (-101)] : List Int))).bind fun bt1010 => (some (t998, t1004, bt1010.1))) = some (r1, r2, r3) := H
 have A3 := A_ A30
 clear A30
 obtain ⟨y1007, hy1007⟩ : ∃ y_ : List Int, y_ = (([0, 1, (-1), 3, (-7), (-101)] : List Int)) := ⟨_, rfl⟩
 replace H : ((spec_l1Cur_among.f l0 t1005 t1006 y1007).bind fun bt1010 => (some (t998, t1004, bt1010.1))) = some (r1, r2, r3) := ty_ hy1007 H
 have Ny1007 := A_ hy1007
 clear hy1007
 replace H := Option.bind_eq_some_iff.mp H
 obtain ⟨⟨t1010, t1011, t1012⟩, A40, H⟩ := H
 replace H : (some (t998, t1004, t1010)) = some (r1, r2, r3) := H
 have A4 := A_ A40
 clear A40
 simp only [Option.some.injEq, Prod.mk.injEq] at H
 obtain ⟨rfl, rfl, rfl⟩ := H
 go_enter Try.func53, Try.ntmps53
 go_wp2_with (first | (refine gd_ 8 ?_; refine bx_ 8 #[.slice A0 l0.length c0, .int .i64 0, .int .u64 0] 122 ?_; intro gb997 hg w5 hbox hb; have HI997 := A_ ((⟨_, _, hbox, (by rw [hg]; exact (below_size tb_)), HR0.out⟩ : IsS122 w w5 gb997 l0 0 0)); replace HB := A_ (below_step tb_ hb); clear hb hbox hg) | (refine gc_ 65 ?_; refine goesT_ (some 10) Try.func65 #[.slice A0 l0.length c0] ?_; (with_reducible refine (spec_DrawAreOnTorus.calls k _ _ l0 t998 _ ?side1 ?side2 A2.out).mono ?_); (case side1 => exact tc_ HR0.out); (case side2 => exact HC0.out); rintro e w6 ⟨v999, rfl, ho0, hb⟩; refine ⟨_, rfl, ?_⟩; have HO1000 := A_ (Kd.R_lower ho0 (below_size (by repeat (first | (with_reducible first | exact HB.out | apply below_alloc | apply pw_below_drewN | apply below_drew1 | refine below_set ?_ (IsS122.ge HI997.out)) | exact HB.out)))); replace HB := A_ (below_step (by repeat (first | (with_reducible first | exact HB.out | apply below_alloc | apply pw_below_drewN | apply below_drew1 | refine below_set ?_ (IsS122.ge HI997.out)) | exact HB.out)) hb); replace HI997 := A_ (IsS122.below (by repeat (first | (with_reducible first | exact HI997.out | apply IsS122.alloc | apply IsS122.drewN | apply IsS122.drew | apply IsS122.set_1 | apply IsS122.set_2) | exact HI997.out)) hb); (try clear hb); (try clear hb2); (try clear hk); (try clear hi); (try clear ho0)) | (refine gd_ 12 ?_; refine Kd.R_lit (Kd.int .i64) _ 3 ?hg (N := 12) ?hd (xs := ([0, 1, (-1), 5, 100, (-100), 101] : List Int)) (inner := [.int .i64 0, .int .i64 1, .int .i64 (-1), .int .i64 5, .int .i64 100, .int .i64 (-100), .int .i64 101]) (ok := fun _ => True) (okp := fun _ => True) ?hr ?hp (fun _ hk => hk) trivial (Below.refl _ _) (Nat.le_refl _) (by simp) ?_; (case hd => rfl); (case hg => rfl); (case hr => first | (go_simp; done) | (go_simp; rfl)); (case hp => exact (Reps.one (show Kd.M (Kd.int .i64) _ _ _ 0 [.int .i64 0] from rfl) (Reps.one (show Kd.M (Kd.int .i64) _ _ _ 1 [.int .i64 1] from rfl) (Reps.one (show Kd.M (Kd.int .i64) _ _ _ (-1) [.int .i64 (-1)] from rfl) (Reps.one (show Kd.M (Kd.int .i64) _ _ _ 5 [.int .i64 5] from rfl) (Reps.one (show Kd.M (Kd.int .i64) _ _ _ 100 [.int .i64 100] from rfl) (Reps.one (show Kd.M (Kd.int .i64) _ _ _ (-100) [.int .i64 (-100)] from rfl) (Reps.one (show Kd.M (Kd.int .i64) _ _ _ 101 [.int .i64 101] from rfl) (Reps.none _ _))))))))); intro v1002 w7 ho8 hb hg_ hnew_; clear hg_ hnew_; (first | rw [← Ny1001.out] at ho8 | (simp only [Int.reduceToNat] at ho8; rw [← Ny1001.out] at ho8)); have HO1003 := A_ (Kd.R_lower (Kd.R_new' ho8 (Kd.R_lt (tr_x HO1000.out))) (below_size (by repeat (first | (with_reducible first | exact HB.out | apply below_alloc | apply pw_below_drewN | apply below_drew1 | refine below_set ?_ (IsS122.ge HI997.out)) | exact HB.out)))); replace HO1000 := A_ (Kd.R_elder' (tr_x HO1000.out) (Kd.R_base ho8) hb); replace HB := A_ (below_step (by repeat (first | (with_reducible first | exact HB.out | apply below_alloc | apply pw_below_drewN | apply below_drew1 | refine below_set ?_ (IsS122.ge HI997.out)) | exact HB.out)) hb); replace HI997 := A_ (IsS122.below (by repeat (first | (with_reducible first | exact HI997.out | apply IsS122.alloc | apply IsS122.drewN | apply IsS122.drew | apply IsS122.set_1 | apply IsS122.set_2) | exact HI997.out)) hb); clear hb ho8; obtain ⟨Ao9, co9, eo9⟩ := Kd.R_slice HO1003.out; subst eo9) | (refine gc_ 160 ?_; refine goesT_ (some 13) Try.func160 #[.pointer (some ⟨gb997, 0, none⟩), .slice Ao9 y1001.length co9] ?_; (with_reducible refine (spec_l1Cur_among.calls gb997 l0 0 0 _ _ y1001 t1004 t1005 t1006 w _ ?side1 ?side2 ?side3 ?side4 ?side5 A3.out).mono ?_); (case side1 => repeat (first | (with_reducible first | exact HI997.out | apply IsS122.alloc | apply IsS122.drewN | apply IsS122.drew | apply IsS122.set_1 | apply IsS122.set_2) | exact HI997.out)); (case side2 => repeat (first | (with_reducible first | exact HB.out | apply below_alloc | apply pw_below_drewN | apply below_drew1 | refine below_set ?_ (IsS122.ge HI997.out)) | exact HB.out)); (case side3 => exact tc0_ (Kd.R_reads' HO1003.out).2.2); (case side4 => exact (Kd.R_reads' HO1003.out).2.1); (case side5 => exact far_slice (IsS122.own_ne HI997.out HO1003.out (by decide))); rintro e w10 ⟨rfl, hi, hb, hk⟩; refine ⟨_, rfl, ?_⟩; replace HO1000 := A_ (Kd.R_mono (Kd.R_keep (IsS122.apart (show IsS122 w _ gb997 l0 0 0 from by repeat (first | (with_reducible first | exact HI997.out | apply IsS122.alloc | apply IsS122.drewN | apply IsS122.drew | apply IsS122.set_1 | apply IsS122.set_2) | exact HI997.out)) (tr_x HO1000.out) (by decide)) hk (fun _ h => h.2)) (fun _ h => h.1)); replace HO1003 := A_ (Kd.R_mono (Kd.R_keep (IsS122.apart (show IsS122 w _ gb997 l0 0 0 from by repeat (first | (with_reducible first | exact HI997.out | apply IsS122.alloc | apply IsS122.drewN | apply IsS122.drew | apply IsS122.set_1 | apply IsS122.set_2) | exact HI997.out)) (tr_x HO1003.out) (by decide)) hk (fun _ h => h.2)) (fun _ h => h.1)); replace HB := A_ (hb); replace HI997 := A_ (hi); (try clear hb); (try clear hb2); (try clear hk); (try clear hi)) | (refine gd_ 15 ?_; refine Kd.R_lit (Kd.int .i64) _ 3 ?hg (N := 15) ?hd (xs := ([0, 1, (-1), 3, (-7), (-101)] : List Int)) (inner := [.int .i64 0, .int .i64 1, .int .i64 (-1), .int .i64 3, .int .i64 (-7), .int .i64 (-101)]) (ok := fun _ => True) (okp := fun _ => True) ?hr ?hp (fun _ hk => hk) trivial (Below.refl _ _) (Nat.le_refl _) (by simp) ?_; (case hd => rfl); (case hg => rfl); (case hr => first | (go_simp; done) | (go_simp; rfl)); (case hp => exact (Reps.one (show Kd.M (Kd.int .i64) _ _ _ 0 [.int .i64 0] from rfl) (Reps.one (show Kd.M (Kd.int .i64) _ _ _ 1 [.int .i64 1] from rfl) (Reps.one (show Kd.M (Kd.int .i64) _ _ _ (-1) [.int .i64 (-1)] from rfl) (Reps.one (show Kd.M (Kd.int .i64) _ _ _ 3 [.int .i64 3] from rfl) (Reps.one (show Kd.M (Kd.int .i64) _ _ _ (-7) [.int .i64 (-7)] from rfl) (Reps.one (show Kd.M (Kd.int .i64) _ _ _ (-101) [.int .i64 (-101)] from rfl) (Reps.none _ _)))))))); intro v1008 w11 ho12 hb hg_ hnew_; clear hg_ hnew_; (first | rw [← Ny1007.out] at ho12 | (simp only [Int.reduceToNat] at ho12; rw [← Ny1007.out] at ho12)); have HO1009 := A_ (Kd.R_lower (Kd.R_new' (Kd.R_new' ho12 (Kd.R_lt (tr_x HO1000.out))) (Kd.R_lt (tr_x HO1003.out))) (below_size (by repeat (first | (with_reducible first | exact HB.out | apply below_alloc | apply pw_below_drewN | apply below_drew1 | refine below_set ?_ (IsS122.ge HI997.out)) | exact HB.out)))); replace HO1000 := A_ (Kd.R_elder' (tr_x HO1000.out) (Kd.R_base ho12) hb); replace HO1003 := A_ (Kd.R_elder' (tr_x HO1003.out) (Kd.R_base ho12) hb); replace HB := A_ (below_step (by repeat (first | (with_reducible first | exact HB.out | apply below_alloc | apply pw_below_drewN | apply below_drew1 | refine below_set ?_ (IsS122.ge HI997.out)) | exact HB.out)) hb); replace HI997 := A_ (IsS122.below (by repeat (first | (with_reducible first | exact HI997.out | apply IsS122.alloc | apply IsS122.drewN | apply IsS122.drew | apply IsS122.set_1 | apply IsS122.set_2) | exact HI997.out)) hb); clear hb ho12; obtain ⟨Ao13, co13, eo13⟩ := Kd.R_slice HO1009.out; subst eo13) | (refine gc_ 160 ?_; refine goesT_ (some 16) Try.func160 #[.pointer (some ⟨gb997, 0, none⟩), .slice Ao13 y1007.length co13] ?_; (with_reducible refine (spec_l1Cur_among.calls gb997 l0 t1005 t1006 _ _ y1007 t1010 t1011 t1012 w _ ?side1 ?side2 ?side3 ?side4 ?side5 A4.out).mono ?_); (case side1 => repeat (first | (with_reducible first | exact HI997.out | apply IsS122.alloc | apply IsS122.drewN | apply IsS122.drew | apply IsS122.set_1 | apply IsS122.set_2) | exact HI997.out)); (case side2 => repeat (first | (with_reducible first | exact HB.out | apply below_alloc | apply pw_below_drewN | apply below_drew1 | refine below_set ?_ (IsS122.ge HI997.out)) | exact HB.out)); (case side3 => exact tc0_ (Kd.R_reads' HO1009.out).2.2); (case side4 => exact (Kd.R_reads' HO1009.out).2.1); (case side5 => exact far_slice (IsS122.own_ne HI997.out HO1009.out (by decide))); rintro e w14 ⟨rfl, hi, hb, hk⟩; refine ⟨_, rfl, ?_⟩; replace HO1000 := A_ (Kd.R_mono (Kd.R_keep (IsS122.apart (show IsS122 w _ gb997 l0 t1005 t1006 from by repeat (first | (with_reducible first | exact HI997.out | apply IsS122.alloc | apply IsS122.drewN | apply IsS122.drew | apply IsS122.set_1 | apply IsS122.set_2) | exact HI997.out)) (tr_x HO1000.out) (by decide)) hk (fun _ h => h.2)) (fun _ h => h.1)); replace HO1003 := A_ (Kd.R_mono (Kd.R_keep (IsS122.apart (show IsS122 w _ gb997 l0 t1005 t1006 from by repeat (first | (with_reducible first | exact HI997.out | apply IsS122.alloc | apply IsS122.drewN | apply IsS122.drew | apply IsS122.set_1 | apply IsS122.set_2) | exact HI997.out)) (tr_x HO1003.out) (by decide)) hk (fun _ h => h.2)) (fun _ h => h.1)); replace HO1009 := A_ (Kd.R_mono (Kd.R_keep (IsS122.apart (show IsS122 w _ gb997 l0 t1005 t1006 from by repeat (first | (with_reducible first | exact HI997.out | apply IsS122.alloc | apply IsS122.drewN | apply IsS122.drew | apply IsS122.set_1 | apply IsS122.set_2) | exact HI997.out)) (tr_x HO1009.out) (by decide)) hk (fun _ h => h.2)) (fun _ h => h.1)); replace HB := A_ (hb); replace HI997 := A_ (hi); (try clear hb); (try clear hb2); (try clear hk); (try clear hi)))
 go_ret3
 exact ⟨_, te_, by (with_reducible repeat (first | apply Kd.R_alloc | apply Kd.R_drewN | apply Kd.R_drew)); exact Kd.R_mono HO1000.out (fun _ hk => trivial), by repeat (first | (with_reducible first | exact HB.out | apply below_alloc | apply pw_below_drewN | apply below_drew1 | refine below_set ?_ (IsS122.ge HI997.out)) | exact HB.out)⟩

/-! ### impl_isPerm: function 180 -/
def impl_isPerm.l0 : Nat → List Int → Int → List Int → Int → Int → Option (Bool)
 | 0, _, _, _, _, _ => none
 | k + 1, x0, x1, x11, x12, x13 => if x13 < x12 then (if 0 ≤ x13 then (if x13 < (x11.length : Int) then ((impl_within.f (rd x11 x13) 0 (wrap64 (x1 - 1))).bind fun t1014 => (if t1014 = true then (if x13 ≤ (x0.length : Int) then ((slices_Contains_int_int.f k (x0.take (x13 : Int).toNat) (rd x11 x13)).bind fun t1019 => (if t1019 = true then (some false) else (impl_isPerm.l0 k x0 x1 x11 x12 (wrap64 (x13 + 1))))) else (none)) else (some false))) else (none)) else (none)) else (some true)
def impl_isPerm.f (k : Nat) (l0 : List Int) (a1 : Int) : Option (Bool) := if (l0.length : Int) = a1 then (impl_isPerm.l0 k l0 a1 l0 (l0.length : Int) 0) else (some false)
theorem impl_isPerm.mono_l : ∀ k, (∀ y0 y1 y2 y3 y4, LeO (impl_isPerm.l0 k y0 y1 y2 y3 y4) (impl_isPerm.l0 (k + 1) y0 y1 y2 y3 y4))
 | 0 => fun _ _ _ _ _ r h => by simp [impl_isPerm.l0] at h
 | k + 1 => by
  have ih0 := impl_isPerm.mono_l k
  ·
   intro y0 y1 y2 y3 y4
   unfold impl_isPerm.l0
   repeat' first | (with_reducible first | exact ih0 _ _ _ _ _ | exact slices_Contains_int_int.mono _ _ _ | exact LeO.refl _ | exact LeO.none _ | refine LeO.ite ?_ ?_ | refine LeO.bind ?_ (fun _ => ?_)) | exact ih0 _ _ _ _ _ | exact slices_Contains_int_int.mono _ _ _ | exact LeO.none _ | refine LeO.ite ?_ ?_ | refine LeO.bind ?_ (fun _ => ?_)
theorem impl_isPerm.mono : ∀ a0 a1 k, LeO (impl_isPerm.f k a0 a1) (impl_isPerm.f (k + 1) a0 a1) := by
 intro a0 a1 k
 have ih0 := impl_isPerm.mono_l k
 unfold impl_isPerm.f
 repeat' first | (with_reducible first | exact ih0 _ _ _ _ _ | exact slices_Contains_int_int.mono _ _ _ | exact LeO.refl _ | exact LeO.none _ | refine LeO.ite ?_ ?_ | refine LeO.bind ?_ (fun _ => ?_)) | exact ih0 _ _ _ _ _ | exact slices_Contains_int_int.mono _ _ _ | exact LeO.none _ | refine LeO.ite ?_ ?_ | refine LeO.bind ?_ (fun _ => ?_)
theorem impl_isPerm.calls (k : Nat) (A0 : Option Addr) (c0 : Nat) (l0 : List Int) (a1 : Int) (r : Bool) (w : World) (hr0 : Kd.C (Kd.int .i64) w A0 l0.length l0) (hc0 : l0.length ≤ c0) (h : impl_isPerm.f k l0 a1 = some r) :
  Calls Try.prog 180 #[.slice A0 l0.length c0, .int .i64 a1] w fun e w' => e = .returned (.bool r) ∧ Drawn0 w w' := by
 have HR0 := A_ hr0
 have HC0 := A_ hc0
 clear hr0 hc0
 have H : (if (l0.length : Int) = a1 then (impl_isPerm.l0 k l0 a1 l0 (l0.length : Int) 0) else (some false)) = some r := h
 clear h
 by_cases c3 : (l0.length : Int) = a1
 ·
  rw [if_pos c3] at H
  have c3b0 : ((l0.length : Int) == a1) = true := beq_iff_eq.mpr c3
  have c3b1 : ((l0.length : Int) != a1) = false := bne_eq_false_iff_eq.mpr c3
  clear c3
  have H' := A_ H
  clear H
  go_enter Try.func180, Try.ntmps180
  go_wp2
  go_loopg [13] k (fun kq v13 w' => ∃ (x13_1 : Int), v13 = .int .i64 x13_1 ∧ Aside0 (impl_isPerm.l0 kq l0 a1 l0 (l0.length : Int) x13_1 = some r) ∧ Aside0 (kq ≤ k) ∧ Drawn0 w w')
  case atStart => exact ⟨(0), tf_, H', ⟨Nat.le_refl _⟩, dr_⟩
  case round =>
   clear H'
   try clear c1
   try clear p2
   try clear c3
   try clear c3b0
   try clear c3b1
   obtain ⟨x13_1, rfl, HA, HK1, ⟨m1, rfl⟩⟩ := hrel
   cases gk with
   | zero => exact absurd HA.out (by simp [impl_isPerm.l0])
   | succ k1 =>
    have H := HA.out
    clear HA
    simp only [impl_isPerm.l0] at H
    by_cases c4 : x13_1 < (l0.length : Int)
    ·
     rw [if_pos c4] at H
     have c4b0 := decide_eq_true c4
     clear c4
     by_cases c5 : 0 ≤ x13_1
     ·
      rw [if_pos c5] at H
      have c5b0 := decide_eq_true c5
      clear c5
      by_cases c6 : x13_1 < (l0.length : Int)
      ·
       rw [if_pos c6] at H
       have c6b0 := decide_eq_true c6
       clear c6
       replace H := Option.bind_eq_some_iff.mp H
       obtain ⟨t1014, A70, H⟩ := H
       replace H : (if t1014 = true then (if x13_1 ≤ (l0.length : Int) then ((slices_Contains_int_int.f k1 (l0.take (x13_1 : Int).toNat) (rd l0 x13_1)).bind fun t1019 => (if t1019 = true then (some false) else (impl_isPerm.l0 k1 l0 a1 l0 (l0.length : Int) (wrap64 (x13_1 + 1))))) else (none)) else (some false)) = some r := H
       have A7 := A_ A70
       clear A70
       by_cases c8 : t1014 = true
       ·
        subst c8
        have H1 : (if x13_1 ≤ (l0.length : Int) then ((slices_Contains_int_int.f k1 (l0.take (x13_1 : Int).toNat) (rd l0 x13_1)).bind fun t1019 => (if t1019 = true then (some false) else (impl_isPerm.l0 k1 l0 a1 l0 (l0.length : Int) (wrap64 (x13_1 + 1))))) else (none)) = some r := by rw [if_pos rfl] at H; exact H
        clear H
        have H := H1
        clear H1
        have c9b0 := eq_true (od_ : 0 ≤ x13_1)
        by_cases c10 : x13_1 ≤ (l0.length : Int)
        ·
         rw [if_pos c10] at H
         have c10b0 := eq_true c10
         have c10b1 := decide_eq_true c10
         clear c10
         obtain ⟨y1015, hy1015⟩ : ∃ y_ : List Int, y_ = (l0.take (x13_1 : Int).toNat) := ⟨_, rfl⟩
         replace H : ((slices_Contains_int_int.f k1 y1015 (rd l0 x13_1)).bind fun t1019 => (if t1019 = true then (some false) else (impl_isPerm.l0 k1 l0 a1 l0 (l0.length : Int) (wrap64 (x13_1 + 1))))) = some r := ty_ hy1015 H
         have Ny1015 := A_ hy1015
         clear hy1015
         replace H := Option.bind_eq_some_iff.mp H
         obtain ⟨t1019, A110, H⟩ := H
         replace H : (if t1019 = true then (some false) else (impl_isPerm.l0 k1 l0 a1 l0 (l0.length : Int) (wrap64 (x13_1 + 1)))) = some r := H
         have A11 := A_ A110
         clear A110
         by_cases c12 : t1019 = true
         ·
          subst c12
          have H1 : (some false) = some r := by rw [if_pos rfl] at H; exact H
          clear H
          have H := H1
          clear H1
          obtain rfl := Option.some.inj H
          have p1013 : 0 ≤ (x13_1 : Int) := od_
          have q1013 : x13_1 < (l0.length : Int) := od_
          obtain ⟨ad1013, e1013, hx1013_0⟩ := Kd.at_int HR0.out x13_1 p1013 q1013
          cases e1013
          replace p1013 := eq_true p1013
          replace q1013 := eq_true q1013
          go_wp2_with (first | (refine gc_ 139 ?_; refine goesT_ (some 21) Try.func139 #[.int .i64 (rd l0 x13_1), .int .i64 0, .int .i64 (wrap64 (a1 - 1))] ?_; (with_reducible refine (impl_within.calls (rd l0 x13_1) 0 (wrap64 (a1 - 1)) true _ A7.out).mono ?_); rintro e w' ⟨rfl, ⟨nd, rfl⟩⟩; refine ⟨_, rfl, ?_⟩; have q13 : (x13_1 : Int) ≤ ((l0.length : Int) : Int) := od_; obtain ⟨i013, hi013, _, hsz13, _⟩ := info_parts info3; have hroom13 : l0.length ≤ c0 := HC0.out; have hC13 : Kd.C (Kd.int .i64) _ (some ad1013) l0.length l0 := HR0.out; have hcut13 := cut_to (P := Try.prog) 22 3 .i64 Try.underlying22 hi013 (some ad1013) l0.length c0 x13_1 (od_) q13 hroom13; have hr13 := Kd.C_take (m := (x13_1 : Int).toNat) hC13 (by omega); have hy13 : y1015.length = (x13_1 : Int).toNat := (by rw [Ny1015.out, List.length_take]; omega); rw [← Ny1015.out] at hr13; rw [← hy13] at hcut13; have HR1018 := A_ hr13; have HC1018 := A_ (show y1015.length ≤ c0 from by omega); clear hr13 hC13 hroom13 hi013 hsz13; have KY13 := A_ hy13; clear hy13; replace q13 := eq_true q13) | (go_at_call 182; (with_reducible refine (slices_Contains_int_int.calls k1 _ _ y1015 (rd l0 x13_1) true _ ?side1 ?side2 A11.out).mono ?_); (case side1 => exact tc0_ HR1018.out); (case side2 => exact HC1018.out); rintro e w' ⟨rfl, ⟨nd, rfl⟩⟩))
          go_ret
          exact ⟨tf_, dr_⟩
         ·
          replace c12 := Bool.eq_false_iff.mpr c12
          subst c12
          have H1 : (impl_isPerm.l0 k1 l0 a1 l0 (l0.length : Int) (wrap64 (x13_1 + 1))) = some r := by rw [if_neg (show ¬ (false = true) by decide)] at H; exact H
          clear H
          have H := H1
          clear H1
          have H' := A_ H
          clear H
          have p1013 : 0 ≤ (x13_1 : Int) := od_
          have q1013 : x13_1 < (l0.length : Int) := od_
          obtain ⟨ad1013, e1013, hx1013_0⟩ := Kd.at_int HR0.out x13_1 p1013 q1013
          cases e1013
          replace p1013 := eq_true p1013
          replace q1013 := eq_true q1013
          go_wp2_with (first | (refine gc_ 139 ?_; refine goesT_ (some 21) Try.func139 #[.int .i64 (rd l0 x13_1), .int .i64 0, .int .i64 (wrap64 (a1 - 1))] ?_; (with_reducible refine (impl_within.calls (rd l0 x13_1) 0 (wrap64 (a1 - 1)) true _ A7.out).mono ?_); rintro e w' ⟨rfl, ⟨nd, rfl⟩⟩; refine ⟨_, rfl, ?_⟩; have q14 : (x13_1 : Int) ≤ ((l0.length : Int) : Int) := od_; obtain ⟨i014, hi014, _, hsz14, _⟩ := info_parts info3; have hroom14 : l0.length ≤ c0 := HC0.out; have hC14 : Kd.C (Kd.int .i64) _ (some ad1013) l0.length l0 := HR0.out; have hcut14 := cut_to (P := Try.prog) 22 3 .i64 Try.underlying22 hi014 (some ad1013) l0.length c0 x13_1 (od_) q14 hroom14; have hr14 := Kd.C_take (m := (x13_1 : Int).toNat) hC14 (by omega); have hy14 : y1015.length = (x13_1 : Int).toNat := (by rw [Ny1015.out, List.length_take]; omega); rw [← Ny1015.out] at hr14; rw [← hy14] at hcut14; have HR1018 := A_ hr14; have HC1018 := A_ (show y1015.length ≤ c0 from by omega); clear hr14 hC14 hroom14 hi014 hsz14; have KY14 := A_ hy14; clear hy14; replace q14 := eq_true q14) | (go_at_call 182; (with_reducible refine (slices_Contains_int_int.calls k1 _ _ y1015 (rd l0 x13_1) false _ ?side1 ?side2 A11.out).mono ?_); (case side1 => exact tc0_ HR1018.out); (case side2 => exact HC1018.out); rintro e w' ⟨rfl, ⟨nd, rfl⟩⟩))
          go_roundg k1
          case measure => have := HK1.out; omega
          case rel => exact ⟨(wrap64 (x13_1 + 1)), tf_, H', ⟨by have := HK1.out; omega⟩, dr_⟩
        ·
         rw [if_neg c10] at H
         exact absurd H (by simp)
       ·
        replace c8 := Bool.eq_false_iff.mpr c8
        subst c8
        have H1 : (some false) = some r := by rw [if_neg (show ¬ (false = true) by decide)] at H; exact H
        clear H
        have H := H1
        clear H1
        obtain rfl := Option.some.inj H
        have p1013 : 0 ≤ (x13_1 : Int) := od_
        have q1013 : x13_1 < (l0.length : Int) := od_
        obtain ⟨ad1013, e1013, hx1013_0⟩ := Kd.at_int HR0.out x13_1 p1013 q1013
        cases e1013
        replace p1013 := eq_true p1013
        replace q1013 := eq_true q1013
        go_wp2_with (first | (refine gc_ 139 ?_; refine goesT_ (some 21) Try.func139 #[.int .i64 (rd l0 x13_1), .int .i64 0, .int .i64 (wrap64 (a1 - 1))] ?_; (with_reducible refine (impl_within.calls (rd l0 x13_1) 0 (wrap64 (a1 - 1)) false _ A7.out).mono ?_); rintro e w' ⟨rfl, ⟨nd, rfl⟩⟩; refine ⟨_, rfl, ?_⟩))
        go_ret
        exact ⟨tf_, dr_⟩
      ·
       rw [if_neg c6] at H
       exact absurd H (by simp)
     ·
      rw [if_neg c5] at H
      exact absurd H (by simp)
    ·
     rw [if_neg c4] at H
     have c4b0 := decide_eq_false c4
     clear c4
     obtain rfl := Option.some.inj H
     go_wp2
     go_ret
     exact ⟨tf_, dr_⟩
 ·
  rw [if_neg c3] at H
  have c3b0 : ((l0.length : Int) == a1) = false := beq_eq_false_iff_ne.mpr c3
  have c3b1 : ((l0.length : Int) != a1) = true := bne_iff_ne.mpr c3
  obtain rfl := Option.some.inj H
  go_enter Try.func180, Try.ntmps180
  go_wp2
  go_ret
  exact ⟨tf_, dr_⟩

/-! ### impl_isList: function 170 -/
def impl_isList.f (k : Nat) (l0 : List Int) : Option (Bool) := (impl_isMany.f (l0.length : Int)).bind fun t1020 => (if t1020 = true then ((impl_isPerm.f k l0 (l0.length : Int)).bind fun t1021 => (some t1021)) else (some false))
theorem impl_isList.mono : ∀ a0 k, LeO (impl_isList.f k a0) (impl_isList.f (k + 1) a0) := by
 intro a0 k
 unfold impl_isList.f
 repeat' first | (with_reducible first | exact impl_isPerm.mono _ _ _ | exact LeO.refl _ | exact LeO.none _ | refine LeO.ite ?_ ?_ | refine LeO.bind ?_ (fun _ => ?_)) | exact impl_isPerm.mono _ _ _ | exact LeO.none _ | refine LeO.ite ?_ ?_ | refine LeO.bind ?_ (fun _ => ?_)
theorem impl_isList.calls (k : Nat) (A0 : Option Addr) (c0 : Nat) (l0 : List Int) (r : Bool) (w : World) (hr0 : Kd.C (Kd.int .i64) w A0 l0.length l0) (hc0 : l0.length ≤ c0) (h : impl_isList.f k l0 = some r) :
  Calls Try.prog 170 #[.slice A0 l0.length c0] w fun e w' => e = .returned (.bool r) ∧ Drawn0 w w' := by
 have HR0 := A_ hr0
 have HC0 := A_ hc0
 clear hr0 hc0
 have H : ((impl_isMany.f (l0.length : Int)).bind fun t1020 => (if t1020 = true then ((impl_isPerm.f k l0 (l0.length : Int)).bind fun t1021 => (some t1021)) else (some false))) = some r := h
 clear h
 replace H := Option.bind_eq_some_iff.mp H
 obtain ⟨t1020, A20, H⟩ := H
 replace H : (if t1020 = true then ((impl_isPerm.f k l0 (l0.length : Int)).bind fun t1021 => (some t1021)) else (some false)) = some r := H
 have A2 := A_ A20
 clear A20
 by_cases c3 : t1020 = true
 ·
  subst c3
  have H1 : ((impl_isPerm.f k l0 (l0.length : Int)).bind fun t1021 => (some t1021)) = some r := by rw [if_pos rfl] at H; exact H
  clear H
  have H := H1
  clear H1
  replace H := Option.bind_eq_some_iff.mp H
  obtain ⟨t1021, A40, H⟩ := H
  replace H : (some t1021) = some r := H
  have A4 := A_ A40
  clear A40
  obtain rfl := Option.some.inj H
  go_enter Try.func170, Try.ntmps170
  go_wp2_with (first | (refine gc_ 161 ?_; refine goesT_ (some 5) Try.func161 #[.int .i64 (l0.length : Int)] ?_; (with_reducible refine (impl_isMany.calls (l0.length : Int) true _ A2.out).mono ?_); rintro e w' ⟨rfl, ⟨nd, rfl⟩⟩; refine ⟨_, rfl, ?_⟩) | (go_at_call 180; (with_reducible refine (impl_isPerm.calls k _ _ l0 (l0.length : Int) t1021 _ ?side1 ?side2 A4.out).mono ?_); (case side1 => exact tc0_ HR0.out); (case side2 => exact HC0.out); rintro e w' ⟨rfl, ⟨nd, rfl⟩⟩))
  go_ret
  exact ⟨tf_, dr_⟩
 ·
  replace c3 := Bool.eq_false_iff.mpr c3
  subst c3
  have H1 : (some false) = some r := by rw [if_neg (show ¬ (false = true) by decide)] at H; exact H
  clear H
  have H := H1
  clear H1
  obtain rfl := Option.some.inj H
  go_enter Try.func170, Try.ntmps170
  go_wp2_with (first | (refine gc_ 161 ?_; refine goesT_ (some 5) Try.func161 #[.int .i64 (l0.length : Int)] ?_; (with_reducible refine (impl_isMany.calls (l0.length : Int) false _ A2.out).mono ?_); rintro e w' ⟨rfl, ⟨nd, rfl⟩⟩; refine ⟨_, rfl, ?_⟩))
  go_ret
  exact ⟨tf_, dr_⟩

/-! ### impl_isShift: function 171 -/
def impl_isShift.f (a0 : Int) : Option (Bool) := (impl_within.f a0 (-100) 100).bind fun t1022 => (some t1022)
theorem impl_isShift.calls (a0 : Int) (r : Bool) (w : World) (h : impl_isShift.f a0 = some r) :
  Calls Try.prog 171 #[.int .i64 a0] w fun e w' => e = .returned (.bool r) ∧ Drawn0 w w' := by
 have H : ((impl_within.f a0 (-100) 100).bind fun t1022 => (some t1022)) = some r := h
 clear h
 replace H := Option.bind_eq_some_iff.mp H
 obtain ⟨t1022, A20, H⟩ := H
 replace H : (some t1022) = some r := H
 have A2 := A_ A20
 clear A20
 obtain rfl := Option.some.inj H
 go_enter Try.func171, Try.ntmps171
 go_wp2_with (first | (refine gc_ 139 ?_; refine goesT_ (some 4) Try.func139 #[.int .i64 a0, .int .i64 (-100), .int .i64 100] ?_; (with_reducible refine (impl_within.calls a0 (-100) 100 t1022 _ A2.out).mono ?_); rintro e w' ⟨rfl, ⟨nd, rfl⟩⟩; refine ⟨_, rfl, ?_⟩))
 go_ret
 exact ⟨tf_, dr_⟩

/-! ### impl_ShiftQueens: function 54 -/
mutual
def impl_ShiftQueens.j0 : Nat → List Int → Int → Int → Bool → Option (List Int × Bool)
 | 0, _, _, _, _ => none
 | k + 1, x0, x1, x2, x24 => if x24 = true then (some (([] : List Int), false)) else (if 0 ≤ (x0.length : Int) then (if ((x0.length : Int) : Int).toNat ≤ 35184372088832 then (impl_ShiftQueens.l0 k x1 x2 (x0.length : Int) (List.replicate ((x0.length : Int) : Int).toNat 0) x0 (x0.length : Int) 0) else (none)) else (none))
def impl_ShiftQueens.l0 : Nat → Int → Int → Int → List Int → List Int → Int → Int → Option (List Int × Bool)
 | 0, _, _, _, _, _, _, _ => none
 | k + 1, x1, x2, x8, x9, x29, x30, x31 => if x31 < x30 then (if 0 ≤ x31 then (if x31 < (x29.length : Int) then (if x8 = 0 then (none) else (if 0 ≤ (Int.tmod (wrap64 ((wrap64 (x31 + x1)) + (wrap64 (100 * x8)))) x8) then (if (Int.tmod (wrap64 ((wrap64 (x31 + x1)) + (wrap64 (100 * x8)))) x8) < (x9.length : Int) then (impl_ShiftQueens.l0 k x1 x2 x8 (x9.set ((Int.tmod (wrap64 ((wrap64 (x31 + x1)) + (wrap64 (100 * x8)))) x8) : Int).toNat (Int.tmod (wrap64 ((wrap64 ((rd x29 x31) + x2)) + (wrap64 (100 * x8)))) x8)) x29 x30 (wrap64 (x31 + 1))) else (none)) else (none))) else (none)) else (none)) else (some (x9, true))
end
def impl_ShiftQueens.f (k : Nat) (l0 : List Int) (a1 : Int) (a2 : Int) : Option (List Int × Bool) := (impl_isList.f k l0).bind fun t1023 => (if t1023 = true then ((impl_isShift.f a1).bind fun t1024 => (if t1024 = true then ((impl_isShift.f a2).bind fun t1025 => (impl_ShiftQueens.j0 k l0 a1 a2 (!t1025))) else (impl_ShiftQueens.j0 k l0 a1 a2 true))) else (impl_ShiftQueens.j0 k l0 a1 a2 true))
theorem impl_ShiftQueens.mono_l : ∀ k, (∀ y0 y1 y2 y3, LeO (impl_ShiftQueens.j0 k y0 y1 y2 y3) (impl_ShiftQueens.j0 (k + 1) y0 y1 y2 y3)) ∧ (∀ y0 y1 y2 y3 y4 y5 y6, LeO (impl_ShiftQueens.l0 k y0 y1 y2 y3 y4 y5 y6) (impl_ShiftQueens.l0 (k + 1) y0 y1 y2 y3 y4 y5 y6))
 | 0 => ⟨fun _ _ _ _ r h => by simp [impl_ShiftQueens.j0] at h, fun _ _ _ _ _ _ _ r h => by simp [impl_ShiftQueens.l0] at h⟩
 | k + 1 => by
  obtain ⟨ih0, ih1⟩ := impl_ShiftQueens.mono_l k
  refine ⟨?_, ?_⟩
  ·
   intro y0 y1 y2 y3
   unfold impl_ShiftQueens.j0
   repeat' first | (with_reducible first | exact ih0 _ _ _ _ | exact ih1 _ _ _ _ _ _ _ | exact impl_isList.mono _ _ | exact LeO.refl _ | exact LeO.none _ | refine LeO.ite ?_ ?_ | refine LeO.bind ?_ (fun _ => ?_)) | exact ih0 _ _ _ _ | exact ih1 _ _ _ _ _ _ _ | exact impl_isList.mono _ _ | exact LeO.none _ | refine LeO.ite ?_ ?_ | refine LeO.bind ?_ (fun _ => ?_)
  ·
   intro y0 y1 y2 y3 y4 y5 y6
   unfold impl_ShiftQueens.l0
   repeat' first | (with_reducible first | exact ih0 _ _ _ _ | exact ih1 _ _ _ _ _ _ _ | exact impl_isList.mono _ _ | exact LeO.refl _ | exact LeO.none _ | refine LeO.ite ?_ ?_ | refine LeO.bind ?_ (fun _ => ?_)) | exact ih0 _ _ _ _ | exact ih1 _ _ _ _ _ _ _ | exact impl_isList.mono _ _ | exact LeO.none _ | refine LeO.ite ?_ ?_ | refine LeO.bind ?_ (fun _ => ?_)
theorem impl_ShiftQueens.mono : ∀ a0 a1 a2 k, LeO (impl_ShiftQueens.f k a0 a1 a2) (impl_ShiftQueens.f (k + 1) a0 a1 a2) := by
 intro a0 a1 a2 k
 obtain ⟨ih0, ih1⟩ := impl_ShiftQueens.mono_l k
 unfold impl_ShiftQueens.f
 repeat' first | (with_reducible first | exact ih0 _ _ _ _ | exact ih1 _ _ _ _ _ _ _ | exact impl_isList.mono _ _ | exact LeO.refl _ | exact LeO.none _ | refine LeO.ite ?_ ?_ | refine LeO.bind ?_ (fun _ => ?_)) | exact ih0 _ _ _ _ | exact ih1 _ _ _ _ _ _ _ | exact impl_isList.mono _ _ | exact LeO.none _ | refine LeO.ite ?_ ?_ | refine LeO.bind ?_ (fun _ => ?_)
def impl_ShiftQueens.T8 : Bool × List (List Nat × List Nat) := (true, [([], []), ([], []), ([], []), ([1, 2], [1, 2]), ([], []), ([4], [4]), ([3, 5], [3, 5]), ([], []), ([6, 7], [6, 7]), ([], []), ([], []), ([9, 10], [9, 10]), ([], []), ([12], [12]), ([11, 13], [11, 13]), ([], []), ([14, 15], [14, 15]), ([0, 8, 0, 1, 2, 3, 4, 5, 6, 7, 8, 9, 10, 11, 12, 13, 14, 15, 16], [0, 8]), ([17, 16, 0, 1, 2, 3, 4, 5, 6, 7, 8, 9, 10, 11, 12, 13, 14, 15, 16], [16, 17])])
def impl_ShiftQueens.B8 : List Nat := [0, 0, 0, 6, 0, 16, 62, 0, 254, 0, 0, 1536, 0, 4096, 15872, 0, 65024, 131071, 262143]
theorem impl_ShiftQueens.tab8 : rtab .any (opsOf Try.f54 8) = impl_ShiftQueens.T8 := by kernel_rfl
theorem impl_ShiftQueens.bits8 : waitsOk impl_ShiftQueens.T8.2 impl_ShiftQueens.B8 = true := by kernel_rfl
theorem impl_ShiftQueens.calls (k : Nat) (A0 : Option Addr) (c0 : Nat) (l0 : List Int) (a1 : Int) (a2 : Int) (r1 : List Int) (r2 : Bool) (w : World) (hr0 : Kd.C (Kd.int .i64) w A0 l0.length l0) (hc0 : l0.length ≤ c0) (h : impl_ShiftQueens.f k l0 a1 a2 = some (r1, r2)) :
  Calls Try.prog 54 #[.slice A0 l0.length c0, .int .i64 a1, .int .i64 a2] w fun e w' => ∃ v0_ : Value, e = .returned (.tuple #[v0_, .bool r2]) ∧ Kd.R (Kd.int .i64) 3 w' w.heap.size (fun _ => True) v0_ r1 ∧ Below w.heap.size w w' := by
 have HR0 := A_ hr0
 have HC0 := A_ hc0
 clear hr0 hc0
 have HB := A_ (Below.refl w.heap.size w)
 have H : ((impl_isList.f k l0).bind fun t1023 => (if t1023 = true then ((impl_isShift.f a1).bind fun t1024 => (if t1024 = true then ((impl_isShift.f a2).bind fun t1025 => (impl_ShiftQueens.j0 k l0 a1 a2 (!t1025))) else (impl_ShiftQueens.j0 k l0 a1 a2 true))) else (impl_ShiftQueens.j0 k l0 a1 a2 true))) = some (r1, r2) := h
 clear h
 have HC4 := A_ H
 clear H
 go_enter Try.func54, Try.ntmps54
 go_upto_region 1 with (fail)
 go_cut [24] (fun v24 wc => ∃ (kq : Nat) (x24_3 : Bool), v24 = .bool x24_3 ∧ Aside0 (impl_ShiftQueens.j0 kq l0 a1 a2 x24_3 = some (r1, r2)) ∧ Aside0 (kq ≤ k) ∧ Aside0 (Below w.heap.size w wc))
 case first =>
  have H := HC4.out
  clear HC4
  replace H := Option.bind_eq_some_iff.mp H
  obtain ⟨t1023, A50, H⟩ := H
  replace H : (if t1023 = true then ((impl_isShift.f a1).bind fun t1024 => (if t1024 = true then ((impl_isShift.f a2).bind fun t1025 => (impl_ShiftQueens.j0 k l0 a1 a2 (!t1025))) else (impl_ShiftQueens.j0 k l0 a1 a2 true))) else (impl_ShiftQueens.j0 k l0 a1 a2 true)) = some (r1, r2) := H
  have A5 := A_ A50
  clear A50
  by_cases c6 : t1023 = true
  ·
   subst c6
   have H1 : ((impl_isShift.f a1).bind fun t1024 => (if t1024 = true then ((impl_isShift.f a2).bind fun t1025 => (impl_ShiftQueens.j0 k l0 a1 a2 (!t1025))) else (impl_ShiftQueens.j0 k l0 a1 a2 true))) = some (r1, r2) := by rw [if_pos rfl] at H; exact H
   clear H
   have H := H1
   clear H1
   replace H := Option.bind_eq_some_iff.mp H
   obtain ⟨t1024, A70, H⟩ := H
   replace H : (if t1024 = true then ((impl_isShift.f a2).bind fun t1025 => (impl_ShiftQueens.j0 k l0 a1 a2 (!t1025))) else (impl_ShiftQueens.j0 k l0 a1 a2 true)) = some (r1, r2) := H
   have A7 := A_ A70
   clear A70
   by_cases c8 : t1024 = true
   ·
    subst c8
    have H1 : ((impl_isShift.f a2).bind fun t1025 => (impl_ShiftQueens.j0 k l0 a1 a2 (!t1025))) = some (r1, r2) := by rw [if_pos rfl] at H; exact H
    clear H
    have H := H1
    clear H1
    replace H := Option.bind_eq_some_iff.mp H
    obtain ⟨t1025, A90, H⟩ := H
    replace H : (impl_ShiftQueens.j0 k l0 a1 a2 (!t1025)) = some (r1, r2) := H
    have A9 := A_ A90
    clear A90
    have H' := A_ H
    clear H
    go_wp2_with (first | (refine gc_ 170 ?_; refine goesT_ (some 13) Try.func170 #[.slice A0 l0.length c0] ?_; (with_reducible refine (impl_isList.calls k _ _ l0 true _ ?side1 ?side2 A5.out).mono ?_); (case side1 => exact tc_ HR0.out); (case side2 => exact HC0.out); rintro e w' ⟨rfl, ⟨nd, rfl⟩⟩; refine ⟨_, rfl, ?_⟩) | (go_at_call 171; (with_reducible refine (impl_isShift.calls a1 true _ A7.out).mono ?_); rintro e w' ⟨rfl, ⟨nd, rfl⟩⟩) | (go_at_call 171; (with_reducible refine (impl_isShift.calls a2 t1025 _ A9.out).mono ?_); rintro e w' ⟨rfl, ⟨nd, rfl⟩⟩))
    go_meet
    case rel => exact ⟨_, (!t1025), tf_, H', ⟨by first | omega | exact Nat.le_refl _⟩, ⟨tb_⟩⟩
   ·
    replace c8 := Bool.eq_false_iff.mpr c8
    subst c8
    have H1 : (impl_ShiftQueens.j0 k l0 a1 a2 true) = some (r1, r2) := by rw [if_neg (show ¬ (false = true) by decide)] at H; exact H
    clear H
    have H := H1
    clear H1
    have H' := A_ H
    clear H
    go_wp2_with (first | (refine gc_ 170 ?_; refine goesT_ (some 13) Try.func170 #[.slice A0 l0.length c0] ?_; (with_reducible refine (impl_isList.calls k _ _ l0 true _ ?side1 ?side2 A5.out).mono ?_); (case side1 => exact tc_ HR0.out); (case side2 => exact HC0.out); rintro e w' ⟨rfl, ⟨nd, rfl⟩⟩; refine ⟨_, rfl, ?_⟩) | (go_at_call 171; (with_reducible refine (impl_isShift.calls a1 false _ A7.out).mono ?_); rintro e w' ⟨rfl, ⟨nd, rfl⟩⟩))
    go_meet
    case rel => exact ⟨_, (true), tf_, H', ⟨by first | omega | exact Nat.le_refl _⟩, ⟨tb_⟩⟩
  ·
   replace c6 := Bool.eq_false_iff.mpr c6
   subst c6
   have H1 : (impl_ShiftQueens.j0 k l0 a1 a2 true) = some (r1, r2) := by rw [if_neg (show ¬ (false = true) by decide)] at H; exact H
   clear H
   have H := H1
   clear H1
   have H' := A_ H
   clear H
   go_wp2_with (first | (refine gc_ 170 ?_; refine goesT_ (some 13) Try.func170 #[.slice A0 l0.length c0] ?_; (with_reducible refine (impl_isList.calls k _ _ l0 false _ ?side1 ?side2 A5.out).mono ?_); (case side1 => exact tc_ HR0.out); (case side2 => exact HC0.out); rintro e w' ⟨rfl, ⟨nd, rfl⟩⟩; refine ⟨_, rfl, ?_⟩))
   go_meet
   case rel => exact ⟨_, (true), tf_, H', ⟨by first | omega | exact Nat.le_refl _⟩, ⟨tb_⟩⟩
 case rest =>
  clear HC4
  try clear c1
  try clear p2
  try clear c5
  try clear c6
  try clear c8
  obtain ⟨kq, x24_3, rfl, HA, HJ3, HB⟩ := hcut
  cases kq with
  | zero => exact absurd HA.out (by simp [impl_ShiftQueens.j0])
  | succ kj3 =>
   have H := HA.out
   clear HA
   simp only [impl_ShiftQueens.j0] at H
   by_cases c10 : x24_3 = true
   ·
    subst c10
    have H1 : (some (([] : List Int), false)) = some (r1, r2) := by rw [if_pos rfl] at H; exact H
    clear H
    have H := H1
    clear H1
    simp only [Option.some.injEq, Prod.mk.injEq] at H
    obtain ⟨rfl, rfl⟩ := H
    go_wp2
    go_ret2
    exact ⟨_, te_, by first | exact Kd.R_nil _ _ _ _ _ | exact Kd.N_nil _ _ _ _ _ | exact Kd.V_nil _ _ _ _ _ | exact Kd.Q_nil _ _ _ _ _ | exact Kd.S_nil _ _ _ _ _, tb_⟩
   ·
    replace c10 := Bool.eq_false_iff.mpr c10
    subst c10
    have H1 : (if 0 ≤ (l0.length : Int) then (if ((l0.length : Int) : Int).toNat ≤ 35184372088832 then (impl_ShiftQueens.l0 kj3 a1 a2 (l0.length : Int) (List.replicate ((l0.length : Int) : Int).toNat 0) l0 (l0.length : Int) 0) else (none)) else (none)) = some (r1, r2) := by rw [if_neg (show ¬ (false = true) by decide)] at H; exact H
    clear H
    have H := H1
    clear H1
    by_cases c11 : 0 ≤ (l0.length : Int)
    ·
     rw [if_pos c11] at H
     have c11b0 := eq_true c11
     have c11b1 := decide_eq_true c11
     clear c11
     by_cases c12 : ((l0.length : Int) : Int).toNat ≤ 35184372088832
     ·
      rw [if_pos c12] at H
      have c12b0 := eq_true c12
      have c12b1 := decide_eq_true c12
      clear c12
      obtain ⟨y1026, hy1026⟩ : ∃ y_ : List Int, y_ = (List.replicate ((l0.length : Int) : Int).toNat 0) := ⟨_, rfl⟩
      replace H : (impl_ShiftQueens.l0 kj3 a1 a2 (l0.length : Int) y1026 l0 (l0.length : Int) 0) = some (r1, r2) := ty_ hy1026 H
      have Ny1026 := A_ hy1026
      clear hy1026
      have H' := A_ H
      clear H
      go_wp2_with (first | (refine gd_ 28 ?_; refine Kd.R_make (Kd.int .i64) _ 3 rfl (N := 28) rfl 22 _ _ rfl (l0.length : Int) rfl rfl Try.underlying22 (.int .i64 0) 8 info3 rfl (by decide) (by omega) 0 (ok := fun _ => True) (okp := fun _ => True) rfl (fun _ hk => hk) trivial (od_) (Nat.le_trans (Nat.mul_le_mul_right _ (od_ : (l0.length : Int).toNat ≤ 35184372088832)) (by omega)) (Below.refl _ _) (Nat.le_refl _) ?_; intro v1027 w13 ho14 hb hg_ hnew_; clear hg_ hnew_; (first | rw [← Ny1026.out] at ho14 | (simp only [Int.reduceToNat] at ho14; rw [← Ny1026.out] at ho14)); have HO1028 := A_ (Kd.R_lower ho14 (below_size tb_)); replace HB := A_ (below_step tb_ hb); clear hb ho14))
      go_loopg [31] kj3 (fun kq v31 w' => ∃ (x9_2 : List Int) (x31_2 : Int), v31 = .int .i64 x31_2 ∧ Aside0 (impl_ShiftQueens.l0 kq a1 a2 (l0.length : Int) x9_2 l0 (l0.length : Int) x31_2 = some (r1, r2)) ∧ Aside0 (kq ≤ kj3) ∧ Aside0 (Kd.R (Kd.int .i64) 3 w' w.heap.size (fun _ => True) v1027 x9_2) ∧ Aside0 (Below w.heap.size w w'))
      case atStart => exact ⟨(y1026), (0), tf_, H', ⟨Nat.le_refl _⟩, ⟨tr_x HO1028.out⟩, ⟨tb_⟩⟩
      case round =>
       clear H'
       try clear c1
       try clear p2
       try clear c5
       try clear c6
       try clear c8
       try clear c10
       try clear c11
       try clear c11b0
       try clear c11b1
       try clear c12
       try clear c12b0
       try clear c12b1
       try clear p2
       obtain ⟨x9_2, x31_2, rfl, HA, HK2, HO_9, HB⟩ := hrel
       cases gk with
       | zero => exact absurd HA.out (by simp [impl_ShiftQueens.l0])
       | succ k2 =>
        have H := HA.out
        clear HA
        simp only [impl_ShiftQueens.l0] at H
        by_cases c15 : x31_2 < (l0.length : Int)
        ·
         rw [if_pos c15] at H
         have c15b0 := decide_eq_true c15
         clear c15
         by_cases c16 : 0 ≤ x31_2
         ·
          rw [if_pos c16] at H
          have c16b0 := decide_eq_true c16
          clear c16
          by_cases c17 : x31_2 < (l0.length : Int)
          ·
           rw [if_pos c17] at H
           have c17b0 := decide_eq_true c17
           clear c17
           by_cases c18 : (l0.length : Int) = 0
           ·
            rw [if_pos c18] at H
            exact absurd H (by simp)
           ·
            rw [if_neg c18] at H
            have c18b0 : ((l0.length : Int) == 0) = false := beq_eq_false_iff_ne.mpr c18
            have c18b1 : ((l0.length : Int) != 0) = true := bne_iff_ne.mpr c18
            have c18b2 : ¬ (l0 = []) := fun h_ => c18 (by rw [h_]; rfl)
            obtain ⟨ji19, hji19⟩ : ∃ j_ : Int, (Int.tmod (wrap64 ((wrap64 (x31_2 + a1)) + (wrap64 (100 * (l0.length : Int))))) (l0.length : Int)) = j_ := ⟨_, rfl⟩
            replace H : (if 0 ≤ (ji19) then (if (ji19) < (x9_2.length : Int) then (impl_ShiftQueens.l0 k2 a1 a2 (l0.length : Int) (x9_2.set ((ji19) : Int).toNat (Int.tmod (wrap64 ((wrap64 ((rd l0 x31_2) + a2)) + (wrap64 (100 * (l0.length : Int))))) (l0.length : Int))) l0 (l0.length : Int) (wrap64 (x31_2 + 1))) else (none)) else (none)) = some (r1, r2) := by first | (rw [hji19] at H; exact H) | (simp only [hji19] at H ⊢; exact H)
            by_cases c20 : 0 ≤ (ji19)
            ·
             rw [if_pos c20] at H
             have c20b0 := decide_eq_true c20
             clear c20
             by_cases c21 : (ji19) < (x9_2.length : Int)
             ·
              rw [if_pos c21] at H
              have c21b0 := decide_eq_true c21
              clear c21
              obtain ⟨y1030, hy1030⟩ : ∃ y_ : List Int, y_ = (x9_2.set ((ji19) : Int).toNat (Int.tmod (wrap64 ((wrap64 ((rd l0 x31_2) + a2)) + (wrap64 (100 * (l0.length : Int))))) (l0.length : Int))) := ⟨_, rfl⟩
              replace H : (impl_ShiftQueens.l0 k2 a1 a2 (l0.length : Int) y1030 l0 (l0.length : Int) (wrap64 (x31_2 + 1))) = some (r1, r2) := ty_ hy1030 H
              have Ny1030 := A_ hy1030
              clear hy1030
              have H' := A_ H
              clear H
              have p1029 : 0 ≤ (x31_2 : Int) := od_
              have q1029 : x31_2 < (l0.length : Int) := od_
              obtain ⟨ad1029, e1029, hx1029_0⟩ := Kd.at_int HR0.out x31_2 p1029 q1029
              cases e1029
              (try replace hx1029_0 := (HB.out.cell (World.block_lt_of_cell? w _ hx1029_0)).trans hx1029_0)
              replace p1029 := eq_true p1029
              replace q1029 := eq_true q1029
              try go_wp2
              have n0_ := A_ (Kd.R_drew HO_9.out)
              have n1_ := A_ (below_drew1 HB.out)
              clear HO_9
              clear HB
              have HO_9 := n0_
              have HB := n1_
              clear n0_ n1_
              have p22 : 0 ≤ ((ji19) : Int) := od_
              have q22 : ((ji19) : Int) < ((x9_2.length : Int) : Int) := od_
              obtain ⟨go22, co22, eo22, gb22, gl22, cl22, HG22⟩ := Kd.R_form HO_9.out (by omega)
              (first | cases eo22 | (injection eo22 with ea_ en_ ec_; (first | subst ea_ | (injection ea_ with ea_; subst ea_)); subst ec_; clear en_))
              have GB22 := A_ gb22
              have GG22 := A_ HG22
              clear gb22 gl22 HG22
              obtain ⟨hx22_0, hf22_0⟩ := Kd.R_celln 0 HO_9.out ((ji19) : Int) p22 q22
              replace p22 := eq_true p22
              replace q22 := eq_true q22
              have HP24 := Kd.R_putn HO_9.out ((ji19) : Int) (Int.tmod (wrap64 ((wrap64 ((rd l0 x31_2) + a2)) + (wrap64 (100 * (l0.length : Int))))) (l0.length : Int))
              rw [← Ny1030.out] at HP24
              have HQ24 := A_ HP24
              clear HP24
              refine start_ (n := 19) (S := fun w' => True) (ds := [18]) (Fn.bl 19 0) (by kernel_rfl) rfl rfl trivial (fun hHeld => ?_); refine with_tabW impl_ShiftQueens.tab8 impl_ShiftQueens.bits8 (fun HT_ HW_ => ?_)
              generalize wr.drew = w23 at HO_9 HB GG22 HQ24 hf22_0 hx22_0 hHeld ⊢
              refine pq_ 0 (some 36) (Fn.bl 19 1) HT_.out ?_
              refine pq_ 1 (some 37) (Fn.bl 19 3) HT_.out ?_
              refine pq_ 2 (some 38) (Fn.bl 19 7) HT_.out ?_
              refine pq_ 3 (some 39) (Fn.bl 19 15) HT_.out ?_
              refine pq_ 4 (some 40) (Fn.bl 19 31) HT_.out ?_
              refine pq_ 5 (some 41) (Fn.bl 19 63) HT_.out ?_
              refine pq_ 6 (some 42) (Fn.bl 19 127) HT_.out ?_
              refine pq_ 7 (some 43) (Fn.bl 19 255) HT_.out ?_
              refine pq_ 8 (some 44) (Fn.bl 19 511) HT_.out ?_
              refine pq_ 9 (some 45) (Fn.bl 19 1023) HT_.out ?_
              refine pq_ 10 (some 46) (Fn.bl 19 2047) HT_.out ?_
              refine pq_ 11 (some 47) (Fn.bl 19 4095) HT_.out ?_
              refine pq_ 12 (some 48) (Fn.bl 19 8191) HT_.out ?_
              refine pq_ 13 (some 49) (Fn.bl 19 16383) HT_.out ?_
              refine pq_ 14 (some 50) (Fn.bl 19 32767) HT_.out ?_
              refine pq_ 15 (some 51) (Fn.bl 19 65535) HT_.out ?_
              refine pq_ 16 (some 52) (Fn.bl 19 131071) HT_.out ?_
              refine pq_ 17 (some 53) (Fn.bl 19 262143) HT_.out ?_
              refine last_ (i := 18) (N := none) (Fn.bl 19 524287) rfl rfl (one_of HT_.out (by kernel_rfl)) (by decide) (fun K hK => ?_)
              refine skip_ (w1 := ?_) (by rfl) rfl ?_ ?_
              rotate_left
              ·
               go_simp
               rfl
              refine hK.out _ _ ?_
              clear hK K
              refine done_ (done_of HT_.out (by kernel_rfl)) ?_
              try go_wp2
              go_roundg k2
              case measure => have := HJ3.out; have := HK2.out; omega
              case rel => exact ⟨(y1030), (wrap64 (x31_2 + 1)), tf_, H', ⟨by have := HJ3.out; have := HK2.out; omega⟩, ⟨tr_x HQ24.out⟩, ⟨tb_⟩⟩
             ·
              rw [if_neg c21] at H
              exact absurd H (by simp)
            ·
             rw [if_neg c20] at H
             exact absurd H (by simp)
          ·
           rw [if_neg c17] at H
           exact absurd H (by simp)
         ·
          rw [if_neg c16] at H
          exact absurd H (by simp)
        ·
         rw [if_neg c15] at H
         have c15b0 := decide_eq_false c15
         clear c15
         simp only [Option.some.injEq, Prod.mk.injEq] at H
         obtain ⟨rfl, rfl⟩ := H
         go_wp2
         go_ret2
         exact ⟨_, te_, tr_x HO_9.out, tb_⟩
     ·
      rw [if_neg c12] at H
      exact absurd H (by simp)
    ·
     rw [if_neg c11] at H
     exact absurd H (by simp)

/-! ### spec_quMod: function 173 -/
def spec_quMod.f (a0 : Int) (a1 : Int) : Option (Int) := if a1 = 0 then (none) else (some (Int.tmod (wrap64 ((Int.tmod a0 a1) + a1)) a1))
theorem spec_quMod.calls (a0 : Int) (a1 : Int) (r : Int) (w : World) (h : spec_quMod.f a0 a1 = some r) :
  Calls Try.prog 173 #[.int .i64 a0, .int .i64 a1] w fun e w' => e = .returned (.int .i64 r) ∧ Drawn0 w w' := by
 have H : (if a1 = 0 then (none) else (some (Int.tmod (wrap64 ((Int.tmod a0 a1) + a1)) a1))) = some r := h
 clear h
 by_cases c3 : a1 = 0
 ·
  rw [if_pos c3] at H
  exact absurd H (by simp)
 ·
  rw [if_neg c3] at H
  have c3b0 : (a1 == 0) = false := beq_eq_false_iff_ne.mpr c3
  have c3b1 : (a1 != 0) = true := bne_iff_ne.mpr c3
  obtain rfl := Option.some.inj H
  go_enter Try.func173, Try.ntmps173
  go_wp2
  go_ret
  exact ⟨tf_, dr_⟩

/-! ### spec_ShiftQueens: function 55 -/
mutual
def spec_ShiftQueens.j0 : Nat → List Int → Int → Int → Bool → Option (List Int × Bool)
 | 0, _, _, _, _ => none
 | k + 1, x0, x1, x2, x24 => if x24 = true then (some (([] : List Int), false)) else (if 0 ≤ (x0.length : Int) then (if ((x0.length : Int) : Int).toNat ≤ 35184372088832 then (spec_ShiftQueens.l0 k x1 x2 (x0.length : Int) (List.replicate ((x0.length : Int) : Int).toNat 0) x0 (x0.length : Int) 0) else (none)) else (none))
def spec_ShiftQueens.l0 : Nat → Int → Int → Int → List Int → List Int → Int → Int → Option (List Int × Bool)
 | 0, _, _, _, _, _, _, _ => none
 | k + 1, x1, x2, x8, x9, x29, x30, x31 => if x31 < x30 then (if 0 ≤ x31 then (if x31 < (x29.length : Int) then ((spec_quMod.f (wrap64 (x31 + x1)) x8).bind fun t1038 => ((spec_quMod.f (wrap64 ((rd x29 x31) + x2)) x8).bind fun t1039 => (if 0 ≤ t1038 then (if t1038 < (x9.length : Int) then (spec_ShiftQueens.l0 k x1 x2 x8 (x9.set (t1038 : Int).toNat t1039) x29 x30 (wrap64 (x31 + 1))) else (none)) else (none)))) else (none)) else (none)) else (some (x9, true))
end
def spec_ShiftQueens.f (k : Nat) (l0 : List Int) (a1 : Int) (a2 : Int) : Option (List Int × Bool) := (spec_quGood.f k l0).bind fun t1031 => (if t1031 = true then ((spec_l1In.f a1 (-100) 100).bind fun t1032 => (if t1032 = true then ((spec_l1In.f a2 (-100) 100).bind fun t1033 => (spec_ShiftQueens.j0 k l0 a1 a2 (!t1033))) else (spec_ShiftQueens.j0 k l0 a1 a2 true))) else (spec_ShiftQueens.j0 k l0 a1 a2 true))
theorem spec_ShiftQueens.mono_l : ∀ k, (∀ y0 y1 y2 y3, LeO (spec_ShiftQueens.j0 k y0 y1 y2 y3) (spec_ShiftQueens.j0 (k + 1) y0 y1 y2 y3)) ∧ (∀ y0 y1 y2 y3 y4 y5 y6, LeO (spec_ShiftQueens.l0 k y0 y1 y2 y3 y4 y5 y6) (spec_ShiftQueens.l0 (k + 1) y0 y1 y2 y3 y4 y5 y6))
 | 0 => ⟨fun _ _ _ _ r h => by simp [spec_ShiftQueens.j0] at h, fun _ _ _ _ _ _ _ r h => by simp [spec_ShiftQueens.l0] at h⟩
 | k + 1 => by
  obtain ⟨ih0, ih1⟩ := spec_ShiftQueens.mono_l k
  refine ⟨?_, ?_⟩
  ·
   intro y0 y1 y2 y3
   unfold spec_ShiftQueens.j0
   repeat' first | (with_reducible first | exact ih0 _ _ _ _ | exact ih1 _ _ _ _ _ _ _ | exact spec_quGood.mono _ _ | exact LeO.refl _ | exact LeO.none _ | refine LeO.ite ?_ ?_ | refine LeO.bind ?_ (fun _ => ?_)) | exact ih0 _ _ _ _ | exact ih1 _ _ _ _ _ _ _ | exact spec_quGood.mono _ _ | exact LeO.none _ | refine LeO.ite ?_ ?_ | refine LeO.bind ?_ (fun _ => ?_)
  ·
   intro y0 y1 y2 y3 y4 y5 y6
   unfold spec_ShiftQueens.l0
   repeat' first | (with_reducible first | exact ih0 _ _ _ _ | exact ih1 _ _ _ _ _ _ _ | exact spec_quGood.mono _ _ | exact LeO.refl _ | exact LeO.none _ | refine LeO.ite ?_ ?_ | refine LeO.bind ?_ (fun _ => ?_)) | exact ih0 _ _ _ _ | exact ih1 _ _ _ _ _ _ _ | exact spec_quGood.mono _ _ | exact LeO.none _ | refine LeO.ite ?_ ?_ | refine LeO.bind ?_ (fun _ => ?_)
theorem spec_ShiftQueens.mono : ∀ a0 a1 a2 k, LeO (spec_ShiftQueens.f k a0 a1 a2) (spec_ShiftQueens.f (k + 1) a0 a1 a2) := by
 intro a0 a1 a2 k
 obtain ⟨ih0, ih1⟩ := spec_ShiftQueens.mono_l k
 unfold spec_ShiftQueens.f
 repeat' first | (with_reducible first | exact ih0 _ _ _ _ | exact ih1 _ _ _ _ _ _ _ | exact spec_quGood.mono _ _ | exact LeO.refl _ | exact LeO.none _ | refine LeO.ite ?_ ?_ | refine LeO.bind ?_ (fun _ => ?_)) | exact ih0 _ _ _ _ | exact ih1 _ _ _ _ _ _ _ | exact spec_quGood.mono _ _ | exact LeO.none _ | refine LeO.ite ?_ ?_ | refine LeO.bind ?_ (fun _ => ?_)
theorem spec_ShiftQueens.calls (k : Nat) (A0 : Option Addr) (c0 : Nat) (l0 : List Int) (a1 : Int) (a2 : Int) (r1 : List Int) (r2 : Bool) (w : World) (hr0 : Kd.C (Kd.int .i64) w A0 l0.length l0) (hc0 : l0.length ≤ c0) (h : spec_ShiftQueens.f k l0 a1 a2 = some (r1, r2)) :
  Calls Try.prog 55 #[.slice A0 l0.length c0, .int .i64 a1, .int .i64 a2] w fun e w' => ∃ v0_ : Value, e = .returned (.tuple #[v0_, .bool r2]) ∧ Kd.R (Kd.int .i64) 3 w' w.heap.size (fun _ => True) v0_ r1 ∧ Below w.heap.size w w' := by
 have HR0 := A_ hr0
 have HC0 := A_ hc0
 clear hr0 hc0
 have HB := A_ (Below.refl w.heap.size w)
 have H : ((spec_quGood.f k l0).bind fun t1031 => (if t1031 = true then ((spec_l1In.f a1 (-100) 100).bind fun t1032 => (if t1032 = true then ((spec_l1In.f a2 (-100) 100).bind fun t1033 => (spec_ShiftQueens.j0 k l0 a1 a2 (!t1033))) else (spec_ShiftQueens.j0 k l0 a1 a2 true))) else (spec_ShiftQueens.j0 k l0 a1 a2 true))) = some (r1, r2) := h
 clear h
 have HC4 := A_ H
 clear H
 go_enter Try.func55, Try.ntmps55
 go_upto_region 1 with (fail)
 go_cut [24] (fun v24 wc => ∃ (kq : Nat) (x24_3 : Bool), v24 = .bool x24_3 ∧ Aside0 (spec_ShiftQueens.j0 kq l0 a1 a2 x24_3 = some (r1, r2)) ∧ Aside0 (kq ≤ k) ∧ Aside0 (Below w.heap.size w wc))
 case first =>
  have H := HC4.out
  clear HC4
  replace H := Option.bind_eq_some_iff.mp H
  obtain ⟨t1031, A50, H⟩ := H
  replace H : (if t1031 = true then ((spec_l1In.f a1 (-100) 100).bind fun t1032 => (if t1032 = true then ((spec_l1In.f a2 (-100) 100).bind fun t1033 => (spec_ShiftQueens.j0 k l0 a1 a2 (!t1033))) else (spec_ShiftQueens.j0 k l0 a1 a2 true))) else (spec_ShiftQueens.j0 k l0 a1 a2 true)) = some (r1, r2) := H
  have A5 := A_ A50
  clear A50
  by_cases c6 : t1031 = true
  ·
   subst c6
   have H1 : ((spec_l1In.f a1 (-100) 100).bind fun t1032 => (if t1032 = true then ((spec_l1In.f a2 (-100) 100).bind fun t1033 => (spec_ShiftQueens.j0 k l0 a1 a2 (!t1033))) else (spec_ShiftQueens.j0 k l0 a1 a2 true))) = some (r1, r2) := by rw [if_pos rfl] at H; exact H
   clear H
   have H := H1
   clear H1
   replace H := Option.bind_eq_some_iff.mp H
   obtain ⟨t1032, A70, H⟩ := H
   replace H : (if t1032 = true then ((spec_l1In.f a2 (-100) 100).bind fun t1033 => (spec_ShiftQueens.j0 k l0 a1 a2 (!t1033))) else (spec_ShiftQueens.j0 k l0 a1 a2 true)) = some (r1, r2) := H
   have A7 := A_ A70
   clear A70
   by_cases c8 : t1032 = true
   ·
    subst c8
    have H1 : ((spec_l1In.f a2 (-100) 100).bind fun t1033 => (spec_ShiftQueens.j0 k l0 a1 a2 (!t1033))) = some (r1, r2) := by rw [if_pos rfl] at H; exact H
    clear H
    have H := H1
    clear H1
    replace H := Option.bind_eq_some_iff.mp H
    obtain ⟨t1033, A90, H⟩ := H
    replace H : (spec_ShiftQueens.j0 k l0 a1 a2 (!t1033)) = some (r1, r2) := H
    have A9 := A_ A90
    clear A90
    have H' := A_ H
    clear H
    go_wp2_with (first | (refine gc_ 172 ?_; refine goesT_ (some 13) Try.func172 #[.slice A0 l0.length c0] ?_; (with_reducible refine (spec_quGood.calls k _ _ l0 true _ ?side1 ?side2 A5.out).mono ?_); (case side1 => exact tc_ HR0.out); (case side2 => exact HC0.out); rintro e w' ⟨rfl, ⟨nd, rfl⟩⟩; refine ⟨_, rfl, ?_⟩) | (go_at_call 137; (with_reducible refine (spec_l1In.calls a1 (-100) 100 true _ A7.out).mono ?_); rintro e w' ⟨rfl, ⟨nd, rfl⟩⟩) | (go_at_call 137; (with_reducible refine (spec_l1In.calls a2 (-100) 100 t1033 _ A9.out).mono ?_); rintro e w' ⟨rfl, ⟨nd, rfl⟩⟩))
    go_meet
    case rel => exact ⟨_, (!t1033), tf_, H', ⟨by first | omega | exact Nat.le_refl _⟩, ⟨tb_⟩⟩
   ·
    replace c8 := Bool.eq_false_iff.mpr c8
    subst c8
    have H1 : (spec_ShiftQueens.j0 k l0 a1 a2 true) = some (r1, r2) := by rw [if_neg (show ¬ (false = true) by decide)] at H; exact H
    clear H
    have H := H1
    clear H1
    have H' := A_ H
    clear H
    go_wp2_with (first | (refine gc_ 172 ?_; refine goesT_ (some 13) Try.func172 #[.slice A0 l0.length c0] ?_; (with_reducible refine (spec_quGood.calls k _ _ l0 true _ ?side1 ?side2 A5.out).mono ?_); (case side1 => exact tc_ HR0.out); (case side2 => exact HC0.out); rintro e w' ⟨rfl, ⟨nd, rfl⟩⟩; refine ⟨_, rfl, ?_⟩) | (go_at_call 137; (with_reducible refine (spec_l1In.calls a1 (-100) 100 false _ A7.out).mono ?_); rintro e w' ⟨rfl, ⟨nd, rfl⟩⟩))
    go_meet
    case rel => exact ⟨_, (true), tf_, H', ⟨by first | omega | exact Nat.le_refl _⟩, ⟨tb_⟩⟩
  ·
   replace c6 := Bool.eq_false_iff.mpr c6
   subst c6
   have H1 : (spec_ShiftQueens.j0 k l0 a1 a2 true) = some (r1, r2) := by rw [if_neg (show ¬ (false = true) by decide)] at H; exact H
   clear H
   have H := H1
   clear H1
   have H' := A_ H
   clear H
   go_wp2_with (first | (refine gc_ 172 ?_; refine goesT_ (some 13) Try.func172 #[.slice A0 l0.length c0] ?_; (with_reducible refine (spec_quGood.calls k _ _ l0 false _ ?side1 ?side2 A5.out).mono ?_); (case side1 => exact tc_ HR0.out); (case side2 => exact HC0.out); rintro e w' ⟨rfl, ⟨nd, rfl⟩⟩; refine ⟨_, rfl, ?_⟩))
   go_meet
   case rel => exact ⟨_, (true), tf_, H', ⟨by first | omega | exact Nat.le_refl _⟩, ⟨tb_⟩⟩
 case rest =>
  clear HC4
  try clear c1
  try clear p2
  try clear c5
  try clear c6
  try clear c8
  obtain ⟨kq, x24_3, rfl, HA, HJ3, HB⟩ := hcut
  cases kq with
  | zero => exact absurd HA.out (by simp [spec_ShiftQueens.j0])
  | succ kj3 =>
   have H := HA.out
   clear HA
   simp only [spec_ShiftQueens.j0] at H
   by_cases c10 : x24_3 = true
   ·
    subst c10
    have H1 : (some (([] : List Int), false)) = some (r1, r2) := by rw [if_pos rfl] at H; exact H
    clear H
    have H := H1
    clear H1
    simp only [Option.some.injEq, Prod.mk.injEq] at H
    obtain ⟨rfl, rfl⟩ := H
    go_wp2
    go_ret2
    exact ⟨_, te_, by first | exact Kd.R_nil _ _ _ _ _ | exact Kd.N_nil _ _ _ _ _ | exact Kd.V_nil _ _ _ _ _ | exact Kd.Q_nil _ _ _ _ _ | exact Kd.S_nil _ _ _ _ _, tb_⟩
   ·
    replace c10 := Bool.eq_false_iff.mpr c10
    subst c10
    have H1 : (if 0 ≤ (l0.length : Int) then (if ((l0.length : Int) : Int).toNat ≤ 35184372088832 then (spec_ShiftQueens.l0 kj3 a1 a2 (l0.length : Int) (List.replicate ((l0.length : Int) : Int).toNat 0) l0 (l0.length : Int) 0) else (none)) else (none)) = some (r1, r2) := by rw [if_neg (show ¬ (false = true) by decide)] at H; exact H
    clear H
    have H := H1
    clear H1
    by_cases c11 : 0 ≤ (l0.length : Int)
    ·
     rw [if_pos c11] at H
     have c11b0 := eq_true c11
     have c11b1 := decide_eq_true c11
     clear c11
     by_cases c12 : ((l0.length : Int) : Int).toNat ≤ 35184372088832
     ·
      rw [if_pos c12] at H
      have c12b0 := eq_true c12
      have c12b1 := decide_eq_true c12
      clear c12
      obtain ⟨y1034, hy1034⟩ : ∃ y_ : List Int, y_ = (List.replicate ((l0.length : Int) : Int).toNat 0) := ⟨_, rfl⟩
      replace H : (spec_ShiftQueens.l0 kj3 a1 a2 (l0.length : Int) y1034 l0 (l0.length : Int) 0) = some (r1, r2) := ty_ hy1034 H
      have Ny1034 := A_ hy1034
      clear hy1034
      have H' := A_ H
      clear H
      go_wp2_with (first | (refine gd_ 28 ?_; refine Kd.R_make (Kd.int .i64) _ 3 rfl (N := 28) rfl 22 _ _ rfl (l0.length : Int) rfl rfl Try.underlying22 (.int .i64 0) 8 info3 rfl (by decide) (by omega) 0 (ok := fun _ => True) (okp := fun _ => True) rfl (fun _ hk => hk) trivial (od_) (Nat.le_trans (Nat.mul_le_mul_right _ (od_ : (l0.length : Int).toNat ≤ 35184372088832)) (by omega)) (Below.refl _ _) (Nat.le_refl _) ?_; intro v1035 w13 ho14 hb hg_ hnew_; clear hg_ hnew_; (first | rw [← Ny1034.out] at ho14 | (simp only [Int.reduceToNat] at ho14; rw [← Ny1034.out] at ho14)); have HO1036 := A_ (Kd.R_lower ho14 (below_size tb_)); replace HB := A_ (below_step tb_ hb); clear hb ho14))
      go_loopg [31] kj3 (fun kq v31 w' => ∃ (x9_2 : List Int) (x31_2 : Int), v31 = .int .i64 x31_2 ∧ Aside0 (spec_ShiftQueens.l0 kq a1 a2 (l0.length : Int) x9_2 l0 (l0.length : Int) x31_2 = some (r1, r2)) ∧ Aside0 (kq ≤ kj3) ∧ Aside0 (Kd.R (Kd.int .i64) 3 w' w.heap.size (fun _ => True) v1035 x9_2) ∧ Aside0 (Below w.heap.size w w'))
      case atStart => exact ⟨(y1034), (0), tf_, H', ⟨Nat.le_refl _⟩, ⟨tr_x HO1036.out⟩, ⟨tb_⟩⟩
      case round =>
       clear H'
       try clear c1
       try clear p2
       try clear c5
       try clear c6
       try clear c8
       try clear c10
       try clear c11
       try clear c11b0
       try clear c11b1
       try clear c12
       try clear c12b0
       try clear c12b1
       try clear p2
       obtain ⟨x9_2, x31_2, rfl, HA, HK2, HO_9, HB⟩ := hrel
       cases gk with
       | zero => exact absurd HA.out (by simp [spec_ShiftQueens.l0])
       | succ k2 =>
        have H := HA.out
        clear HA
        simp only [spec_ShiftQueens.l0] at H
        by_cases c15 : x31_2 < (l0.length : Int)
        ·
         rw [if_pos c15] at H
         have c15b0 := decide_eq_true c15
         clear c15
         by_cases c16 : 0 ≤ x31_2
         ·
          rw [if_pos c16] at H
          have c16b0 := decide_eq_true c16
          clear c16
          by_cases c17 : x31_2 < (l0.length : Int)
          ·
           rw [if_pos c17] at H
           have c17b0 := decide_eq_true c17
           clear c17
           replace H := Option.bind_eq_some_iff.mp H
           obtain ⟨t1038, A180, H⟩ := H
           replace H : ((spec_quMod.f (wrap64 ((rd l0 x31_2) + a2)) (l0.length : Int)).bind fun t1039 => (if 0 ≤ t1038 then (if t1038 < (x9_2.length : Int) then (spec_ShiftQueens.l0 k2 a1 a2 (l0.length : Int) (x9_2.set (t1038 : Int).toNat t1039) l0 (l0.length : Int) (wrap64 (x31_2 + 1))) else (none)) else (none))) = some (r1, r2) := H
           have A18 := A_ A180
           clear A180
           replace H := Option.bind_eq_some_iff.mp H
           obtain ⟨t1039, A190, H⟩ := H
           replace H : (if 0 ≤ t1038 then (if t1038 < (x9_2.length : Int) then (spec_ShiftQueens.l0 k2 a1 a2 (l0.length : Int) (x9_2.set (t1038 : Int).toNat t1039) l0 (l0.length : Int) (wrap64 (x31_2 + 1))) else (none)) else (none)) = some (r1, r2) := H
           have A19 := A_ A190
           clear A190
           by_cases c20 : 0 ≤ t1038
           ·
            rw [if_pos c20] at H
            have c20b0 := decide_eq_true c20
            clear c20
            by_cases c21 : t1038 < (x9_2.length : Int)
            ·
             rw [if_pos c21] at H
             have c21b0 := decide_eq_true c21
             clear c21
             obtain ⟨y1040, hy1040⟩ : ∃ y_ : List Int, y_ = (x9_2.set (t1038 : Int).toNat t1039) := ⟨_, rfl⟩
             replace H : (spec_ShiftQueens.l0 k2 a1 a2 (l0.length : Int) y1040 l0 (l0.length : Int) (wrap64 (x31_2 + 1))) = some (r1, r2) := ty_ hy1040 H
             have Ny1040 := A_ hy1040
             clear hy1040
             have H' := A_ H
             clear H
             have p1037 : 0 ≤ (x31_2 : Int) := od_
             have q1037 : x31_2 < (l0.length : Int) := od_
             obtain ⟨ad1037, e1037, hx1037_0⟩ := Kd.at_int HR0.out x31_2 p1037 q1037
             cases e1037
             (try replace hx1037_0 := (HB.out.cell (World.block_lt_of_cell? w _ hx1037_0)).trans hx1037_0)
             replace p1037 := eq_true p1037
             replace q1037 := eq_true q1037
             go_wp2_with (first | (refine gc_ 173 ?_; refine goesT_ (some 41) Try.func173 #[.int .i64 (wrap64 (x31_2 + a1)), .int .i64 (l0.length : Int)] ?_; (with_reducible refine (spec_quMod.calls (wrap64 (x31_2 + a1)) (l0.length : Int) t1038 _ A18.out).mono ?_); rintro e w' ⟨rfl, ⟨nd, rfl⟩⟩; refine ⟨_, rfl, ?_⟩; (try (rw [drewN_self wr]; generalize hq_ : World.drewN wr _ = wr; have n0_ : Aside0 (Kd.R (Kd.int .i64) 3 wr w.heap.size (fun _ => True) v1035 x9_2) := ⟨by rw [← hq_]; exact (tr_x HO_9.out)⟩; have n1_ : Aside0 (Below w.heap.size w wr) := ⟨by rw [← hq_]; exact tb_⟩; clear HO_9 HB hq_; have HO_9 := n0_; have HB := n1_; clear n0_ n1_))) | (refine gc_ 173 ?_; refine goesT_ (some 46) Try.func173 #[.int .i64 (wrap64 ((rd l0 x31_2) + a2)), .int .i64 (l0.length : Int)] ?_; (with_reducible refine (spec_quMod.calls (wrap64 ((rd l0 x31_2) + a2)) (l0.length : Int) t1039 _ A19.out).mono ?_); rintro e w' ⟨rfl, ⟨nd, rfl⟩⟩; refine ⟨_, rfl, ?_⟩; (try (rw [drewN_self wr]; generalize hq_ : World.drewN wr _ = wr; have n0_ : Aside0 (Kd.R (Kd.int .i64) 3 wr w.heap.size (fun _ => True) v1035 x9_2) := ⟨by rw [← hq_]; exact (tr_x HO_9.out)⟩; have n1_ : Aside0 (Below w.heap.size w wr) := ⟨by rw [← hq_]; exact tb_⟩; clear HO_9 HB hq_; have HO_9 := n0_; have HB := n1_; clear n0_ n1_)); have p22 : 0 ≤ (t1038 : Int) := od_; have q22 : (t1038 : Int) < ((x9_2.length : Int) : Int) := od_; obtain ⟨go22, co22, eo22, gb22, gl22, cl22, HG22⟩ := Kd.R_form HO_9.out (by omega); (first | cases eo22 | (injection eo22 with ea_ en_ ec_; (first | subst ea_ | (injection ea_ with ea_; subst ea_)); subst ec_; clear en_)); have GB22 := A_ gb22; have GG22 := A_ HG22; clear gb22 gl22 HG22; obtain ⟨hx22_0, hf22_0⟩ := Kd.R_celln 0 HO_9.out (t1038 : Int) p22 q22; replace p22 := eq_true p22; replace q22 := eq_true q22; obtain ⟨hy23_, hz23_⟩ := Kd.R_celln 0 HO_9.out (t1038 : Int) (od_) (od_); have HP23 := Kd.R_putg HO_9.out (t1038 : Int) t1039) | ((with_reducible refine gate_store (t := 3) (p := 47) rfl ?_); refine store_event (t := 3) (p := 47) (v := ?vo_w24) (w1 := (wr.setCell ⟨go22, (t1038 : Int).toNat, none⟩ (.int .i64 t1039))) ?hg ?ho ?hn ?hr ?_; (case ho => rfl); (case hg => rfl); (case hn => rfl); (case hr => first | (go_simp; done) | (go_simp; rfl)); intro w24 hw; have hg : wr.grownBy w24 (some go22) := (by rw [hw]; exact HP23.2); have hp_ : Kd.R (Kd.int .i64) 3 w24 w.heap.size (fun _ => True) (.slice (some ⟨go22, 0, none⟩) x9_2.length co22) y1040 := (by rw [hw, Ny1040.out]; exact HP23.1); clear HP23; replace HO_9 := A_ (hp_); replace HB := A_ ((by rw [hw]; exact below_set (HB.out) GB22.out : Below w.heap.size w w24)); clear hg hw hp_))
             go_roundg k2
             case measure => have := HJ3.out; have := HK2.out; omega
             case rel => exact ⟨(y1040), (wrap64 (x31_2 + 1)), tf_, H', ⟨by have := HJ3.out; have := HK2.out; omega⟩, ⟨tr_x HO_9.out⟩, ⟨tb_⟩⟩
            ·
             rw [if_neg c21] at H
             exact absurd H (by simp)
           ·
            rw [if_neg c20] at H
            exact absurd H (by simp)
          ·
           rw [if_neg c17] at H
           exact absurd H (by simp)
         ·
          rw [if_neg c16] at H
          exact absurd H (by simp)
        ·
         rw [if_neg c15] at H
         have c15b0 := decide_eq_false c15
         clear c15
         simp only [Option.some.injEq, Prod.mk.injEq] at H
         obtain ⟨rfl, rfl⟩ := H
         go_wp2
         go_ret2
         exact ⟨_, te_, tr_x HO_9.out, tb_⟩
     ·
      rw [if_neg c12] at H
      exact absurd H (by simp)
    ·
     rw [if_neg c11] at H
     exact absurd H (by simp)

end
end Go.Proofs.Ytnpacpdpgngdpaa.P
