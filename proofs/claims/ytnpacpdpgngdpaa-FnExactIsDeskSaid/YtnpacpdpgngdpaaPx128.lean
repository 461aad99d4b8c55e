-- printed by wip/hprint.py of this session (the kit's print.py, patched in memory)
import Derived.Test.YtnpacpdpgngdpaaPx0
import Derived.Test.YtnpacpdpgngdpaaPx118
import Derived.Test.YtnpacpdpgngdpaaPx122
import Derived.Test.YtnpacpdpgngdpaaPx123
import Derived.Test.YtnpacpdpgngdpaaPx126
import Derived.Test.YtnpacpdpgngdpaaPx127
namespace Go.Proofs.Ytnpacpdpgngdpaa.P
noncomputable section
set_option maxHeartbeats 8000000
set_option maxRecDepth 100000
open Go.RowKit Go.Proofs.YtnpacpdpgngdpaaW.PrintWords Go.Proofs.YtnpacpdpgngdpaaW.PrintLast Go.Proofs.YtnpacpdpgngdpaaW.PrintMore
attribute [local go_sem] max2_int min2_int max_two min_two max_three min_three max_four min_four   -- for this text's walks alone
set_option linter.unusedVariables false
set_option linter.unusedSimpArgs false

/-! ### laws_FnExactIsDesk: function 10 -/
def laws_FnExactIsDesk.f (k : Nat) (a0_0 : Int) (a0_1 : Int) (l0_2 : List Int) (l0_3 : List Int) : Option (Bool) := (laws_szDesk.f a0_0 a0_1 l0_2 l0_3 1048576).bind fun t758 => (if t758 < 0 then (some true) else ((laws_toDesk.f k a0_0 a0_1 l0_2 l0_3).bind fun bt759 => ((spec_IsDesk.f k bt759.1 bt759.2.1 bt759.2.2.1 bt759.2.2.2).bind fun t767 => ((laws_toDesk.f k a0_0 a0_1 l0_2 l0_3).bind fun bt768 => ((impl_IsDesk.f k bt768.1 bt768.2.1 bt768.2.2.1 bt768.2.2.2).bind fun t777 => (if (t777 != t767) = true then (some false) else ((laws_toDesk.f k a0_0 a0_1 l0_2 l0_3).bind fun bt778 => ((laws_eqDesk.f k bt768.1 bt768.2.1 bt768.2.2.1 bt768.2.2.2 bt778.1 bt778.2.1 bt778.2.2.1 bt778.2.2.2).bind fun t786 => (if t786 = true then (some true) else (some false))))))))))
theorem laws_FnExactIsDesk.mono : ∀ a0 a1 a2 a3 k, LeO (laws_FnExactIsDesk.f k a0 a1 a2 a3) (laws_FnExactIsDesk.f (k + 1) a0 a1 a2 a3) := by
 intro a0 a1 a2 a3 k
 unfold laws_FnExactIsDesk.f
 repeat' first | (with_reducible first | exact impl_IsDesk.mono _ _ _ _ _ | exact laws_eqDesk.mono _ _ _ _ _ _ _ _ _ | exact laws_toDesk.mono _ _ _ _ _ | exact spec_IsDesk.mono _ _ _ _ _ | exact LeO.refl _ | exact LeO.none _ | refine LeO.ite ?_ ?_ | refine LeO.bind ?_ (fun _ => ?_)) | exact impl_IsDesk.mono _ _ _ _ _ | exact laws_eqDesk.mono _ _ _ _ _ _ _ _ _ | exact laws_toDesk.mono _ _ _ _ _ | exact spec_IsDesk.mono _ _ _ _ _ | exact LeO.none _ | refine LeO.ite ?_ ?_ | refine LeO.bind ?_ (fun _ => ?_)
theorem laws_FnExactIsDesk.calls (k : Nat) (a0_0 : Int) (a0_1 : Int) (A0_2 : Option Addr) (c0_2 : Nat) (l0_2 : List Int) (A0_3 : Option Addr) (c0_3 : Nat) (l0_3 : List Int) (r : Bool) (w : World) (hr0_2 : Kd.C (Kd.int .i64) w A0_2 l0_2.length l0_2) (hc0_2 : l0_2.length ≤ c0_2) (hr0_3 : Kd.C (Kd.int .i64) w A0_3 l0_3.length l0_3) (hc0_3 : l0_3.length ≤ c0_3) (h : laws_FnExactIsDesk.f k a0_0 a0_1 l0_2 l0_3 = some r) :
  Calls Try.prog 10 #[.agg #[.int .i64 a0_0, .int .i64 a0_1, .slice A0_2 l0_2.length c0_2, .slice A0_3 l0_3.length c0_3]] w fun e w' => e = .returned (.bool r) ∧ Below w.heap.size w w' := by
 have hu53 := Try.underlying53
 have hu57 := Try.underlying57
 have HR0_2 := A_ hr0_2
 have HC0_2 := A_ hc0_2
 clear hr0_2 hc0_2
 have HR0_3 := A_ hr0_3
 have HC0_3 := A_ hc0_3
 clear hr0_3 hc0_3
 have HB := A_ (Below.refl w.heap.size w)
 have H : ((laws_szDesk.f a0_0 a0_1 l0_2 l0_3 1048576).bind fun t758 => (if t758 < 0 then (some true) else ((laws_toDesk.f k a0_0 a0_1 l0_2 l0_3).bind fun bt759 => ((spec_IsDesk.f k bt759.1 bt759.2.1 bt759.2.2.1 bt759.2.2.2).bind fun t767 => ((laws_toDesk.f k a0_0 a0_1 l0_2 l0_3).bind fun bt768 => ((impl_IsDesk.f k bt768.1 bt768.2.1 bt768.2.2.1 bt768.2.2.2).bind fun t777 => (if (t777 != t767) = true then (some false) else ((laws_toDesk.f k a0_0 a0_1 l0_2 l0_3).bind fun bt778 => ((laws_eqDesk.f k bt768.1 bt768.2.1 bt768.2.2.1 bt768.2.2.2 bt778.1 bt778.2.1 bt778.2.2.1 bt778.2.2.2).bind fun t786 => (if t786 = true then (some true) else (some false))))))))))) = some r := h
 clear h
 replace H := Option.bind_eq_some_iff.mp H
 obtain ⟨t758, A20, H⟩ := H
 replace H : (if t758 < 0 then (some true) else ((laws_toDesk.f k a0_0 a0_1 l0_2 l0_3).bind fun bt759 => ((spec_IsDesk.f k bt759.1 bt759.2.1 bt759.2.2.1 bt759.2.2.2).bind fun t767 => ((laws_toDesk.f k a0_0 a0_1 l0_2 l0_3).bind fun bt768 => ((impl_IsDesk.f k bt768.1 bt768.2.1 bt768.2.2.1 bt768.2.2.2).bind fun t777 => (if (t777 != t767) = true then (some false) else ((laws_toDesk.f k a0_0 a0_1 l0_2 l0_3).bind fun bt778 => ((laws_eqDesk.f k bt768.1 bt768.2.1 bt768.2.2.1 bt768.2.2.2 bt778.1 bt778.2.1 bt778.2.2.1 bt778.2.2.2).bind fun t786 => (if t786 = true then (some true) else (some false)))))))))) = some r := H
 have A2 := A_ A20
 clear A20
 by_cases c3 : t758 < 0
 ·
  rw [if_pos c3] at H
  have c3b0 := decide_eq_true c3
  clear c3
  obtain rfl := Option.some.inj H
  go_enter Try.func10, Try.ntmps10
  go_wp2_with (first | (refine gd_ 1 ?_; refine bx_ 1 #[.int .i64 a0_0, .int .i64 a0_1, .slice A0_2 l0_2.length c0_2, .slice A0_3 l0_3.length c0_3] 53 ?_; intro gb757 hg w4 hbox hb; have BK757 := A_ (hbox); have GW757 := A_ ((ts_ hg : w.heap.size ≤ gb757)); have GE757 := A_ ((ts_ hg : w.heap.size ≤ gb757)); replace HB := A_ (below_step tb_ hb); clear hb hbox hg; obtain ⟨hcz5_0, hcz5_1, hcz5_2, hcz5_3, hfz5_0, hfz5_1, hfz5_2, hfz5_3⟩ := cf4_ BK757.out) | (refine gc_ 42 ?_; refine goesT_ (some 9) Try.func42 #[.agg #[.int .i64 a0_0, .int .i64 a0_1, .slice A0_2 l0_2.length c0_2, .slice A0_3 l0_3.length c0_3], .int .i64 1048576] ?_; (with_reducible refine (laws_szDesk.calls a0_0 a0_1 _ _ l0_2 _ _ l0_3 1048576 t758 _ ?side1 ?side2 ?side3 ?side4 A2.out).mono ?_); (case side1 => exact tc_ HR0_2.out); (case side2 => exact HC0_2.out); (case side3 => exact tc_ HR0_3.out); (case side4 => exact HC0_3.out); rintro e w6 ⟨rfl, hb⟩; refine ⟨_, rfl, ?_⟩; replace BK757 := A_ (blk_below (g := gb757) (o := .cells #[.int .i64 a0_0, .int .i64 a0_1, .slice A0_2 l0_2.length c0_2, .slice A0_3 l0_3.length c0_3] 53 (0, 0)) (tk_ BK757) hb); replace HB := A_ (below_step tb_ hb); (try clear hb)))
  go_ret
  exact ⟨te_, tb_⟩
 ·
  rw [if_neg c3] at H
  have c3b0 := decide_eq_false c3
  clear c3
  replace H := Option.bind_eq_some_iff.mp H
  obtain ⟨⟨t759, t760, t761, t764⟩, A70, H⟩ := H
  replace H : ((spec_IsDesk.f k t759 t760 t761 t764).bind fun t767 => ((laws_toDesk.f k a0_0 a0_1 l0_2 l0_3).bind fun bt768 => ((impl_IsDesk.f k bt768.1 bt768.2.1 bt768.2.2.1 bt768.2.2.2).bind fun t777 => (if (t777 != t767) = true then (some false) else ((laws_toDesk.f k a0_0 a0_1 l0_2 l0_3).bind fun bt778 => ((laws_eqDesk.f k bt768.1 bt768.2.1 bt768.2.2.1 bt768.2.2.2 bt778.1 bt778.2.1 bt778.2.2.1 bt778.2.2.2).bind fun t786 => (if t786 = true then (some true) else (some false)))))))) = some r := H
  have A7 := A_ A70
  clear A70
  replace H := Option.bind_eq_some_iff.mp H
  obtain ⟨t767, A80, H⟩ := H
  replace H : ((laws_toDesk.f k a0_0 a0_1 l0_2 l0_3).bind fun bt768 => ((impl_IsDesk.f k bt768.1 bt768.2.1 bt768.2.2.1 bt768.2.2.2).bind fun t777 => (if (t777 != t767) = true then (some false) else ((laws_toDesk.f k a0_0 a0_1 l0_2 l0_3).bind fun bt778 => ((laws_eqDesk.f k bt768.1 bt768.2.1 bt768.2.2.1 bt768.2.2.2 bt778.1 bt778.2.1 bt778.2.2.1 bt778.2.2.2).bind fun t786 => (if t786 = true then (some true) else (some false))))))) = some r := H
  have A8 := A_ A80
  clear A80
  replace H := Option.bind_eq_some_iff.mp H
  obtain ⟨⟨t768, t769, t770, t773⟩, A90, H⟩ := H
  replace H : ((impl_IsDesk.f k t768 t769 t770 t773).bind fun t777 => (if (t777 != t767) = true then (some false) else ((laws_toDesk.f k a0_0 a0_1 l0_2 l0_3).bind fun bt778 => ((laws_eqDesk.f k t768 t769 t770 t773 bt778.1 bt778.2.1 bt778.2.2.1 bt778.2.2.2).bind fun t786 => (if t786 = true then (some true) else (some false)))))) = some r := H
  have A9 := A_ A90
  clear A90
  replace H := Option.bind_eq_some_iff.mp H
  obtain ⟨t777, A100, H⟩ := H
  replace H : (if (t777 != t767) = true then (some false) else ((laws_toDesk.f k a0_0 a0_1 l0_2 l0_3).bind fun bt778 => ((laws_eqDesk.f k t768 t769 t770 t773 bt778.1 bt778.2.1 bt778.2.2.1 bt778.2.2.2).bind fun t786 => (if t786 = true then (some true) else (some false))))) = some r := H
  have A10 := A_ A100
  clear A100
  by_cases c11 : (t777 != t767) = true
  ·
   rw [if_pos c11] at H
   have c11b0 : (t777 != t767) = true := c11
   (try (have c11b1 : decide (t777 = t767) = false := by simpa using c11))
   (try (have c11b2 : (t777 == t767) = false := by simpa using c11))
   (try (have c11b3 : ¬ (t777 = t767) := by simpa using c11))
   clear c11
   obtain rfl := Option.some.inj H
   go_enter Try.func10, Try.ntmps10
   go_wp2_with (first | (refine gd_ 1 ?_; refine bx_ 1 #[.int .i64 a0_0, .int .i64 a0_1, .slice A0_2 l0_2.length c0_2, .slice A0_3 l0_3.length c0_3] 53 ?_; intro gb757 hg w12 hbox hb; have BK757 := A_ (hbox); have GW757 := A_ ((ts_ hg : w.heap.size ≤ gb757)); have GE757 := A_ ((ts_ hg : w.heap.size ≤ gb757)); replace HB := A_ (below_step tb_ hb); clear hb hbox hg; obtain ⟨hcz13_0, hcz13_1, hcz13_2, hcz13_3, hfz13_0, hfz13_1, hfz13_2, hfz13_3⟩ := cf4_ BK757.out) | (refine gc_ 42 ?_; refine goesT_ (some 9) Try.func42 #[.agg #[.int .i64 a0_0, .int .i64 a0_1, .slice A0_2 l0_2.length c0_2, .slice A0_3 l0_3.length c0_3], .int .i64 1048576] ?_; (with_reducible refine (laws_szDesk.calls a0_0 a0_1 _ _ l0_2 _ _ l0_3 1048576 t758 _ ?side1 ?side2 ?side3 ?side4 A2.out).mono ?_); (case side1 => exact tc_ HR0_2.out); (case side2 => exact HC0_2.out); (case side3 => exact tc_ HR0_3.out); (case side4 => exact HC0_3.out); rintro e w14 ⟨rfl, hb⟩; refine ⟨_, rfl, ?_⟩; replace BK757 := A_ (blk_below (g := gb757) (o := .cells #[.int .i64 a0_0, .int .i64 a0_1, .slice A0_2 l0_2.length c0_2, .slice A0_3 l0_3.length c0_3] 53 (0, 0)) (tk_ BK757) hb); replace HB := A_ (below_step tb_ hb); (try clear hb); obtain ⟨hcz15_0, hcz15_1, hcz15_2, hcz15_3, hfz15_0, hfz15_1, hfz15_2, hfz15_3⟩ := cf4_ BK757.out) | (refine gc_ 44 ?_; refine goesT_ (some 13) Try.func44 #[.agg #[.int .i64 a0_0, .int .i64 a0_1, .slice A0_2 l0_2.length c0_2, .slice A0_3 l0_3.length c0_3]] ?_; (with_reducible refine (laws_toDesk.calls k a0_0 a0_1 _ _ l0_2 _ _ l0_3 t759 t760 t761 t764 _ ?side1 ?side2 ?side3 ?side4 A7.out).mono ?_); (case side1 => exact tc_ HR0_2.out); (case side2 => exact HC0_2.out); (case side3 => exact tc_ HR0_3.out); (case side4 => exact HC0_3.out); rintro e w16 ⟨v762, v765, rfl, ho0, ho1, hb⟩; refine ⟨_, rfl, ?_⟩; have HO763 := A_ (Kd.R_lower ho0 (below_size tb_)); have HO766 := A_ (Kd.R_lower ho1 (below_size tb_)); replace BK757 := A_ (blk_below (g := gb757) (o := .cells #[.int .i64 a0_0, .int .i64 a0_1, .slice A0_2 l0_2.length c0_2, .slice A0_3 l0_3.length c0_3] 53 (0, 0)) (tk_ BK757) hb); replace HB := A_ (below_step tb_ hb); (try clear hb); (try clear ho0); (try clear ho1); obtain ⟨Ao17, co17, eo17⟩ := Kd.R_slice HO763.out; subst eo17; obtain ⟨Ao18, co18, eo18⟩ := Kd.R_slice HO766.out; subst eo18) | (refine gc_ 43 ?_; refine goesT_ (some 14) Try.func43 #[.agg #[.int .i64 t759, .int .i64 t760, .slice Ao17 t761.length co17, .slice Ao18 t764.length co18]] ?_; (with_reducible refine (spec_IsDesk.calls k t759 t760 _ _ t761 _ _ t764 t767 _ ?side1 ?side2 ?side3 ?side4 A8.out).mono ?_); (case side1 => exact tc0_ (Kd.R_reads' HO763.out).2.2); (case side2 => exact (Kd.R_reads' HO763.out).2.1); (case side3 => exact tc0_ (Kd.R_reads' HO766.out).2.2); (case side4 => exact (Kd.R_reads' HO766.out).2.1); rintro e w19 ⟨rfl, hb⟩; refine ⟨_, rfl, ?_⟩; replace HO763 := A_ (Kd.R_below (tr_x HO763.out) hb); replace HO766 := A_ (Kd.R_below (tr_x HO766.out) hb); replace BK757 := A_ (blk_below (g := gb757) (o := .cells #[.int .i64 a0_0, .int .i64 a0_1, .slice A0_2 l0_2.length c0_2, .slice A0_3 l0_3.length c0_3] 53 (0, 0)) (tk_ BK757) hb); replace HB := A_ (below_step tb_ hb); (try clear hb); obtain ⟨hcz20_0, hcz20_1, hcz20_2, hcz20_3, hfz20_0, hfz20_1, hfz20_2, hfz20_3⟩ := cf4_ BK757.out) | (refine gc_ 44 ?_; refine goesT_ (some 16) Try.func44 #[.agg #[.int .i64 a0_0, .int .i64 a0_1, .slice A0_2 l0_2.length c0_2, .slice A0_3 l0_3.length c0_3]] ?_; (with_reducible refine (laws_toDesk.calls k a0_0 a0_1 _ _ l0_2 _ _ l0_3 t768 t769 t770 t773 _ ?side1 ?side2 ?side3 ?side4 A9.out).mono ?_); (case side1 => exact tc_ HR0_2.out); (case side2 => exact HC0_2.out); (case side3 => exact tc_ HR0_3.out); (case side4 => exact HC0_3.out); rintro e w21 ⟨v771, v774, rfl, ho0, ho1, hb⟩; refine ⟨_, rfl, ?_⟩; have HO772 := A_ (Kd.R_lower (Kd.R_new' (Kd.R_new' ho0 (Kd.R_lt (tr_x HO763.out))) (Kd.R_lt (tr_x HO766.out))) (below_size tb_)); have HO775 := A_ (Kd.R_lower (Kd.R_new' (Kd.R_new' ho1 (Kd.R_lt (tr_x HO763.out))) (Kd.R_lt (tr_x HO766.out))) (below_size tb_)); replace HO763 := A_ (Kd.R_mono (Kd.R_told (Kd.R_told (Kd.R_old (tr_x HO763.out) hb) (Kd.R_base ho0)) (Kd.R_base ho1)) (fun _ h_ => h_.1)); replace HO766 := A_ (Kd.R_mono (Kd.R_told (Kd.R_told (Kd.R_old (tr_x HO766.out) hb) (Kd.R_base ho0)) (Kd.R_base ho1)) (fun _ h_ => h_.1)); replace BK757 := A_ (blk_below (g := gb757) (o := .cells #[.int .i64 a0_0, .int .i64 a0_1, .slice A0_2 l0_2.length c0_2, .slice A0_3 l0_3.length c0_3] 53 (0, 0)) (tk_ BK757) hb); replace HB := A_ (below_step tb_ hb); (try clear hb); (try clear ho0); (try clear ho1)) | (refine gd_ 5 ?_; refine bx_ 5 #[.int .i64 0, .int .i64 0, .slice none 0 0, .slice none 0 0] 57 ?_; intro gb776 hg w22 hbox hb; replace HO763 := A_ (Kd.R_below (tr_x HO763.out) hb); replace HO766 := A_ (Kd.R_below (tr_x HO766.out) hb); replace HO772 := A_ (Kd.R_below (tr_x HO772.out) hb); replace HO775 := A_ (Kd.R_below (tr_x HO775.out) hb); have BK776 := A_ (hbox); have GW776 := A_ ((ts_ hg : w.heap.size ≤ gb776)); have GE776 := A_ ((ts_ hg : w.heap.size ≤ gb776)); replace HB := A_ (below_step tb_ hb); have NB757_776 := A_ ((by rw [hg]; exact Nat.ne_of_lt (blk_lt (g := gb757) (o := .cells #[.int .i64 a0_0, .int .i64 a0_1, .slice A0_2 l0_2.length c0_2, .slice A0_3 l0_3.length c0_3] 53 (0, 0)) (tk_ BK757)) : gb757 ≠ gb776)); have NB776_757 := A_ ((by rw [hg]; exact Nat.ne_of_gt (blk_lt (g := gb757) (o := .cells #[.int .i64 a0_0, .int .i64 a0_1, .slice A0_2 l0_2.length c0_2, .slice A0_3 l0_3.length c0_3] 53 (0, 0)) (tk_ BK757)) : gb776 ≠ gb757)); replace BK757 := A_ (blk_below (g := gb757) (o := .cells #[.int .i64 a0_0, .int .i64 a0_1, .slice A0_2 l0_2.length c0_2, .slice A0_3 l0_3.length c0_3] 53 (0, 0)) (tk_ BK757) hb); clear hb hbox hg; have hnb23 := NB776_757.out; have hnc23 := NB757_776.out; obtain ⟨hcz24_0, hcz24_1, hcz24_2, hcz24_3, hfz24_0, hfz24_1, hfz24_2, hfz24_3⟩ := cf4_ BK776.out; obtain ⟨Ao25, co25, eo25⟩ := Kd.R_slice HO772.out; subst eo25; obtain ⟨Ao26, co26, eo26⟩ := Kd.R_slice HO775.out; subst eo26) | (refine gc_ 45 ?_; refine goesT_ (some 18) Try.func45 #[.agg #[.int .i64 t768, .int .i64 t769, .slice Ao25 t770.length co25, .slice Ao26 t773.length co26]] ?_; (with_reducible refine (impl_IsDesk.calls k t768 t769 _ _ t770 _ _ t773 t777 _ ?side1 ?side2 ?side3 ?side4 A10.out).mono ?_); (case side1 => refine (Kd.R_reads' (e := 3) (base := w.heap.size) (ok := fun k_ => ((some k_ ≠ (.slice Ao26 t773.length co26 : Value).ownBlock ∧ some k_ ≠ (.slice Ao17 t761.length co17 : Value).ownBlock) ∧ some k_ ≠ (.slice Ao18 t764.length co18 : Value).ownBlock)) (n := t770.length) (c := co25) ?_).2.2; exact (tr_ (h := by exact (Kd.R_mono (Kd.R_far (p := ⟨gb776, 3, none⟩) (Kd.R_far (p := ⟨gb776, 2, none⟩) (Kd.R_far (p := ⟨gb776, 1, none⟩) (Kd.R_far (p := ⟨gb776, 0, none⟩) (Kd.R_types HO772.out BK776.out (by decide)) (fun _ hk => hk.2) (.int .i64 t768)) (fun _ hk => hk.2) (.int .i64 t769)) (fun _ hk => hk.2) (.slice Ao25 t770.length co25)) (fun _ hk => hk.2) (.slice Ao26 t773.length co26)) (fun _ h_ => h_.1))))); (case side2 => exact (Kd.R_reads' HO772.out).2.1); (case side3 => refine (Kd.R_reads' (e := 3) (base := w.heap.size) (ok := fun k_ => ((some k_ ≠ (.slice Ao25 t770.length co25 : Value).ownBlock ∧ some k_ ≠ (.slice Ao17 t761.length co17 : Value).ownBlock) ∧ some k_ ≠ (.slice Ao18 t764.length co18 : Value).ownBlock)) (n := t773.length) (c := co26) ?_).2.2; exact (tr_ (h := by exact (Kd.R_mono (Kd.R_far (p := ⟨gb776, 3, none⟩) (Kd.R_far (p := ⟨gb776, 2, none⟩) (Kd.R_far (p := ⟨gb776, 1, none⟩) (Kd.R_far (p := ⟨gb776, 0, none⟩) (Kd.R_types HO775.out BK776.out (by decide)) (fun _ hk => hk.2) (.int .i64 t768)) (fun _ hk => hk.2) (.int .i64 t769)) (fun _ hk => hk.2) (.slice Ao25 t770.length co25)) (fun _ hk => hk.2) (.slice Ao26 t773.length co26)) (fun _ h_ => h_.1))))); (case side4 => exact (Kd.R_reads' HO775.out).2.1); rintro e w27 ⟨rfl, hb⟩; refine ⟨_, rfl, ?_⟩; replace HO763 := A_ (Kd.R_below (tr_ (h := by exact (Kd.R_mono (Kd.R_far (p := ⟨gb776, 3, none⟩) (Kd.R_far (p := ⟨gb776, 2, none⟩) (Kd.R_far (p := ⟨gb776, 1, none⟩) (Kd.R_far (p := ⟨gb776, 0, none⟩) (Kd.R_types HO763.out BK776.out (by decide)) (fun _ hk => hk.2) (.int .i64 t768)) (fun _ hk => hk.2) (.int .i64 t769)) (fun _ hk => hk.2) (.slice Ao25 t770.length co25)) (fun _ hk => hk.2) (.slice Ao26 t773.length co26)) (fun _ h_ => h_.1)))) hb); replace HO766 := A_ (Kd.R_below (tr_ (h := by exact (Kd.R_mono (Kd.R_far (p := ⟨gb776, 3, none⟩) (Kd.R_far (p := ⟨gb776, 2, none⟩) (Kd.R_far (p := ⟨gb776, 1, none⟩) (Kd.R_far (p := ⟨gb776, 0, none⟩) (Kd.R_types HO766.out BK776.out (by decide)) (fun _ hk => hk.2) (.int .i64 t768)) (fun _ hk => hk.2) (.int .i64 t769)) (fun _ hk => hk.2) (.slice Ao25 t770.length co25)) (fun _ hk => hk.2) (.slice Ao26 t773.length co26)) (fun _ h_ => h_.1)))) hb); replace HO772 := A_ (Kd.R_below (tr_ (h := by exact (Kd.R_mono (Kd.R_far (p := ⟨gb776, 3, none⟩) (Kd.R_far (p := ⟨gb776, 2, none⟩) (Kd.R_far (p := ⟨gb776, 1, none⟩) (Kd.R_far (p := ⟨gb776, 0, none⟩) (Kd.R_types HO772.out BK776.out (by decide)) (fun _ hk => hk.2) (.int .i64 t768)) (fun _ hk => hk.2) (.int .i64 t769)) (fun _ hk => hk.2) (.slice Ao25 t770.length co25)) (fun _ hk => hk.2) (.slice Ao26 t773.length co26)) (fun _ h_ => h_.1)))) hb); replace HO775 := A_ (Kd.R_below (tr_ (h := by exact (Kd.R_mono (Kd.R_far (p := ⟨gb776, 3, none⟩) (Kd.R_far (p := ⟨gb776, 2, none⟩) (Kd.R_far (p := ⟨gb776, 1, none⟩) (Kd.R_far (p := ⟨gb776, 0, none⟩) (Kd.R_types HO775.out BK776.out (by decide)) (fun _ hk => hk.2) (.int .i64 t768)) (fun _ hk => hk.2) (.int .i64 t769)) (fun _ hk => hk.2) (.slice Ao25 t770.length co25)) (fun _ hk => hk.2) (.slice Ao26 t773.length co26)) (fun _ h_ => h_.1)))) hb); replace BK757 := A_ (blk_below (g := gb757) (o := .cells #[.int .i64 a0_0, .int .i64 a0_1, .slice A0_2 l0_2.length c0_2, .slice A0_3 l0_3.length c0_3] 53 (0, 0)) (tk_ BK757) hb); replace BK776 := A_ (blk_below (g := gb776) (o := .cells #[.int .i64 t768, .int .i64 t769, .slice Ao25 t770.length co25, .slice Ao26 t773.length co26] 57 (0, 0)) (by (with_reducible repeat (first | refine blk_drewN ?_ _ | refine blk_drew ?_ | refine blk_alloc ?_ _)); refine blk_put (cs := #[.int .i64 t768, .int .i64 t769, .slice Ao25 t770.length co25, .slice none 0 0]) ?_ 3 _ rfl; (with_reducible repeat (first | refine blk_drewN ?_ _ | refine blk_drew ?_ | refine blk_alloc ?_ _)); refine blk_put (cs := #[.int .i64 t768, .int .i64 t769, .slice none 0 0, .slice none 0 0]) ?_ 2 _ rfl; (with_reducible repeat (first | refine blk_drewN ?_ _ | refine blk_drew ?_ | refine blk_alloc ?_ _)); refine blk_put (cs := #[.int .i64 t768, .int .i64 0, .slice none 0 0, .slice none 0 0]) ?_ 1 _ rfl; (with_reducible repeat (first | refine blk_drewN ?_ _ | refine blk_drew ?_ | refine blk_alloc ?_ _)); refine blk_put (cs := #[.int .i64 0, .int .i64 0, .slice none 0 0, .slice none 0 0]) ?_ 0 _ rfl; (with_reducible repeat (first | refine blk_drewN ?_ _ | refine blk_drew ?_ | refine blk_alloc ?_ _)); exact BK776.out) hb); replace HB := A_ (below_step tb_ hb); (try clear hb)))
   go_ret
   exact ⟨te_, tb_⟩
  ·
   rw [if_neg c11] at H
   have c11b0 : (t777 != t767) = false := by simpa using c11
   (try (have c11b1 : decide (t777 = t767) = true := by simpa using c11))
   (try (have c11b2 : (t777 == t767) = true := by simpa using c11))
   clear c11
   replace H := Option.bind_eq_some_iff.mp H
   obtain ⟨⟨t778, t779, t780, t783⟩, A280, H⟩ := H
   replace H : ((laws_eqDesk.f k t768 t769 t770 t773 t778 t779 t780 t783).bind fun t786 => (if t786 = true then (some true) else (some false))) = some r := H
   have A28 := A_ A280
   clear A280
   replace H := Option.bind_eq_some_iff.mp H
   obtain ⟨t786, A290, H⟩ := H
   replace H : (if t786 = true then (some true) else (some false)) = some r := H
   have A29 := A_ A290
   clear A290
   by_cases c30 : t786 = true
   ·
    subst c30
    have H1 : (some true) = some r := by rw [if_pos rfl] at H; exact H
    clear H
    have H := H1
    clear H1
    obtain rfl := Option.some.inj H
    go_enter Try.func10, Try.ntmps10
    try go_wp2_with (first | (refine gd_ 1 ?_; refine bx_ 1 #[.int .i64 a0_0, .int .i64 a0_1, .slice A0_2 l0_2.length c0_2, .slice A0_3 l0_3.length c0_3] 53 ?_; intro gb757 hg w31 hbox hb; have BK757 := A_ (hbox); have GW757 := A_ ((ts_ hg : w.heap.size ≤ gb757)); have GE757 := A_ ((ts_ hg : w.heap.size ≤ gb757)); replace HB := A_ (below_step tb_ hb); clear hb hbox hg; obtain ⟨hcz32_0, hcz32_1, hcz32_2, hcz32_3, hfz32_0, hfz32_1, hfz32_2, hfz32_3⟩ := cf4_ BK757.out) | (refine gc_ 42 ?_; refine goesT_ (some 9) Try.func42 #[.agg #[.int .i64 a0_0, .int .i64 a0_1, .slice A0_2 l0_2.length c0_2, .slice A0_3 l0_3.length c0_3], .int .i64 1048576] ?_; (with_reducible refine (laws_szDesk.calls a0_0 a0_1 _ _ l0_2 _ _ l0_3 1048576 t758 _ ?side1 ?side2 ?side3 ?side4 A2.out).mono ?_); (case side1 => exact tc_ HR0_2.out); (case side2 => exact HC0_2.out); (case side3 => exact tc_ HR0_3.out); (case side4 => exact HC0_3.out); rintro e w33 ⟨rfl, hb⟩; refine ⟨_, rfl, ?_⟩; replace BK757 := A_ (blk_below (g := gb757) (o := .cells #[.int .i64 a0_0, .int .i64 a0_1, .slice A0_2 l0_2.length c0_2, .slice A0_3 l0_3.length c0_3] 53 (0, 0)) (tk_ BK757) hb); replace HB := A_ (below_step tb_ hb); (try clear hb); obtain ⟨hcz34_0, hcz34_1, hcz34_2, hcz34_3, hfz34_0, hfz34_1, hfz34_2, hfz34_3⟩ := cf4_ BK757.out) | (refine gc_ 44 ?_; refine goesT_ (some 13) Try.func44 #[.agg #[.int .i64 a0_0, .int .i64 a0_1, .slice A0_2 l0_2.length c0_2, .slice A0_3 l0_3.length c0_3]] ?_; (with_reducible refine (laws_toDesk.calls k a0_0 a0_1 _ _ l0_2 _ _ l0_3 t759 t760 t761 t764 _ ?side1 ?side2 ?side3 ?side4 A7.out).mono ?_); (case side1 => exact tc_ HR0_2.out); (case side2 => exact HC0_2.out); (case side3 => exact tc_ HR0_3.out); (case side4 => exact HC0_3.out); rintro e w35 ⟨v762, v765, rfl, ho0, ho1, hb⟩; refine ⟨_, rfl, ?_⟩; have HO763 := A_ (Kd.R_lower ho0 (below_size tb_)); have HO766 := A_ (Kd.R_lower ho1 (below_size tb_)); replace BK757 := A_ (blk_below (g := gb757) (o := .cells #[.int .i64 a0_0, .int .i64 a0_1, .slice A0_2 l0_2.length c0_2, .slice A0_3 l0_3.length c0_3] 53 (0, 0)) (tk_ BK757) hb); replace HB := A_ (below_step tb_ hb); (try clear hb); (try clear ho0); (try clear ho1); obtain ⟨Ao36, co36, eo36⟩ := Kd.R_slice HO763.out; subst eo36; obtain ⟨Ao37, co37, eo37⟩ := Kd.R_slice HO766.out; subst eo37) | (refine gc_ 43 ?_; refine goesT_ (some 14) Try.func43 #[.agg #[.int .i64 t759, .int .i64 t760, .slice Ao36 t761.length co36, .slice Ao37 t764.length co37]] ?_; (with_reducible refine (spec_IsDesk.calls k t759 t760 _ _ t761 _ _ t764 t767 _ ?side1 ?side2 ?side3 ?side4 A8.out).mono ?_); (case side1 => exact tc0_ (Kd.R_reads' HO763.out).2.2); (case side2 => exact (Kd.R_reads' HO763.out).2.1); (case side3 => exact tc0_ (Kd.R_reads' HO766.out).2.2); (case side4 => exact (Kd.R_reads' HO766.out).2.1); rintro e w38 ⟨rfl, hb⟩; refine ⟨_, rfl, ?_⟩; replace HO763 := A_ (Kd.R_below (tr_x HO763.out) hb); replace HO766 := A_ (Kd.R_below (tr_x HO766.out) hb); replace BK757 := A_ (blk_below (g := gb757) (o := .cells #[.int .i64 a0_0, .int .i64 a0_1, .slice A0_2 l0_2.length c0_2, .slice A0_3 l0_3.length c0_3] 53 (0, 0)) (tk_ BK757) hb); replace HB := A_ (below_step tb_ hb); (try clear hb); obtain ⟨hcz39_0, hcz39_1, hcz39_2, hcz39_3, hfz39_0, hfz39_1, hfz39_2, hfz39_3⟩ := cf4_ BK757.out) | (refine gc_ 44 ?_; refine goesT_ (some 16) Try.func44 #[.agg #[.int .i64 a0_0, .int .i64 a0_1, .slice A0_2 l0_2.length c0_2, .slice A0_3 l0_3.length c0_3]] ?_; (with_reducible refine (laws_toDesk.calls k a0_0 a0_1 _ _ l0_2 _ _ l0_3 t768 t769 t770 t773 _ ?side1 ?side2 ?side3 ?side4 A9.out).mono ?_); (case side1 => exact tc_ HR0_2.out); (case side2 => exact HC0_2.out); (case side3 => exact tc_ HR0_3.out); (case side4 => exact HC0_3.out); rintro e w40 ⟨v771, v774, rfl, ho0, ho1, hb⟩; refine ⟨_, rfl, ?_⟩; have HO772 := A_ (Kd.R_lower (Kd.R_new' (Kd.R_new' ho0 (Kd.R_lt (tr_x HO763.out))) (Kd.R_lt (tr_x HO766.out))) (below_size tb_)); have HO775 := A_ (Kd.R_lower (Kd.R_new' (Kd.R_new' ho1 (Kd.R_lt (tr_x HO763.out))) (Kd.R_lt (tr_x HO766.out))) (below_size tb_)); replace HO763 := A_ (Kd.R_mono (Kd.R_told (Kd.R_told (Kd.R_old (tr_x HO763.out) hb) (Kd.R_base ho0)) (Kd.R_base ho1)) (fun _ h_ => h_.1)); replace HO766 := A_ (Kd.R_mono (Kd.R_told (Kd.R_told (Kd.R_old (tr_x HO766.out) hb) (Kd.R_base ho0)) (Kd.R_base ho1)) (fun _ h_ => h_.1)); replace BK757 := A_ (blk_below (g := gb757) (o := .cells #[.int .i64 a0_0, .int .i64 a0_1, .slice A0_2 l0_2.length c0_2, .slice A0_3 l0_3.length c0_3] 53 (0, 0)) (tk_ BK757) hb); replace HB := A_ (below_step tb_ hb); (try clear hb); (try clear ho0); (try clear ho1)) | (refine gd_ 5 ?_; refine bx_ 5 #[.int .i64 0, .int .i64 0, .slice none 0 0, .slice none 0 0] 57 ?_; intro gb776 hg w41 hbox hb; replace HO763 := A_ (Kd.R_below (tr_x HO763.out) hb); replace HO766 := A_ (Kd.R_below (tr_x HO766.out) hb); replace HO772 := A_ (Kd.R_below (tr_x HO772.out) hb); replace HO775 := A_ (Kd.R_below (tr_x HO775.out) hb); have BK776 := A_ (hbox); have GW776 := A_ ((ts_ hg : w.heap.size ≤ gb776)); have GE776 := A_ ((ts_ hg : w.heap.size ≤ gb776)); replace HB := A_ (below_step tb_ hb); have NB757_776 := A_ ((by rw [hg]; exact Nat.ne_of_lt (blk_lt (g := gb757) (o := .cells #[.int .i64 a0_0, .int .i64 a0_1, .slice A0_2 l0_2.length c0_2, .slice A0_3 l0_3.length c0_3] 53 (0, 0)) (tk_ BK757)) : gb757 ≠ gb776)); have NB776_757 := A_ ((by rw [hg]; exact Nat.ne_of_gt (blk_lt (g := gb757) (o := .cells #[.int .i64 a0_0, .int .i64 a0_1, .slice A0_2 l0_2.length c0_2, .slice A0_3 l0_3.length c0_3] 53 (0, 0)) (tk_ BK757)) : gb776 ≠ gb757)); replace BK757 := A_ (blk_below (g := gb757) (o := .cells #[.int .i64 a0_0, .int .i64 a0_1, .slice A0_2 l0_2.length c0_2, .slice A0_3 l0_3.length c0_3] 53 (0, 0)) (tk_ BK757) hb); clear hb hbox hg; have hnb42 := NB776_757.out; have hnc42 := NB757_776.out; obtain ⟨hcz43_0, hcz43_1, hcz43_2, hcz43_3, hfz43_0, hfz43_1, hfz43_2, hfz43_3⟩ := cf4_ BK776.out; obtain ⟨Ao44, co44, eo44⟩ := Kd.R_slice HO772.out; subst eo44; obtain ⟨Ao45, co45, eo45⟩ := Kd.R_slice HO775.out; subst eo45) | (refine gc_ 45 ?_; refine goesT_ (some 18) Try.func45 #[.agg #[.int .i64 t768, .int .i64 t769, .slice Ao44 t770.length co44, .slice Ao45 t773.length co45]] ?_; (with_reducible refine (impl_IsDesk.calls k t768 t769 _ _ t770 _ _ t773 t777 _ ?side1 ?side2 ?side3 ?side4 A10.out).mono ?_); (case side1 => refine (Kd.R_reads' (e := 3) (base := w.heap.size) (ok := fun k_ => ((some k_ ≠ (.slice Ao45 t773.length co45 : Value).ownBlock ∧ some k_ ≠ (.slice Ao36 t761.length co36 : Value).ownBlock) ∧ some k_ ≠ (.slice Ao37 t764.length co37 : Value).ownBlock)) (n := t770.length) (c := co44) ?_).2.2; exact (tr_ (h := by exact (Kd.R_mono (Kd.R_far (p := ⟨gb776, 3, none⟩) (Kd.R_far (p := ⟨gb776, 2, none⟩) (Kd.R_far (p := ⟨gb776, 1, none⟩) (Kd.R_far (p := ⟨gb776, 0, none⟩) (Kd.R_types HO772.out BK776.out (by decide)) (fun _ hk => hk.2) (.int .i64 t768)) (fun _ hk => hk.2) (.int .i64 t769)) (fun _ hk => hk.2) (.slice Ao44 t770.length co44)) (fun _ hk => hk.2) (.slice Ao45 t773.length co45)) (fun _ h_ => h_.1))))); (case side2 => exact (Kd.R_reads' HO772.out).2.1); (case side3 => refine (Kd.R_reads' (e := 3) (base := w.heap.size) (ok := fun k_ => ((some k_ ≠ (.slice Ao44 t770.length co44 : Value).ownBlock ∧ some k_ ≠ (.slice Ao36 t761.length co36 : Value).ownBlock) ∧ some k_ ≠ (.slice Ao37 t764.length co37 : Value).ownBlock)) (n := t773.length) (c := co45) ?_).2.2; exact (tr_ (h := by exact (Kd.R_mono (Kd.R_far (p := ⟨gb776, 3, none⟩) (Kd.R_far (p := ⟨gb776, 2, none⟩) (Kd.R_far (p := ⟨gb776, 1, none⟩) (Kd.R_far (p := ⟨gb776, 0, none⟩) (Kd.R_types HO775.out BK776.out (by decide)) (fun _ hk => hk.2) (.int .i64 t768)) (fun _ hk => hk.2) (.int .i64 t769)) (fun _ hk => hk.2) (.slice Ao44 t770.length co44)) (fun _ hk => hk.2) (.slice Ao45 t773.length co45)) (fun _ h_ => h_.1))))); (case side4 => exact (Kd.R_reads' HO775.out).2.1); rintro e w46 ⟨rfl, hb⟩; refine ⟨_, rfl, ?_⟩; replace HO763 := A_ (Kd.R_below (tr_ (h := by exact (Kd.R_mono (Kd.R_far (p := ⟨gb776, 3, none⟩) (Kd.R_far (p := ⟨gb776, 2, none⟩) (Kd.R_far (p := ⟨gb776, 1, none⟩) (Kd.R_far (p := ⟨gb776, 0, none⟩) (Kd.R_types HO763.out BK776.out (by decide)) (fun _ hk => hk.2) (.int .i64 t768)) (fun _ hk => hk.2) (.int .i64 t769)) (fun _ hk => hk.2) (.slice Ao44 t770.length co44)) (fun _ hk => hk.2) (.slice Ao45 t773.length co45)) (fun _ h_ => h_.1)))) hb); replace HO766 := A_ (Kd.R_below (tr_ (h := by exact (Kd.R_mono (Kd.R_far (p := ⟨gb776, 3, none⟩) (Kd.R_far (p := ⟨gb776, 2, none⟩) (Kd.R_far (p := ⟨gb776, 1, none⟩) (Kd.R_far (p := ⟨gb776, 0, none⟩) (Kd.R_types HO766.out BK776.out (by decide)) (fun _ hk => hk.2) (.int .i64 t768)) (fun _ hk => hk.2) (.int .i64 t769)) (fun _ hk => hk.2) (.slice Ao44 t770.length co44)) (fun _ hk => hk.2) (.slice Ao45 t773.length co45)) (fun _ h_ => h_.1)))) hb); replace HO772 := A_ (Kd.R_below (tr_ (h := by exact (Kd.R_mono (Kd.R_far (p := ⟨gb776, 3, none⟩) (Kd.R_far (p := ⟨gb776, 2, none⟩) (Kd.R_far (p := ⟨gb776, 1, none⟩) (Kd.R_far (p := ⟨gb776, 0, none⟩) (Kd.R_types HO772.out BK776.out (by decide)) (fun _ hk => hk.2) (.int .i64 t768)) (fun _ hk => hk.2) (.int .i64 t769)) (fun _ hk => hk.2) (.slice Ao44 t770.length co44)) (fun _ hk => hk.2) (.slice Ao45 t773.length co45)) (fun _ h_ => h_.1)))) hb); replace HO775 := A_ (Kd.R_below (tr_ (h := by exact (Kd.R_mono (Kd.R_far (p := ⟨gb776, 3, none⟩) (Kd.R_far (p := ⟨gb776, 2, none⟩) (Kd.R_far (p := ⟨gb776, 1, none⟩) (Kd.R_far (p := ⟨gb776, 0, none⟩) (Kd.R_types HO775.out BK776.out (by decide)) (fun _ hk => hk.2) (.int .i64 t768)) (fun _ hk => hk.2) (.int .i64 t769)) (fun _ hk => hk.2) (.slice Ao44 t770.length co44)) (fun _ hk => hk.2) (.slice Ao45 t773.length co45)) (fun _ h_ => h_.1)))) hb); replace BK757 := A_ (blk_below (g := gb757) (o := .cells #[.int .i64 a0_0, .int .i64 a0_1, .slice A0_2 l0_2.length c0_2, .slice A0_3 l0_3.length c0_3] 53 (0, 0)) (tk_ BK757) hb); replace BK776 := A_ (blk_below (g := gb776) (o := .cells #[.int .i64 t768, .int .i64 t769, .slice Ao44 t770.length co44, .slice Ao45 t773.length co45] 57 (0, 0)) (by (with_reducible repeat (first | refine blk_drewN ?_ _ | refine blk_drew ?_ | refine blk_alloc ?_ _)); refine blk_put (cs := #[.int .i64 t768, .int .i64 t769, .slice Ao44 t770.length co44, .slice none 0 0]) ?_ 3 _ rfl; (with_reducible repeat (first | refine blk_drewN ?_ _ | refine blk_drew ?_ | refine blk_alloc ?_ _)); refine blk_put (cs := #[.int .i64 t768, .int .i64 t769, .slice none 0 0, .slice none 0 0]) ?_ 2 _ rfl; (with_reducible repeat (first | refine blk_drewN ?_ _ | refine blk_drew ?_ | refine blk_alloc ?_ _)); refine blk_put (cs := #[.int .i64 t768, .int .i64 0, .slice none 0 0, .slice none 0 0]) ?_ 1 _ rfl; (with_reducible repeat (first | refine blk_drewN ?_ _ | refine blk_drew ?_ | refine blk_alloc ?_ _)); refine blk_put (cs := #[.int .i64 0, .int .i64 0, .slice none 0 0, .slice none 0 0]) ?_ 0 _ rfl; (with_reducible repeat (first | refine blk_drewN ?_ _ | refine blk_drew ?_ | refine blk_alloc ?_ _)); exact BK776.out) hb); replace HB := A_ (below_step tb_ hb); (try clear hb)))
    have n0_ := A_ (Kd.R_drew HO763.out)
    have n1_ := A_ (Kd.R_drew HO766.out)
    have n2_ := A_ (Kd.R_drew HO772.out)
    have n3_ := A_ (Kd.R_drew HO775.out)
    have n4_ := A_ (blk_drew BK757.out)
    have n5_ := A_ (blk_drew BK776.out)
    have n6_ := A_ (below_drew1 HB.out)
    clear HO763
    clear HO766
    clear HO772
    clear HO775
    clear BK757
    clear BK776
    clear HB
    have HO763 := n0_
    have HO766 := n1_
    have HO772 := n2_
    have HO775 := n3_
    have BK757 := n4_
    have BK776 := n5_
    have HB := n6_
    clear n0_ n1_ n2_ n3_ n4_ n5_ n6_
    refine start_ (n := 5) (S := fun w' => w'.cell? ⟨gb776, 0, none⟩ = some (.int .i64 t768) ∧ w'.cell? ⟨gb776, 1, none⟩ = some (.int .i64 t769) ∧ w'.cell? ⟨gb776, 2, none⟩ = some (.slice Ao44 t770.length co44) ∧ w'.cell? ⟨gb776, 3, none⟩ = some (.slice Ao45 t773.length co45) ∧ w'.cell? ⟨gb757, 0, none⟩ = some (.int .i64 a0_0) ∧ w'.cell? ⟨gb757, 1, none⟩ = some (.int .i64 a0_1) ∧ w'.cell? ⟨gb757, 2, none⟩ = some (.slice A0_2 l0_2.length c0_2) ∧ w'.cell? ⟨gb757, 3, none⟩ = some (.slice A0_3 l0_3.length c0_3)) (ds := []) (Fn.bl 5 0) (by kernel_rfl) rfl rfl ⟨(blk_cell BK776.out 0).trans rfl, (blk_cell BK776.out 1).trans rfl, (blk_cell BK776.out 2).trans rfl, (blk_cell BK776.out 3).trans rfl, (blk_cell BK757.out 0).trans rfl, (blk_cell BK757.out 1).trans rfl, (blk_cell BK757.out 2).trans rfl, (blk_cell BK757.out 3).trans rfl⟩ (fun hHeld => ?_)
    generalize w46.drew = w47 at HO763 HO766 HO772 HO775 BK757 BK776 HB hHeld ⊢
    refine take_ (i := 0) (N := some 22) (v := ?_) (a' := ?_) (Fn.bl 5 1) rfl rfl (by kernel_rfl) (fun _ _ _ h => h) (Or.inl ⟨by rfl, ?_⟩) hHeld ?_ ?_
    rotate_left
    ·
     rintro w' ⟨s0, s1, s2, s3, s4, s5, s6, s7⟩
     go_simp
     with_reducible rfl
    rotate_left
    ·
     simp only [Act.put, List.setIfInBounds_toArray, List.set_cons_zero, List.set_cons_succ, i64_w, i32_w]
     rfl
    refine take_ (i := 1) (N := some 23) (v := ?_) (a' := ?_) (Fn.bl 5 3) rfl rfl (by kernel_rfl) (fun _ _ _ h => h) (Or.inl ⟨by rfl, ?_⟩) hHeld ?_ ?_
    rotate_left
    ·
     rintro w' ⟨s0, s1, s2, s3, s4, s5, s6, s7⟩
     go_simp
     with_reducible rfl
    rotate_left
    ·
     simp only [Act.put, List.setIfInBounds_toArray, List.set_cons_zero, List.set_cons_succ, i64_w, i32_w]
     rfl
    refine one_ (i := 2) (N := some 24) (Fn.bl 5 7) rfl rfl (by kernel_rfl) (by decide) (fun K hK => ?_)
    refine goes_ Try.func44 (by kernel_rfl) rfl #[.agg #[.int .i64 a0_0, .int .i64 a0_1, .slice A0_2 l0_2.length c0_2, .slice A0_3 l0_3.length c0_3]] (by rfl) rfl rfl ta_ ?_
    with_reducible refine (laws_toDesk.calls k a0_0 a0_1 _ _ l0_2 _ _ l0_3 t778 t779 t780 t783 _ ?side1 ?side2 ?side3 ?side4 A28.out).mono ?_
    (case side1 => exact tc_ HR0_2.out)
    (case side2 => exact HC0_2.out)
    (case side3 => exact tc_ HR0_3.out)
    (case side4 => exact HC0_3.out)
    rintro e w48 ⟨v781, v784, rfl, ho0, ho1, hb⟩
    refine ⟨_, rfl, ?_⟩
    have n0_ := A_ (Kd.R_mono (Kd.R_told (Kd.R_told (Kd.R_old (tr_x HO763.out) hb) (Kd.R_base ho0)) (Kd.R_base ho1)) (fun _ h_ => h_.1))
    have n1_ := A_ (Kd.R_mono (Kd.R_told (Kd.R_told (Kd.R_old (tr_x HO766.out) hb) (Kd.R_base ho0)) (Kd.R_base ho1)) (fun _ h_ => h_.1))
    have n2_ := A_ (Kd.R_mono (Kd.R_told (Kd.R_told (Kd.R_old (tr_x HO772.out) hb) (Kd.R_base ho0)) (Kd.R_base ho1)) (fun _ h_ => h_.1))
    have n3_ := A_ (Kd.R_mono (Kd.R_told (Kd.R_told (Kd.R_old (tr_x HO775.out) hb) (Kd.R_base ho0)) (Kd.R_base ho1)) (fun _ h_ => h_.1))
    have n4_ := A_ (Kd.R_lower (Kd.R_new' (Kd.R_new' (Kd.R_new' (Kd.R_new' ho0 (Kd.R_lt (tr_x HO763.out))) (Kd.R_lt (tr_x HO766.out))) (Kd.R_lt (tr_x HO772.out))) (Kd.R_lt (tr_x HO775.out))) (below_size tb_))
    have n5_ := A_ (Kd.R_lower (Kd.R_new' (Kd.R_new' (Kd.R_new' (Kd.R_new' ho1 (Kd.R_lt (tr_x HO763.out))) (Kd.R_lt (tr_x HO766.out))) (Kd.R_lt (tr_x HO772.out))) (Kd.R_lt (tr_x HO775.out))) (below_size tb_))
    have n6_ := A_ (blk_below (g := gb757) (o := .cells #[.int .i64 a0_0, .int .i64 a0_1, .slice A0_2 l0_2.length c0_2, .slice A0_3 l0_3.length c0_3] 53 (0, 0)) (tk_ BK757) hb)
    have n7_ := A_ (blk_below (g := gb776) (o := .cells #[.int .i64 t768, .int .i64 t769, .slice Ao44 t770.length co44, .slice Ao45 t773.length co45] 57 (0, 0)) (tk_ BK776) hb)
    have n8_ := A_ (below_step tb_ hb)
    clear HO763
    clear HO766
    clear HO772
    clear HO775
    clear BK757
    clear BK776
    clear HB
    have HO763 := n0_
    have HO766 := n1_
    have HO772 := n2_
    have HO775 := n3_
    have HO782 := n4_
    have HO785 := n5_
    have BK757 := n6_
    have BK776 := n7_
    have HB := n8_
    clear n0_ n1_ n2_ n3_ n4_ n5_ n6_ n7_ n8_
    (try clear hb)
    (try clear hb2)
    (try clear hk)
    (try clear hi)
    (try clear ho0)
    (try clear ho1)
    obtain ⟨Ao49, co49, eo49⟩ := Kd.R_slice HO782.out
    (first | subst eo49 | (injection eo49 with f1_ f2_ f3_; have f4_ := f1_.symm; have f5_ := f3_.symm; clear f1_ f2_ f3_; subst f4_; subst f5_))
    obtain ⟨Ao50, co50, eo50⟩ := Kd.R_slice HO785.out
    (first | subst eo50 | (injection eo50 with f1_ f2_ f3_; have f4_ := f1_.symm; have f5_ := f3_.symm; clear f1_ f2_ f3_; subst f4_; subst f5_))
    refine hK.out _ _ ⟨(blk_cell BK776.out 0).trans rfl, (blk_cell BK776.out 1).trans rfl, (blk_cell BK776.out 2).trans rfl, (blk_cell BK776.out 3).trans rfl, (blk_cell BK757.out 0).trans rfl, (blk_cell BK757.out 1).trans rfl, (blk_cell BK757.out 2).trans rfl, (blk_cell BK757.out 3).trans rfl⟩ (fun hHeld => ?_)
    clear hK K
    refine norm_ (a' := ?_) ?_ ?_
    rotate_left
    ·
     show Act.put _ (some 24) _ = _
     simp only [Act.put, List.setIfInBounds_toArray, List.set_cons_zero, List.set_cons_succ, i64_w, i32_w]
     rfl
    refine one_ (i := 3) (N := some 25) (Fn.bl 5 15) rfl rfl (by kernel_rfl) (by decide) (fun K hK => ?_)
    refine goes_ Try.func46 (by kernel_rfl) rfl #[.agg #[.int .i64 t768, .int .i64 t769, .slice Ao44 t770.length co44, .slice Ao45 t773.length co45], .agg #[.int .i64 t778, .int .i64 t779, .slice Ao49 t780.length co49, .slice Ao50 t783.length co50]] (by rfl) rfl rfl ta_ ?_
    with_reducible refine (laws_eqDesk.calls k t768 t769 _ _ t770 _ _ t773 t778 t779 _ _ t780 _ _ t783 true _ ?side1 ?side2 ?side3 ?side4 ?side5 ?side6 ?side7 ?side8 A29.out).mono ?_
    (case side1 => exact tc0_ (Kd.R_reads' HO772.out).2.2)
    (case side2 => exact (Kd.R_reads' HO772.out).2.1)
    (case side3 => exact tc0_ (Kd.R_reads' HO775.out).2.2)
    (case side4 => exact (Kd.R_reads' HO775.out).2.1)
    (case side5 => exact tc0_ (Kd.R_reads' HO782.out).2.2)
    (case side6 => exact (Kd.R_reads' HO782.out).2.1)
    (case side7 => exact tc0_ (Kd.R_reads' HO785.out).2.2)
    (case side8 => exact (Kd.R_reads' HO785.out).2.1)
    rintro e w51 ⟨rfl, hb⟩
    refine ⟨_, rfl, ?_⟩
    have n0_ := A_ (Kd.R_below (tr_x HO763.out) hb)
    have n1_ := A_ (Kd.R_below (tr_x HO766.out) hb)
    have n2_ := A_ (Kd.R_below (tr_x HO772.out) hb)
    have n3_ := A_ (Kd.R_below (tr_x HO775.out) hb)
    have n4_ := A_ (Kd.R_below (tr_x HO782.out) hb)
    have n5_ := A_ (Kd.R_below (tr_x HO785.out) hb)
    have n6_ := A_ (blk_below (g := gb757) (o := .cells #[.int .i64 a0_0, .int .i64 a0_1, .slice A0_2 l0_2.length c0_2, .slice A0_3 l0_3.length c0_3] 53 (0, 0)) (tk_ BK757) hb)
    have n7_ := A_ (blk_below (g := gb776) (o := .cells #[.int .i64 t768, .int .i64 t769, .slice Ao44 t770.length co44, .slice Ao45 t773.length co45] 57 (0, 0)) (tk_ BK776) hb)
    have n8_ := A_ (below_step tb_ hb)
    clear HO763
    clear HO766
    clear HO772
    clear HO775
    clear HO782
    clear HO785
    clear BK757
    clear BK776
    clear HB
    have HO763 := n0_
    have HO766 := n1_
    have HO772 := n2_
    have HO775 := n3_
    have HO782 := n4_
    have HO785 := n5_
    have BK757 := n6_
    have BK776 := n7_
    have HB := n8_
    clear n0_ n1_ n2_ n3_ n4_ n5_ n6_ n7_ n8_
    (try clear hb)
    (try clear hb2)
    (try clear hk)
    (try clear hi)
    refine hK.out _ _ ⟨(blk_cell BK776.out 0).trans rfl, (blk_cell BK776.out 1).trans rfl, (blk_cell BK776.out 2).trans rfl, (blk_cell BK776.out 3).trans rfl, (blk_cell BK757.out 0).trans rfl, (blk_cell BK757.out 1).trans rfl, (blk_cell BK757.out 2).trans rfl, (blk_cell BK757.out 3).trans rfl⟩ (fun hHeld => ?_)
    clear hK K
    refine norm_ (a' := ?_) ?_ ?_
    rotate_left
    ·
     show Act.put _ (some 25) _ = _
     simp only [Act.put, List.setIfInBounds_toArray, List.set_cons_zero, List.set_cons_succ, i64_w, i32_w]
     rfl
    refine pk_ 4 (some 26) (Fn.bl 5 31) ?_
    refine done_ (by kernel_rfl) ?_
    try go_wp2
    go_ret
    exact ⟨te_, tb_⟩
   ·
    replace c30 := Bool.eq_false_iff.mpr c30
    subst c30
    have H1 : (some false) = some r := by rw [if_neg (show ¬ (false = true) by decide)] at H; exact H
    clear H
    have H := H1
    clear H1
    obtain rfl := Option.some.inj H
    go_enter Try.func10, Try.ntmps10
    try go_wp2_with (first | (refine gd_ 1 ?_; refine bx_ 1 #[.int .i64 a0_0, .int .i64 a0_1, .slice A0_2 l0_2.length c0_2, .slice A0_3 l0_3.length c0_3] 53 ?_; intro gb757 hg w52 hbox hb; have BK757 := A_ (hbox); have GW757 := A_ ((ts_ hg : w.heap.size ≤ gb757)); have GE757 := A_ ((ts_ hg : w.heap.size ≤ gb757)); replace HB := A_ (below_step tb_ hb); clear hb hbox hg; obtain ⟨hcz53_0, hcz53_1, hcz53_2, hcz53_3, hfz53_0, hfz53_1, hfz53_2, hfz53_3⟩ := cf4_ BK757.out) | (refine gc_ 42 ?_; refine goesT_ (some 9) Try.func42 #[.agg #[.int .i64 a0_0, .int .i64 a0_1, .slice A0_2 l0_2.length c0_2, .slice A0_3 l0_3.length c0_3], .int .i64 1048576] ?_; (with_reducible refine (laws_szDesk.calls a0_0 a0_1 _ _ l0_2 _ _ l0_3 1048576 t758 _ ?side1 ?side2 ?side3 ?side4 A2.out).mono ?_); (case side1 => exact tc_ HR0_2.out); (case side2 => exact HC0_2.out); (case side3 => exact tc_ HR0_3.out); (case side4 => exact HC0_3.out); rintro e w54 ⟨rfl, hb⟩; refine ⟨_, rfl, ?_⟩; replace BK757 := A_ (blk_below (g := gb757) (o := .cells #[.int .i64 a0_0, .int .i64 a0_1, .slice A0_2 l0_2.length c0_2, .slice A0_3 l0_3.length c0_3] 53 (0, 0)) (tk_ BK757) hb); replace HB := A_ (below_step tb_ hb); (try clear hb); obtain ⟨hcz55_0, hcz55_1, hcz55_2, hcz55_3, hfz55_0, hfz55_1, hfz55_2, hfz55_3⟩ := cf4_ BK757.out) | (refine gc_ 44 ?_; refine goesT_ (some 13) Try.func44 #[.agg #[.int .i64 a0_0, .int .i64 a0_1, .slice A0_2 l0_2.length c0_2, .slice A0_3 l0_3.length c0_3]] ?_; (with_reducible refine (laws_toDesk.calls k a0_0 a0_1 _ _ l0_2 _ _ l0_3 t759 t760 t761 t764 _ ?side1 ?side2 ?side3 ?side4 A7.out).mono ?_); (case side1 => exact tc_ HR0_2.out); (case side2 => exact HC0_2.out); (case side3 => exact tc_ HR0_3.out); (case side4 => exact HC0_3.out); rintro e w56 ⟨v762, v765, rfl, ho0, ho1, hb⟩; refine ⟨_, rfl, ?_⟩; have HO763 := A_ (Kd.R_lower ho0 (below_size tb_)); have HO766 := A_ (Kd.R_lower ho1 (below_size tb_)); replace BK757 := A_ (blk_below (g := gb757) (o := .cells #[.int .i64 a0_0, .int .i64 a0_1, .slice A0_2 l0_2.length c0_2, .slice A0_3 l0_3.length c0_3] 53 (0, 0)) (tk_ BK757) hb); replace HB := A_ (below_step tb_ hb); (try clear hb); (try clear ho0); (try clear ho1); obtain ⟨Ao57, co57, eo57⟩ := Kd.R_slice HO763.out; subst eo57; obtain ⟨Ao58, co58, eo58⟩ := Kd.R_slice HO766.out; subst eo58) | (refine gc_ 43 ?_; refine goesT_ (some 14) Try.func43 #[.agg #[.int .i64 t759, .int .i64 t760, .slice Ao57 t761.length co57, .slice Ao58 t764.length co58]] ?_; (with_reducible refine (spec_IsDesk.calls k t759 t760 _ _ t761 _ _ t764 t767 _ ?side1 ?side2 ?side3 ?side4 A8.out).mono ?_); (case side1 => exact tc0_ (Kd.R_reads' HO763.out).2.2); (case side2 => exact (Kd.R_reads' HO763.out).2.1); (case side3 => exact tc0_ (Kd.R_reads' HO766.out).2.2); (case side4 => exact (Kd.R_reads' HO766.out).2.1); rintro e w59 ⟨rfl, hb⟩; refine ⟨_, rfl, ?_⟩; replace HO763 := A_ (Kd.R_below (tr_x HO763.out) hb); replace HO766 := A_ (Kd.R_below (tr_x HO766.out) hb); replace BK757 := A_ (blk_below (g := gb757) (o := .cells #[.int .i64 a0_0, .int .i64 a0_1, .slice A0_2 l0_2.length c0_2, .slice A0_3 l0_3.length c0_3] 53 (0, 0)) (tk_ BK757) hb); replace HB := A_ (below_step tb_ hb); (try clear hb); obtain ⟨hcz60_0, hcz60_1, hcz60_2, hcz60_3, hfz60_0, hfz60_1, hfz60_2, hfz60_3⟩ := cf4_ BK757.out) | (refine gc_ 44 ?_; refine goesT_ (some 16) Try.func44 #[.agg #[.int .i64 a0_0, .int .i64 a0_1, .slice A0_2 l0_2.length c0_2, .slice A0_3 l0_3.length c0_3]] ?_; (with_reducible refine (laws_toDesk.calls k a0_0 a0_1 _ _ l0_2 _ _ l0_3 t768 t769 t770 t773 _ ?side1 ?side2 ?side3 ?side4 A9.out).mono ?_); (case side1 => exact tc_ HR0_2.out); (case side2 => exact HC0_2.out); (case side3 => exact tc_ HR0_3.out); (case side4 => exact HC0_3.out); rintro e w61 ⟨v771, v774, rfl, ho0, ho1, hb⟩; refine ⟨_, rfl, ?_⟩; have HO772 := A_ (Kd.R_lower (Kd.R_new' (Kd.R_new' ho0 (Kd.R_lt (tr_x HO763.out))) (Kd.R_lt (tr_x HO766.out))) (below_size tb_)); have HO775 := A_ (Kd.R_lower (Kd.R_new' (Kd.R_new' ho1 (Kd.R_lt (tr_x HO763.out))) (Kd.R_lt (tr_x HO766.out))) (below_size tb_)); replace HO763 := A_ (Kd.R_mono (Kd.R_told (Kd.R_told (Kd.R_old (tr_x HO763.out) hb) (Kd.R_base ho0)) (Kd.R_base ho1)) (fun _ h_ => h_.1)); replace HO766 := A_ (Kd.R_mono (Kd.R_told (Kd.R_told (Kd.R_old (tr_x HO766.out) hb) (Kd.R_base ho0)) (Kd.R_base ho1)) (fun _ h_ => h_.1)); replace BK757 := A_ (blk_below (g := gb757) (o := .cells #[.int .i64 a0_0, .int .i64 a0_1, .slice A0_2 l0_2.length c0_2, .slice A0_3 l0_3.length c0_3] 53 (0, 0)) (tk_ BK757) hb); replace HB := A_ (below_step tb_ hb); (try clear hb); (try clear ho0); (try clear ho1)) | (refine gd_ 5 ?_; refine bx_ 5 #[.int .i64 0, .int .i64 0, .slice none 0 0, .slice none 0 0] 57 ?_; intro gb776 hg w62 hbox hb; replace HO763 := A_ (Kd.R_below (tr_x HO763.out) hb); replace HO766 := A_ (Kd.R_below (tr_x HO766.out) hb); replace HO772 := A_ (Kd.R_below (tr_x HO772.out) hb); replace HO775 := A_ (Kd.R_below (tr_x HO775.out) hb); have BK776 := A_ (hbox); have GW776 := A_ ((ts_ hg : w.heap.size ≤ gb776)); have GE776 := A_ ((ts_ hg : w.heap.size ≤ gb776)); replace HB := A_ (below_step tb_ hb); have NB757_776 := A_ ((by rw [hg]; exact Nat.ne_of_lt (blk_lt (g := gb757) (o := .cells #[.int .i64 a0_0, .int .i64 a0_1, .slice A0_2 l0_2.length c0_2, .slice A0_3 l0_3.length c0_3] 53 (0, 0)) (tk_ BK757)) : gb757 ≠ gb776)); have NB776_757 := A_ ((by rw [hg]; exact Nat.ne_of_gt (blk_lt (g := gb757) (o := .cells #[.int .i64 a0_0, .int .i64 a0_1, .slice A0_2 l0_2.length c0_2, .slice A0_3 l0_3.length c0_3] 53 (0, 0)) (tk_ BK757)) : gb776 ≠ gb757)); replace BK757 := A_ (blk_below (g := gb757) (o := .cells #[.int .i64 a0_0, .int .i64 a0_1, .slice A0_2 l0_2.length c0_2, .slice A0_3 l0_3.length c0_3] 53 (0, 0)) (tk_ BK757) hb); clear hb hbox hg; have hnb63 := NB776_757.out; have hnc63 := NB757_776.out; obtain ⟨hcz64_0, hcz64_1, hcz64_2, hcz64_3, hfz64_0, hfz64_1, hfz64_2, hfz64_3⟩ := cf4_ BK776.out; obtain ⟨Ao65, co65, eo65⟩ := Kd.R_slice HO772.out; subst eo65; obtain ⟨Ao66, co66, eo66⟩ := Kd.R_slice HO775.out; subst eo66) | (refine gc_ 45 ?_; refine goesT_ (some 18) Try.func45 #[.agg #[.int .i64 t768, .int .i64 t769, .slice Ao65 t770.length co65, .slice Ao66 t773.length co66]] ?_; (with_reducible refine (impl_IsDesk.calls k t768 t769 _ _ t770 _ _ t773 t777 _ ?side1 ?side2 ?side3 ?side4 A10.out).mono ?_); (case side1 => refine (Kd.R_reads' (e := 3) (base := w.heap.size) (ok := fun k_ => ((some k_ ≠ (.slice Ao66 t773.length co66 : Value).ownBlock ∧ some k_ ≠ (.slice Ao57 t761.length co57 : Value).ownBlock) ∧ some k_ ≠ (.slice Ao58 t764.length co58 : Value).ownBlock)) (n := t770.length) (c := co65) ?_).2.2; exact (tr_ (h := by exact (Kd.R_mono (Kd.R_far (p := ⟨gb776, 3, none⟩) (Kd.R_far (p := ⟨gb776, 2, none⟩) (Kd.R_far (p := ⟨gb776, 1, none⟩) (Kd.R_far (p := ⟨gb776, 0, none⟩) (Kd.R_types HO772.out BK776.out (by decide)) (fun _ hk => hk.2) (.int .i64 t768)) (fun _ hk => hk.2) (.int .i64 t769)) (fun _ hk => hk.2) (.slice Ao65 t770.length co65)) (fun _ hk => hk.2) (.slice Ao66 t773.length co66)) (fun _ h_ => h_.1))))); (case side2 => exact (Kd.R_reads' HO772.out).2.1); (case side3 => refine (Kd.R_reads' (e := 3) (base := w.heap.size) (ok := fun k_ => ((some k_ ≠ (.slice Ao65 t770.length co65 : Value).ownBlock ∧ some k_ ≠ (.slice Ao57 t761.length co57 : Value).ownBlock) ∧ some k_ ≠ (.slice Ao58 t764.length co58 : Value).ownBlock)) (n := t773.length) (c := co66) ?_).2.2; exact (tr_ (h := by exact (Kd.R_mono (Kd.R_far (p := ⟨gb776, 3, none⟩) (Kd.R_far (p := ⟨gb776, 2, none⟩) (Kd.R_far (p := ⟨gb776, 1, none⟩) (Kd.R_far (p := ⟨gb776, 0, none⟩) (Kd.R_types HO775.out BK776.out (by decide)) (fun _ hk => hk.2) (.int .i64 t768)) (fun _ hk => hk.2) (.int .i64 t769)) (fun _ hk => hk.2) (.slice Ao65 t770.length co65)) (fun _ hk => hk.2) (.slice Ao66 t773.length co66)) (fun _ h_ => h_.1))))); (case side4 => exact (Kd.R_reads' HO775.out).2.1); rintro e w67 ⟨rfl, hb⟩; refine ⟨_, rfl, ?_⟩; replace HO763 := A_ (Kd.R_below (tr_ (h := by exact (Kd.R_mono (Kd.R_far (p := ⟨gb776, 3, none⟩) (Kd.R_far (p := ⟨gb776, 2, none⟩) (Kd.R_far (p := ⟨gb776, 1, none⟩) (Kd.R_far (p := ⟨gb776, 0, none⟩) (Kd.R_types HO763.out BK776.out (by decide)) (fun _ hk => hk.2) (.int .i64 t768)) (fun _ hk => hk.2) (.int .i64 t769)) (fun _ hk => hk.2) (.slice Ao65 t770.length co65)) (fun _ hk => hk.2) (.slice Ao66 t773.length co66)) (fun _ h_ => h_.1)))) hb); replace HO766 := A_ (Kd.R_below (tr_ (h := by exact (Kd.R_mono (Kd.R_far (p := ⟨gb776, 3, none⟩) (Kd.R_far (p := ⟨gb776, 2, none⟩) (Kd.R_far (p := ⟨gb776, 1, none⟩) (Kd.R_far (p := ⟨gb776, 0, none⟩) (Kd.R_types HO766.out BK776.out (by decide)) (fun _ hk => hk.2) (.int .i64 t768)) (fun _ hk => hk.2) (.int .i64 t769)) (fun _ hk => hk.2) (.slice Ao65 t770.length co65)) (fun _ hk => hk.2) (.slice Ao66 t773.length co66)) (fun _ h_ => h_.1)))) hb); replace HO772 := A_ (Kd.R_below (tr_ (h := by exact (Kd.R_mono (Kd.R_far (p := ⟨gb776, 3, none⟩) (Kd.R_far (p := ⟨gb776, 2, none⟩) (Kd.R_far (p := ⟨gb776, 1, none⟩) (Kd.R_far (p := ⟨gb776, 0, none⟩) (Kd.R_types HO772.out BK776.out (by decide)) (fun _ hk => hk.2) (.int .i64 t768)) (fun _ hk => hk.2) (.int .i64 t769)) (fun _ hk => hk.2) (.slice Ao65 t770.length co65)) (fun _ hk => hk.2) (.slice Ao66 t773.length co66)) (fun _ h_ => h_.1)))) hb); replace HO775 := A_ (Kd.R_below (tr_ (h := by exact (Kd.R_mono (Kd.R_far (p := ⟨gb776, 3, none⟩) (Kd.R_far (p := ⟨gb776, 2, none⟩) (Kd.R_far (p := ⟨gb776, 1, none⟩) (Kd.R_far (p := ⟨gb776, 0, none⟩) (Kd.R_types HO775.out BK776.out (by decide)) (fun _ hk => hk.2) (.int .i64 t768)) (fun _ hk => hk.2) (.int .i64 t769)) (fun _ hk => hk.2) (.slice Ao65 t770.length co65)) (fun _ hk => hk.2) (.slice Ao66 t773.length co66)) (fun _ h_ => h_.1)))) hb); replace BK757 := A_ (blk_below (g := gb757) (o := .cells #[.int .i64 a0_0, .int .i64 a0_1, .slice A0_2 l0_2.length c0_2, .slice A0_3 l0_3.length c0_3] 53 (0, 0)) (tk_ BK757) hb); replace BK776 := A_ (blk_below (g := gb776) (o := .cells #[.int .i64 t768, .int .i64 t769, .slice Ao65 t770.length co65, .slice Ao66 t773.length co66] 57 (0, 0)) (by (with_reducible repeat (first | refine blk_drewN ?_ _ | refine blk_drew ?_ | refine blk_alloc ?_ _)); refine blk_put (cs := #[.int .i64 t768, .int .i64 t769, .slice Ao65 t770.length co65, .slice none 0 0]) ?_ 3 _ rfl; (with_reducible repeat (first | refine blk_drewN ?_ _ | refine blk_drew ?_ | refine blk_alloc ?_ _)); refine blk_put (cs := #[.int .i64 t768, .int .i64 t769, .slice none 0 0, .slice none 0 0]) ?_ 2 _ rfl; (with_reducible repeat (first | refine blk_drewN ?_ _ | refine blk_drew ?_ | refine blk_alloc ?_ _)); refine blk_put (cs := #[.int .i64 t768, .int .i64 0, .slice none 0 0, .slice none 0 0]) ?_ 1 _ rfl; (with_reducible repeat (first | refine blk_drewN ?_ _ | refine blk_drew ?_ | refine blk_alloc ?_ _)); refine blk_put (cs := #[.int .i64 0, .int .i64 0, .slice none 0 0, .slice none 0 0]) ?_ 0 _ rfl; (with_reducible repeat (first | refine blk_drewN ?_ _ | refine blk_drew ?_ | refine blk_alloc ?_ _)); exact BK776.out) hb); replace HB := A_ (below_step tb_ hb); (try clear hb)))
    have n0_ := A_ (Kd.R_drew HO763.out)
    have n1_ := A_ (Kd.R_drew HO766.out)
    have n2_ := A_ (Kd.R_drew HO772.out)
    have n3_ := A_ (Kd.R_drew HO775.out)
    have n4_ := A_ (blk_drew BK757.out)
    have n5_ := A_ (blk_drew BK776.out)
    have n6_ := A_ (below_drew1 HB.out)
    clear HO763
    clear HO766
    clear HO772
    clear HO775
    clear BK757
    clear BK776
    clear HB
    have HO763 := n0_
    have HO766 := n1_
    have HO772 := n2_
    have HO775 := n3_
    have BK757 := n4_
    have BK776 := n5_
    have HB := n6_
    clear n0_ n1_ n2_ n3_ n4_ n5_ n6_
    refine start_ (n := 5) (S := fun w' => w'.cell? ⟨gb776, 0, none⟩ = some (.int .i64 t768) ∧ w'.cell? ⟨gb776, 1, none⟩ = some (.int .i64 t769) ∧ w'.cell? ⟨gb776, 2, none⟩ = some (.slice Ao65 t770.length co65) ∧ w'.cell? ⟨gb776, 3, none⟩ = some (.slice Ao66 t773.length co66) ∧ w'.cell? ⟨gb757, 0, none⟩ = some (.int .i64 a0_0) ∧ w'.cell? ⟨gb757, 1, none⟩ = some (.int .i64 a0_1) ∧ w'.cell? ⟨gb757, 2, none⟩ = some (.slice A0_2 l0_2.length c0_2) ∧ w'.cell? ⟨gb757, 3, none⟩ = some (.slice A0_3 l0_3.length c0_3)) (ds := []) (Fn.bl 5 0) (by kernel_rfl) rfl rfl ⟨(blk_cell BK776.out 0).trans rfl, (blk_cell BK776.out 1).trans rfl, (blk_cell BK776.out 2).trans rfl, (blk_cell BK776.out 3).trans rfl, (blk_cell BK757.out 0).trans rfl, (blk_cell BK757.out 1).trans rfl, (blk_cell BK757.out 2).trans rfl, (blk_cell BK757.out 3).trans rfl⟩ (fun hHeld => ?_)
    generalize w67.drew = w68 at HO763 HO766 HO772 HO775 BK757 BK776 HB hHeld ⊢
    refine take_ (i := 0) (N := some 22) (v := ?_) (a' := ?_) (Fn.bl 5 1) rfl rfl (by kernel_rfl) (fun _ _ _ h => h) (Or.inl ⟨by rfl, ?_⟩) hHeld ?_ ?_
    rotate_left
    ·
     rintro w' ⟨s0, s1, s2, s3, s4, s5, s6, s7⟩
     go_simp
     with_reducible rfl
    rotate_left
    ·
     simp only [Act.put, List.setIfInBounds_toArray, List.set_cons_zero, List.set_cons_succ, i64_w, i32_w]
     rfl
    refine take_ (i := 1) (N := some 23) (v := ?_) (a' := ?_) (Fn.bl 5 3) rfl rfl (by kernel_rfl) (fun _ _ _ h => h) (Or.inl ⟨by rfl, ?_⟩) hHeld ?_ ?_
    rotate_left
    ·
     rintro w' ⟨s0, s1, s2, s3, s4, s5, s6, s7⟩
     go_simp
     with_reducible rfl
    rotate_left
    ·
     simp only [Act.put, List.setIfInBounds_toArray, List.set_cons_zero, List.set_cons_succ, i64_w, i32_w]
     rfl
    refine one_ (i := 2) (N := some 24) (Fn.bl 5 7) rfl rfl (by kernel_rfl) (by decide) (fun K hK => ?_)
    refine goes_ Try.func44 (by kernel_rfl) rfl #[.agg #[.int .i64 a0_0, .int .i64 a0_1, .slice A0_2 l0_2.length c0_2, .slice A0_3 l0_3.length c0_3]] (by rfl) rfl rfl ta_ ?_
    with_reducible refine (laws_toDesk.calls k a0_0 a0_1 _ _ l0_2 _ _ l0_3 t778 t779 t780 t783 _ ?side1 ?side2 ?side3 ?side4 A28.out).mono ?_
    (case side1 => exact tc_ HR0_2.out)
    (case side2 => exact HC0_2.out)
    (case side3 => exact tc_ HR0_3.out)
    (case side4 => exact HC0_3.out)
    rintro e w69 ⟨v781, v784, rfl, ho0, ho1, hb⟩
    refine ⟨_, rfl, ?_⟩
    have n0_ := A_ (Kd.R_mono (Kd.R_told (Kd.R_told (Kd.R_old (tr_x HO763.out) hb) (Kd.R_base ho0)) (Kd.R_base ho1)) (fun _ h_ => h_.1))
    have n1_ := A_ (Kd.R_mono (Kd.R_told (Kd.R_told (Kd.R_old (tr_x HO766.out) hb) (Kd.R_base ho0)) (Kd.R_base ho1)) (fun _ h_ => h_.1))
    have n2_ := A_ (Kd.R_mono (Kd.R_told (Kd.R_told (Kd.R_old (tr_x HO772.out) hb) (Kd.R_base ho0)) (Kd.R_base ho1)) (fun _ h_ => h_.1))
    have n3_ := A_ (Kd.R_mono (Kd.R_told (Kd.R_told (Kd.R_old (tr_x HO775.out) hb) (Kd.R_base ho0)) (Kd.R_base ho1)) (fun _ h_ => h_.1))
    have n4_ := A_ (Kd.R_lower (Kd.R_new' (Kd.R_new' (Kd.R_new' (Kd.R_new' ho0 (Kd.R_lt (tr_x HO763.out))) (Kd.R_lt (tr_x HO766.out))) (Kd.R_lt (tr_x HO772.out))) (Kd.R_lt (tr_x HO775.out))) (below_size tb_))
    have n5_ := A_ (Kd.R_lower (Kd.R_new' (Kd.R_new' (Kd.R_new' (Kd.R_new' ho1 (Kd.R_lt (tr_x HO763.out))) (Kd.R_lt (tr_x HO766.out))) (Kd.R_lt (tr_x HO772.out))) (Kd.R_lt (tr_x HO775.out))) (below_size tb_))
    have n6_ := A_ (blk_below (g := gb757) (o := .cells #[.int .i64 a0_0, .int .i64 a0_1, .slice A0_2 l0_2.length c0_2, .slice A0_3 l0_3.length c0_3] 53 (0, 0)) (tk_ BK757) hb)
    have n7_ := A_ (blk_below (g := gb776) (o := .cells #[.int .i64 t768, .int .i64 t769, .slice Ao65 t770.length co65, .slice Ao66 t773.length co66] 57 (0, 0)) (tk_ BK776) hb)
    have n8_ := A_ (below_step tb_ hb)
    clear HO763
    clear HO766
    clear HO772
    clear HO775
    clear BK757
    clear BK776
    clear HB
    have HO763 := n0_
    have HO766 := n1_
    have HO772 := n2_
    have HO775 := n3_
    have HO782 := n4_
    have HO785 := n5_
    have BK757 := n6_
    have BK776 := n7_
    have HB := n8_
    clear n0_ n1_ n2_ n3_ n4_ n5_ n6_ n7_ n8_
    (try clear hb)
    (try clear hb2)
    (try clear hk)
    (try clear hi)
    (try clear ho0)
    (try clear ho1)
    obtain ⟨Ao70, co70, eo70⟩ := Kd.R_slice HO782.out
    (first | subst eo70 | (injection eo70 with f1_ f2_ f3_; have f4_ := f1_.symm; have f5_ := f3_.symm; clear f1_ f2_ f3_; subst f4_; subst f5_))
    obtain ⟨Ao71, co71, eo71⟩ := Kd.R_slice HO785.out
    (first | subst eo71 | (injection eo71 with f1_ f2_ f3_; have f4_ := f1_.symm; have f5_ := f3_.symm; clear f1_ f2_ f3_; subst f4_; subst f5_))
    refine hK.out _ _ ⟨(blk_cell BK776.out 0).trans rfl, (blk_cell BK776.out 1).trans rfl, (blk_cell BK776.out 2).trans rfl, (blk_cell BK776.out 3).trans rfl, (blk_cell BK757.out 0).trans rfl, (blk_cell BK757.out 1).trans rfl, (blk_cell BK757.out 2).trans rfl, (blk_cell BK757.out 3).trans rfl⟩ (fun hHeld => ?_)
    clear hK K
    refine norm_ (a' := ?_) ?_ ?_
    rotate_left
    ·
     show Act.put _ (some 24) _ = _
     simp only [Act.put, List.setIfInBounds_toArray, List.set_cons_zero, List.set_cons_succ, i64_w, i32_w]
     rfl
    refine one_ (i := 3) (N := some 25) (Fn.bl 5 15) rfl rfl (by kernel_rfl) (by decide) (fun K hK => ?_)
    refine goes_ Try.func46 (by kernel_rfl) rfl #[.agg #[.int .i64 t768, .int .i64 t769, .slice Ao65 t770.length co65, .slice Ao66 t773.length co66], .agg #[.int .i64 t778, .int .i64 t779, .slice Ao70 t780.length co70, .slice Ao71 t783.length co71]] (by rfl) rfl rfl ta_ ?_
    with_reducible refine (laws_eqDesk.calls k t768 t769 _ _ t770 _ _ t773 t778 t779 _ _ t780 _ _ t783 false _ ?side1 ?side2 ?side3 ?side4 ?side5 ?side6 ?side7 ?side8 A29.out).mono ?_
    (case side1 => exact tc0_ (Kd.R_reads' HO772.out).2.2)
    (case side2 => exact (Kd.R_reads' HO772.out).2.1)
    (case side3 => exact tc0_ (Kd.R_reads' HO775.out).2.2)
    (case side4 => exact (Kd.R_reads' HO775.out).2.1)
    (case side5 => exact tc0_ (Kd.R_reads' HO782.out).2.2)
    (case side6 => exact (Kd.R_reads' HO782.out).2.1)
    (case side7 => exact tc0_ (Kd.R_reads' HO785.out).2.2)
    (case side8 => exact (Kd.R_reads' HO785.out).2.1)
    rintro e w72 ⟨rfl, hb⟩
    refine ⟨_, rfl, ?_⟩
    have n0_ := A_ (Kd.R_below (tr_x HO763.out) hb)
    have n1_ := A_ (Kd.R_below (tr_x HO766.out) hb)
    have n2_ := A_ (Kd.R_below (tr_x HO772.out) hb)
    have n3_ := A_ (Kd.R_below (tr_x HO775.out) hb)
    have n4_ := A_ (Kd.R_below (tr_x HO782.out) hb)
    have n5_ := A_ (Kd.R_below (tr_x HO785.out) hb)
    have n6_ := A_ (blk_below (g := gb757) (o := .cells #[.int .i64 a0_0, .int .i64 a0_1, .slice A0_2 l0_2.length c0_2, .slice A0_3 l0_3.length c0_3] 53 (0, 0)) (tk_ BK757) hb)
    have n7_ := A_ (blk_below (g := gb776) (o := .cells #[.int .i64 t768, .int .i64 t769, .slice Ao65 t770.length co65, .slice Ao66 t773.length co66] 57 (0, 0)) (tk_ BK776) hb)
    have n8_ := A_ (below_step tb_ hb)
    clear HO763
    clear HO766
    clear HO772
    clear HO775
    clear HO782
    clear HO785
    clear BK757
    clear BK776
    clear HB
    have HO763 := n0_
    have HO766 := n1_
    have HO772 := n2_
    have HO775 := n3_
    have HO782 := n4_
    have HO785 := n5_
    have BK757 := n6_
    have BK776 := n7_
    have HB := n8_
    clear n0_ n1_ n2_ n3_ n4_ n5_ n6_ n7_ n8_
    (try clear hb)
    (try clear hb2)
    (try clear hk)
    (try clear hi)
    refine hK.out _ _ ⟨(blk_cell BK776.out 0).trans rfl, (blk_cell BK776.out 1).trans rfl, (blk_cell BK776.out 2).trans rfl, (blk_cell BK776.out 3).trans rfl, (blk_cell BK757.out 0).trans rfl, (blk_cell BK757.out 1).trans rfl, (blk_cell BK757.out 2).trans rfl, (blk_cell BK757.out 3).trans rfl⟩ (fun hHeld => ?_)
    clear hK K
    refine norm_ (a' := ?_) ?_ ?_
    rotate_left
    ·
     show Act.put _ (some 25) _ = _
     simp only [Act.put, List.setIfInBounds_toArray, List.set_cons_zero, List.set_cons_succ, i64_w, i32_w]
     rfl
    refine pk_ 4 (some 26) (Fn.bl 5 31) ?_
    refine done_ (by kernel_rfl) ?_
    try go_wp2
    go_ret
    exact ⟨te_, tb_⟩

/-- THE ONE PURE STATEMENT of laws_FnExactIsDesk: yours. -/
def laws_FnExactIsDesk.Pure : Prop := ∀ (a0_0 : Int) (a0_1 : Int) (l0_2 : List Int) (l0_3 : List Int), Fn.okI a0_0 → Fn.okI a0_1 → (Fn.okL Fn.okI) l0_2 → (Fn.okL Fn.okI) l0_3 → ∃ k, laws_FnExactIsDesk.f k a0_0 a0_1 l0_2 l0_3 = some true

end
end Go.Proofs.Ytnpacpdpgngdpaa.P
