-- printed functions (wip/slim.py)
import Derived.Test.YtdoflpghemgbdaaPx0
import Derived.Test.YtdoflpghemgbdaaQae02657195
namespace Go.Proofs.Ytdoflpghemgbdaa.P
noncomputable section
set_option maxHeartbeats 8000000
set_option maxRecDepth 100000
open Go.RowKit Go.Proofs.YtdoflpghemgbdaaW.PrintWords Go.Proofs.YtdoflpghemgbdaaW.PrintLast Go.Proofs.YtdoflpghemgbdaaW.PrintMore
attribute [local go_sem] max2_int min2_int max_two min_two max_three min_three max_four min_four   -- for this text's walks alone
set_option linter.unusedVariables false
set_option linter.unusedSimpArgs false

/-! ### spec_l1Put: function 185 -/
def spec_l1Put.l0 : Nat → List Int → Int → Int → Option (List Int)
 | 0, _, _, _ => none
 | k + 1, x0, x1, x5 => if x5 < (x0.length : Int) then (if 0 ≤ x5 then (if (rd x0 x5) < x1 then (spec_l1Put.l0 k x0 x1 (wrap64 (x5 + 1))) else (if (rd x0 x5) = x1 then (some x0) else ((some (([] : List Int) : List Int)).bind fun y581 => (if x5 ≤ (x0.length : Int) then ((some (x0.take (x5 : Int).toNat : List Int)).bind fun y584 => (if y581.length + y584.length < 17592186044416 then ((some (y581 ++ y584 : List Int)).bind fun y588 => (if y588.length < 17592186044416 then ((some (y588 ++ [x1] : List Int)).bind fun y591 => ((some (x0.drop (x5 : Int).toNat : List Int)).bind fun y594 => (if y591.length + y594.length < 17592186044416 then (some (y591 ++ y594)) else (none)))) else (none))) else (none))) else (none))))) else (none)) else ((some (([] : List Int) : List Int)).bind fun y601 => (if 0 ≤ x5 then (if x5 ≤ (x0.length : Int) then ((some (x0.take (x5 : Int).toNat : List Int)).bind fun y604 => (if y601.length + y604.length < 17592186044416 then ((some (y601 ++ y604 : List Int)).bind fun y608 => (if y608.length < 17592186044416 then ((some (y608 ++ [x1] : List Int)).bind fun y611 => ((some (x0.drop (x5 : Int).toNat : List Int)).bind fun y614 => (if y611.length + y614.length < 17592186044416 then (some (y611 ++ y614)) else (none)))) else (none))) else (none))) else (none)) else (none)))
def spec_l1Put.f (k : Nat) (l0 : List Int) (a1 : Int) : Option (List Int) := spec_l1Put.l0 k l0 a1 0
theorem spec_l1Put.mono_l : ∀ k, (∀ y0 y1 y2, LeO (spec_l1Put.l0 k y0 y1 y2) (spec_l1Put.l0 (k + 1) y0 y1 y2))
 | 0 => fun _ _ _ r h => by simp [spec_l1Put.l0] at h
 | k + 1 => by
  have ih0 := spec_l1Put.mono_l k
  ·
   intro y0 y1 y2
   unfold spec_l1Put.l0
   repeat' first | (with_reducible first | exact ih0 _ _ _ | exact LeO.refl _ | exact LeO.none _ | refine LeO.ite ?_ ?_ | refine LeO.bind ?_ (fun _ => ?_)) | exact ih0 _ _ _ | exact LeO.none _ | refine LeO.ite ?_ ?_ | refine LeO.bind ?_ (fun _ => ?_)
theorem spec_l1Put.mono : ∀ a0 a1 k, LeO (spec_l1Put.f k a0 a1) (spec_l1Put.f (k + 1) a0 a1) := by
 intro a0 a1 k
 have ih0 := spec_l1Put.mono_l k
 unfold spec_l1Put.f
 repeat' first | (with_reducible first | exact ih0 _ _ _ | exact LeO.refl _ | exact LeO.none _ | refine LeO.ite ?_ ?_ | refine LeO.bind ?_ (fun _ => ?_)) | exact ih0 _ _ _ | exact LeO.none _ | refine LeO.ite ?_ ?_ | refine LeO.bind ?_ (fun _ => ?_)
theorem spec_l1Put.calls (k : Nat) (P0_ : Nat → Prop) (u9000_ : Value) (l0 : List Int) (a1 : Int) (r : List Int) (w0 w : World) (hB : Below w0.heap.size w0 w) (ho0 : Kd.R (Kd.int .i64) 3 w w0.heap.size P0_ u9000_ l0) (h : spec_l1Put.f k l0 a1 = some r) :
  Calls Try.prog 185 #[u9000_, .int .i64 a1] w fun e w' => ∃ v0_ : Value, e = .returned (v0_) ∧ Kd.R (Kd.int .i64) 3 w' w0.heap.size (fun k_ => (P0_ k_ ∨ w.heap.size ≤ k_)) v0_ r ∧ Below w0.heap.size w0 w' ∧ Kept w w' (fun k_ => P0_ k_) := by
 have HO0 := A_ (show Kd.R (Kd.int .i64) 3 w w0.heap.size (fun k_ => (P0_ k_ ∨ w.heap.size ≤ k_)) u9000_ l0 from Kd.R_mono ho0 (fun k_ hk => (.inl hk)))
 have HK := A_ (Kept.refl w (fun k_ => P0_ k_))
 have HW0 := A_ hB.size
 have HB := A_ hB
 clear hB
 have H : (spec_l1Put.l0 k l0 a1 0) = some r := h
 clear h
 have H' := A_ H
 clear H
 go_enter Try.func185, Try.ntmps185
 go_wp2
 go_loopg [5] k (fun kq v5 w' => ∃ (x5_1 : Int), v5 = .int .i64 x5_1 ∧ Aside0 (spec_l1Put.l0 kq l0 a1 x5_1 = some r) ∧ Aside0 (kq ≤ k) ∧ Aside0 (Kd.R (Kd.int .i64) 3 w' w0.heap.size (fun k_ => (P0_ k_ ∨ w.heap.size ≤ k_)) u9000_ l0) ∧ Aside0 (Kept w w' (fun k_ => P0_ k_)) ∧ Aside0 (Below w0.heap.size w0 w'))
 case atStart => exact ⟨(0), tf_, H', ⟨Nat.le_refl _⟩, ⟨tr_x HO0.out⟩, ⟨by repeat (first | (with_reducible first | exact HK.out | apply Kept.alloc | apply Kept.drewN | apply Kept.drew) | exact HK.out)⟩, ⟨tb_⟩⟩
 case round =>
  clear H'
  try clear c1
  try clear p2
  obtain ⟨x5_1, rfl, HA, HK1, HO_0, HK, HB⟩ := hrel
  cases gk with
  | zero => exact absurd HA.out (by simp [spec_l1Put.l0])
  | succ k1 =>
   have H := HA.out
   clear HA
   simp only [spec_l1Put.l0] at H
   by_cases c3 : x5_1 < (l0.length : Int)
   ·
    rw [if_pos c3] at H
    have c3b0 := decide_eq_true c3
    clear c3
    by_cases c4 : 0 ≤ x5_1
    ·
     rw [if_pos c4] at H
     have c4b0 := decide_eq_true c4
     clear c4
     by_cases c5 : (rd l0 x5_1) < a1
     ·
      rw [if_pos c5] at H
      have c5b0 := decide_eq_true c5
      clear c5
      have H' := A_ H
      clear H
      obtain ⟨Ao6, co6, eo6⟩ := Kd.R_slice HO_0.out
      subst eo6
      have p579 : 0 ≤ (x5_1 : Int) := od_
      have q579 : x5_1 < (l0.length : Int) := od_
      obtain ⟨ad579, e579, hx579_0⟩ := Kd.at_int (Kd.R_reads' HO_0.out).2.2 x5_1 p579 q579
      cases e579
      replace p579 := eq_true p579
      replace q579 := eq_true q579
      go_wp2
      go_roundg k1
      case measure => have := HK1.out; omega
      case rel => exact ⟨(wrap64 (x5_1 + 1)), tf_, H', ⟨by have := HK1.out; omega⟩, ⟨tr_x HO_0.out⟩, ⟨by repeat (first | (with_reducible first | exact HK.out | apply Kept.alloc | apply Kept.drewN | apply Kept.drew) | exact HK.out)⟩, ⟨tb_⟩⟩
     ·
      rw [if_neg c5] at H
      have c5b0 := decide_eq_false c5
      clear c5
      by_cases c7 : (rd l0 x5_1) = a1
      ·
       rw [if_pos c7] at H
       have c7b0 : ((rd l0 x5_1) == a1) = true := beq_iff_eq.mpr c7
       have c7b1 : ((rd l0 x5_1) != a1) = false := bne_eq_false_iff_eq.mpr c7
       clear c7
       obtain rfl := Option.some.inj H
       obtain ⟨Ao8, co8, eo8⟩ := Kd.R_slice HO_0.out
       subst eo8
       have p579 : 0 ≤ (x5_1 : Int) := od_
       have q579 : x5_1 < (l0.length : Int) := od_
       obtain ⟨ad579, e579, hx579_0⟩ := Kd.at_int (Kd.R_reads' HO_0.out).2.2 x5_1 p579 q579
       cases e579
       replace p579 := eq_true p579
       replace q579 := eq_true q579
       have p580 : 0 ≤ (x5_1 : Int) := od_
       have q580 : x5_1 < (l0.length : Int) := od_
       obtain ⟨ad580, e580, hx580_0⟩ := Kd.at_int (Kd.R_reads' HO_0.out).2.2 x5_1 p580 q580
       obtain rfl : ad579 = ad580 := (by injection e580)
       replace p580 := eq_true p580
       replace q580 := eq_true q580
       go_wp2
       go_ret
       exact ⟨_, te_, tr_x HO_0.out, tb_, by repeat (first | (with_reducible first | exact HK.out | apply Kept.alloc | apply Kept.drewN | apply Kept.drew) | exact HK.out)⟩
      ·
       rw [if_neg c7] at H
       have c7b0 : ((rd l0 x5_1) == a1) = false := beq_eq_false_iff_ne.mpr c7
       have c7b1 : ((rd l0 x5_1) != a1) = true := bne_iff_ne.mpr c7
       obtain ⟨y581, hy581⟩ : ∃ y_ : List Int, y_ = (([] : List Int)) := ⟨_, rfl⟩
       replace H : (if x5_1 ≤ (l0.length : Int) then ((some (l0.take (x5_1 : Int).toNat : List Int)).bind fun y584 => (if y581.length + y584.length < 17592186044416 then ((some (y581 ++ y584 : List Int)).bind fun y588 => (if y588.length < 17592186044416 then ((some (y588 ++ [a1] : List Int)).bind fun y591 => ((some (l0.drop (x5_1 : Int).toNat : List Int)).bind fun y594 => (if y591.length + y594.length < 17592186044416 then (some (y591 ++ y594)) else (none)))) else (none))) else (none))) else (none)) = some r := ty_ hy581 H
       have Ny581 := A_ hy581
       clear hy581
       have c9b0 := eq_true (od_ : 0 ≤ x5_1)
       by_cases c10 : x5_1 ≤ (l0.length : Int)
       ·
        rw [if_pos c10] at H
        have c10b0 := eq_true c10
        have c10b1 := decide_eq_true c10
        clear c10
        obtain ⟨y584, hy584⟩ : ∃ y_ : List Int, y_ = (l0.take (x5_1 : Int).toNat) := ⟨_, rfl⟩
        replace H : (if y581.length + y584.length < 17592186044416 then ((some (y581 ++ y584 : List Int)).bind fun y588 => (if y588.length < 17592186044416 then ((some (y588 ++ [a1] : List Int)).bind fun y591 => ((some (l0.drop (x5_1 : Int).toNat : List Int)).bind fun y594 => (if y591.length + y594.length < 17592186044416 then (some (y591 ++ y594)) else (none)))) else (none))) else (none)) = some r := ty_ hy584 H
        have Ny584 := A_ hy584
        clear hy584
        by_cases c11 : y581.length + y584.length < 17592186044416
        ·
         rw [if_pos c11] at H
         have LMc11 := A_ c11
         clear c11
         obtain ⟨y588, hy588⟩ : ∃ y_ : List Int, y_ = (y581 ++ y584) := ⟨_, rfl⟩
         replace H : (if y588.length < 17592186044416 then ((some (y588 ++ [a1] : List Int)).bind fun y591 => ((some (l0.drop (x5_1 : Int).toNat : List Int)).bind fun y594 => (if y591.length + y594.length < 17592186044416 then (some (y591 ++ y594)) else (none)))) else (none)) = some r := ty_ hy588 H
         have Ny588 := A_ hy588
         clear hy588
         by_cases c12 : y588.length < 17592186044416
         ·
          rw [if_pos c12] at H
          have LMc12 := A_ c12
          clear c12
          obtain ⟨y591, hy591⟩ : ∃ y_ : List Int, y_ = (y588 ++ [a1]) := ⟨_, rfl⟩
          replace H : ((some (l0.drop (x5_1 : Int).toNat : List Int)).bind fun y594 => (if y591.length + y594.length < 17592186044416 then (some (y591 ++ y594)) else (none))) = some r := ty_ hy591 H
          have Ny591 := A_ hy591
          clear hy591
          have c13b0 := eq_true (od_ : 0 ≤ x5_1)
          have c14b0 := eq_true (od_ : x5_1 ≤ (l0.length : Int))
          obtain ⟨y594, hy594⟩ : ∃ y_ : List Int, y_ = (l0.drop (x5_1 : Int).toNat) := ⟨_, rfl⟩
          replace H : (if y591.length + y594.length < 17592186044416 then (some (y591 ++ y594)) else (none)) = some r := ty_ hy594 H
          have Ny594 := A_ hy594
          clear hy594
          by_cases c15 : y591.length + y594.length < 17592186044416
          ·
           rw [if_pos c15] at H
           have LMc15 := A_ c15
           clear c15
           obtain ⟨y598, hy598⟩ : ∃ y_ : List Int, y_ = (y591 ++ y594) := ⟨_, rfl⟩
           replace H : (some y598) = some r := ty_ hy598 H
           have Ny598 := A_ hy598
           clear hy598
           obtain rfl := Option.some.inj H
           obtain ⟨Ao16, co16, eo16⟩ := Kd.R_slice HO_0.out
           subst eo16
           have p579 : 0 ≤ (x5_1 : Int) := od_
           have q579 : x5_1 < (l0.length : Int) := od_
           obtain ⟨ad579, e579, hx579_0⟩ := Kd.at_int (Kd.R_reads' HO_0.out).2.2 x5_1 p579 q579
           cases e579
           replace p579 := eq_true p579
           replace q579 := eq_true q579
           have p580 : 0 ≤ (x5_1 : Int) := od_
           have q580 : x5_1 < (l0.length : Int) := od_
           obtain ⟨ad580, e580, hx580_0⟩ := Kd.at_int (Kd.R_reads' HO_0.out).2.2 x5_1 p580 q580
           obtain rfl : ad579 = ad580 := (by injection e580)
           replace p580 := eq_true p580
           replace q580 := eq_true q580
           go_wp2_with (first | (refine gd_ 34 ?_; refine Kd.R_lit (Kd.int .i64) _ 3 ?hg (N := 34) ?hd (xs := ([] : List Int)) (inner := []) (ok := fun _ => True) (okp := fun _ => True) ?hr ?hp (fun _ hk => hk) trivial (Below.refl _ _) (Nat.le_refl _) (by simp) ?_; (case hd => rfl); (case hg => rfl); (case hr => first | (go_simp; done) | (go_simp; rfl)); (case hp => exact (Reps.none _ _)); intro v582 w17 ho18 hb hg_ hnew_; clear hg_ hnew_; (first | rw [← Ny581.out] at ho18 | (simp only [Int.reduceToNat] at ho18; rw [← Ny581.out] at ho18)); have HO583 := A_ (Kd.R_lower (Kd.R_new' (Kd.R_newM (M := fun k_ => (P0_ k_ ∨ w.heap.size ≤ k_)) ho18 (by first | exact HK.out.1 | exact (show Kept w _ (fun k_ => P0_ k_) from by repeat (first | (with_reducible first | exact HK.out | apply Kept.alloc | apply Kept.drewN | apply Kept.drew) | exact HK.out)).1) (fun k_ h_ => .inr h_)) (Kd.R_lt (tr_x HO_0.out))) (below_size tb_)); replace HO_0 := A_ (Kd.R_elder' (tr_x HO_0.out) (Kd.R_base ho18) hb); replace HK := A_ (Kept.below (S := (fun k_ => P0_ k_)) (by repeat (first | (with_reducible first | exact HK.out | apply Kept.alloc | apply Kept.drewN | apply Kept.drew) | exact HK.out)) hb); replace HB := A_ (below_step tb_ hb); clear hb ho18; have q19 : (x5_1 : Int) ≤ ((l0.length : Int) : Int) := od_; obtain ⟨i019, hi019, _, hsz19, _⟩ := info_parts info3; have hroom19 : l0.length ≤ co16 := (Kd.R_reads' HO_0.out).2.1; have hC19 : Kd.C (Kd.int .i64) _ (some ad579) l0.length l0 := (Kd.R_reads' HO_0.out).2.2; have hcut19 := cut_to (P := Try.prog) 24 3 .i64 Try.underlying24 hi019 (some ad579) l0.length co16 x5_1 (od_) q19 hroom19; have hr19 := Kd.C_take (m := (x5_1 : Int).toNat) hC19 (by omega); have hy19 : y584.length = (x5_1 : Int).toNat := (by rw [Ny584.out, List.length_take]; omega); rw [← Ny584.out] at hr19; rw [← hy19] at hcut19; have HR587 := A_ hr19; have HC587 := A_ (show y584.length ≤ co16 from by omega); clear hr19 hC19 hroom19 hi019 hsz19; have KY19 := A_ hy19; clear hy19; have KL19 := A_ (show (x5_1 : Int).toNat ≤ l0.length from by omega); replace q19 := eq_true q19) | ((with_reducible refine gate_builtin (b := .append) (xs := #[.tmp 34, .tmp 37]) rfl ?_); at_builtin; refine Kd.R_append_rows (Kd.int .i64) (w0 := w0) w0.heap.size rfl (.tmp 34) (.tmp 37) 24 3 (.int .i64 0) 8 rfl Try.underlying24 info3 rfl (by decide) (by omega) v582 y581 y584 _ _ _ (fun k_ => (P0_ k_ ∨ w.heap.size ≤ k_) ∧ some k_ ≠ (.slice (some ad579) l0.length co16 : Value).ownBlock) (fun _ => False) rfl rfl ?aO ?aR (fun _ _ h => h) (fun _ h => h.elim) ?aF ?aB ?aS ?aL ?_; (case aR => repeat (first | exact (by repeat (first | (with_reducible exact HR587.out) | (with_reducible refine Kd.C_alloc ?_ _) | (with_reducible refine Kd.C_drewN ?_ _) | (with_reducible refine Kd.C_drew ?_) | exact HR587.out)) | (with_reducible refine Kd.C_alloc ?_ _) | (with_reducible refine Kd.C_drewN ?_ _) | (with_reducible refine Kd.C_drew ?_))); (case aB => exact tb_); (case aF => exact (fun k_ hk => ⟨(.inr (Nat.le_trans (by first | exact HK.out.1 | exact (show Kept w _ (fun k_ => P0_ k_) from by repeat (first | (with_reducible first | exact HK.out | apply Kept.alloc | apply Kept.drewN | apply Kept.drew) | exact HK.out)).1) hk)), Kd.fresh' (Kd.R_lt (tr_x HO_0.out)) k_ hk⟩)); (case aO => exact (tr_ (h := by exact Kd.R_mono HO583.out om_))); (case aS => exact (below_size tb_)); (case aL => have := LMc11.out; omega); intro v589 w20 ho hb hg hat; rw [← Ny588.out] at ho; have n0_ := A_ (Kd.R_after (ok := (fun k_ => (P0_ k_ ∨ w.heap.size ≤ k_))) (tr_x HO_0.out) hg hat); have n1_ := A_ (hb); have n2_ := A_ (Kept.of_grown (S := (fun k_ => P0_ k_)) hg (by repeat (first | (with_reducible first | exact HK.out | apply Kept.alloc | apply Kept.drewN | apply Kept.drew) | exact HK.out)) (fun k_ e_ => (HO583.out.1 k_ e_).1.1)); have n3_ := A_ ((show Kd.C (Kd.int .i64) w20 (some ad579) y584.length y584 from by rw [Ny584.out]; exact Kd.C_take (m := (x5_1 : Int).toNat) ((Kd.R_reads' (Kd.R_after (ok := (fun k_ => (P0_ k_ ∨ w.heap.size ≤ k_))) (tr_x HO_0.out) hg hat)).2.2) KL19.out)); have n4_ := A_ (ho); clear HO_0; clear HB; clear HK; clear HR587; clear HO583; have HO_0 := n0_; have HB := n1_; have HK := n2_; have HR587 := n3_; have HO590 := n4_; clear n0_ n1_ n2_ n3_ n4_; clear ho hb hg hat) | ((with_reducible refine gate_builtin (b := .append) (xs := #[.tmp 39, .tmp 41]) rfl ?_); at_builtin; refine Kd.R_append (Kd.int .i64) (w0 := w0) w0.heap.size rfl (.tmp 39) (.tmp 41) 24 3 (.int .i64 0) 8 rfl Try.underlying24 info3 rfl (by decide) (by omega) v589 y588 a1 [.int .i64 a1] (fun k_ => (P0_ k_ ∨ w.heap.size ≤ k_) ∧ some k_ ≠ (.slice (some ad579) l0.length co16 : Value).ownBlock) (fun _ => False) rfl rfl ?aP (fun _ hk => hk.elim) ?aF ?aO ?aB ?aS ?aL ?_; (case aP => exact rfl); (case aB => exact tb_); (case aF => exact (fun k_ hk => ⟨(.inr (Nat.le_trans (by first | exact HK.out.1 | exact (show Kept w _ (fun k_ => P0_ k_) from by repeat (first | (with_reducible first | exact HK.out | apply Kept.alloc | apply Kept.drewN | apply Kept.drew) | exact HK.out)).1) hk)), Kd.fresh' (Kd.R_lt (tr_x HO_0.out)) k_ hk⟩)); (case aO => exact (tr_x HO590.out)); (case aS => exact (below_size tb_)); (case aL => have := LMc12.out; omega); intro v592 w21 ho hb hg hat; rw [← Ny591.out] at ho; have n0_ := A_ (Kd.R_after (ok := (fun k_ => (P0_ k_ ∨ w.heap.size ≤ k_))) (tr_x HO_0.out) hg hat); have n1_ := A_ (hb); have n2_ := A_ (Kept.of_grown (S := (fun k_ => P0_ k_)) hg (by repeat (first | (with_reducible first | exact HK.out | apply Kept.alloc | apply Kept.drewN | apply Kept.drew) | exact HK.out)) (fun k_ e_ => (HO590.out.1 k_ e_).1)); have n3_ := A_ ((show Kd.C (Kd.int .i64) w21 (some ad579) y584.length y584 from by rw [Ny584.out]; exact Kd.C_take (m := (x5_1 : Int).toNat) ((Kd.R_reads' (Kd.R_after (ok := (fun k_ => (P0_ k_ ∨ w.heap.size ≤ k_))) (tr_x HO_0.out) hg hat)).2.2) KL19.out)); have n4_ := A_ (ho); clear HO_0; clear HB; clear HK; clear HR587; clear HO590; have HO_0 := n0_; have HB := n1_; have HK := n2_; have HR587 := n3_; have HO593 := n4_; clear n0_ n1_ n2_ n3_ n4_; clear ho hb hg hat; have q22 : (x5_1 : Int) ≤ ((l0.length : Int) : Int) := od_; obtain ⟨i022, hi022, _, hsz22, _⟩ := info_parts info3; have hroom22 : l0.length ≤ co16 := (Kd.R_reads' HO_0.out).2.1; have hC22 : Kd.C (Kd.int .i64) _ (some ad579) l0.length l0 := (Kd.R_reads' HO_0.out).2.2; have q022 : (0 : Int) ≤ (x5_1 : Int) := od_; have hcut22 := cut_from (P := Try.prog) 24 3 .i64 Try.underlying24 hi022 1 hsz22 (some ad579) l0.length co16 x5_1 q022 q22; have hr22 := Kd.C_drop (m := (x5_1 : Int).toNat) (c := co16) hC22 (by omega) hroom22; obtain ⟨A22, hA22⟩ : ∃ A1, A1 = (if co16 = (x5_1 : Int).toNat then (some ad579) else ((some ad579) : Option Addr).map (·.add ((x5_1 : Int).toNat * 1))) := ⟨_, rfl⟩; obtain ⟨c22, hc22⟩ : ∃ c1, c1 = co16 - (x5_1 : Int).toNat := ⟨_, rfl⟩; have hy22 : y594.length = l0.length - (x5_1 : Int).toNat := (by rw [Ny594.out, List.length_drop] <;> omega); rw [show (l0).drop (x5_1 : Int).toNat = y594 from Ny594.out.symm] at hr22; replace hr22 : Kd.C (Kd.int .i64) _ A22 y594.length y594 := (by rw [hA22]; exact hr22); rw [← hy22, ← hA22, ← hc22] at hcut22; have HR597 := A_ hr22; have HC597 := A_ (show y594.length ≤ c22 from by rw [hy22, hc22]; exact Nat.sub_le_sub_right hroom22 _); clear hr22 hC22 hroom22 hi022 hsz22 hc22; have KY22 := A_ hy22; have KA22 := A_ hA22; clear hy22 hA22; have KL22 := A_ (show (x5_1 : Int).toNat ≤ l0.length from by omega); replace q22 := eq_true q22) | ((with_reducible refine gate_builtin (b := .append) (xs := #[.tmp 43, .tmp 46]) rfl ?_); at_builtin; refine Kd.R_append_rows (Kd.int .i64) (w0 := w0) w0.heap.size rfl (.tmp 43) (.tmp 46) 24 3 (.int .i64 0) 8 rfl Try.underlying24 info3 rfl (by decide) (by omega) v592 y591 y594 _ _ _ (fun k_ => (P0_ k_ ∨ w.heap.size ≤ k_) ∧ some k_ ≠ (.slice (some ad579) l0.length co16 : Value).ownBlock) (fun _ => False) rfl rfl ?aO ?aR (fun _ _ h => h) (fun _ h => h.elim) ?aF ?aB ?aS ?aL ?_; (case aR => repeat (first | exact (by repeat (first | (with_reducible exact HR597.out) | (with_reducible refine Kd.C_alloc ?_ _) | (with_reducible refine Kd.C_drewN ?_ _) | (with_reducible refine Kd.C_drew ?_) | exact HR597.out)) | (with_reducible refine Kd.C_alloc ?_ _) | (with_reducible refine Kd.C_drewN ?_ _) | (with_reducible refine Kd.C_drew ?_))); (case aB => exact tb_); (case aF => exact (fun k_ hk => ⟨(.inr (Nat.le_trans (by first | exact HK.out.1 | exact (show Kept w _ (fun k_ => P0_ k_) from by repeat (first | (with_reducible first | exact HK.out | apply Kept.alloc | apply Kept.drewN | apply Kept.drew) | exact HK.out)).1) hk)), Kd.fresh' (Kd.R_lt (tr_x HO_0.out)) k_ hk⟩)); (case aO => exact (tr_x HO593.out)); (case aS => exact (below_size tb_)); (case aL => have := LMc15.out; omega); intro v599 w23 ho hb hg hat; rw [← Ny598.out] at ho; have n0_ := A_ (Kd.R_after (ok := (fun k_ => (P0_ k_ ∨ w.heap.size ≤ k_))) (tr_x HO_0.out) hg hat); have n1_ := A_ (hb); have n2_ := A_ (Kept.of_grown (S := (fun k_ => P0_ k_)) hg (by repeat (first | (with_reducible first | exact HK.out | apply Kept.alloc | apply Kept.drewN | apply Kept.drew) | exact HK.out)) (fun k_ e_ => (HO593.out.1 k_ e_).1)); have n3_ := A_ ((show Kd.C (Kd.int .i64) w23 (some ad579) y584.length y584 from by rw [Ny584.out]; exact Kd.C_take (m := (x5_1 : Int).toNat) ((Kd.R_reads' (Kd.R_after (ok := (fun k_ => (P0_ k_ ∨ w.heap.size ≤ k_))) (tr_x HO_0.out) hg hat)).2.2) KL19.out)); have n4_ := A_ ((show Kd.C (Kd.int .i64) w23 A22 y594.length y594 from by rw [Ny594.out, KA22.out]; exact Kd.C_drop (m := (x5_1 : Int).toNat) (c := co16) ((Kd.R_reads' (Kd.R_after (ok := (fun k_ => (P0_ k_ ∨ w.heap.size ≤ k_))) (tr_x HO_0.out) hg hat)).2.2) KL22.out ((Kd.R_reads' (Kd.R_after (ok := (fun k_ => (P0_ k_ ∨ w.heap.size ≤ k_))) (tr_x HO_0.out) hg hat)).2.1))); have n5_ := A_ (ho); clear HO_0; clear HB; clear HK; clear HR587; clear HR597; clear HO593; have HO_0 := n0_; have HB := n1_; have HK := n2_; have HR587 := n3_; have HR597 := n4_; have HO600 := n5_; clear n0_ n1_ n2_ n3_ n4_ n5_; clear ho hb hg hat))
           go_ret
           exact ⟨_, te_, by (with_reducible repeat (first | apply Kd.R_alloc | apply Kd.R_drewN | apply Kd.R_drew)); exact Kd.R_mono HO600.out (fun _ hk => hk.1), tb_, by repeat (first | (with_reducible first | exact HK.out | apply Kept.alloc | apply Kept.drewN | apply Kept.drew) | exact HK.out)⟩
          ·
           rw [if_neg c15] at H
           exact absurd H (by simp)
         ·
          rw [if_neg c12] at H
          exact absurd H (by simp)
        ·
         rw [if_neg c11] at H
         exact absurd H (by simp)
       ·
        rw [if_neg c10] at H
        exact absurd H (by simp)
    ·
     rw [if_neg c4] at H
     exact absurd H (by simp)
   ·
    rw [if_neg c3] at H
    have c3b0 := decide_eq_false c3
    clear c3
    obtain ⟨y601, hy601⟩ : ∃ y_ : List Int, y_ = (([] : List Int)) := ⟨_, rfl⟩
    replace H : (if 0 ≤ x5_1 then (if x5_1 ≤ (l0.length : Int) then ((some (l0.take (x5_1 : Int).toNat : List Int)).bind fun y604 => (if y601.length + y604.length < 17592186044416 then ((some (y601 ++ y604 : List Int)).bind fun y608 => (if y608.length < 17592186044416 then ((some (y608 ++ [a1] : List Int)).bind fun y611 => ((some (l0.drop (x5_1 : Int).toNat : List Int)).bind fun y614 => (if y611.length + y614.length < 17592186044416 then (some (y611 ++ y614)) else (none)))) else (none))) else (none))) else (none)) else (none)) = some r := ty_ hy601 H
    have Ny601 := A_ hy601
    clear hy601
    by_cases c24 : 0 ≤ x5_1
    ·
     rw [if_pos c24] at H
     have c24b0 := eq_true c24
     have c24b1 := decide_eq_true c24
     clear c24
     by_cases c25 : x5_1 ≤ (l0.length : Int)
     ·
      rw [if_pos c25] at H
      have c25b0 := eq_true c25
      have c25b1 := decide_eq_true c25
      clear c25
      obtain ⟨y604, hy604⟩ : ∃ y_ : List Int, y_ = (l0.take (x5_1 : Int).toNat) := ⟨_, rfl⟩
      replace H : (if y601.length + y604.length < 17592186044416 then ((some (y601 ++ y604 : List Int)).bind fun y608 => (if y608.length < 17592186044416 then ((some (y608 ++ [a1] : List Int)).bind fun y611 => ((some (l0.drop (x5_1 : Int).toNat : List Int)).bind fun y614 => (if y611.length + y614.length < 17592186044416 then (some (y611 ++ y614)) else (none)))) else (none))) else (none)) = some r := ty_ hy604 H
      have Ny604 := A_ hy604
      clear hy604
      by_cases c26 : y601.length + y604.length < 17592186044416
      ·
       rw [if_pos c26] at H
       have LMc26 := A_ c26
       clear c26
       obtain ⟨y608, hy608⟩ : ∃ y_ : List Int, y_ = (y601 ++ y604) := ⟨_, rfl⟩
       replace H : (if y608.length < 17592186044416 then ((some (y608 ++ [a1] : List Int)).bind fun y611 => ((some (l0.drop (x5_1 : Int).toNat : List Int)).bind fun y614 => (if y611.length + y614.length < 17592186044416 then (some (y611 ++ y614)) else (none)))) else (none)) = some r := ty_ hy608 H
       have Ny608 := A_ hy608
       clear hy608
       by_cases c27 : y608.length < 17592186044416
       ·
        rw [if_pos c27] at H
        have LMc27 := A_ c27
        clear c27
        obtain ⟨y611, hy611⟩ : ∃ y_ : List Int, y_ = (y608 ++ [a1]) := ⟨_, rfl⟩
        replace H : ((some (l0.drop (x5_1 : Int).toNat : List Int)).bind fun y614 => (if y611.length + y614.length < 17592186044416 then (some (y611 ++ y614)) else (none))) = some r := ty_ hy611 H
        have Ny611 := A_ hy611
        clear hy611
        have c28b0 := eq_true (od_ : 0 ≤ x5_1)
        have c29b0 := eq_true (od_ : x5_1 ≤ (l0.length : Int))
        obtain ⟨y614, hy614⟩ : ∃ y_ : List Int, y_ = (l0.drop (x5_1 : Int).toNat) := ⟨_, rfl⟩
        replace H : (if y611.length + y614.length < 17592186044416 then (some (y611 ++ y614)) else (none)) = some r := ty_ hy614 H
        have Ny614 := A_ hy614
        clear hy614
        by_cases c30 : y611.length + y614.length < 17592186044416
        ·
         rw [if_pos c30] at H
         have LMc30 := A_ c30
         clear c30
         obtain ⟨y618, hy618⟩ : ∃ y_ : List Int, y_ = (y611 ++ y614) := ⟨_, rfl⟩
         replace H : (some y618) = some r := ty_ hy618 H
         have Ny618 := A_ hy618
         clear hy618
         obtain rfl := Option.some.inj H
         obtain ⟨Ao31, co31, eo31⟩ := Kd.R_slice HO_0.out
         subst eo31
         go_wp2_with (first | (refine gd_ 34 ?_; refine Kd.R_lit (Kd.int .i64) _ 3 ?hg (N := 34) ?hd (xs := ([] : List Int)) (inner := []) (ok := fun _ => True) (okp := fun _ => True) ?hr ?hp (fun _ hk => hk) trivial (Below.refl _ _) (Nat.le_refl _) (by simp) ?_; (case hd => rfl); (case hg => rfl); (case hr => first | (go_simp; done) | (go_simp; rfl)); (case hp => exact (Reps.none _ _)); intro v602 w32 ho33 hb hg_ hnew_; clear hg_ hnew_; (first | rw [← Ny601.out] at ho33 | (simp only [Int.reduceToNat] at ho33; rw [← Ny601.out] at ho33)); have HO603 := A_ (Kd.R_lower (Kd.R_new' (Kd.R_newM (M := fun k_ => (P0_ k_ ∨ w.heap.size ≤ k_)) ho33 (by first | exact HK.out.1 | exact (show Kept w _ (fun k_ => P0_ k_) from by repeat (first | (with_reducible first | exact HK.out | apply Kept.alloc | apply Kept.drewN | apply Kept.drew) | exact HK.out)).1) (fun k_ h_ => .inr h_)) (Kd.R_lt (tr_x HO_0.out))) (below_size tb_)); replace HO_0 := A_ (Kd.R_elder' (tr_x HO_0.out) (Kd.R_base ho33) hb); replace HK := A_ (Kept.below (S := (fun k_ => P0_ k_)) (by repeat (first | (with_reducible first | exact HK.out | apply Kept.alloc | apply Kept.drewN | apply Kept.drew) | exact HK.out)) hb); replace HB := A_ (below_step tb_ hb); clear hb ho33; have q34 : (x5_1 : Int) ≤ ((l0.length : Int) : Int) := od_; obtain ⟨i034, hi034, _, hsz34, _⟩ := info_parts info3; have hroom34 : l0.length ≤ co31 := (Kd.R_reads' HO_0.out).2.1; have hC34 : Kd.C (Kd.int .i64) _ Ao31 l0.length l0 := (Kd.R_reads' HO_0.out).2.2; have hcut34 := cut_to (P := Try.prog) 24 3 .i64 Try.underlying24 hi034 Ao31 l0.length co31 x5_1 (od_) q34 hroom34; have hr34 := Kd.C_take (m := (x5_1 : Int).toNat) hC34 (by omega); have hy34 : y604.length = (x5_1 : Int).toNat := (by rw [Ny604.out, List.length_take]; omega); rw [← Ny604.out] at hr34; rw [← hy34] at hcut34; have HR607 := A_ hr34; have HC607 := A_ (show y604.length ≤ co31 from by omega); clear hr34 hC34 hroom34 hi034 hsz34; have KY34 := A_ hy34; clear hy34; have KL34 := A_ (show (x5_1 : Int).toNat ≤ l0.length from by omega); replace q34 := eq_true q34) | ((with_reducible refine gate_builtin (b := .append) (xs := #[.tmp 34, .tmp 37]) rfl ?_); at_builtin; refine Kd.R_append_rows (Kd.int .i64) (w0 := w0) w0.heap.size rfl (.tmp 34) (.tmp 37) 24 3 (.int .i64 0) 8 rfl Try.underlying24 info3 rfl (by decide) (by omega) v602 y601 y604 _ _ _ (fun k_ => (P0_ k_ ∨ w.heap.size ≤ k_) ∧ some k_ ≠ (.slice Ao31 l0.length co31 : Value).ownBlock) (fun _ => False) rfl rfl ?aO ?aR (fun _ _ h => h) (fun _ h => h.elim) ?aF ?aB ?aS ?aL ?_; (case aR => repeat (first | exact (by repeat (first | (with_reducible exact HR607.out) | (with_reducible refine Kd.C_alloc ?_ _) | (with_reducible refine Kd.C_drewN ?_ _) | (with_reducible refine Kd.C_drew ?_) | exact HR607.out)) | (with_reducible refine Kd.C_alloc ?_ _) | (with_reducible refine Kd.C_drewN ?_ _) | (with_reducible refine Kd.C_drew ?_))); (case aB => exact tb_); (case aF => exact (fun k_ hk => ⟨(.inr (Nat.le_trans (by first | exact HK.out.1 | exact (show Kept w _ (fun k_ => P0_ k_) from by repeat (first | (with_reducible first | exact HK.out | apply Kept.alloc | apply Kept.drewN | apply Kept.drew) | exact HK.out)).1) hk)), Kd.fresh' (Kd.R_lt (tr_x HO_0.out)) k_ hk⟩)); (case aO => exact (tr_ (h := by exact Kd.R_mono HO603.out om_))); (case aS => exact (below_size tb_)); (case aL => have := LMc26.out; omega); intro v609 w35 ho hb hg hat; rw [← Ny608.out] at ho; have n0_ := A_ (Kd.R_after (ok := (fun k_ => (P0_ k_ ∨ w.heap.size ≤ k_))) (tr_x HO_0.out) hg hat); have n1_ := A_ (hb); have n2_ := A_ (Kept.of_grown (S := (fun k_ => P0_ k_)) hg (by repeat (first | (with_reducible first | exact HK.out | apply Kept.alloc | apply Kept.drewN | apply Kept.drew) | exact HK.out)) (fun k_ e_ => (HO603.out.1 k_ e_).1.1)); have n3_ := A_ ((show Kd.C (Kd.int .i64) w35 Ao31 y604.length y604 from by rw [Ny604.out]; exact Kd.C_take (m := (x5_1 : Int).toNat) ((Kd.R_reads' (Kd.R_after (ok := (fun k_ => (P0_ k_ ∨ w.heap.size ≤ k_))) (tr_x HO_0.out) hg hat)).2.2) KL34.out)); have n4_ := A_ (ho); clear HO_0; clear HB; clear HK; clear HR607; clear HO603; have HO_0 := n0_; have HB := n1_; have HK := n2_; have HR607 := n3_; have HO610 := n4_; clear n0_ n1_ n2_ n3_ n4_; clear ho hb hg hat) | ((with_reducible refine gate_builtin (b := .append) (xs := #[.tmp 39, .tmp 41]) rfl ?_); at_builtin; refine Kd.R_append (Kd.int .i64) (w0 := w0) w0.heap.size rfl (.tmp 39) (.tmp 41) 24 3 (.int .i64 0) 8 rfl Try.underlying24 info3 rfl (by decide) (by omega) v609 y608 a1 [.int .i64 a1] (fun k_ => (P0_ k_ ∨ w.heap.size ≤ k_) ∧ some k_ ≠ (.slice Ao31 l0.length co31 : Value).ownBlock) (fun _ => False) rfl rfl ?aP (fun _ hk => hk.elim) ?aF ?aO ?aB ?aS ?aL ?_; (case aP => exact rfl); (case aB => exact tb_); (case aF => exact (fun k_ hk => ⟨(.inr (Nat.le_trans (by first | exact HK.out.1 | exact (show Kept w _ (fun k_ => P0_ k_) from by repeat (first | (with_reducible first | exact HK.out | apply Kept.alloc | apply Kept.drewN | apply Kept.drew) | exact HK.out)).1) hk)), Kd.fresh' (Kd.R_lt (tr_x HO_0.out)) k_ hk⟩)); (case aO => exact (tr_x HO610.out)); (case aS => exact (below_size tb_)); (case aL => have := LMc27.out; omega); intro v612 w36 ho hb hg hat; rw [← Ny611.out] at ho; have n0_ := A_ (Kd.R_after (ok := (fun k_ => (P0_ k_ ∨ w.heap.size ≤ k_))) (tr_x HO_0.out) hg hat); have n1_ := A_ (hb); have n2_ := A_ (Kept.of_grown (S := (fun k_ => P0_ k_)) hg (by repeat (first | (with_reducible first | exact HK.out | apply Kept.alloc | apply Kept.drewN | apply Kept.drew) | exact HK.out)) (fun k_ e_ => (HO610.out.1 k_ e_).1)); have n3_ := A_ ((show Kd.C (Kd.int .i64) w36 Ao31 y604.length y604 from by rw [Ny604.out]; exact Kd.C_take (m := (x5_1 : Int).toNat) ((Kd.R_reads' (Kd.R_after (ok := (fun k_ => (P0_ k_ ∨ w.heap.size ≤ k_))) (tr_x HO_0.out) hg hat)).2.2) KL34.out)); have n4_ := A_ (ho); clear HO_0; clear HB; clear HK; clear HR607; clear HO610; have HO_0 := n0_; have HB := n1_; have HK := n2_; have HR607 := n3_; have HO613 := n4_; clear n0_ n1_ n2_ n3_ n4_; clear ho hb hg hat; have q37 : (x5_1 : Int) ≤ ((l0.length : Int) : Int) := od_; obtain ⟨i037, hi037, _, hsz37, _⟩ := info_parts info3; have hroom37 : l0.length ≤ co31 := (Kd.R_reads' HO_0.out).2.1; have hC37 : Kd.C (Kd.int .i64) _ Ao31 l0.length l0 := (Kd.R_reads' HO_0.out).2.2; have q037 : (0 : Int) ≤ (x5_1 : Int) := od_; have hcut37 := cut_from (P := Try.prog) 24 3 .i64 Try.underlying24 hi037 1 hsz37 Ao31 l0.length co31 x5_1 q037 q37; have hr37 := Kd.C_drop (m := (x5_1 : Int).toNat) (c := co31) hC37 (by omega) hroom37; obtain ⟨A37, hA37⟩ : ∃ A1, A1 = (if co31 = (x5_1 : Int).toNat then Ao31 else (Ao31 : Option Addr).map (·.add ((x5_1 : Int).toNat * 1))) := ⟨_, rfl⟩; obtain ⟨c37, hc37⟩ : ∃ c1, c1 = co31 - (x5_1 : Int).toNat := ⟨_, rfl⟩; have hy37 : y614.length = l0.length - (x5_1 : Int).toNat := (by rw [Ny614.out, List.length_drop] <;> omega); rw [show (l0).drop (x5_1 : Int).toNat = y614 from Ny614.out.symm] at hr37; replace hr37 : Kd.C (Kd.int .i64) _ A37 y614.length y614 := (by rw [hA37]; exact hr37); rw [← hy37, ← hA37, ← hc37] at hcut37; have HR617 := A_ hr37; have HC617 := A_ (show y614.length ≤ c37 from by rw [hy37, hc37]; exact Nat.sub_le_sub_right hroom37 _); clear hr37 hC37 hroom37 hi037 hsz37 hc37; have KY37 := A_ hy37; have KA37 := A_ hA37; clear hy37 hA37; have KL37 := A_ (show (x5_1 : Int).toNat ≤ l0.length from by omega); replace q37 := eq_true q37) | ((with_reducible refine gate_builtin (b := .append) (xs := #[.tmp 43, .tmp 46]) rfl ?_); at_builtin; refine Kd.R_append_rows (Kd.int .i64) (w0 := w0) w0.heap.size rfl (.tmp 43) (.tmp 46) 24 3 (.int .i64 0) 8 rfl Try.underlying24 info3 rfl (by decide) (by omega) v612 y611 y614 _ _ _ (fun k_ => (P0_ k_ ∨ w.heap.size ≤ k_) ∧ some k_ ≠ (.slice Ao31 l0.length co31 : Value).ownBlock) (fun _ => False) rfl rfl ?aO ?aR (fun _ _ h => h) (fun _ h => h.elim) ?aF ?aB ?aS ?aL ?_; (case aR => repeat (first | exact (by repeat (first | (with_reducible exact HR617.out) | (with_reducible refine Kd.C_alloc ?_ _) | (with_reducible refine Kd.C_drewN ?_ _) | (with_reducible refine Kd.C_drew ?_) | exact HR617.out)) | (with_reducible refine Kd.C_alloc ?_ _) | (with_reducible refine Kd.C_drewN ?_ _) | (with_reducible refine Kd.C_drew ?_))); (case aB => exact tb_); (case aF => exact (fun k_ hk => ⟨(.inr (Nat.le_trans (by first | exact HK.out.1 | exact (show Kept w _ (fun k_ => P0_ k_) from by repeat (first | (with_reducible first | exact HK.out | apply Kept.alloc | apply Kept.drewN | apply Kept.drew) | exact HK.out)).1) hk)), Kd.fresh' (Kd.R_lt (tr_x HO_0.out)) k_ hk⟩)); (case aO => exact (tr_x HO613.out)); (case aS => exact (below_size tb_)); (case aL => have := LMc30.out; omega); intro v619 w38 ho hb hg hat; rw [← Ny618.out] at ho; have n0_ := A_ (Kd.R_after (ok := (fun k_ => (P0_ k_ ∨ w.heap.size ≤ k_))) (tr_x HO_0.out) hg hat); have n1_ := A_ (hb); have n2_ := A_ (Kept.of_grown (S := (fun k_ => P0_ k_)) hg (by repeat (first | (with_reducible first | exact HK.out | apply Kept.alloc | apply Kept.drewN | apply Kept.drew) | exact HK.out)) (fun k_ e_ => (HO613.out.1 k_ e_).1)); have n3_ := A_ ((show Kd.C (Kd.int .i64) w38 Ao31 y604.length y604 from by rw [Ny604.out]; exact Kd.C_take (m := (x5_1 : Int).toNat) ((Kd.R_reads' (Kd.R_after (ok := (fun k_ => (P0_ k_ ∨ w.heap.size ≤ k_))) (tr_x HO_0.out) hg hat)).2.2) KL34.out)); have n4_ := A_ ((show Kd.C (Kd.int .i64) w38 A37 y614.length y614 from by rw [Ny614.out, KA37.out]; exact Kd.C_drop (m := (x5_1 : Int).toNat) (c := co31) ((Kd.R_reads' (Kd.R_after (ok := (fun k_ => (P0_ k_ ∨ w.heap.size ≤ k_))) (tr_x HO_0.out) hg hat)).2.2) KL37.out ((Kd.R_reads' (Kd.R_after (ok := (fun k_ => (P0_ k_ ∨ w.heap.size ≤ k_))) (tr_x HO_0.out) hg hat)).2.1))); have n5_ := A_ (ho); clear HO_0; clear HB; clear HK; clear HR607; clear HR617; clear HO613; have HO_0 := n0_; have HB := n1_; have HK := n2_; have HR607 := n3_; have HR617 := n4_; have HO620 := n5_; clear n0_ n1_ n2_ n3_ n4_ n5_; clear ho hb hg hat))
         go_ret
         exact ⟨_, te_, by (with_reducible repeat (first | apply Kd.R_alloc | apply Kd.R_drewN | apply Kd.R_drew)); exact Kd.R_mono HO620.out (fun _ hk => hk.1), tb_, by repeat (first | (with_reducible first | exact HK.out | apply Kept.alloc | apply Kept.drewN | apply Kept.drew) | exact HK.out)⟩
        ·
         rw [if_neg c30] at H
         exact absurd H (by simp)
       ·
        rw [if_neg c27] at H
        exact absurd H (by simp)
      ·
       rw [if_neg c26] at H
       exact absurd H (by simp)
     ·
      rw [if_neg c25] at H
      exact absurd H (by simp)
    ·
     rw [if_neg c24] at H
     exact absurd H (by simp)

/-! ### spec_biLines: function 156 -/
mutual
def spec_biLines.l0 : Nat → Int → List Int → List Int → Int → Int → Int → List Int → Option (List Int × List Int)
 | 0, _, _, _, _, _, _, _ => none
 | k + 1, x1, x6, x7, x8, x622000, x622001, x622002 => if x8 < x622000 then (spec_biLines.l1 k x1 x6 x7 x8 0 x622000 x622001 x622002) else (some (x6, x7))
def spec_biLines.l1 : Nat → Int → List Int → List Int → Int → Int → Int → Int → List Int → Option (List Int × List Int)
 | 0, _, _, _, _, _, _, _, _ => none
 | k + 1, x1, x6, x7, x8, x9, x622000, x622001, x622002 => if x9 < x622001 then (if (Int.tmod (wrap64 (x8 + x9)) 2) = x1 then ((spec_biDiagonals.f x622000 x622001 x622002 x8 x9).bind fun bt622 => ((spec_l1Put.f k x6 bt622.1).bind fun t624 => ((spec_l1Put.f k x7 bt622.2).bind fun t627 => (spec_biLines.l1 k x1 t624 t627 x8 (wrap64 (x9 + 1)) x622000 x622001 x622002)))) else (spec_biLines.l1 k x1 x6 x7 x8 (wrap64 (x9 + 1)) x622000 x622001 x622002)) else (spec_biLines.l0 k x1 x6 x7 (wrap64 (x8 + 1)) x622000 x622001 x622002)
end
def spec_biLines.f (k : Nat) (a0_0 : Int) (a0_1 : Int) (l0_2 : List Int) (a1 : Int) : Option (List Int × List Int) := spec_biLines.l0 k a1 ([] : List Int) ([] : List Int) 0 a0_0 a0_1 l0_2
theorem spec_biLines.mono_l : ∀ k, (∀ y0 y1 y2 y3 y4 y5 y6, LeO (spec_biLines.l0 k y0 y1 y2 y3 y4 y5 y6) (spec_biLines.l0 (k + 1) y0 y1 y2 y3 y4 y5 y6)) ∧ (∀ y0 y1 y2 y3 y4 y5 y6 y7, LeO (spec_biLines.l1 k y0 y1 y2 y3 y4 y5 y6 y7) (spec_biLines.l1 (k + 1) y0 y1 y2 y3 y4 y5 y6 y7))
 | 0 => ⟨fun _ _ _ _ _ _ _ r h => by simp [spec_biLines.l0] at h, fun _ _ _ _ _ _ _ _ r h => by simp [spec_biLines.l1] at h⟩
 | k + 1 => by
  obtain ⟨ih0, ih1⟩ := spec_biLines.mono_l k
  refine ⟨?_, ?_⟩
  ·
   intro y0 y1 y2 y3 y4 y5 y6
   unfold spec_biLines.l0
   repeat' first | (with_reducible first | exact ih0 _ _ _ _ _ _ _ | exact ih1 _ _ _ _ _ _ _ _ | exact spec_l1Put.mono _ _ _ | exact LeO.refl _ | exact LeO.none _ | refine LeO.ite ?_ ?_ | refine LeO.bind ?_ (fun _ => ?_)) | exact ih0 _ _ _ _ _ _ _ | exact ih1 _ _ _ _ _ _ _ _ | exact spec_l1Put.mono _ _ _ | exact LeO.none _ | refine LeO.ite ?_ ?_ | refine LeO.bind ?_ (fun _ => ?_)
  ·
   intro y0 y1 y2 y3 y4 y5 y6 y7
   unfold spec_biLines.l1
   repeat' first | (with_reducible first | exact ih0 _ _ _ _ _ _ _ | exact ih1 _ _ _ _ _ _ _ _ | exact spec_l1Put.mono _ _ _ | exact LeO.refl _ | exact LeO.none _ | refine LeO.ite ?_ ?_ | refine LeO.bind ?_ (fun _ => ?_)) | exact ih0 _ _ _ _ _ _ _ | exact ih1 _ _ _ _ _ _ _ _ | exact spec_l1Put.mono _ _ _ | exact LeO.none _ | refine LeO.ite ?_ ?_ | refine LeO.bind ?_ (fun _ => ?_)
theorem spec_biLines.mono : ∀ a0 a1 a2 a3 k, LeO (spec_biLines.f k a0 a1 a2 a3) (spec_biLines.f (k + 1) a0 a1 a2 a3) := by
 intro a0 a1 a2 a3 k
 obtain ⟨ih0, ih1⟩ := spec_biLines.mono_l k
 unfold spec_biLines.f
 repeat' first | (with_reducible first | exact ih0 _ _ _ _ _ _ _ | exact ih1 _ _ _ _ _ _ _ _ | exact spec_l1Put.mono _ _ _ | exact LeO.refl _ | exact LeO.none _ | refine LeO.ite ?_ ?_ | refine LeO.bind ?_ (fun _ => ?_)) | exact ih0 _ _ _ _ _ _ _ | exact ih1 _ _ _ _ _ _ _ _ | exact spec_l1Put.mono _ _ _ | exact LeO.none _ | refine LeO.ite ?_ ?_ | refine LeO.bind ?_ (fun _ => ?_)
theorem spec_biLines.calls (k : Nat) (a0_0 : Int) (a0_1 : Int) (A0_2 : Option Addr) (c0_2 : Nat) (l0_2 : List Int) (a1 : Int) (r1 : List Int) (r2 : List Int) (w : World) (hr0_2 : Kd.C (Kd.int .i64) w A0_2 l0_2.length l0_2) (hc0_2 : l0_2.length ≤ c0_2) (h : spec_biLines.f k a0_0 a0_1 l0_2 a1 = some (r1, r2)) :
  Calls Try.prog 156 #[.agg #[.int .i64 a0_0, .int .i64 a0_1, .slice A0_2 l0_2.length c0_2], .int .i64 a1] w fun e w' => ∃ v0_ v1_ : Value, e = .returned (.tuple #[v0_, v1_]) ∧ Kd.R (Kd.int .i64) 3 w' w.heap.size (fun k_ => some k_ ≠ (v1_ : Value).ownBlock) v0_ r1 ∧ Kd.R (Kd.int .i64) 3 w' w.heap.size (fun k_ => some k_ ≠ (v0_ : Value).ownBlock) v1_ r2 ∧ Below w.heap.size w w' := by
 have hu26 := Try.underlying26
 have HR0_2 := A_ hr0_2
 have HC0_2 := A_ hc0_2
 clear hr0_2 hc0_2
 have HB := A_ (Below.refl w.heap.size w)
 have H : (spec_biLines.l0 k a1 ([] : List Int) ([] : List Int) 0 a0_0 a0_1 l0_2) = some (r1, r2) := h
 clear h
 have H' := A_ H
 clear H
 go_enter Try.func156, Try.ntmps156
 go_wp2_with (first | (refine gd_ 2 ?_; refine bx_ 2 #[.int .i64 a0_0, .int .i64 a0_1, .slice A0_2 l0_2.length c0_2] 26 ?_; intro gb621 hg w3 hbox hb; have BK621 := A_ (hbox); have GW621 := A_ ((ts_ hg : w.heap.size ≤ gb621)); have GE621 := A_ ((ts_ hg : w.heap.size ≤ gb621)); replace HB := A_ (below_step tb_ hb); clear hb hbox hg))
 go_loopg [6, 7, 8] k (fun kq v6 v7 v8 w' => ∃ (x6_1 : List Int) (x7_1 : List Int) (x8_1 : Int), v8 = .int .i64 x8_1 ∧ Aside0 (spec_biLines.l0 kq a1 x6_1 x7_1 x8_1 a0_0 a0_1 l0_2 = some (r1, r2)) ∧ Aside0 (kq ≤ k) ∧ Aside0 (Kd.R (Kd.int .i64) 3 w' w.heap.size (fun k_ => some k_ ≠ (v7 : Value).ownBlock) v6 x6_1) ∧ Aside0 (Kd.R (Kd.int .i64) 3 w' w.heap.size (fun k_ => some k_ ≠ (v6 : Value).ownBlock) v7 x7_1) ∧ Aside0 (w'.heap[gb621]? = some (.cells #[.int .i64 a0_0, .int .i64 a0_1, (.slice A0_2 l0_2.length c0_2)] 26 (0, 0))) ∧ Aside0 (Below w.heap.size w w'))
 case atStart => exact ⟨(([] : List Int)), (([] : List Int)), (0), tf_, H', ⟨Nat.le_refl _⟩, ⟨by first | exact Kd.R_nil _ _ _ _ _ | exact Kd.N_nil _ _ _ _ _ | exact Kd.V_nil _ _ _ _ _ | exact Kd.Q_nil _ _ _ _ _ | exact Kd.S_nil _ _ _ _ _⟩, ⟨by first | exact Kd.R_nil _ _ _ _ _ | exact Kd.N_nil _ _ _ _ _ | exact Kd.V_nil _ _ _ _ _ | exact Kd.Q_nil _ _ _ _ _ | exact Kd.S_nil _ _ _ _ _⟩, ⟨tk_ BK621⟩, ⟨tb_⟩⟩
 case round =>
  clear H'
  try clear c1
  try clear p2
  obtain ⟨x6_1, x7_1, x8_1, rfl, HA, HK1, HO_6, HO_7, BK621, HB⟩ := hrel
  cases gk with
  | zero => exact absurd HA.out (by simp [spec_biLines.l0])
  | succ k1 =>
   have H := HA.out
   clear HA
   simp only [spec_biLines.l0] at H
   by_cases c4 : x8_1 < a0_0
   ·
    rw [if_pos c4] at H
    have c4b0 := decide_eq_true c4
    clear c4
    have H' := A_ H
    clear H
    obtain ⟨hcz5_0, hcz5_1, hcz5_2, hfz5_0, hfz5_1, hfz5_2⟩ := cf3_ BK621.out
    go_wp2
    go_loopg [6, 7, 9] k1 (fun kq v6 v7 v9 w' => ∃ (x6_2 : List Int) (x7_2 : List Int) (x9_2 : Int), v9 = .int .i64 x9_2 ∧ Aside0 (spec_biLines.l1 kq a1 x6_2 x7_2 x8_1 x9_2 a0_0 a0_1 l0_2 = some (r1, r2)) ∧ Aside0 (kq ≤ k1) ∧ Aside0 (Kd.R (Kd.int .i64) 3 w' w.heap.size (fun k_ => some k_ ≠ (v7 : Value).ownBlock) v6 x6_2) ∧ Aside0 (Kd.R (Kd.int .i64) 3 w' w.heap.size (fun k_ => some k_ ≠ (v6 : Value).ownBlock) v7 x7_2) ∧ Aside0 (w'.heap[gb621]? = some (.cells #[.int .i64 a0_0, .int .i64 a0_1, (.slice A0_2 l0_2.length c0_2)] 26 (0, 0))) ∧ Aside0 (Below w.heap.size w w'))
    case atStart => exact ⟨(x6_1), (x7_1), (0), tf_, H', ⟨Nat.le_refl _⟩, ⟨tr_x HO_6.out⟩, ⟨tr_x HO_7.out⟩, ⟨tk_ BK621⟩, ⟨tb_⟩⟩
    case round =>
     clear H'
     try clear c1
     try clear p2
     try clear c4
     try clear c4b0
     try clear hcz5_0
     try clear hcz5_1
     try clear hcz5_2
     try clear hfz5_0
     try clear hfz5_1
     try clear hfz5_2
     try clear p2
     obtain ⟨x6_2, x7_2, x9_2, rfl, HA, HK2, HO_6, HO_7, BK621, HB⟩ := hrel
     cases gk with
     | zero => exact absurd HA.out (by simp [spec_biLines.l1])
     | succ k2 =>
      have H := HA.out
      clear HA
      simp only [spec_biLines.l1] at H
      by_cases c6 : x9_2 < a0_1
      ·
       rw [if_pos c6] at H
       have c6b0 := decide_eq_true c6
       clear c6
       by_cases c7 : (Int.tmod (wrap64 (x8_1 + x9_2)) 2) = a1
       ·
        rw [if_pos c7] at H
        have c7b0 : ((Int.tmod (wrap64 (x8_1 + x9_2)) 2) == a1) = true := beq_iff_eq.mpr c7
        have c7b1 : ((Int.tmod (wrap64 (x8_1 + x9_2)) 2) != a1) = false := bne_eq_false_iff_eq.mpr c7
        clear c7
        replace H := Option.bind_eq_some_iff.mp H
        obtain ⟨⟨t622, t623⟩, A80, H⟩ := H
        replace H : ((spec_l1Put.f k2 x6_2 t622).bind fun t624 => ((spec_l1Put.f k2 x7_2 t623).bind fun t627 => (spec_biLines.l1 k2 a1 t624 t627 x8_1 (wrap64 (x9_2 + 1)) a0_0 a0_1 l0_2))) = some (r1, r2) := H
        have A8 := A_ A80
        clear A80
        replace H := Option.bind_eq_some_iff.mp H
        obtain ⟨t624, A90, H⟩ := H
        replace H : ((spec_l1Put.f k2 x7_2 t623).bind fun t627 => (spec_biLines.l1 k2 a1 t624 t627 x8_1 (wrap64 (x9_2 + 1)) a0_0 a0_1 l0_2)) = some (r1, r2) := H
        have A9 := A_ A90
        clear A90
        replace H := Option.bind_eq_some_iff.mp H
        obtain ⟨t627, A100, H⟩ := H
        replace H : (spec_biLines.l1 k2 a1 t624 t627 x8_1 (wrap64 (x9_2 + 1)) a0_0 a0_1 l0_2) = some (r1, r2) := H
        have A10 := A_ A100
        clear A100
        have H' := A_ H
        clear H
        obtain ⟨hcz11_0, hcz11_1, hcz11_2, hfz11_0, hfz11_1, hfz11_2⟩ := cf3_ BK621.out
        go_wp2_with (first | (refine gc_ 86 ?_; refine goesT_ (some 34) Try.func86 #[.agg #[.int .i64 a0_0, .int .i64 a0_1, .slice A0_2 l0_2.length c0_2], .int .i64 x8_1, .int .i64 x9_2] ?_; (with_reducible refine (spec_biDiagonals.calls a0_0 a0_1 _ _ l0_2 x8_1 x9_2 t622 t623 _ ?side1 ?side2 A8.out).mono ?_); (case side1 => exact tc_ HR0_2.out); (case side2 => exact HC0_2.out); rintro e w12 ⟨rfl, hb⟩; refine ⟨_, rfl, ?_⟩; replace HO_6 := A_ (Kd.R_below (tr_x HO_6.out) hb); replace HO_7 := A_ (Kd.R_below (tr_x HO_7.out) hb); replace BK621 := A_ (blk_below (g := gb621) (o := .cells #[.int .i64 a0_0, .int .i64 a0_1, .slice A0_2 l0_2.length c0_2] 26 (0, 0)) (tk_ BK621) hb); replace HB := A_ (below_step tb_ hb); (try clear hb); obtain ⟨Ao13, co13, eo13⟩ := Kd.R_slice HO_6.out; subst eo13) | (refine gc_ 185 ?_; refine goesT_ (some 39) Try.func185 #[.slice Ao13 x6_2.length co13, .int .i64 t622] ?_; (with_reducible refine (spec_l1Put.calls k2 (fun k_ => some k_ = (.slice Ao13 x6_2.length co13 : Value).ownBlock) (.slice Ao13 x6_2.length co13) x6_2 t622 t624 w _ ?side1 ?side2 A9.out).mono ?_); (case side1 => repeat (first | (with_reducible first | exact HB.out | apply below_alloc | apply pw_below_drewN | apply below_drew1 | refine below_set ?_ GE621.out) | exact HB.out)); (case side2 => exact Kd.R_tight rfl HO_6.out); rintro e w14 ⟨v625, rfl, ho0, hb, hkp⟩; refine ⟨_, rfl, ?_⟩; have n0_ := A_ (Kd.R_mono (ok' := fun k_ => some k_ ≠ (v625 : Value).ownBlock) (Kd.R_keptB (HO_7.out) hkp (fun k_ hk_ hs_ => (hk_) hs_)) (fun k_ hk_ => fun e_ => Or.elim (ho0.1 k_ e_.symm) (fun hs_ => hk_.2.1 hs_) (fun hn_ => Nat.not_le.2 hk_.2.2 hn_))); have n1_ := A_ (blk_kept (tk_ BK621) hkp (fun hs_ => (fun e_ => (Kd.R_ne HO_6.out BK621.out (by decide)) e_) hs_)); have n2_ := A_ (Kd.R_mono (ok' := fun k_ => some k_ ≠ (u7 : Value).ownBlock) ho0 (fun k_ hk_ => Or.elim hk_ (fun hs_ => fun e_ => (((HO_7.out).1 k_ e_.symm)) hs_) (fun hn_ => (Kd.fresh' (Kd.R_lt (tr_x HO_7.out)) k_ hn_)))); have n3_ := A_ (hb); clear HO_7; clear BK621; clear HB; clear HO_6; have HO_7 := n0_; have BK621 := n1_; have HO626 := n2_; have HB := n3_; clear n0_ n1_ n2_ n3_; (try clear hb); (try clear hkp); (try clear ho0); obtain ⟨Ao15, co15, eo15⟩ := Kd.R_slice HO_7.out; subst eo15) | (refine gc_ 185 ?_; refine goesT_ (some 42) Try.func185 #[.slice Ao15 x7_2.length co15, .int .i64 t623] ?_; (with_reducible refine (spec_l1Put.calls k2 (fun k_ => some k_ = (.slice Ao15 x7_2.length co15 : Value).ownBlock) (.slice Ao15 x7_2.length co15) x7_2 t623 t627 w _ ?side1 ?side2 A10.out).mono ?_); (case side1 => repeat (first | (with_reducible first | exact HB.out | apply below_alloc | apply pw_below_drewN | apply below_drew1 | refine below_set ?_ GE621.out) | exact HB.out)); (case side2 => exact Kd.R_tight rfl HO_7.out); rintro e w16 ⟨v628, rfl, ho0, hb, hkp⟩; refine ⟨_, rfl, ?_⟩; have n0_ := A_ (blk_kept (tk_ BK621) hkp (fun hs_ => (fun e_ => (Kd.R_ne HO_7.out BK621.out (by decide)) e_) hs_)); have n1_ := A_ (Kd.R_mono (ok' := fun k_ => some k_ ≠ (v628 : Value).ownBlock) (Kd.R_keptB (HO626.out) hkp (fun k_ hk_ hs_ => (hk_) hs_)) (fun k_ hk_ => fun e_ => Or.elim (ho0.1 k_ e_.symm) (fun hs_ => hk_.2.1 hs_) (fun hn_ => Nat.not_le.2 hk_.2.2 hn_))); have n2_ := A_ (Kd.R_mono (ok' := fun k_ => some k_ ≠ (v625 : Value).ownBlock) ho0 (fun k_ hk_ => Or.elim hk_ (fun hs_ => fun e_ => (((HO626.out).1 k_ e_.symm)) hs_) (fun hn_ => (Kd.fresh' (Kd.R_lt (tr_x HO626.out)) k_ hn_)))); have n3_ := A_ (hb); clear BK621; clear HO626; clear HB; clear HO_7; have BK621 := n0_; have HO626 := n1_; have HO629 := n2_; have HB := n3_; clear n0_ n1_ n2_ n3_; (try clear hb); (try clear hkp); (try clear ho0)))
        go_roundg k2
        case measure => have := HK1.out; have := HK2.out; omega
        case rel => exact ⟨(t624), (t627), (wrap64 (x9_2 + 1)), tf_, H', ⟨by have := HK1.out; have := HK2.out; omega⟩, ⟨tr_x HO626.out⟩, ⟨tr_x HO629.out⟩, ⟨tk_ BK621⟩, ⟨tb_⟩⟩
       ·
        rw [if_neg c7] at H
        have c7b0 : ((Int.tmod (wrap64 (x8_1 + x9_2)) 2) == a1) = false := beq_eq_false_iff_ne.mpr c7
        have c7b1 : ((Int.tmod (wrap64 (x8_1 + x9_2)) 2) != a1) = true := bne_iff_ne.mpr c7
        have H' := A_ H
        clear H
        obtain ⟨hcz17_0, hcz17_1, hcz17_2, hfz17_0, hfz17_1, hfz17_2⟩ := cf3_ BK621.out
        go_wp2
        go_roundg k2
        case measure => have := HK1.out; have := HK2.out; omega
        case rel => exact ⟨(x6_2), (x7_2), (wrap64 (x9_2 + 1)), tf_, H', ⟨by have := HK1.out; have := HK2.out; omega⟩, ⟨tr_x HO_6.out⟩, ⟨tr_x HO_7.out⟩, ⟨tk_ BK621⟩, ⟨tb_⟩⟩
      ·
       rw [if_neg c6] at H
       have c6b0 := decide_eq_false c6
       clear c6
       have H' := A_ H
       clear H
       obtain ⟨hcz18_0, hcz18_1, hcz18_2, hfz18_0, hfz18_1, hfz18_2⟩ := cf3_ BK621.out
       go_wp2
       go_roundg k2
       case measure => have := HK1.out; have := HK2.out; omega
       case rel => exact ⟨(x6_2), (x7_2), (wrap64 (x8_1 + 1)), tf_, H', ⟨by have := HK1.out; have := HK2.out; omega⟩, ⟨tr_x HO_6.out⟩, ⟨tr_x HO_7.out⟩, ⟨tk_ BK621⟩, ⟨tb_⟩⟩
   ·
    rw [if_neg c4] at H
    have c4b0 := decide_eq_false c4
    clear c4
    simp only [Option.some.injEq, Prod.mk.injEq] at H
    obtain ⟨rfl, rfl⟩ := H
    obtain ⟨hcz19_0, hcz19_1, hcz19_2, hfz19_0, hfz19_1, hfz19_2⟩ := cf3_ BK621.out
    go_wp2
    go_ret2
    exact ⟨_, _, te_, tr_x HO_6.out, tr_x HO_7.out, tb_⟩

/-! ### spec_biCell: function 93 -/
def spec_biCell.j0 : Nat → Int → Int → List Int → List Int → Bool → Int → Int → List Int → Option (Int × Int × Bool)
 | 0, _, _, _, _, _, _, _, _ => none
 | k + 1, x2, x3, x11, x12, x35, x631000, x631001, x631002 => if x35 = true then (some (0, 0, false)) else (if 0 ≤ x2 then (if x2 < (x11.length : Int) then (if 0 ≤ x3 then (if x3 < (x12.length : Int) then (if (wrap64 ((wrap64 ((wrap64 ((rd x11 x2) + (rd x12 x3))) - x631001)) + 1)) < 0 then (some (0, 0, false)) else (if (Int.tmod (wrap64 ((wrap64 ((wrap64 ((rd x11 x2) + (rd x12 x3))) - x631001)) + 1)) 2) = 1 then (some (0, 0, false)) else ((spec_l1In.f (wrap64 (Int.tdiv (wrap64 ((wrap64 ((wrap64 ((rd x11 x2) + (rd x12 x3))) - x631001)) + 1)) 2)) 0 (wrap64 (x631000 - 1))).bind fun t642 => (if t642 = true then ((spec_l1In.f (wrap64 ((rd x11 x2) - (wrap64 (Int.tdiv (wrap64 ((wrap64 ((wrap64 ((rd x11 x2) + (rd x12 x3))) - x631001)) + 1)) 2)))) 0 (wrap64 (x631001 - 1))).bind fun t643 => (if t643 = true then (some (wrap64 (Int.tdiv (wrap64 ((wrap64 ((wrap64 ((rd x11 x2) + (rd x12 x3))) - x631001)) + 1)) 2), wrap64 ((rd x11 x2) - (wrap64 (Int.tdiv (wrap64 ((wrap64 ((wrap64 ((rd x11 x2) + (rd x12 x3))) - x631001)) + 1)) 2))), true)) else (some (0, 0, false)))) else (some (0, 0, false)))))) else (none)) else (none)) else (none)) else (none))
def spec_biCell.f (k : Nat) (a0_0 : Int) (a0_1 : Int) (l0_2 : List Int) (a1 : Int) (a2 : Int) (a3 : Int) : Option (Int × Int × Bool) := (spec_biLines.f k a0_0 a0_1 l0_2 a1).bind fun bt631 => ((spec_l1In.f a2 0 (wrap64 ((bt631.1.length : Int) - 1))).bind fun t637 => (if t637 = true then ((spec_l1In.f a3 0 (wrap64 ((bt631.2.length : Int) - 1))).bind fun t638 => (spec_biCell.j0 k a2 a3 bt631.1 bt631.2 (!t638) a0_0 a0_1 l0_2)) else (spec_biCell.j0 k a2 a3 bt631.1 bt631.2 true a0_0 a0_1 l0_2)))
theorem spec_biCell.mono_l : ∀ k, (∀ y0 y1 y2 y3 y4 y5 y6 y7, LeO (spec_biCell.j0 k y0 y1 y2 y3 y4 y5 y6 y7) (spec_biCell.j0 (k + 1) y0 y1 y2 y3 y4 y5 y6 y7))
 | 0 => fun _ _ _ _ _ _ _ _ r h => by simp [spec_biCell.j0] at h
 | k + 1 => by
  have ih0 := spec_biCell.mono_l k
  ·
   intro y0 y1 y2 y3 y4 y5 y6 y7
   unfold spec_biCell.j0
   repeat' first | (with_reducible first | exact ih0 _ _ _ _ _ _ _ _ | exact spec_biLines.mono _ _ _ _ _ | exact LeO.refl _ | exact LeO.none _ | refine LeO.ite ?_ ?_ | refine LeO.bind ?_ (fun _ => ?_)) | exact ih0 _ _ _ _ _ _ _ _ | exact spec_biLines.mono _ _ _ _ _ | exact LeO.none _ | refine LeO.ite ?_ ?_ | refine LeO.bind ?_ (fun _ => ?_)
theorem spec_biCell.mono : ∀ a0 a1 a2 a3 a4 a5 k, LeO (spec_biCell.f k a0 a1 a2 a3 a4 a5) (spec_biCell.f (k + 1) a0 a1 a2 a3 a4 a5) := by
 intro a0 a1 a2 a3 a4 a5 k
 have ih0 := spec_biCell.mono_l k
 unfold spec_biCell.f
 repeat' first | (with_reducible first | exact ih0 _ _ _ _ _ _ _ _ | exact spec_biLines.mono _ _ _ _ _ | exact LeO.refl _ | exact LeO.none _ | refine LeO.ite ?_ ?_ | refine LeO.bind ?_ (fun _ => ?_)) | exact ih0 _ _ _ _ _ _ _ _ | exact spec_biLines.mono _ _ _ _ _ | exact LeO.none _ | refine LeO.ite ?_ ?_ | refine LeO.bind ?_ (fun _ => ?_)
theorem spec_biCell.calls (k : Nat) (a0_0 : Int) (a0_1 : Int) (A0_2 : Option Addr) (c0_2 : Nat) (l0_2 : List Int) (a1 : Int) (a2 : Int) (a3 : Int) (r1 : Int) (r2 : Int) (r3 : Bool) (w : World) (hr0_2 : Kd.C (Kd.int .i64) w A0_2 l0_2.length l0_2) (hc0_2 : l0_2.length ≤ c0_2) (h : spec_biCell.f k a0_0 a0_1 l0_2 a1 a2 a3 = some (r1, r2, r3)) :
  Calls Try.prog 93 #[.agg #[.int .i64 a0_0, .int .i64 a0_1, .slice A0_2 l0_2.length c0_2], .int .i64 a1, .int .i64 a2, .int .i64 a3] w fun e w' => e = .returned (.tuple #[.int .i64 r1, .int .i64 r2, .bool r3]) ∧ Below w.heap.size w w' := by
 have hu26 := Try.underlying26
 have HR0_2 := A_ hr0_2
 have HC0_2 := A_ hc0_2
 clear hr0_2 hc0_2
 have HB := A_ (Below.refl w.heap.size w)
 have H : ((spec_biLines.f k a0_0 a0_1 l0_2 a1).bind fun bt631 => ((spec_l1In.f a2 0 (wrap64 ((bt631.1.length : Int) - 1))).bind fun t637 => (if t637 = true then ((spec_l1In.f a3 0 (wrap64 ((bt631.2.length : Int) - 1))).bind fun t638 => (spec_biCell.j0 k a2 a3 bt631.1 bt631.2 (!t638) a0_0 a0_1 l0_2)) else (spec_biCell.j0 k a2 a3 bt631.1 bt631.2 true a0_0 a0_1 l0_2)))) = some (r1, r2, r3) := h
 clear h
 replace H := Option.bind_eq_some_iff.mp H
 obtain ⟨⟨t631, t634⟩, A50, H⟩ := H
 replace H : ((spec_l1In.f a2 0 (wrap64 ((t631.length : Int) - 1))).bind fun t637 => (if t637 = true then ((spec_l1In.f a3 0 (wrap64 ((t634.length : Int) - 1))).bind fun t638 => (spec_biCell.j0 k a2 a3 t631 t634 (!t638) a0_0 a0_1 l0_2)) else (spec_biCell.j0 k a2 a3 t631 t634 true a0_0 a0_1 l0_2))) = some (r1, r2, r3) := H
 have A5 := A_ A50
 clear A50
 have HC6 := A_ H
 clear H
 go_enter Try.func93, Try.ntmps93
 go_upto_region 2 with (first | (refine gd_ 4 ?_; (try (refine gate_guard (by rfl) ?_; dsimp only)); refine bx_ 4 #[.int .i64 a0_0, .int .i64 a0_1, .slice A0_2 l0_2.length c0_2] 26 ?_; intro gb630 hg w7 hbox hb; have BK630 := A_ (hbox); have GW630 := A_ ((ts_ hg : w.heap.size ≤ gb630)); have GE630 := A_ ((ts_ hg : w.heap.size ≤ gb630)); replace HB := A_ (below_step tb_ hb); clear hb hbox hg; obtain ⟨hcz8_0, hcz8_1, hcz8_2, hfz8_0, hfz8_1, hfz8_2⟩ := cf3_ BK630.out) | (go_at_call 156; (with_reducible refine (spec_biLines.calls k a0_0 a0_1 _ _ l0_2 a1 t631 t634 _ ?side1 ?side2 A5.out).mono ?_); (case side1 => exact tc_ HR0_2.out); (case side2 => exact HC0_2.out); rintro e w9 ⟨v632, v635, rfl, ho0, ho1, hb⟩; have HO633 := A_ (Kd.R_lower ho0 (below_size tb_)); have HO636 := A_ (Kd.R_lower ho1 (below_size tb_)); replace BK630 := A_ (blk_below (g := gb630) (o := .cells #[.int .i64 a0_0, .int .i64 a0_1, .slice A0_2 l0_2.length c0_2] 26 (0, 0)) (tk_ BK630) hb); replace HB := A_ (below_step tb_ hb); (try clear hb); (try clear ho0); (try clear ho1)))
 repeat (go_quiet (first | (refine gd_ 4 ?_; (try (refine gate_guard (by rfl) ?_; dsimp only)); refine bx_ 4 #[.int .i64 a0_0, .int .i64 a0_1, .slice A0_2 l0_2.length c0_2] 26 ?_; intro gb630 hg w7 hbox hb; have BK630 := A_ (hbox); have GW630 := A_ ((ts_ hg : w.heap.size ≤ gb630)); have GE630 := A_ ((ts_ hg : w.heap.size ≤ gb630)); replace HB := A_ (below_step tb_ hb); clear hb hbox hg; obtain ⟨hcz8_0, hcz8_1, hcz8_2, hfz8_0, hfz8_1, hfz8_2⟩ := cf3_ BK630.out) | (go_at_call 156; (with_reducible refine (spec_biLines.calls k a0_0 a0_1 _ _ l0_2 a1 t631 t634 _ ?side1 ?side2 A5.out).mono ?_); (case side1 => exact tc_ HR0_2.out); (case side2 => exact HC0_2.out); rintro e w9 ⟨v632, v635, rfl, ho0, ho1, hb⟩; have HO633 := A_ (Kd.R_lower ho0 (below_size tb_)); have HO636 := A_ (Kd.R_lower ho1 (below_size tb_)); replace BK630 := A_ (blk_below (g := gb630) (o := .cells #[.int .i64 a0_0, .int .i64 a0_1, .slice A0_2 l0_2.length c0_2] 26 (0, 0)) (tk_ BK630) hb); replace HB := A_ (below_step tb_ hb); (try clear hb); (try clear ho0); (try clear ho1))); go_upto_region 2 with (first | (refine gd_ 4 ?_; (try (refine gate_guard (by rfl) ?_; dsimp only)); refine bx_ 4 #[.int .i64 a0_0, .int .i64 a0_1, .slice A0_2 l0_2.length c0_2] 26 ?_; intro gb630 hg w7 hbox hb; have BK630 := A_ (hbox); have GW630 := A_ ((ts_ hg : w.heap.size ≤ gb630)); have GE630 := A_ ((ts_ hg : w.heap.size ≤ gb630)); replace HB := A_ (below_step tb_ hb); clear hb hbox hg; obtain ⟨hcz8_0, hcz8_1, hcz8_2, hfz8_0, hfz8_1, hfz8_2⟩ := cf3_ BK630.out) | (go_at_call 156; (with_reducible refine (spec_biLines.calls k a0_0 a0_1 _ _ l0_2 a1 t631 t634 _ ?side1 ?side2 A5.out).mono ?_); (case side1 => exact tc_ HR0_2.out); (case side2 => exact HC0_2.out); rintro e w9 ⟨v632, v635, rfl, ho0, ho1, hb⟩; have HO633 := A_ (Kd.R_lower ho0 (below_size tb_)); have HO636 := A_ (Kd.R_lower ho1 (below_size tb_)); replace BK630 := A_ (blk_below (g := gb630) (o := .cells #[.int .i64 a0_0, .int .i64 a0_1, .slice A0_2 l0_2.length c0_2] 26 (0, 0)) (tk_ BK630) hb); replace HB := A_ (below_step tb_ hb); (try clear hb); (try clear ho0); (try clear ho1))))
 (try simp only [Act.put, List.setIfInBounds_toArray, List.set_cons_zero, List.set_cons_succ])
 go_cut [35] (fun v35 wc => ∃ (kq : Nat) (x35_5 : Bool), v35 = .bool x35_5 ∧ Aside0 (spec_biCell.j0 kq a2 a3 t631 t634 x35_5 a0_0 a0_1 l0_2 = some (r1, r2, r3)) ∧ Aside0 (kq ≤ k) ∧ Aside0 (Kd.R (Kd.int .i64) 3 wc w.heap.size (fun k_ => some k_ ≠ (v635 : Value).ownBlock) v632 t631) ∧ Aside0 (Kd.R (Kd.int .i64) 3 wc w.heap.size (fun k_ => some k_ ≠ (v632 : Value).ownBlock) v635 t634) ∧ Aside0 (wc.heap[gb630]? = some (.cells #[.int .i64 a0_0, .int .i64 a0_1, (.slice A0_2 l0_2.length c0_2)] 26 (0, 0))) ∧ Aside0 (Below w.heap.size w wc))
 case first =>
  have H := HC6.out
  clear HC6
  replace H := Option.bind_eq_some_iff.mp H
  obtain ⟨t637, A100, H⟩ := H
  replace H : (if t637 = true then ((spec_l1In.f a3 0 (wrap64 ((t634.length : Int) - 1))).bind fun t638 => (spec_biCell.j0 k a2 a3 t631 t634 (!t638) a0_0 a0_1 l0_2)) else (spec_biCell.j0 k a2 a3 t631 t634 true a0_0 a0_1 l0_2)) = some (r1, r2, r3) := H
  have A10 := A_ A100
  clear A100
  by_cases c11 : t637 = true
  ·
   subst c11
   have H1 : ((spec_l1In.f a3 0 (wrap64 ((t634.length : Int) - 1))).bind fun t638 => (spec_biCell.j0 k a2 a3 t631 t634 (!t638) a0_0 a0_1 l0_2)) = some (r1, r2, r3) := by rw [if_pos rfl] at H; exact H
   clear H
   have H := H1
   clear H1
   replace H := Option.bind_eq_some_iff.mp H
   obtain ⟨t638, A120, H⟩ := H
   replace H : (spec_biCell.j0 k a2 a3 t631 t634 (!t638) a0_0 a0_1 l0_2) = some (r1, r2, r3) := H
   have A12 := A_ A120
   clear A120
   have H' := A_ H
   clear H
   obtain ⟨Ao13, co13, eo13⟩ := Kd.R_slice HO633.out
   subst eo13
   go_wp2_with (first | (go_at_call 105; (with_reducible refine (spec_l1In.calls a2 0 (wrap64 ((t631.length : Int) - 1)) true _ A10.out).mono ?_); rintro e w' ⟨rfl, ⟨nd, rfl⟩⟩; (try exact dn_); obtain ⟨Ao14, co14, eo14⟩ := Kd.R_slice HO636.out; subst eo14) | (go_at_call 105; (with_reducible refine (spec_l1In.calls a3 0 (wrap64 ((t634.length : Int) - 1)) t638 _ A12.out).mono ?_); rintro e w' ⟨rfl, ⟨nd, rfl⟩⟩; (try exact dn_)))
   repeat (go_quiet (first | (go_at_call 105; (with_reducible refine (spec_l1In.calls a2 0 (wrap64 ((t631.length : Int) - 1)) true _ A10.out).mono ?_); rintro e w' ⟨rfl, ⟨nd, rfl⟩⟩; (try exact dn_); obtain ⟨Ao14, co14, eo14⟩ := Kd.R_slice HO636.out; subst eo14) | (go_at_call 105; (with_reducible refine (spec_l1In.calls a3 0 (wrap64 ((t634.length : Int) - 1)) t638 _ A12.out).mono ?_); rintro e w' ⟨rfl, ⟨nd, rfl⟩⟩; (try exact dn_))); try go_wp2_with (first | (go_at_call 105; (with_reducible refine (spec_l1In.calls a2 0 (wrap64 ((t631.length : Int) - 1)) true _ A10.out).mono ?_); rintro e w' ⟨rfl, ⟨nd, rfl⟩⟩; (try exact dn_); obtain ⟨Ao14, co14, eo14⟩ := Kd.R_slice HO636.out; subst eo14) | (go_at_call 105; (with_reducible refine (spec_l1In.calls a3 0 (wrap64 ((t634.length : Int) - 1)) t638 _ A12.out).mono ?_); rintro e w' ⟨rfl, ⟨nd, rfl⟩⟩; (try exact dn_))))
   go_meet
   case rel => exact ⟨_, (!t638), tf_, H', ⟨by first | omega | exact Nat.le_refl _⟩, ⟨tr_x HO633.out⟩, ⟨tr_x HO636.out⟩, ⟨tk_ BK630⟩, ⟨tb_⟩⟩
  ·
   replace c11 := Bool.eq_false_iff.mpr c11
   subst c11
   have H1 : (spec_biCell.j0 k a2 a3 t631 t634 true a0_0 a0_1 l0_2) = some (r1, r2, r3) := by rw [if_neg (show ¬ (false = true) by decide)] at H; exact H
   clear H
   have H := H1
   clear H1
   have H' := A_ H
   clear H
   obtain ⟨Ao15, co15, eo15⟩ := Kd.R_slice HO633.out
   subst eo15
   go_wp2_with (first | (go_at_call 105; (with_reducible refine (spec_l1In.calls a2 0 (wrap64 ((t631.length : Int) - 1)) false _ A10.out).mono ?_); rintro e w' ⟨rfl, ⟨nd, rfl⟩⟩; (try exact dn_)))
   repeat (go_quiet (first | (go_at_call 105; (with_reducible refine (spec_l1In.calls a2 0 (wrap64 ((t631.length : Int) - 1)) false _ A10.out).mono ?_); rintro e w' ⟨rfl, ⟨nd, rfl⟩⟩; (try exact dn_))); try go_wp2_with (first | (go_at_call 105; (with_reducible refine (spec_l1In.calls a2 0 (wrap64 ((t631.length : Int) - 1)) false _ A10.out).mono ?_); rintro e w' ⟨rfl, ⟨nd, rfl⟩⟩; (try exact dn_))))
   go_meet
   case rel => exact ⟨_, (true), tf_, H', ⟨by first | omega | exact Nat.le_refl _⟩, ⟨tr_x HO633.out⟩, ⟨tr_x HO636.out⟩, ⟨tk_ BK630⟩, ⟨tb_⟩⟩
 case rest =>
  clear HC6
  try clear c1
  try clear p2
  try clear p6
  try clear c9
  try clear c11
  try clear hcz8_0
  try clear hcz8_1
  try clear hcz8_2
  try clear hfz8_0
  try clear hfz8_1
  try clear hfz8_2
  obtain ⟨kq, x35_5, rfl, HA, HJ5, HO_11, HO_12, BK630, HB⟩ := hcut
  cases kq with
  | zero => exact absurd HA.out (by simp [spec_biCell.j0])
  | succ kj5 =>
   have H := HA.out
   clear HA
   simp only [spec_biCell.j0] at H
   by_cases c16 : x35_5 = true
   ·
    subst c16
    have H1 : (some (0, 0, false)) = some (r1, r2, r3) := by rw [if_pos rfl] at H; exact H
    clear H
    have H := H1
    clear H1
    simp only [Option.some.injEq, Prod.mk.injEq] at H
    obtain ⟨rfl, rfl, rfl⟩ := H
    go_wp2
    repeat (go_quiet (fail); try go_wp2)
    go_ret3
    exact ⟨te_, tb_⟩
   ·
    replace c16 := Bool.eq_false_iff.mpr c16
    subst c16
    have H1 : (if 0 ≤ a2 then (if a2 < (t631.length : Int) then (if 0 ≤ a3 then (if a3 < (t634.length : Int) then (if (wrap64 ((wrap64 ((wrap64 ((rd t631 a2) + (rd t634 a3))) - a0_1)) + 1)) < 0 then (some (0, 0, false)) else (if (Int.tmod (wrap64 ((wrap64 ((wrap64 ((rd t631 a2) + (rd t634 a3))) - a0_1)) + 1)) 2) = 1 then (some (0, 0, false)) else ((spec_l1In.f (wrap64 (Int.tdiv (wrap64 ((wrap64 ((wrap64 ((rd t631 a2) + (rd t634 a3))) - a0_1)) + 1)) 2)) 0 (wrap64 (a0_0 - 1))).bind fun t642 => (if t642 = true then ((spec_l1In.f (wrap64 ((rd t631 a2) - (wrap64 (Int.tdiv (wrap64 ((wrap64 ((wrap64 ((rd t631 a2) + (rd t634 a3))) - a0_1)) + 1)) 2)))) 0 (wrap64 (a0_1 - 1))).bind fun t643 => (if t643 = true then (some (wrap64 (Int.tdiv (wrap64 ((wrap64 ((wrap64 ((rd t631 a2) + (rd t634 a3))) - a0_1)) + 1)) 2), wrap64 ((rd t631 a2) - (wrap64 (Int.tdiv (wrap64 ((wrap64 ((wrap64 ((rd t631 a2) + (rd t634 a3))) - a0_1)) + 1)) 2))), true)) else (some (0, 0, false)))) else (some (0, 0, false)))))) else (none)) else (none)) else (none)) else (none)) = some (r1, r2, r3) := by rw [if_neg (show ¬ (false = true) by decide)] at H; exact H
    clear H
    have H := H1
    clear H1
    by_cases c17 : 0 ≤ a2
    ·
     rw [if_pos c17] at H
     have c17b0 := decide_eq_true c17
     clear c17
     by_cases c18 : a2 < (t631.length : Int)
     ·
      rw [if_pos c18] at H
      have c18b0 := decide_eq_true c18
      clear c18
      by_cases c19 : 0 ≤ a3
      ·
       rw [if_pos c19] at H
       have c19b0 := decide_eq_true c19
       clear c19
       by_cases c20 : a3 < (t634.length : Int)
       ·
        rw [if_pos c20] at H
        have c20b0 := decide_eq_true c20
        clear c20
        by_cases c21 : (wrap64 ((wrap64 ((wrap64 ((rd t631 a2) + (rd t634 a3))) - a0_1)) + 1)) < 0
        ·
         rw [if_pos c21] at H
         have c21b0 := decide_eq_true c21
         clear c21
         simp only [Option.some.injEq, Prod.mk.injEq] at H
         obtain ⟨rfl, rfl, rfl⟩ := H
         obtain ⟨Ao22, co22, eo22⟩ := Kd.R_slice HO_11.out
         subst eo22
         have p639 : 0 ≤ (a2 : Int) := od_
         have q639 : a2 < (t631.length : Int) := od_
         obtain ⟨ad639, e639, hx639_0⟩ := Kd.at_int (Kd.R_reads' HO_11.out).2.2 a2 p639 q639
         cases e639
         replace p639 := eq_true p639
         replace q639 := eq_true q639
         obtain ⟨Ao23, co23, eo23⟩ := Kd.R_slice HO_12.out
         subst eo23
         have p640 : 0 ≤ (a3 : Int) := od_
         have q640 : a3 < (t634.length : Int) := od_
         obtain ⟨ad640, e640, hx640_0⟩ := Kd.at_int (Kd.R_reads' HO_12.out).2.2 a3 p640 q640
         cases e640
         replace p640 := eq_true p640
         replace q640 := eq_true q640
         obtain ⟨hcz24_0, hcz24_1, hcz24_2, hfz24_0, hfz24_1, hfz24_2⟩ := cf3_ BK630.out
         have p641 : 0 ≤ (a2 : Int) := od_
         have q641 : a2 < (t631.length : Int) := od_
         obtain ⟨ad641, e641, hx641_0⟩ := Kd.at_int (Kd.R_reads' HO_11.out).2.2 a2 p641 q641
         obtain rfl : ad639 = ad641 := (by injection e641)
         replace p641 := eq_true p641
         replace q641 := eq_true q641
         go_wp2
         repeat (go_quiet (fail); try go_wp2)
         go_ret3
         exact ⟨te_, tb_⟩
        ·
         rw [if_neg c21] at H
         have c21b0 := decide_eq_false c21
         clear c21
         by_cases c25 : (Int.tmod (wrap64 ((wrap64 ((wrap64 ((rd t631 a2) + (rd t634 a3))) - a0_1)) + 1)) 2) = 1
         ·
          rw [if_pos c25] at H
          have c25b0 : ((Int.tmod (wrap64 ((wrap64 ((wrap64 ((rd t631 a2) + (rd t634 a3))) - a0_1)) + 1)) 2) == 1) = true := beq_iff_eq.mpr c25
          have c25b1 : ((Int.tmod (wrap64 ((wrap64 ((wrap64 ((rd t631 a2) + (rd t634 a3))) - a0_1)) + 1)) 2) != 1) = false := bne_eq_false_iff_eq.mpr c25
          clear c25
          simp only [Option.some.injEq, Prod.mk.injEq] at H
          obtain ⟨rfl, rfl, rfl⟩ := H
          obtain ⟨Ao26, co26, eo26⟩ := Kd.R_slice HO_11.out
          subst eo26
          have p639 : 0 ≤ (a2 : Int) := od_
          have q639 : a2 < (t631.length : Int) := od_
          obtain ⟨ad639, e639, hx639_0⟩ := Kd.at_int (Kd.R_reads' HO_11.out).2.2 a2 p639 q639
          cases e639
          replace p639 := eq_true p639
          replace q639 := eq_true q639
          obtain ⟨Ao27, co27, eo27⟩ := Kd.R_slice HO_12.out
          subst eo27
          have p640 : 0 ≤ (a3 : Int) := od_
          have q640 : a3 < (t634.length : Int) := od_
          obtain ⟨ad640, e640, hx640_0⟩ := Kd.at_int (Kd.R_reads' HO_12.out).2.2 a3 p640 q640
          cases e640
          replace p640 := eq_true p640
          replace q640 := eq_true q640
          obtain ⟨hcz28_0, hcz28_1, hcz28_2, hfz28_0, hfz28_1, hfz28_2⟩ := cf3_ BK630.out
          have p641 : 0 ≤ (a2 : Int) := od_
          have q641 : a2 < (t631.length : Int) := od_
          obtain ⟨ad641, e641, hx641_0⟩ := Kd.at_int (Kd.R_reads' HO_11.out).2.2 a2 p641 q641
          obtain rfl : ad639 = ad641 := (by injection e641)
          replace p641 := eq_true p641
          replace q641 := eq_true q641
          go_wp2
          repeat (go_quiet (fail); try go_wp2)
          go_ret3
          exact ⟨te_, tb_⟩
         ·
          rw [if_neg c25] at H
          have c25b0 : ((Int.tmod (wrap64 ((wrap64 ((wrap64 ((rd t631 a2) + (rd t634 a3))) - a0_1)) + 1)) 2) == 1) = false := beq_eq_false_iff_ne.mpr c25
          have c25b1 : ((Int.tmod (wrap64 ((wrap64 ((wrap64 ((rd t631 a2) + (rd t634 a3))) - a0_1)) + 1)) 2) != 1) = true := bne_iff_ne.mpr c25
          replace H := Option.bind_eq_some_iff.mp H
          obtain ⟨t642, A290, H⟩ := H
          replace H : (if t642 = true then ((spec_l1In.f (wrap64 ((rd t631 a2) - (wrap64 (Int.tdiv (wrap64 ((wrap64 ((wrap64 ((rd t631 a2) + (rd t634 a3))) - a0_1)) + 1)) 2)))) 0 (wrap64 (a0_1 - 1))).bind fun t643 => (if t643 = true then (some (wrap64 (Int.tdiv (wrap64 ((wrap64 ((wrap64 ((rd t631 a2) + (rd t634 a3))) - a0_1)) + 1)) 2), wrap64 ((rd t631 a2) - (wrap64 (Int.tdiv (wrap64 ((wrap64 ((wrap64 ((rd t631 a2) + (rd t634 a3))) - a0_1)) + 1)) 2))), true)) else (some (0, 0, false)))) else (some (0, 0, false))) = some (r1, r2, r3) := H
          have A29 := A_ A290
          clear A290
          by_cases c30 : t642 = true
          ·
           subst c30
           have H1 : ((spec_l1In.f (wrap64 ((rd t631 a2) - (wrap64 (Int.tdiv (wrap64 ((wrap64 ((wrap64 ((rd t631 a2) + (rd t634 a3))) - a0_1)) + 1)) 2)))) 0 (wrap64 (a0_1 - 1))).bind fun t643 => (if t643 = true then (some (wrap64 (Int.tdiv (wrap64 ((wrap64 ((wrap64 ((rd t631 a2) + (rd t634 a3))) - a0_1)) + 1)) 2), wrap64 ((rd t631 a2) - (wrap64 (Int.tdiv (wrap64 ((wrap64 ((wrap64 ((rd t631 a2) + (rd t634 a3))) - a0_1)) + 1)) 2))), true)) else (some (0, 0, false)))) = some (r1, r2, r3) := by rw [if_pos rfl] at H; exact H
           clear H
           have H := H1
           clear H1
           replace H := Option.bind_eq_some_iff.mp H
           obtain ⟨t643, A310, H⟩ := H
           replace H : (if t643 = true then (some (wrap64 (Int.tdiv (wrap64 ((wrap64 ((wrap64 ((rd t631 a2) + (rd t634 a3))) - a0_1)) + 1)) 2), wrap64 ((rd t631 a2) - (wrap64 (Int.tdiv (wrap64 ((wrap64 ((wrap64 ((rd t631 a2) + (rd t634 a3))) - a0_1)) + 1)) 2))), true)) else (some (0, 0, false))) = some (r1, r2, r3) := H
           have A31 := A_ A310
           clear A310
           by_cases c32 : t643 = true
           ·
            subst c32
            have H1 : (some (wrap64 (Int.tdiv (wrap64 ((wrap64 ((wrap64 ((rd t631 a2) + (rd t634 a3))) - a0_1)) + 1)) 2), wrap64 ((rd t631 a2) - (wrap64 (Int.tdiv (wrap64 ((wrap64 ((wrap64 ((rd t631 a2) + (rd t634 a3))) - a0_1)) + 1)) 2))), true)) = some (r1, r2, r3) := by rw [if_pos rfl] at H; exact H
            clear H
            have H := H1
            clear H1
            simp only [Option.some.injEq, Prod.mk.injEq] at H
            obtain ⟨rfl, rfl, rfl⟩ := H
            obtain ⟨Ao33, co33, eo33⟩ := Kd.R_slice HO_11.out
            subst eo33
            have p639 : 0 ≤ (a2 : Int) := od_
            have q639 : a2 < (t631.length : Int) := od_
            obtain ⟨ad639, e639, hx639_0⟩ := Kd.at_int (Kd.R_reads' HO_11.out).2.2 a2 p639 q639
            cases e639
            replace p639 := eq_true p639
            replace q639 := eq_true q639
            obtain ⟨Ao34, co34, eo34⟩ := Kd.R_slice HO_12.out
            subst eo34
            have p640 : 0 ≤ (a3 : Int) := od_
            have q640 : a3 < (t634.length : Int) := od_
            obtain ⟨ad640, e640, hx640_0⟩ := Kd.at_int (Kd.R_reads' HO_12.out).2.2 a3 p640 q640
            cases e640
            replace p640 := eq_true p640
            replace q640 := eq_true q640
            obtain ⟨hcz35_0, hcz35_1, hcz35_2, hfz35_0, hfz35_1, hfz35_2⟩ := cf3_ BK630.out
            have p641 : 0 ≤ (a2 : Int) := od_
            have q641 : a2 < (t631.length : Int) := od_
            obtain ⟨ad641, e641, hx641_0⟩ := Kd.at_int (Kd.R_reads' HO_11.out).2.2 a2 p641 q641
            obtain rfl : ad639 = ad641 := (by injection e641)
            replace p641 := eq_true p641
            replace q641 := eq_true q641
            go_wp2_with (first | (go_at_call 105; (with_reducible refine (spec_l1In.calls (wrap64 (Int.tdiv (wrap64 ((wrap64 ((wrap64 ((rd t631 a2) + (rd t634 a3))) - a0_1)) + 1)) 2)) 0 (wrap64 (a0_0 - 1)) true _ A29.out).mono ?_); rintro e w' ⟨rfl, ⟨nd, rfl⟩⟩; (try exact dn_)) | (go_at_call 105; (with_reducible refine (spec_l1In.calls (wrap64 ((rd t631 a2) - (wrap64 (Int.tdiv (wrap64 ((wrap64 ((wrap64 ((rd t631 a2) + (rd t634 a3))) - a0_1)) + 1)) 2)))) 0 (wrap64 (a0_1 - 1)) true _ A31.out).mono ?_); rintro e w' ⟨rfl, ⟨nd, rfl⟩⟩; (try exact dn_)))
            repeat (go_quiet (first | (go_at_call 105; (with_reducible refine (spec_l1In.calls (wrap64 (Int.tdiv (wrap64 ((wrap64 ((wrap64 ((rd t631 a2) + (rd t634 a3))) - a0_1)) + 1)) 2)) 0 (wrap64 (a0_0 - 1)) true _ A29.out).mono ?_); rintro e w' ⟨rfl, ⟨nd, rfl⟩⟩; (try exact dn_)) | (go_at_call 105; (with_reducible refine (spec_l1In.calls (wrap64 ((rd t631 a2) - (wrap64 (Int.tdiv (wrap64 ((wrap64 ((wrap64 ((rd t631 a2) + (rd t634 a3))) - a0_1)) + 1)) 2)))) 0 (wrap64 (a0_1 - 1)) true _ A31.out).mono ?_); rintro e w' ⟨rfl, ⟨nd, rfl⟩⟩; (try exact dn_))); try go_wp2_with (first | (go_at_call 105; (with_reducible refine (spec_l1In.calls (wrap64 (Int.tdiv (wrap64 ((wrap64 ((wrap64 ((rd t631 a2) + (rd t634 a3))) - a0_1)) + 1)) 2)) 0 (wrap64 (a0_0 - 1)) true _ A29.out).mono ?_); rintro e w' ⟨rfl, ⟨nd, rfl⟩⟩; (try exact dn_)) | (go_at_call 105; (with_reducible refine (spec_l1In.calls (wrap64 ((rd t631 a2) - (wrap64 (Int.tdiv (wrap64 ((wrap64 ((wrap64 ((rd t631 a2) + (rd t634 a3))) - a0_1)) + 1)) 2)))) 0 (wrap64 (a0_1 - 1)) true _ A31.out).mono ?_); rintro e w' ⟨rfl, ⟨nd, rfl⟩⟩; (try exact dn_))))
            go_ret3
            exact ⟨te_, tb_⟩
           ·
            replace c32 := Bool.eq_false_iff.mpr c32
            subst c32
            have H1 : (some (0, 0, false)) = some (r1, r2, r3) := by rw [if_neg (show ¬ (false = true) by decide)] at H; exact H
            clear H
            have H := H1
            clear H1
            simp only [Option.some.injEq, Prod.mk.injEq] at H
            obtain ⟨rfl, rfl, rfl⟩ := H
            obtain ⟨Ao36, co36, eo36⟩ := Kd.R_slice HO_11.out
            subst eo36
            have p639 : 0 ≤ (a2 : Int) := od_
            have q639 : a2 < (t631.length : Int) := od_
            obtain ⟨ad639, e639, hx639_0⟩ := Kd.at_int (Kd.R_reads' HO_11.out).2.2 a2 p639 q639
            cases e639
            replace p639 := eq_true p639
            replace q639 := eq_true q639
            obtain ⟨Ao37, co37, eo37⟩ := Kd.R_slice HO_12.out
            subst eo37
            have p640 : 0 ≤ (a3 : Int) := od_
            have q640 : a3 < (t634.length : Int) := od_
            obtain ⟨ad640, e640, hx640_0⟩ := Kd.at_int (Kd.R_reads' HO_12.out).2.2 a3 p640 q640
            cases e640
            replace p640 := eq_true p640
            replace q640 := eq_true q640
            obtain ⟨hcz38_0, hcz38_1, hcz38_2, hfz38_0, hfz38_1, hfz38_2⟩ := cf3_ BK630.out
            have p641 : 0 ≤ (a2 : Int) := od_
            have q641 : a2 < (t631.length : Int) := od_
            obtain ⟨ad641, e641, hx641_0⟩ := Kd.at_int (Kd.R_reads' HO_11.out).2.2 a2 p641 q641
            obtain rfl : ad639 = ad641 := (by injection e641)
            replace p641 := eq_true p641
            replace q641 := eq_true q641
            go_wp2_with (first | (go_at_call 105; (with_reducible refine (spec_l1In.calls (wrap64 (Int.tdiv (wrap64 ((wrap64 ((wrap64 ((rd t631 a2) + (rd t634 a3))) - a0_1)) + 1)) 2)) 0 (wrap64 (a0_0 - 1)) true _ A29.out).mono ?_); rintro e w' ⟨rfl, ⟨nd, rfl⟩⟩; (try exact dn_)) | (go_at_call 105; (with_reducible refine (spec_l1In.calls (wrap64 ((rd t631 a2) - (wrap64 (Int.tdiv (wrap64 ((wrap64 ((wrap64 ((rd t631 a2) + (rd t634 a3))) - a0_1)) + 1)) 2)))) 0 (wrap64 (a0_1 - 1)) false _ A31.out).mono ?_); rintro e w' ⟨rfl, ⟨nd, rfl⟩⟩; (try exact dn_)))
            repeat (go_quiet (first | (go_at_call 105; (with_reducible refine (spec_l1In.calls (wrap64 (Int.tdiv (wrap64 ((wrap64 ((wrap64 ((rd t631 a2) + (rd t634 a3))) - a0_1)) + 1)) 2)) 0 (wrap64 (a0_0 - 1)) true _ A29.out).mono ?_); rintro e w' ⟨rfl, ⟨nd, rfl⟩⟩; (try exact dn_)) | (go_at_call 105; (with_reducible refine (spec_l1In.calls (wrap64 ((rd t631 a2) - (wrap64 (Int.tdiv (wrap64 ((wrap64 ((wrap64 ((rd t631 a2) + (rd t634 a3))) - a0_1)) + 1)) 2)))) 0 (wrap64 (a0_1 - 1)) false _ A31.out).mono ?_); rintro e w' ⟨rfl, ⟨nd, rfl⟩⟩; (try exact dn_))); try go_wp2_with (first | (go_at_call 105; (with_reducible refine (spec_l1In.calls (wrap64 (Int.tdiv (wrap64 ((wrap64 ((wrap64 ((rd t631 a2) + (rd t634 a3))) - a0_1)) + 1)) 2)) 0 (wrap64 (a0_0 - 1)) true _ A29.out).mono ?_); rintro e w' ⟨rfl, ⟨nd, rfl⟩⟩; (try exact dn_)) | (go_at_call 105; (with_reducible refine (spec_l1In.calls (wrap64 ((rd t631 a2) - (wrap64 (Int.tdiv (wrap64 ((wrap64 ((wrap64 ((rd t631 a2) + (rd t634 a3))) - a0_1)) + 1)) 2)))) 0 (wrap64 (a0_1 - 1)) false _ A31.out).mono ?_); rintro e w' ⟨rfl, ⟨nd, rfl⟩⟩; (try exact dn_))))
            go_ret3
            exact ⟨te_, tb_⟩
          ·
           replace c30 := Bool.eq_false_iff.mpr c30
           subst c30
           have H1 : (some (0, 0, false)) = some (r1, r2, r3) := by rw [if_neg (show ¬ (false = true) by decide)] at H; exact H
           clear H
           have H := H1
           clear H1
           simp only [Option.some.injEq, Prod.mk.injEq] at H
           obtain ⟨rfl, rfl, rfl⟩ := H
           obtain ⟨Ao39, co39, eo39⟩ := Kd.R_slice HO_11.out
           subst eo39
           have p639 : 0 ≤ (a2 : Int) := od_
           have q639 : a2 < (t631.length : Int) := od_
           obtain ⟨ad639, e639, hx639_0⟩ := Kd.at_int (Kd.R_reads' HO_11.out).2.2 a2 p639 q639
           cases e639
           replace p639 := eq_true p639
           replace q639 := eq_true q639
           obtain ⟨Ao40, co40, eo40⟩ := Kd.R_slice HO_12.out
           subst eo40
           have p640 : 0 ≤ (a3 : Int) := od_
           have q640 : a3 < (t634.length : Int) := od_
           obtain ⟨ad640, e640, hx640_0⟩ := Kd.at_int (Kd.R_reads' HO_12.out).2.2 a3 p640 q640
           cases e640
           replace p640 := eq_true p640
           replace q640 := eq_true q640
           obtain ⟨hcz41_0, hcz41_1, hcz41_2, hfz41_0, hfz41_1, hfz41_2⟩ := cf3_ BK630.out
           have p641 : 0 ≤ (a2 : Int) := od_
           have q641 : a2 < (t631.length : Int) := od_
           obtain ⟨ad641, e641, hx641_0⟩ := Kd.at_int (Kd.R_reads' HO_11.out).2.2 a2 p641 q641
           obtain rfl : ad639 = ad641 := (by injection e641)
           replace p641 := eq_true p641
           replace q641 := eq_true q641
           go_wp2_with (first | (go_at_call 105; (with_reducible refine (spec_l1In.calls (wrap64 (Int.tdiv (wrap64 ((wrap64 ((wrap64 ((rd t631 a2) + (rd t634 a3))) - a0_1)) + 1)) 2)) 0 (wrap64 (a0_0 - 1)) false _ A29.out).mono ?_); rintro e w' ⟨rfl, ⟨nd, rfl⟩⟩; (try exact dn_)))
           repeat (go_quiet (first | (go_at_call 105; (with_reducible refine (spec_l1In.calls (wrap64 (Int.tdiv (wrap64 ((wrap64 ((wrap64 ((rd t631 a2) + (rd t634 a3))) - a0_1)) + 1)) 2)) 0 (wrap64 (a0_0 - 1)) false _ A29.out).mono ?_); rintro e w' ⟨rfl, ⟨nd, rfl⟩⟩; (try exact dn_))); try go_wp2_with (first | (go_at_call 105; (with_reducible refine (spec_l1In.calls (wrap64 (Int.tdiv (wrap64 ((wrap64 ((wrap64 ((rd t631 a2) + (rd t634 a3))) - a0_1)) + 1)) 2)) 0 (wrap64 (a0_0 - 1)) false _ A29.out).mono ?_); rintro e w' ⟨rfl, ⟨nd, rfl⟩⟩; (try exact dn_))))
           go_ret3
           exact ⟨te_, tb_⟩
       ·
        rw [if_neg c20] at H
        exact absurd H (by simp)
      ·
       rw [if_neg c19] at H
       exact absurd H (by simp)
     ·
      rw [if_neg c18] at H
      exact absurd H (by simp)
    ·
     rw [if_neg c17] at H
     exact absurd H (by simp)

/-! ### slices_Index_int_int: function 194 -/
def slices_Index_int_int.l0 : Nat → List Int → Int → Int → Int → Option (Int)
 | 0, _, _, _, _ => none
 | k + 1, x0, x1, x7, x8 => if x8 < x7 then (if 0 ≤ x8 then (if x8 < (x0.length : Int) then (if x1 = (rd x0 x8) then (some x8) else (slices_Index_int_int.l0 k x0 x1 x7 (wrap64 (x8 + 1)))) else (none)) else (none)) else (some (-1))
def slices_Index_int_int.f (k : Nat) (l0 : List Int) (a1 : Int) : Option (Int) := slices_Index_int_int.l0 k l0 a1 (l0.length : Int) 0
theorem slices_Index_int_int.mono_l : ∀ k, (∀ y0 y1 y2 y3, LeO (slices_Index_int_int.l0 k y0 y1 y2 y3) (slices_Index_int_int.l0 (k + 1) y0 y1 y2 y3))
 | 0 => fun _ _ _ _ r h => by simp [slices_Index_int_int.l0] at h
 | k + 1 => by
  have ih0 := slices_Index_int_int.mono_l k
  ·
   intro y0 y1 y2 y3
   unfold slices_Index_int_int.l0
   repeat' first | (with_reducible first | exact ih0 _ _ _ _ | exact LeO.refl _ | exact LeO.none _ | refine LeO.ite ?_ ?_ | refine LeO.bind ?_ (fun _ => ?_)) | exact ih0 _ _ _ _ | exact LeO.none _ | refine LeO.ite ?_ ?_ | refine LeO.bind ?_ (fun _ => ?_)
theorem slices_Index_int_int.mono : ∀ a0 a1 k, LeO (slices_Index_int_int.f k a0 a1) (slices_Index_int_int.f (k + 1) a0 a1) := by
 intro a0 a1 k
 have ih0 := slices_Index_int_int.mono_l k
 unfold slices_Index_int_int.f
 repeat' first | (with_reducible first | exact ih0 _ _ _ _ | exact LeO.refl _ | exact LeO.none _ | refine LeO.ite ?_ ?_ | refine LeO.bind ?_ (fun _ => ?_)) | exact ih0 _ _ _ _ | exact LeO.none _ | refine LeO.ite ?_ ?_ | refine LeO.bind ?_ (fun _ => ?_)
theorem slices_Index_int_int.calls (k : Nat) (A0 : Option Addr) (c0 : Nat) (l0 : List Int) (a1 : Int) (r : Int) (w : World) (hr0 : Kd.C (Kd.int .i64) w A0 l0.length l0) (hc0 : l0.length ≤ c0) (h : slices_Index_int_int.f k l0 a1 = some r) :
  Calls Try.prog 194 #[.slice A0 l0.length c0, .int .i64 a1] w fun e w' => e = .returned (.int .i64 r) ∧ Drawn0 w w' := by
 have HR0 := A_ hr0
 have HC0 := A_ hc0
 clear hr0 hc0
 have H : (slices_Index_int_int.l0 k l0 a1 (l0.length : Int) 0) = some r := h
 clear h
 have H' := A_ H
 clear H
 go_enter Try.func194, Try.ntmps194
 go_wp2
 go_loopg [8] k (fun kq v8 w' => ∃ (x8_1 : Int), v8 = .int .i64 x8_1 ∧ Aside0 (slices_Index_int_int.l0 kq l0 a1 (l0.length : Int) x8_1 = some r) ∧ Aside0 (kq ≤ k) ∧ Drawn0 w w')
 case atStart => exact ⟨(0), tf_, H', ⟨Nat.le_refl _⟩, dr_⟩
 case round =>
  clear H'
  try clear c1
  try clear p2
  obtain ⟨x8_1, rfl, HA, HK1, ⟨m1, rfl⟩⟩ := hrel
  cases gk with
  | zero => exact absurd HA.out (by simp [slices_Index_int_int.l0])
  | succ k1 =>
   have H := HA.out
   clear HA
   simp only [slices_Index_int_int.l0] at H
   by_cases c3 : x8_1 < (l0.length : Int)
   ·
    rw [if_pos c3] at H
    have c3b0 := decide_eq_true c3
    clear c3
    by_cases c4 : 0 ≤ x8_1
    ·
     rw [if_pos c4] at H
     have c4b0 := decide_eq_true c4
     clear c4
     by_cases c5 : x8_1 < (l0.length : Int)
     ·
      rw [if_pos c5] at H
      have c5b0 := decide_eq_true c5
      clear c5
      by_cases c6 : a1 = (rd l0 x8_1)
      ·
       rw [if_pos c6] at H
       have c6b0 : (a1 == (rd l0 x8_1)) = true := beq_iff_eq.mpr c6
       have c6b1 : (a1 != (rd l0 x8_1)) = false := bne_eq_false_iff_eq.mpr c6
       clear c6
       obtain rfl := Option.some.inj H
       have p859 : 0 ≤ (x8_1 : Int) := od_
       have q859 : x8_1 < (l0.length : Int) := od_
       obtain ⟨ad859, e859, hx859_0⟩ := Kd.at_int HR0.out x8_1 p859 q859
       cases e859
       replace p859 := eq_true p859
       replace q859 := eq_true q859
       go_wp2
       go_ret
       exact ⟨tf_, dr_⟩
      ·
       rw [if_neg c6] at H
       have c6b0 : (a1 == (rd l0 x8_1)) = false := beq_eq_false_iff_ne.mpr c6
       have c6b1 : (a1 != (rd l0 x8_1)) = true := bne_iff_ne.mpr c6
       have H' := A_ H
       clear H
       have p859 : 0 ≤ (x8_1 : Int) := od_
       have q859 : x8_1 < (l0.length : Int) := od_
       obtain ⟨ad859, e859, hx859_0⟩ := Kd.at_int HR0.out x8_1 p859 q859
       cases e859
       replace p859 := eq_true p859
       replace q859 := eq_true q859
       go_wp2
       go_roundg k1
       case measure => have := HK1.out; omega
       case rel => exact ⟨(wrap64 (x8_1 + 1)), tf_, H', ⟨by have := HK1.out; omega⟩, dr_⟩
     ·
      rw [if_neg c5] at H
      exact absurd H (by simp)
    ·
     rw [if_neg c4] at H
     exact absurd H (by simp)
   ·
    rw [if_neg c3] at H
    have c3b0 := decide_eq_false c3
    clear c3
    obtain rfl := Option.some.inj H
    go_wp2
    go_ret
    exact ⟨tf_, dr_⟩

/-! ### slices_Contains_int_int: function 177 -/
def slices_Contains_int_int.f (k : Nat) (l0 : List Int) (a1 : Int) : Option (Bool) := (slices_Index_int_int.f k l0 a1).bind fun t860 => (some (decide (t860 ≥ 0)))
theorem slices_Contains_int_int.mono : ∀ a0 a1 k, LeO (slices_Contains_int_int.f k a0 a1) (slices_Contains_int_int.f (k + 1) a0 a1) := by
 intro a0 a1 k
 unfold slices_Contains_int_int.f
 repeat' first | (with_reducible first | exact slices_Index_int_int.mono _ _ _ | exact LeO.refl _ | exact LeO.none _ | refine LeO.ite ?_ ?_ | refine LeO.bind ?_ (fun _ => ?_)) | exact slices_Index_int_int.mono _ _ _ | exact LeO.none _ | refine LeO.ite ?_ ?_ | refine LeO.bind ?_ (fun _ => ?_)
theorem slices_Contains_int_int.calls (k : Nat) (A0 : Option Addr) (c0 : Nat) (l0 : List Int) (a1 : Int) (r : Bool) (w : World) (hr0 : Kd.C (Kd.int .i64) w A0 l0.length l0) (hc0 : l0.length ≤ c0) (h : slices_Contains_int_int.f k l0 a1 = some r) :
  Calls Try.prog 177 #[.slice A0 l0.length c0, .int .i64 a1] w fun e w' => e = .returned (.bool r) ∧ Drawn0 w w' := by
 have HR0 := A_ hr0
 have HC0 := A_ hc0
 clear hr0 hc0
 have H : ((slices_Index_int_int.f k l0 a1).bind fun t860 => (some (decide (t860 ≥ 0)))) = some r := h
 clear h
 replace H := Option.bind_eq_some_iff.mp H
 obtain ⟨t860, A30, H⟩ := H
 replace H : (some (decide (t860 ≥ 0))) = some r := H
 have A3 := A_ A30
 clear A30
 obtain rfl := Option.some.inj H
 go_enter Try.func177, Try.ntmps177
 go_wp2_with (first | (refine gc_ 194 ?_; refine goesT_ (some 7) Try.func194 #[.slice A0 l0.length c0, .int .i64 a1] ?_; (with_reducible refine (slices_Index_int_int.calls k _ _ l0 a1 t860 _ ?side1 ?side2 A3.out).mono ?_); (case side1 => exact tc0_ HR0.out); (case side2 => exact HC0.out); rintro e w' ⟨rfl, ⟨nd, rfl⟩⟩; refine ⟨_, rfl, ?_⟩))
 go_ret
 exact ⟨tf_, dr_⟩

/-! ### laws_szIntS: function 136 -/
def laws_szIntS.f (l0 : List Int) (a1 : Int) : Option (Int) := if (wrap64 (a1 - (l0.length : Int))) < 0 then (some (-1)) else (some (wrap64 (a1 - (l0.length : Int))))
theorem laws_szIntS.calls (A0 : Option Addr) (c0 : Nat) (l0 : List Int) (a1 : Int) (r : Int) (w : World) (hr0 : Kd.C (Kd.int .i64) w A0 l0.length l0) (hc0 : l0.length ≤ c0) (h : laws_szIntS.f l0 a1 = some r) :
  Calls Try.prog 136 #[.slice A0 l0.length c0, .int .i64 a1] w fun e w' => e = .returned (.int .i64 r) ∧ Drawn0 w w' := by
 have HR0 := A_ hr0
 have HC0 := A_ hc0
 clear hr0 hc0
 have H : (if (wrap64 (a1 - (l0.length : Int))) < 0 then (some (-1)) else (some (wrap64 (a1 - (l0.length : Int))))) = some r := h
 clear h
 by_cases c3 : (wrap64 (a1 - (l0.length : Int))) < 0
 ·
  rw [if_pos c3] at H
  have c3b0 := decide_eq_true c3
  clear c3
  obtain rfl := Option.some.inj H
  go_enter Try.func136, Try.ntmps136
  go_wp2
  go_ret
  exact ⟨tf_, dr_⟩
 ·
  rw [if_neg c3] at H
  have c3b0 := decide_eq_false c3
  clear c3
  obtain rfl := Option.some.inj H
  go_enter Try.func136, Try.ntmps136
  go_wp2
  go_ret
  exact ⟨tf_, dr_⟩

/-! ### laws_szBoard: function 63 -/
def laws_szBoard.f (a0_0 : Int) (a0_1 : Int) (l0_2 : List Int) (a1 : Int) : Option (Int) := (laws_szIntS.f l0_2 a1).bind fun t1512 => (if t1512 < 0 then (some (-1)) else (some t1512))
theorem laws_szBoard.calls (a0_0 : Int) (a0_1 : Int) (A0_2 : Option Addr) (c0_2 : Nat) (l0_2 : List Int) (a1 : Int) (r : Int) (w : World) (hr0_2 : Kd.C (Kd.int .i64) w A0_2 l0_2.length l0_2) (hc0_2 : l0_2.length ≤ c0_2) (h : laws_szBoard.f a0_0 a0_1 l0_2 a1 = some r) :
  Calls Try.prog 63 #[.agg #[.int .i64 a0_0, .int .i64 a0_1, .slice A0_2 l0_2.length c0_2], .int .i64 a1] w fun e w' => e = .returned (.int .i64 r) ∧ Below w.heap.size w w' := by
 have hu67 := Try.underlying67
 have HR0_2 := A_ hr0_2
 have HC0_2 := A_ hc0_2
 clear hr0_2 hc0_2
 have HB := A_ (Below.refl w.heap.size w)
 have H : ((laws_szIntS.f l0_2 a1).bind fun t1512 => (if t1512 < 0 then (some (-1)) else (some t1512))) = some r := h
 clear h
 replace H := Option.bind_eq_some_iff.mp H
 obtain ⟨t1512, A30, H⟩ := H
 replace H : (if t1512 < 0 then (some (-1)) else (some t1512)) = some r := H
 have A3 := A_ A30
 clear A30
 by_cases c4 : t1512 < 0
 ·
  rw [if_pos c4] at H
  have c4b0 := decide_eq_true c4
  clear c4
  obtain rfl := Option.some.inj H
  go_enter Try.func63, Try.ntmps63
  go_wp2_with (first | (refine gd_ 2 ?_; refine bx_ 2 #[.int .i64 a0_0, .int .i64 a0_1, .slice A0_2 l0_2.length c0_2] 67 ?_; intro gb1511 hg w5 hbox hb; have BK1511 := A_ (hbox); have GW1511 := A_ ((ts_ hg : w.heap.size ≤ gb1511)); have GE1511 := A_ ((ts_ hg : w.heap.size ≤ gb1511)); replace HB := A_ (below_step tb_ hb); clear hb hbox hg; obtain ⟨hcz6_0, hcz6_1, hcz6_2, hfz6_0, hfz6_1, hfz6_2⟩ := cf3_ BK1511.out) | (refine gc_ 136 ?_; refine goesT_ (some 8) Try.func136 #[.slice A0_2 l0_2.length c0_2, .int .i64 a1] ?_; (with_reducible refine (laws_szIntS.calls _ _ l0_2 a1 t1512 _ ?side1 ?side2 A3.out).mono ?_); (case side1 => exact tc_ HR0_2.out); (case side2 => exact HC0_2.out); rintro e w' ⟨rfl, ⟨nd, rfl⟩⟩; refine ⟨_, rfl, ?_⟩))
  go_ret
  exact ⟨te_, tb_⟩
 ·
  rw [if_neg c4] at H
  have c4b0 := decide_eq_false c4
  clear c4
  obtain rfl := Option.some.inj H
  go_enter Try.func63, Try.ntmps63
  go_wp2_with (first | (refine gd_ 2 ?_; refine bx_ 2 #[.int .i64 a0_0, .int .i64 a0_1, .slice A0_2 l0_2.length c0_2] 67 ?_; intro gb1511 hg w7 hbox hb; have BK1511 := A_ (hbox); have GW1511 := A_ ((ts_ hg : w.heap.size ≤ gb1511)); have GE1511 := A_ ((ts_ hg : w.heap.size ≤ gb1511)); replace HB := A_ (below_step tb_ hb); clear hb hbox hg; obtain ⟨hcz8_0, hcz8_1, hcz8_2, hfz8_0, hfz8_1, hfz8_2⟩ := cf3_ BK1511.out) | (refine gc_ 136 ?_; refine goesT_ (some 8) Try.func136 #[.slice A0_2 l0_2.length c0_2, .int .i64 a1] ?_; (with_reducible refine (laws_szIntS.calls _ _ l0_2 a1 t1512 _ ?side1 ?side2 A3.out).mono ?_); (case side1 => exact tc_ HR0_2.out); (case side2 => exact HC0_2.out); rintro e w' ⟨rfl, ⟨nd, rfl⟩⟩; refine ⟨_, rfl, ?_⟩))
  go_ret
  exact ⟨te_, tb_⟩

/-! ### spec_biPlace: function 175 -/
def spec_biPlace.l0 : Nat → Int → List Int → Int → Int → Option (Int)
 | 0, _, _, _, _ => none
 | k + 1, x1, x7, x8, x9 => if x9 < x8 then (if 0 ≤ x9 then (if x9 < (x7.length : Int) then (if (rd x7 x9) = x1 then (some x9) else (spec_biPlace.l0 k x1 x7 x8 (wrap64 (x9 + 1)))) else (none)) else (none)) else (some (-1))
def spec_biPlace.f (k : Nat) (l0 : List Int) (a1 : Int) : Option (Int) := spec_biPlace.l0 k a1 l0 (l0.length : Int) 0
theorem spec_biPlace.mono_l : ∀ k, (∀ y0 y1 y2 y3, LeO (spec_biPlace.l0 k y0 y1 y2 y3) (spec_biPlace.l0 (k + 1) y0 y1 y2 y3))
 | 0 => fun _ _ _ _ r h => by simp [spec_biPlace.l0] at h
 | k + 1 => by
  have ih0 := spec_biPlace.mono_l k
  ·
   intro y0 y1 y2 y3
   unfold spec_biPlace.l0
   repeat' first | (with_reducible first | exact ih0 _ _ _ _ | exact LeO.refl _ | exact LeO.none _ | refine LeO.ite ?_ ?_ | refine LeO.bind ?_ (fun _ => ?_)) | exact ih0 _ _ _ _ | exact LeO.none _ | refine LeO.ite ?_ ?_ | refine LeO.bind ?_ (fun _ => ?_)
theorem spec_biPlace.mono : ∀ a0 a1 k, LeO (spec_biPlace.f k a0 a1) (spec_biPlace.f (k + 1) a0 a1) := by
 intro a0 a1 k
 have ih0 := spec_biPlace.mono_l k
 unfold spec_biPlace.f
 repeat' first | (with_reducible first | exact ih0 _ _ _ _ | exact LeO.refl _ | exact LeO.none _ | refine LeO.ite ?_ ?_ | refine LeO.bind ?_ (fun _ => ?_)) | exact ih0 _ _ _ _ | exact LeO.none _ | refine LeO.ite ?_ ?_ | refine LeO.bind ?_ (fun _ => ?_)
theorem spec_biPlace.calls (k : Nat) (A0 : Option Addr) (c0 : Nat) (l0 : List Int) (a1 : Int) (r : Int) (w : World) (hr0 : Kd.C (Kd.int .i64) w A0 l0.length l0) (hc0 : l0.length ≤ c0) (h : spec_biPlace.f k l0 a1 = some r) :
  Calls Try.prog 175 #[.slice A0 l0.length c0, .int .i64 a1] w fun e w' => e = .returned (.int .i64 r) ∧ Drawn0 w w' := by
 have HR0 := A_ hr0
 have HC0 := A_ hc0
 clear hr0 hc0
 have H : (spec_biPlace.l0 k a1 l0 (l0.length : Int) 0) = some r := h
 clear h
 have H' := A_ H
 clear H
 go_enter Try.func175, Try.ntmps175
 go_wp2
 go_loopg [9] k (fun kq v9 w' => ∃ (x9_1 : Int), v9 = .int .i64 x9_1 ∧ Aside0 (spec_biPlace.l0 kq a1 l0 (l0.length : Int) x9_1 = some r) ∧ Aside0 (kq ≤ k) ∧ Drawn0 w w')
 case atStart => exact ⟨(0), tf_, H', ⟨Nat.le_refl _⟩, dr_⟩
 case round =>
  clear H'
  try clear c1
  try clear p2
  obtain ⟨x9_1, rfl, HA, HK1, ⟨m1, rfl⟩⟩ := hrel
  cases gk with
  | zero => exact absurd HA.out (by simp [spec_biPlace.l0])
  | succ k1 =>
   have H := HA.out
   clear HA
   simp only [spec_biPlace.l0] at H
   by_cases c3 : x9_1 < (l0.length : Int)
   ·
    rw [if_pos c3] at H
    have c3b0 := decide_eq_true c3
    clear c3
    by_cases c4 : 0 ≤ x9_1
    ·
     rw [if_pos c4] at H
     have c4b0 := decide_eq_true c4
     clear c4
     by_cases c5 : x9_1 < (l0.length : Int)
     ·
      rw [if_pos c5] at H
      have c5b0 := decide_eq_true c5
      clear c5
      by_cases c6 : (rd l0 x9_1) = a1
      ·
       rw [if_pos c6] at H
       have c6b0 : ((rd l0 x9_1) == a1) = true := beq_iff_eq.mpr c6
       have c6b1 : ((rd l0 x9_1) != a1) = false := bne_eq_false_iff_eq.mpr c6
       clear c6
       obtain rfl := Option.some.inj H
       have p1513 : 0 ≤ (x9_1 : Int) := od_
       have q1513 : x9_1 < (l0.length : Int) := od_
       obtain ⟨ad1513, e1513, hx1513_0⟩ := Kd.at_int HR0.out x9_1 p1513 q1513
       cases e1513
       replace p1513 := eq_true p1513
       replace q1513 := eq_true q1513
       go_wp2
       go_ret
       exact ⟨tf_, dr_⟩
      ·
       rw [if_neg c6] at H
       have c6b0 : ((rd l0 x9_1) == a1) = false := beq_eq_false_iff_ne.mpr c6
       have c6b1 : ((rd l0 x9_1) != a1) = true := bne_iff_ne.mpr c6
       have H' := A_ H
       clear H
       have p1513 : 0 ≤ (x9_1 : Int) := od_
       have q1513 : x9_1 < (l0.length : Int) := od_
       obtain ⟨ad1513, e1513, hx1513_0⟩ := Kd.at_int HR0.out x9_1 p1513 q1513
       cases e1513
       replace p1513 := eq_true p1513
       replace q1513 := eq_true q1513
       go_wp2
       go_roundg k1
       case measure => have := HK1.out; omega
       case rel => exact ⟨(wrap64 (x9_1 + 1)), tf_, H', ⟨by have := HK1.out; omega⟩, dr_⟩
     ·
      rw [if_neg c5] at H
      exact absurd H (by simp)
    ·
     rw [if_neg c4] at H
     exact absurd H (by simp)
   ·
    rw [if_neg c3] at H
    have c3b0 := decide_eq_false c3
    clear c3
    obtain rfl := Option.some.inj H
    go_wp2
    go_ret
    exact ⟨tf_, dr_⟩

end
end Go.Proofs.Ytdoflpghemgbdaa.P
