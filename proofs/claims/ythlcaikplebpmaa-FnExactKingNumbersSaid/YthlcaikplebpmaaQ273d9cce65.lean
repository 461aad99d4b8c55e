-- printed functions (wip/slim.py)
import Derived.Test.YthlcaikplebpmaaPx0
import Derived.Test.YthlcaikplebpmaaKpLib
import Derived.Test.YthlcaikplebpmaaKn
import Derived.Test.YthlcaikplebpmaaKg
import Derived.Test.YthlcaikplebpmaaQ0ad70cf82f
namespace Go.Proofs.Ythlcaikplebpmaa.P
noncomputable section
set_option maxHeartbeats 8000000
set_option maxRecDepth 100000
open Go.RowKit Go.Proofs.YthlcaikplebpmaaW.PrintWords Go.Proofs.YthlcaikplebpmaaW.PrintLast Go.Proofs.YthlcaikplebpmaaW.PrintMore
attribute [local go_sem] max2_int min2_int max_two min_two max_three min_three max_four min_four   -- for this text's walks alone
set_option linter.unusedVariables false
set_option linter.unusedSimpArgs false

/-! ### spec_kiAdd: function 185 -/
mutual
def spec_kiAdd.l0 : Nat → Int → List Int → List Int → Int → Int → Option (List Int)
 | 0, _, _, _, _, _ => none
 | k + 1, x2, x7, x16, x17, x18 => if x18 < x17 then (if 0 ≤ x18 then (if x18 < (x16.length : Int) then (spec_kiAdd.l1 k x2 x7 x18 (rd x16 x18) x16 x17 x18) else (none)) else (none)) else (some x7)
def spec_kiAdd.l1 : Nat → Int → List Int → Int → Int → List Int → Int → Int → Option (List Int)
 | 0, _, _, _, _, _, _, _ => none
 | k + 1, x2, x7, x8, x9, x16, x17, x18 => if (x7.length : Int) ≤ (wrap64 (x8 + x2)) then (if x7.length < 17592186044416 then (spec_kiAdd.l1 k x2 (x7 ++ [0]) x8 x9 x16 x17 x18) else (none)) else (if 0 ≤ (wrap64 (x8 + x2)) then (if (wrap64 (x8 + x2)) < (x7.length : Int) then (spec_kiAdd.l0 k x2 (x7.set ((wrap64 (x8 + x2)) : Int).toNat (wrap64 ((rd x7 (wrap64 (x8 + x2))) + x9))) x16 x17 (wrap64 (x18 + 1))) else (none)) else (none))
end
def spec_kiAdd.f (k : Nat) (l0 : List Int) (l1 : List Int) (a2 : Int) : Option (List Int) := if (l1.length : Int) = 0 then (some l0) else ((spec_l1Own.f l0).bind fun t744 => (spec_kiAdd.l0 k a2 t744 l1 (l1.length : Int) 0))
theorem spec_kiAdd.mono_l : ∀ k, (∀ y0 y1 y2 y3 y4, LeO (spec_kiAdd.l0 k y0 y1 y2 y3 y4) (spec_kiAdd.l0 (k + 1) y0 y1 y2 y3 y4)) ∧ (∀ y0 y1 y2 y3 y4 y5 y6, LeO (spec_kiAdd.l1 k y0 y1 y2 y3 y4 y5 y6) (spec_kiAdd.l1 (k + 1) y0 y1 y2 y3 y4 y5 y6))
 | 0 => ⟨fun _ _ _ _ _ r h => by simp [spec_kiAdd.l0] at h, fun _ _ _ _ _ _ _ r h => by simp [spec_kiAdd.l1] at h⟩
 | k + 1 => by
  obtain ⟨ih0, ih1⟩ := spec_kiAdd.mono_l k
  refine ⟨?_, ?_⟩
  ·
   intro y0 y1 y2 y3 y4
   unfold spec_kiAdd.l0
   repeat' first | (with_reducible first | exact ih0 _ _ _ _ _ | exact ih1 _ _ _ _ _ _ _ | exact LeO.refl _ | exact LeO.none _ | refine LeO.ite ?_ ?_ | refine LeO.bind ?_ (fun _ => ?_)) | exact ih0 _ _ _ _ _ | exact ih1 _ _ _ _ _ _ _ | exact LeO.none _ | refine LeO.ite ?_ ?_ | refine LeO.bind ?_ (fun _ => ?_)
  ·
   intro y0 y1 y2 y3 y4 y5 y6
   unfold spec_kiAdd.l1
   repeat' first | (with_reducible first | exact ih0 _ _ _ _ _ | exact ih1 _ _ _ _ _ _ _ | exact LeO.refl _ | exact LeO.none _ | refine LeO.ite ?_ ?_ | refine LeO.bind ?_ (fun _ => ?_)) | exact ih0 _ _ _ _ _ | exact ih1 _ _ _ _ _ _ _ | exact LeO.none _ | refine LeO.ite ?_ ?_ | refine LeO.bind ?_ (fun _ => ?_)
theorem spec_kiAdd.mono : ∀ a0 a1 a2 k, LeO (spec_kiAdd.f k a0 a1 a2) (spec_kiAdd.f (k + 1) a0 a1 a2) := by
 intro a0 a1 a2 k
 obtain ⟨ih0, ih1⟩ := spec_kiAdd.mono_l k
 unfold spec_kiAdd.f
 repeat' first | (with_reducible first | exact ih0 _ _ _ _ _ | exact ih1 _ _ _ _ _ _ _ | exact LeO.refl _ | exact LeO.none _ | refine LeO.ite ?_ ?_ | refine LeO.bind ?_ (fun _ => ?_)) | exact ih0 _ _ _ _ _ | exact ih1 _ _ _ _ _ _ _ | exact LeO.none _ | refine LeO.ite ?_ ?_ | refine LeO.bind ?_ (fun _ => ?_)
theorem spec_kiAdd.calls (k : Nat) (P0_ : Nat → Prop) (u9000_ : Value) (l0 : List Int) (A1 : Option Addr) (c1 : Nat) (l1 : List Int) (a2 : Int) (r : List Int) (w0 w : World) (hB : Below w0.heap.size w0 w) (ho0 : Kd.R (Kd.int .i64) 3 w w0.heap.size P0_ u9000_ l0) (hr1 : ∀ W_, Kept w W_ (fun k_ => P0_ k_) → Kd.C (Kd.int .i64) W_ A1 l1.length l1) (hc1 : l1.length ≤ c1) (h : spec_kiAdd.f k l0 l1 a2 = some r) :
  Calls Try.prog 185 #[u9000_, .slice A1 l1.length c1, .int .i64 a2] w fun e w' => ∃ v0_ : Value, e = .returned (v0_) ∧ Kd.R (Kd.int .i64) 3 w' w0.heap.size (fun k_ => (P0_ k_ ∨ w.heap.size ≤ k_)) v0_ r ∧ Below w0.heap.size w0 w' ∧ Kept w w' (fun k_ => P0_ k_) := by
 have HO0 := A_ (show Kd.R (Kd.int .i64) 3 w w0.heap.size (fun k_ => (P0_ k_ ∨ w.heap.size ≤ k_)) u9000_ l0 from Kd.R_mono ho0 (fun k_ hk => (.inl hk)))
 have HR1 := A_ hr1
 have HC1 := A_ hc1
 clear hr1 hc1
 have HK := A_ (Kept.refl w (fun k_ => P0_ k_))
 have HW0 := A_ hB.size
 have HB := A_ hB
 clear hB
 have H : (if (l1.length : Int) = 0 then (some l0) else ((spec_l1Own.f l0).bind fun t744 => (spec_kiAdd.l0 k a2 t744 l1 (l1.length : Int) 0))) = some r := h
 clear h
 by_cases c4 : (l1.length : Int) = 0
 ·
  rw [if_pos c4] at H
  have c4b0 : ((l1.length : Int) == 0) = true := beq_iff_eq.mpr c4
  have c4b1 : ((l1.length : Int) != 0) = false := bne_eq_false_iff_eq.mpr c4
  clear c4
  obtain rfl := Option.some.inj H
  go_enter Try.func185, Try.ntmps185
  go_wp2
  go_ret
  exact ⟨_, te_, tr_x HO0.out, tb_, by repeat (first | (with_reducible first | exact HK.out | apply Kept.alloc | apply Kept.drewN | apply Kept.drew) | exact HK.out)⟩
 ·
  rw [if_neg c4] at H
  have c4b0 : ((l1.length : Int) == 0) = false := beq_eq_false_iff_ne.mpr c4
  have c4b1 : ((l1.length : Int) != 0) = true := bne_iff_ne.mpr c4
  have c4b2 : ¬ (l1 = []) := fun h_ => c4 (by rw [h_]; rfl)
  replace H := Option.bind_eq_some_iff.mp H
  obtain ⟨t744, A50, H⟩ := H
  replace H : (spec_kiAdd.l0 k a2 t744 l1 (l1.length : Int) 0) = some r := H
  have A5 := A_ A50
  clear A50
  have H' := A_ H
  clear H
  obtain ⟨Ao6, co6, eo6⟩ := Kd.R_slice HO0.out
  subst eo6
  go_enter Try.func185, Try.ntmps185
  go_wp2_with (first | (refine gc_ 131 ?_; refine goesT_ (some 15) Try.func131 #[.slice Ao6 l0.length co6] ?_; (with_reducible refine (spec_l1Own.calls _ _ l0 t744 _ ?side1 ?side2 A5.out).mono ?_); (case side1 => exact tc0_ (Kd.R_reads' HO0.out).2.2); (case side2 => exact (Kd.R_reads' HO0.out).2.1); rintro e w7 ⟨v745, rfl, ho0, hb⟩; refine ⟨_, rfl, ?_⟩; have HO746 := A_ (Kd.R_lower (Kd.R_new' (Kd.R_newM (M := fun k_ => (P0_ k_ ∨ w.heap.size ≤ k_)) ho0 (by first | exact HK.out.1 | exact (show Kept w _ (fun k_ => P0_ k_) from by repeat (first | (with_reducible first | exact HK.out | apply Kept.alloc | apply Kept.drewN | apply Kept.drew) | exact HK.out)).1) (fun k_ h_ => .inr h_)) (Kd.R_lt (tr_x HO0.out))) (below_size tb_)); replace HO0 := A_ (Kd.R_elder' (tr_x HO0.out) (Kd.R_base ho0) hb); replace HK := A_ (Kept.below (S := (fun k_ => P0_ k_)) (by repeat (first | (with_reducible first | exact HK.out | apply Kept.alloc | apply Kept.drewN | apply Kept.drew) | exact HK.out)) hb); replace HB := A_ (below_step tb_ hb); (try clear hb); (try clear hb2); (try clear hk); (try clear hi); (try clear ho0)))
  go_loopg [7, 18] k (fun kq v7 v18 w' => ∃ (x7_1 : List Int) (x18_1 : Int), v18 = .int .i64 x18_1 ∧ Aside0 (spec_kiAdd.l0 kq a2 x7_1 l1 (l1.length : Int) x18_1 = some r) ∧ Aside0 (kq ≤ k) ∧ Aside0 (Kd.R (Kd.int .i64) 3 w' w0.heap.size (fun k_ => (P0_ k_ ∨ w.heap.size ≤ k_)) v7 x7_1) ∧ Aside0 (Kept w w' (fun k_ => P0_ k_)) ∧ Aside0 (Below w0.heap.size w0 w'))
  case atStart => exact ⟨(t744), (0), tf_, H', ⟨Nat.le_refl _⟩, ⟨by (with_reducible repeat (first | apply Kd.R_alloc | apply Kd.R_drewN | apply Kd.R_drew)); exact Kd.R_mono HO746.out (fun _ hk => hk.1.1)⟩, ⟨by repeat (first | (with_reducible first | exact HK.out | apply Kept.alloc | apply Kept.drewN | apply Kept.drew) | exact HK.out)⟩, ⟨tb_⟩⟩
  case round =>
   clear H'
   try clear c1
   try clear p2
   try clear c4
   try clear c4b0
   try clear c4b1
   try clear c4b2
   obtain ⟨x7_1, x18_1, rfl, HA, HK1, HO_7, HK, HB⟩ := hrel
   cases gk with
   | zero => exact absurd HA.out (by simp [spec_kiAdd.l0])
   | succ k1 =>
    have H := HA.out
    clear HA
    simp only [spec_kiAdd.l0] at H
    by_cases c8 : x18_1 < (l1.length : Int)
    ·
     rw [if_pos c8] at H
     have c8b0 := decide_eq_true c8
     clear c8
     by_cases c9 : 0 ≤ x18_1
     ·
      rw [if_pos c9] at H
      have c9b0 := decide_eq_true c9
      clear c9
      by_cases c10 : x18_1 < (l1.length : Int)
      ·
       rw [if_pos c10] at H
       have c10b0 := decide_eq_true c10
       clear c10
       have H' := A_ H
       clear H
       have p747 : 0 ≤ (x18_1 : Int) := od_
       have q747 : x18_1 < (l1.length : Int) := od_
       obtain ⟨ad747, e747, hx747_0⟩ := Kd.at_int (Kd.C_kept_now HR1.out HK.out) x18_1 p747 q747
       cases e747
       replace p747 := eq_true p747
       replace q747 := eq_true q747
       go_wp2
       go_loopg [7] k1 (fun kq v7 w' => ∃ (x7_2 : List Int), Aside0 (spec_kiAdd.l1 kq a2 x7_2 x18_1 (rd l1 x18_1) l1 (l1.length : Int) x18_1 = some r) ∧ Aside0 (kq ≤ k1) ∧ Aside0 (Kd.R (Kd.int .i64) 3 w' w0.heap.size (fun k_ => (P0_ k_ ∨ w.heap.size ≤ k_)) v7 x7_2) ∧ Aside0 (Kept w w' (fun k_ => P0_ k_)) ∧ Aside0 (Below w0.heap.size w0 w'))
       case atStart => exact ⟨(x7_1), H', ⟨Nat.le_refl _⟩, ⟨tr_x HO_7.out⟩, ⟨by repeat (first | (with_reducible first | exact HK.out | apply Kept.alloc | apply Kept.drewN | apply Kept.drew) | exact HK.out)⟩, ⟨tb_⟩⟩
       case round =>
        clear H'
        try clear c1
        try clear p2
        try clear c4
        try clear c4b0
        try clear c4b1
        try clear c4b2
        try clear p7
        try clear q7
        try clear hx7
        try clear c8
        try clear c8b0
        try clear c9
        try clear c9b0
        try clear c10
        try clear c10b0
        try clear hx747_0
        try clear p2
        try clear p747
        try clear q747
        obtain ⟨x7_2, HA, HK2, HO_7, HK, HB⟩ := hrel
        cases gk with
        | zero => exact absurd HA.out (by simp [spec_kiAdd.l1])
        | succ k2 =>
         have H := HA.out
         clear HA
         simp only [spec_kiAdd.l1] at H
         by_cases c11 : (x7_2.length : Int) ≤ (wrap64 (x18_1 + a2))
         ·
          rw [if_pos c11] at H
          have c11b0 := decide_eq_true c11
          clear c11
          by_cases c12 : x7_2.length < 17592186044416
          ·
           rw [if_pos c12] at H
           have LMc12 := A_ c12
           clear c12
           obtain ⟨y748, hy748⟩ : ∃ y_ : List Int, y_ = (x7_2 ++ [0]) := ⟨_, rfl⟩
           replace H : (spec_kiAdd.l1 k2 a2 y748 x18_1 (rd l1 x18_1) l1 (l1.length : Int) x18_1) = some r := ty_ hy748 H
           have Ny748 := A_ hy748
           clear hy748
           have H' := A_ H
           clear H
           obtain ⟨Ao13, co13, eo13⟩ := Kd.R_slice HO_7.out
           subst eo13
           go_wp2_with (first | ((with_reducible refine gate_builtin (b := .append) (xs := #[.tmp 29, .tmp 30]) rfl ?_); at_builtin; refine Kd.R_append (Kd.int .i64) (w0 := w0) w0.heap.size rfl (.tmp 29) (.tmp 30) 22 3 (.int .i64 0) 8 rfl Try.underlying22 info3 rfl (by decide) (by omega) (.slice Ao13 x7_2.length co13) x7_2 0 [.int .i64 0] (fun k_ => (P0_ k_ ∨ w.heap.size ≤ k_)) (fun _ => False) rfl rfl ?aP (fun _ hk => hk.elim) ?aF ?aO ?aB ?aS ?aL ?_; (case aP => exact rfl); (case aB => exact tb_); (case aF => exact (fun k_ hk => (.inr (Nat.le_trans (by first | exact HK.out.1 | exact (show Kept w _ (fun k_ => P0_ k_) from by repeat (first | (with_reducible first | exact HK.out | apply Kept.alloc | apply Kept.drewN | apply Kept.drew) | exact HK.out)).1) hk)))); (case aO => exact (tr_x HO_7.out)); (case aS => exact (below_size tb_)); (case aL => have := LMc12.out; omega); intro v749 w14 ho hb hg hat; rw [← Ny748.out] at ho; have n0_ := A_ (hb); have n1_ := A_ (Kept.of_grown (S := (fun k_ => P0_ k_)) hg (by repeat (first | (with_reducible first | exact HK.out | apply Kept.alloc | apply Kept.drewN | apply Kept.drew) | exact HK.out)) (fun k_ e_ => (HO_7.out.1 k_ e_))); have n2_ := A_ (ho); clear HB; clear HK; clear HO_7; have HB := n0_; have HK := n1_; have HO750 := n2_; clear n0_ n1_ n2_; clear ho hb hg hat))
           go_roundg k2
           case measure => have := HK1.out; have := HK2.out; omega
           case rel => exact ⟨(y748), H', ⟨by have := HK1.out; have := HK2.out; omega⟩, ⟨tr_x HO750.out⟩, ⟨by repeat (first | (with_reducible first | exact HK.out | apply Kept.alloc | apply Kept.drewN | apply Kept.drew) | exact HK.out)⟩, ⟨tb_⟩⟩
          ·
           rw [if_neg c12] at H
           exact absurd H (by simp)
         ·
          rw [if_neg c11] at H
          have c11b0 := decide_eq_false c11
          clear c11
          obtain ⟨ji15, hji15⟩ : ∃ j_ : Int, (wrap64 (x18_1 + a2)) = j_ := ⟨_, rfl⟩
          replace H : (if 0 ≤ (ji15) then (if (ji15) < (x7_2.length : Int) then (spec_kiAdd.l0 k2 a2 (x7_2.set ((ji15) : Int).toNat (wrap64 ((rd x7_2 (ji15)) + (rd l1 x18_1)))) l1 (l1.length : Int) (wrap64 (x18_1 + 1))) else (none)) else (none)) = some r := by first | (rw [hji15] at H; exact H) | (simp only [hji15] at H ⊢; exact H)
          (try rw [hji15] at c11b0)
          have hji15w : (IntKind.i64.wrap (x18_1 + a2)) = ji15 := (i64_w _).trans hji15
          by_cases c16 : 0 ≤ (ji15)
          ·
           rw [if_pos c16] at H
           have c16b0 := decide_eq_true c16
           clear c16
           by_cases c17 : (ji15) < (x7_2.length : Int)
           ·
            rw [if_pos c17] at H
            have c17b0 := decide_eq_true c17
            clear c17
            obtain ⟨y752, hy752⟩ : ∃ y_ : List Int, y_ = (x7_2.set ((ji15) : Int).toNat (wrap64 ((rd x7_2 (ji15)) + (rd l1 x18_1)))) := ⟨_, rfl⟩
            replace H : (spec_kiAdd.l0 k2 a2 y752 l1 (l1.length : Int) (wrap64 (x18_1 + 1))) = some r := ty_ hy752 H
            have Ny752 := A_ hy752
            clear hy752
            have H' := A_ H
            clear H
            obtain ⟨Ao19, co19, eo19⟩ := Kd.R_slice HO_7.out
            subst eo19
            have p751 : 0 ≤ ((ji15) : Int) := od_
            have q751 : (ji15) < (x7_2.length : Int) := od_
            obtain ⟨ad751, e751, hx751_0⟩ := Kd.at_int (Kd.R_reads' HO_7.out).2.2 (ji15) p751 q751
            cases e751
            replace p751 := eq_true p751
            replace q751 := eq_true q751
            have p18 : 0 ≤ ((ji15) : Int) := od_
            have q18 : ((ji15) : Int) < ((x7_2.length : Int) : Int) := od_
            obtain ⟨go18, co18, eo18, gb18, gl18, cl18, HG18⟩ := Kd.R_form HO_7.out (by omega)
            (first | cases eo18 | (injection eo18 with ea_ en_ ec_; (first | subst ea_ | (injection ea_ with ea_; subst ea_)); subst ec_; clear en_))
            have GB18 := A_ gb18
            have GG18 := A_ HG18
            clear gb18 gl18 HG18
            have HMgo18 := A_ (show (P0_ go18 ∨ w.heap.size ≤ go18) from (HO_7.out.1 _ rfl))
            (first | simp only [add_plain] at hx751_0 | skip)
            obtain ⟨hx18_0, hf18_0⟩ := Kd.R_celln 0 HO_7.out ((ji15) : Int) p18 q18
            replace p18 := eq_true p18
            replace q18 := eq_true q18
            have HP20 := Kd.R_putg HO_7.out ((ji15) : Int) (wrap64 ((rd x7_2 (ji15)) + (rd l1 x18_1)))
            go_wp2_with (first | ((with_reducible refine gate_store (t := 3) (p := 40) rfl ?_); refine store_event (t := 3) (p := 40) (v := ?vo_w21) (w1 := (wr.setCell ⟨go18, ((ji15) : Int).toNat, none⟩ (.int .i64 (wrap64 ((rd x7_2 (ji15)) + (rd l1 x18_1)))))) ?hg ?ho ?hn ?hr ?_; (case ho => rfl); (case hg => rfl); (case hn => rfl); (case hr => first | (go_simp; done) | (go_simp; rfl)); intro w21 hw; have hg : wr.grownBy w21 (some go18) := (by rw [hw]; exact HP20.2); have hp_ : Kd.R (Kd.int .i64) 3 w21 w0.heap.size (fun k_ => (P0_ k_ ∨ w.heap.size ≤ k_)) (.slice (some ⟨go18, 0, none⟩) x7_2.length co19) y752 := (by rw [hw, Ny752.out]; exact HP20.1); clear HP20; replace HB := A_ ((by rw [hw]; exact below_set (HB.out) GB18.out : Below w0.heap.size w0 w21)); replace HK := A_ (Kept.of_grown (S := (fun k_ => P0_ k_)) hg (by repeat (first | (with_reducible first | exact HK.out | apply Kept.alloc | apply Kept.drewN | apply Kept.drew) | exact HK.out)) (fun k_ e_ => (HO_7.out.1 k_ e_))); replace HO_7 := A_ (hp_); clear hg hw hp_))
            go_roundg k2
            case measure => have := HK1.out; have := HK2.out; omega
            case rel => exact ⟨(y752), (wrap64 (x18_1 + 1)), tf_, H', ⟨by have := HK1.out; have := HK2.out; omega⟩, ⟨tr_x HO_7.out⟩, ⟨by repeat (first | (with_reducible first | exact HK.out | apply Kept.alloc | apply Kept.drewN | apply Kept.drew) | exact HK.out)⟩, ⟨tb_⟩⟩
           ·
            rw [if_neg c17] at H
            exact absurd H (by simp)
          ·
           rw [if_neg c16] at H
           exact absurd H (by simp)
      ·
       rw [if_neg c10] at H
       exact absurd H (by simp)
     ·
      rw [if_neg c9] at H
      exact absurd H (by simp)
    ·
     rw [if_neg c8] at H
     have c8b0 := decide_eq_false c8
     clear c8
     obtain rfl := Option.some.inj H
     go_wp2
     go_ret
     exact ⟨_, te_, tr_x HO_7.out, tb_, by repeat (first | (with_reducible first | exact HK.out | apply Kept.alloc | apply Kept.drewN | apply Kept.drew) | exact HK.out)⟩

/-! ### spec_kiNumbers: function 104 -/
def spec_kiNumbers.popN (m : Nat) : Nat → Nat
 | 0 => 0
 | c + 1 => spec_kiNumbers.popN m c + m / 2 ^ c % 2
def spec_kiNumbers.v2 (x : Int) (m : Nat) : Bool := Go.bits .andNot .i64 (m : Int) x == 0 && Go.bits .and .i64 (m : Int) ((m : Int) * 2) == 0
def spec_kiNumbers.c2 (m b : Nat) : Bool := Go.bits .and .i64 (b : Int) (Go.bits .or .i64 (Go.bits .or .i64 (m : Int) ((m : Int) * 2)) ((m : Int) / 2)) == 0
def spec_kiNumbers.start (n : Nat) : List (List Int) := (List.replicate n []).set 0 [1]
def spec_kiNumbers.okS (k : Nat) (C : Int) (l : List Int) : Prop := (0 ≤ C ∧ C ≤ 6 ∧ l.length ≤ 6) ∧ ∀ (a b : List Int) (n : Nat), a.length ≤ 100 → b.length ≤ 100 → n ≤ 6 → spec_kiAdd.f k a b (n : Int) = some (Kings.kadd a b n)
open Classical in
def spec_kiNumbers.f (k : Nat) (a0_0 a0_1 : Int) (l0_2 : List Int) : Option (List Int) := if spec_kiNumbers.okS k a0_1 l0_2 then some (Kings.outK (Kings.waysK spec_kiNumbers.c2 spec_kiNumbers.v2 (fun m => spec_kiNumbers.popN m a0_1.toNat) (2 ^ a0_1.toNat) l0_2 (spec_kiNumbers.start (2 ^ a0_1.toNat))) (2 ^ a0_1.toNat)) else none
theorem spec_kiNumbers.mono : ∀ a0 a1 a2 k, LeO (spec_kiNumbers.f k a0 a1 a2) (spec_kiNumbers.f (k + 1) a0 a1 a2) := fun a0 a1 a2 k r h => by
 unfold spec_kiNumbers.f at h ⊢
 by_cases hok : spec_kiNumbers.okS k a1 a2
 ·
  rw [if_pos hok] at h
  rw [if_pos ⟨hok.1, fun a b n h1 h2 h3 => spec_kiAdd.mono _ _ _ _ _ (hok.2 a b n h1 h2 h3)⟩]
  exact h
 ·
  rw [if_neg hok] at h
  exact absurd h (by simp)
theorem spec_kiNumbers.start_len (n j : Nat) : ((spec_kiNumbers.start n).getD j []).length ≤ 1 + 6 * 0 := by
 unfold spec_kiNumbers.start
 rw [List.getD_eq_getElem?_getD, List.getElem?_set, List.getElem?_replicate]
 split
 ·
  split <;> simp
 ·
  split <;> simp
def spec_kiNumbers.nextU (C n : Nat) (K : List (List Int)) (x : Int) (m : Nat) : List (List Int) := (List.range n).map fun j => if j < m then (if spec_kiNumbers.v2 x j = true then Kings.foldK spec_kiNumbers.c2 K j (spec_kiNumbers.popN j C) n else []) else []
theorem spec_kiNumbers.nextU_zero (C n : Nat) (K : List (List Int)) (x : Int) : spec_kiNumbers.nextU C n K x 0 = List.replicate n [] := by
 refine List.ext_getElem (by simp [spec_kiNumbers.nextU]) (fun i h1 h2 => ?_)
 simp [spec_kiNumbers.nextU]
theorem spec_kiNumbers.nextU_all (C n : Nat) (K : List (List Int)) (x : Int) : spec_kiNumbers.nextU C n K x n = Kings.nextK spec_kiNumbers.c2 spec_kiNumbers.v2 (fun m => spec_kiNumbers.popN m C) n K x := by
 unfold spec_kiNumbers.nextU Kings.nextK
 exact List.map_congr_left (fun j hj => by rw [if_pos (List.mem_range.1 hj)])
theorem spec_kiNumbers.nextU_get (C n : Nat) (K : List (List Int)) (x : Int) (m : Nat) : (spec_kiNumbers.nextU C n K x m).getD m [] = [] := by
 unfold spec_kiNumbers.nextU
 rw [List.getD_eq_getElem?_getD, List.getElem?_map]
 cases h : (List.range n)[m]? with
 | none => rfl
 | some y =>
  obtain ⟨h1, h2⟩ := List.getElem?_eq_some_iff.1 h
  rw [List.getElem_range] at h2
  subst h2
  simp
theorem spec_kiNumbers.nextU_skip (C n : Nat) (K : List (List Int)) (x : Int) (m : Nat) (h : spec_kiNumbers.v2 x m = false) : spec_kiNumbers.nextU C n K x (m + 1) = spec_kiNumbers.nextU C n K x m := by
 unfold spec_kiNumbers.nextU
 refine List.map_congr_left (fun j hj => ?_)
 by_cases e : j = m
 ·
  subst e
  rw [if_pos (by omega), if_neg (by rw [h]; simp), if_neg (by omega)]
 ·
  by_cases e2 : j < m
  ·
   rw [if_pos (by omega), if_pos e2]
  ·
   rw [if_neg (by omega), if_neg e2]
theorem spec_kiNumbers.nextU_put (C n : Nat) (K : List (List Int)) (x : Int) (m : Nat) (h : spec_kiNumbers.v2 x m = true) : (spec_kiNumbers.nextU C n K x m).set m (Kings.foldK spec_kiNumbers.c2 K m (spec_kiNumbers.popN m C) n) = spec_kiNumbers.nextU C n K x (m + 1) := by
 unfold spec_kiNumbers.nextU
 refine List.ext_getElem (by simp) (fun j h1 h2 => ?_)
 rw [List.getElem_set]
 simp only [List.getElem_map, List.getElem_range]
 by_cases e : m = j
 ·
  subst e
  simp [h]
 ·
  have e2 : (j < m + 1) = (j < m) := propext (by omega)
  simp only [if_neg e, e2]
theorem spec_kiNumbers.set_same {l : List (List Int)} {m : Nat} (h : l.getD m [] = []) : l.set m [] = l := by
 refine List.ext_getElem (by simp) (fun j h1 h2 => ?_)
 rw [List.getElem_set]
 split
 ·
  rename_i e
  subst e
  rw [List.getD_eq_getElem?_getD, List.getElem?_eq_getElem h2, Option.getD_some] at h
  exact h.symm
 ·
  rfl
theorem spec_kiNumbers.set_get {l : List (List Int)} {m : Nat} (h : m < l.length) (r : List Int) : (l.set m r).getD m [] = r := by
 rw [List.getD_eq_getElem?_getD, List.getElem?_set_self h]; rfl
theorem spec_kiNumbers.fold_len {K : List (List Int)} {M c : Nat} (m : Nat) (hc : c ≤ 6) (hK : ∀ j, (K.getD j []).length ≤ M) : ∀ b, (Kings.foldK spec_kiNumbers.c2 K m c b).length ≤ M + 6
 | 0 => Nat.zero_le _
 | b + 1 => by
  rw [Kings.foldK]
  split
  ·
   have h1 := Kings.kadd_len (Kings.foldK spec_kiNumbers.c2 K m c b) (K.getD b []) c
   have h2 := fold_len m hc hK b
   have h3 := hK b
   omega
  ·
   exact fold_len m hc hK b
theorem spec_kiNumbers.next_len {K : List (List Int)} {M C n : Nat} {x : Int} (hc : ∀ m, spec_kiNumbers.popN m C ≤ 6) (hK : ∀ j, (K.getD j []).length ≤ M) (j : Nat) : ((Kings.nextK spec_kiNumbers.c2 spec_kiNumbers.v2 (fun m => spec_kiNumbers.popN m C) n K x).getD j []).length ≤ M + 6 := by
 unfold Kings.nextK
 rw [List.getD_eq_getElem?_getD, List.getElem?_map]
 cases h : (List.range n)[j]? with
 | none => exact Nat.zero_le _
 | some y =>
  dsimp only [Option.map_some, Option.getD_some]
  split
  ·
   exact spec_kiNumbers.fold_len y (hc y) hK n
  ·
   exact Nat.zero_le _
theorem spec_kiNumbers.popN_le (m : Nat) : ∀ c, spec_kiNumbers.popN m c ≤ c
 | 0 => Nat.le_refl _
 | c + 1 => by have := popN_le m c; rw [popN]; omega
theorem spec_kiNumbers.pop_step (m c : Nat) (hc : c ≤ 6) : wrap64 (((spec_kiNumbers.popN m c : Nat) : Int) + Int.tmod ((m : Int) / 2 ^ c) 2) = ((spec_kiNumbers.popN m (c + 1) : Nat) : Int) := by
 have e : (m : Int) / 2 ^ c = ((m / 2 ^ c : Nat) : Int) := by simp
 rw [e, Int.tmod_eq_emod_of_nonneg (Int.natCast_nonneg _), popN]
 have := spec_kiNumbers.popN_le m c
 generalize m / 2 ^ c = z
 unfold wrap64
 omega
theorem spec_kiNumbers.out_len {K : List (List Int)} {M : Nat} (hK : ∀ j, (K.getD j []).length ≤ M) : ∀ b, (Kings.outK K b).length ≤ M
 | 0 => Nat.zero_le _
 | b + 1 => by
  rw [Kings.outK]
  have h1 := Kings.kadd_len (Kings.outK K b) (K.getD b []) 0
  have h2 := out_len hK b
  have h3 := hK b
  omega
theorem spec_kiNumbers.calls (k : Nat) (a0_0 a0_1 : Int) (A0_2 : Option Addr) (c0_2 : Nat) (l0_2 : List Int) (r : List Int) (w : World) (hr0_2 : Kd.C (Kd.int .i64) w A0_2 l0_2.length l0_2) (hc0_2 : l0_2.length ≤ c0_2) (h : spec_kiNumbers.f k a0_0 a0_1 l0_2 = some r) :
  Calls Try.prog 104 #[.agg #[.int .i64 a0_0, .int .i64 a0_1, .slice A0_2 l0_2.length c0_2]] w fun e w' => ∃ v0_ : Value, e = .returned (v0_) ∧ Kd.R (Kd.int .i64) 3 w' w.heap.size (fun _ => True) v0_ r ∧ Below w.heap.size w w' := by
 have HR := A_ hr0_2
 have HC := A_ hc0_2
 clear hr0_2 hc0_2
 unfold spec_kiNumbers.f at h
 by_cases hok : spec_kiNumbers.okS k a0_1 l0_2
 case neg =>
  rw [if_neg hok] at h
  exact absurd h (by simp)
 rw [if_pos hok] at h
 obtain ⟨⟨hc0, hc6, hl6⟩, hadd⟩ := hok
 obtain ⟨C, rfl⟩ : ∃ C : Nat, a0_1 = (C : Int) := ⟨a0_1.toNat, by omega⟩
 rw [Int.toNat_natCast] at h
 obtain ⟨n, hn⟩ : ∃ n, n = 2 ^ C := ⟨_, rfl⟩
 rw [← hn] at h
 have hsh : wrap64 (2 ^ C) = (n : Int) := by
  rw [hn]
  have : C = 0 ∨ C = 1 ∨ C = 2 ∨ C = 3 ∨ C = 4 ∨ C = 5 ∨ C = 6 := by omega
  rcases this with rfl | rfl | rfl | rfl | rfl | rfl | rfl <;> decide +kernel
 have hn64 : n ≤ 64 := by
  rw [hn]
  exact Nat.le_trans (Nat.pow_le_pow_right (by omega) (show C ≤ 6 by omega)) (by decide)
 have hn1 : 0 < n := by rw [hn]; exact Nat.pow_pos (by omega)
 have HADD := A_ hadd
 have HRES := A_ (Option.some.inj h)
 have HL6 := A_ hl6
 have HN := A_ hn
 clear h hadd hl6 hn
 have hu26 := Try.underlying26
 have hmk : ∀ W, _ := run_make_row' (P := Try.prog) 41 22 (.slice none 0 0) 24 Try.underlying41 info22 rfl .i64 .i64 n (by omega) (by omega)
 obtain ⟨W1, hW1⟩ : ∃ x, x = (w.alloc (.cells #[.int .i64 a0_0, .int .i64 (C : Int), .slice A0_2 l0_2.length c0_2] 26)).alloc (.cells (madeCells #[.slice none 0 0] n) 22) := ⟨_, rfl⟩
 have b1 : Below w.heap.size w W1 := by rw [hW1]; exact below_alloc (below_alloc (Below.refl _ _) _) _
 have s1 : W1.heap.size = w.heap.size + 1 + 1 := by rw [hW1]; simp
 have f0 : W1.heap[w.heap.size]? = some (.cells #[.int .i64 a0_0, .int .i64 (C : Int), .slice A0_2 l0_2.length c0_2] 26 (0, 0)) := by rw [hW1]; exact blk_alloc (blk_new _ _) _
 have f1 : W1.heap[w.heap.size + 1]? = some (.cells (madeCells #[.slice none 0 0] n) 22 (0, 0)) := by
  have h := blk_new (w.alloc (.cells #[.int .i64 a0_0, .int .i64 (C : Int), .slice A0_2 l0_2.length c0_2] 26)) (.cells (madeCells #[.slice none 0 0] n) 22)
  rw [← hW1, show (w.alloc (.cells #[.int .i64 a0_0, .int .i64 (C : Int), .slice A0_2 l0_2.length c0_2] 26)).heap.size = w.heap.size + 1 by simp] at h
  exact h
 have d1 : Kd.S (Kd.slice 3 (Kd.int .i64)) 22 W1 w.heap.size (fun k => k ≠ w.heap.size) (.slice (some ⟨w.heap.size + 1, 0, none⟩) n n) (List.replicate n []) := Cap.S_made f1 (by omega) (by omega) (by omega)
 obtain ⟨oki, v, hR, hcell, hfree, hoki, hlt, hback⟩ := Cap.S_swap d1 hn1
 replace b1 := A_ b1
 replace f0 := A_ f0
 replace hR := A_ hR
 replace hoki := A_ hoki
 replace hback := A_ hback
 replace d1 := A_ d1
 have hq0 : (0 < n) = True := eq_true hn1
 clear f1
 go_enter Try.func104, Try.ntmps104
 go_upto_region 2 with (first | fail)
 rw [← hW1]
 obtain ⟨W2, hW2⟩ : ∃ x, x = W1.alloc (.cells #[.int .i64 1] 3) := ⟨_, rfl⟩
 have b2 : Below W1.heap.size W1 W2 := by rw [hW2]; exact below_alloc (Below.refl _ _) _
 have r2 : W2.heap[W1.heap.size]? = some (.cells (Cap.ints [1]) 3 (0, 0)) := by rw [hW2]; exact blk_new _ _
 obtain ⟨e1, e2, e3⟩ := hback.out W2 (.slice (some ⟨W1.heap.size, 0, none⟩) 1 1) [1] (Kept.of_below b2 _) (Kd.R_mono (Kd.R_tight rfl (Cap.ints_R (base := w.heap.size) r2 (by simp) (by omega))) (fun k hk => .inr (Nat.le_of_eq (by simpa [Value.ownBlock] using hk.symm)))) (fun k hk => by omega)
 have c2 : Below w.heap.size w W2 := below_then b1.out b1.out.size b2
 have o2 := blk_below f0.out b2
 replace e3 := A_ e3
 replace c2 := A_ c2
 replace o2 := A_ o2
 rw [hW2] at e1 e2
 clear hback hR hoki b2 r2 d1 hW1 b1 f0 s1
 go_upto_region 3 with (first | fail)
 obtain ⟨W3, hW3⟩ : ∃ x, x = (W1.setCell ⟨w.heap.size + 1, 0, none⟩ (.slice (some ⟨W1.heap.size, 0, none⟩) 1 1)).alloc (.cells #[.int .i64 1] 3) := ⟨_, rfl⟩
 rw [← hW3]
 have hW4 : W2.setCell ⟨w.heap.size + 1, 0, none⟩ (.slice (some ⟨W1.heap.size, 0, none⟩) 1 1) = W3 := by rw [hW2, hW3]; exact World.setCell_alloc_past _ _ _ _ hlt
 have d3 := e3.out
 have c3 := c2.out.setCell (p := ⟨w.heap.size + 1, 0, none⟩) (Nat.le_succ _) (.slice (some ⟨W1.heap.size, 0, none⟩) 1 1)
 have o3 := (Cap.setCell_ne (W := W2) (p := ⟨w.heap.size + 1, 0, none⟩) (v := .slice (some ⟨W1.heap.size, 0, none⟩) 1 1) (show w.heap.size ≠ w.heap.size + 1 by omega)).trans o2.out
 rw [hW4] at d3 c3 o3
 replace d3 := A_ d3
 replace c3 := A_ c3
 have hy2 := blk_cell o3 2
 replace o3 := A_ o3
 clear e1 e2 e3 c2 o2 hW2 hW3 hW4 hlt hcell hfree hq0
 go_wp2
 replace hsh := A_ hsh
 have hc6' : C ≤ 6 := by omega
 clear hc0 hc6
 go_loopg [25, 3] l0_2.length (fun q v25 v3 W' => ∃ (i g : Nat) (K : List (List Int)), v25 = .int .i64 i ∧ v3 = .slice (some ⟨g, 0, none⟩) n n ∧ Aside0 (Kd.S (Kd.slice 3 (Kd.int .i64)) 22 W' w.heap.size (fun k => k ≠ w.heap.size) (.slice (some ⟨g, 0, none⟩) n n) K) ∧ Aside0 (Below w.heap.size w W') ∧ Aside0 (W'.heap[w.heap.size]? = some (.cells #[.int .i64 a0_0, .int .i64 (C : Int), .slice A0_2 l0_2.length c0_2] 26 (0, 0))) ∧ Aside0 (i ≤ l0_2.length ∧ q = l0_2.length - i) ∧ Aside0 (Kings.waysK spec_kiNumbers.c2 spec_kiNumbers.v2 (fun m => spec_kiNumbers.popN m C) n (l0_2.drop i) K = Kings.waysK spec_kiNumbers.c2 spec_kiNumbers.v2 (fun m => spec_kiNumbers.popN m C) n l0_2 (spec_kiNumbers.start n)) ∧ Aside0 (∀ j, (K.getD j []).length ≤ 1 + 6 * i))
 case atStart => exact ⟨0, _, _, rfl, rfl, d3, c3, o3, ⟨⟨Nat.zero_le _, rfl⟩⟩, ⟨rfl⟩, ⟨spec_kiNumbers.start_len n⟩⟩
 case round =>
  obtain ⟨i, g, K, rfl, rfl, HS, HB, HO, HI, HK, HLN⟩ := hrel
  clear d3 c3 o3 hy2
  by_cases c1 : (i : Int) < (l0_2.length : Int)
  case neg =>
   have c1n : ¬ i < l0_2.length := by omega
   have c1b := decide_eq_false c1
   have c1d := decide_eq_false c1n
   clear c1
   have hnil : l0_2.drop i = [] := List.drop_eq_nil_of_le (by omega)
   have hK2 := HK.out
   rw [hnil] at hK2
   have hres := HRES.out
   rw [← show K = Kings.waysK spec_kiNumbers.c2 spec_kiNumbers.v2 (fun m => spec_kiNumbers.popN m C) n l0_2 (spec_kiNumbers.start n) from hK2] at hres
   replace HRES := A_ hres
   clear hK2 hnil HK hres HO
   obtain ⟨W0, rfl⟩ : ∃ x, x = wr := ⟨wr, rfl⟩
   have hlW' := A_ HB.out.size
   have w4 : Aside0 (Kd.S (Kd.slice 3 (Kd.int .i64)) 22 W0 w.heap.size (fun k => k ≠ w.heap.size ∧ k < W0.heap.size) (.slice (some ⟨g, 0, none⟩) n n) K) := ⟨Kd.S_mono (Kd.S_bound HS.out) (fun k hk => ⟨hk.1, hk.2.2.1⟩)⟩
   clear HS
   go_wp2
   go_loopg [94, 12] n (fun q v94 v12 W' => ∃ (b : Nat), v94 = .int .i64 b ∧ Aside0 (Kd.S (Kd.slice 3 (Kd.int .i64)) 22 W' w.heap.size (fun k => k ≠ w.heap.size ∧ k < W0.heap.size) (.slice (some ⟨g, 0, none⟩) n n) K) ∧ Aside0 (Kd.R (Kd.int .i64) 3 W' w.heap.size (fun k => W0.heap.size ≤ k) v12 (Kings.outK K b)) ∧ Aside0 (Below w.heap.size w W') ∧ Aside0 (W0.heap.size ≤ W'.heap.size) ∧ Aside0 (b ≤ n ∧ q = n - b))
   case atStart => exact ⟨0, rfl, w4, ⟨Kd.R_nil _ _ _ _ _⟩, HB, ⟨Nat.le_refl _⟩, ⟨⟨Nat.zero_le _, rfl⟩⟩⟩
   case round =>
    obtain ⟨b, rfl, HW, HN, HB, HZ, HBN⟩ := hrel
    clear w4
    obtain ⟨Ao, co, eo⟩ := Kd.R_slice HN.out
    subst eo
    by_cases c3 : b < n
    case neg =>
     have hbn : b = n := by have := HBN.out; omega
     have c3b := decide_eq_false c3
     have c3c : decide ((b : Int) < (n : Int)) = false := decide_eq_false (by omega)
     have HN2 := HN.out
     rw [hbn, HRES.out] at HN2
     have HN3 := A_ HN2
     have hbl := A_ (show (Kings.outK K b).length = r.length by rw [hbn, HRES.out])
     clear HN2 HN hbn
     go_wp2
     go_ret
     exact ⟨_, by first | rfl | (rw [hbl.out]; rfl), Kd.R_mono HN3.out (fun _ _ => trivial), HB.out⟩
    have c3b := decide_eq_true c3
    have c3c : decide ((b : Int) < (n : Int)) = true := decide_eq_true (by omega)
    have p3 : (0 ≤ (b : Int)) = True := eq_true (by omega)
    have q3 : ((b : Int) < (n : Int)) = True := eq_true (by omega)
    have hw3 : Aside0 (wrap64 ((b : Int) + 1) = ((b + 1 : Nat) : Int)) := ⟨by unfold wrap64; omega⟩
    obtain ⟨okb, vb, hRb, hcb, hfb, hokb, hgb, _⟩ := Cap.S_swap HW.out c3
    generalize hrw : K.getD b [] = row at hRb
    have HRW := A_ hrw
    clear hrw
    obtain ⟨Ab, cb, rfl⟩ := Kd.R_slice hRb
    have hlb := (Kd.R_reads' hRb).2.1
    have HRb := A_ hRb
    have Hokb := A_ hokb
    clear hRb hokb hfb hgb
    have hrd : Aside0 (∀ W_, Kept wr W_ (fun k_ => W0.heap.size ≤ k_) → Kd.C (Kd.int .i64) W_ Ab row.length row) := ⟨fun W_ hk => (Kd.R_reads' (Kd.R_kept HRb.out hk (fun k h1 h2 => by have := (Hokb.out k h1).1.2; omega))).2.2⟩
    have hadd2 : Aside0 (spec_kiAdd.f k (Kings.outK K b) row ((0 : Nat) : Int) = some (Kings.outK K (b + 1))) := ⟨by
     rw [Kings.outK, HRW.out]
     refine HADD.out _ _ _ ?_ ?_ (by omega)
     ·
      have := spec_kiNumbers.out_len HLN.out b; have := HL6.out; have := HI.out; omega
     ·
      have h1 := HLN.out b; rw [HRW.out] at h1; have := HL6.out; have := HI.out; omega⟩
    go_wp2_with (first | (go_at_call 185; (with_reducible refine (spec_kiAdd.calls k (fun k_ => W0.heap.size ≤ k_) _ _ Ab cb _ 0 _ w _ HB.out HN.out hrd.out hlb hadd2.out).mono ?_); rintro e w1 ⟨v1, rfl, hR1, hB1, hK1⟩; replace hR1 := A_ hR1; replace hB1 := A_ hB1; replace hK1 := A_ hK1))
    have HW5 := A_ (Kd.S_step HW.out (fun k hk hlt => hK1.out.2 k hlt (fun hh => by omega)))
    go_roundg (n - (b + 1))
    case measure => have := HBN.out; omega
    case rel => exact ⟨b + 1, by first | rfl | rw [hw3.out] | (congr 1; omega), HW5, ⟨Kd.R_mono hR1.out (fun k hk => hk.elim id (fun h2 => Nat.le_trans HZ.out h2))⟩, hB1, ⟨Nat.le_trans HZ.out hK1.out.1⟩, ⟨by omega, rfl⟩⟩
  have c1b := decide_eq_true c1
  have c1n : i < l0_2.length := by omega
  obtain ⟨ad1, e1, hx1⟩ := Kd.at_int (Kd.C_below HR.out HB.out) (i : Int) (by omega) (by omega)
  rw [Int.toNat_natCast] at hx1
  have p1 : (0 ≤ (i : Int)) = True := eq_true (by omega)
  have q1 : ((i : Int) < (l0_2.length : Int)) = True := eq_true c1
  cases e1
  clear c1
  have hdr : l0_2.drop i = rd l0_2 (i : Int) :: l0_2.drop (i + 1) := by
   rw [List.drop_eq_getElem_cons c1n]
   congr 1
   simp [rd, c1n]
  have hK := HK.out
  rw [hdr] at hK
  generalize rd l0_2 (i : Int) = x at *
  replace HK := A_ (show Kings.waysK spec_kiNumbers.c2 spec_kiNumbers.v2 (fun m => spec_kiNumbers.popN m C) n (l0_2.drop (i + 1)) (Kings.nextK spec_kiNumbers.c2 spec_kiNumbers.v2 (fun m => spec_kiNumbers.popN m C) n K x) = _ from hK)
  clear hdr hK
  have hyb := blk_cell HO.out 1
  have hsh2 := hsh.out
  obtain ⟨W0, rfl⟩ : ∃ x, x = wr := ⟨wr, rfl⟩
  obtain ⟨W4, hW4⟩ : ∃ x, x = W0.alloc (.cells (madeCells #[.slice none 0 0] n) 22) := ⟨_, rfl⟩
  have b4 : Below W0.heap.size W0 W4 := by rw [hW4]; exact below_alloc (Below.refl _ _) _
  have s4 : W4.heap.size = W0.heap.size + 1 := by rw [hW4]; simp
  have m4 : W4.heap[W0.heap.size]? = some (.cells (madeCells #[.slice none 0 0] n) 22 (0, 0)) := by rw [hW4]; exact blk_new _ _
  have hlW := HB.out.size
  have hbx := Cap.lt_of_at HO.out
  have n4 : Kd.S (Kd.slice 3 (Kd.int .i64)) 22 W4 w.heap.size (fun k => W0.heap.size ≤ k) (.slice (some ⟨W0.heap.size, 0, none⟩) n n) (spec_kiNumbers.nextU C n K x 0) := by rw [spec_kiNumbers.nextU_zero]; exact Cap.S_made m4 hlW (by omega) (Nat.le_refl _)
  have w4 : Kd.S (Kd.slice 3 (Kd.int .i64)) 22 W4 w.heap.size (fun k => k ≠ w.heap.size ∧ k < W0.heap.size) (.slice (some ⟨g, 0, none⟩) n n) K := Kd.S_below (Kd.S_mono (Kd.S_bound HS.out) (fun k hk => ⟨hk.1, hk.2.2.1⟩)) b4
  have c4 : Below w.heap.size w W4 := below_then HB.out HB.out.size b4
  have o4 := blk_below HO.out b4
  replace n4 := A_ n4
  replace w4 := A_ w4
  replace c4 := A_ c4
  replace o4 := A_ o4
  have hlW' := A_ hlW
  have hbx' := A_ hbx
  clear m4 b4 hlW hbx HS HB HO
  go_wp2
  rw [← hW4]
  clear hW4 hsh2 hx1 hyb
  go_loopg [35] n (fun q v35 W' => ∃ (m : Nat), v35 = .int .i64 m ∧ Aside0 (Kd.S (Kd.slice 3 (Kd.int .i64)) 22 W' w.heap.size (fun k => k ≠ w.heap.size ∧ k < W0.heap.size) (.slice (some ⟨g, 0, none⟩) n n) K) ∧ Aside0 (Kd.S (Kd.slice 3 (Kd.int .i64)) 22 W' w.heap.size (fun k => W0.heap.size ≤ k) (.slice (some ⟨W0.heap.size, 0, none⟩) n n) (spec_kiNumbers.nextU C n K x m)) ∧ Aside0 (Below w.heap.size w W') ∧ Aside0 (W'.heap[w.heap.size]? = some (.cells #[.int .i64 a0_0, .int .i64 (C : Int), .slice (some ad1) l0_2.length c0_2] 26 (0, 0))) ∧ Aside0 (m ≤ n ∧ q = n - m))
  case atStart => exact ⟨0, rfl, w4, n4, c4, o4, ⟨⟨Nat.zero_le _, rfl⟩⟩⟩
  case round =>
   obtain ⟨m, rfl, HW, HN, HB, HO, HM⟩ := hrel
   clear n4 w4 c4 o4
   by_cases c2 : m < n
   case neg =>
    have hmn : m = n := by have := HM.out; omega
    subst hmn
    have c2d := decide_eq_false c2
    have c2c : decide ((m : Int) < (m : Int)) = false := decide_eq_false (by omega)
    have HN2 := HN.out
    rw [spec_kiNumbers.nextU_all] at HN2
    have HN3 := A_ (Kd.S_mono HN2 (ok' := fun k => k ≠ w.heap.size) (fun k hk => by have := hbx'.out; omega))
    clear HN2 HN
    go_wp2
    go_roundg (l0_2.length - (i + 1))
    case measure => have := HI.out; omega
    case rel => exact ⟨i + 1, W0.heap.size, _, by first | rfl | (congr 1; have := HL6.out; unfold wrap64; omega), rfl, HN3, HB, HO, ⟨by omega, rfl⟩, HK, ⟨fun j => by have := spec_kiNumbers.next_len (n := m) (x := x) (fun q => Nat.le_trans (spec_kiNumbers.popN_le q C) hc6') HLN.out j; omega⟩⟩
   have c2b := decide_eq_true c2
   have c2c : decide ((m : Int) < (n : Int)) = true := decide_eq_true (by omega)
   have hw2 : Aside0 (wrap64 ((m : Int) + 1) = ((m + 1 : Nat) : Int)) := ⟨by unfold wrap64; omega⟩
   by_cases t1 : Go.bits .andNot .i64 (m : Int) x = 0
   case neg =>
    have t1b : (Go.bits .andNot .i64 (m : Int) x != 0) = true := bne_iff_ne.mpr t1
    have hv : spec_kiNumbers.v2 x m = false := by unfold spec_kiNumbers.v2; rw [beq_eq_false_iff_ne.mpr t1]; rfl
    go_wp2
    go_roundg (n - (m + 1))
    case measure => have := HM.out; omega
    case rel => exact ⟨m + 1, by first | rfl | rw [hw2.out] | (congr 1; omega), HW, by rw [spec_kiNumbers.nextU_skip _ _ _ _ _ hv]; exact HN, HB, HO, ⟨by omega, rfl⟩⟩
   by_cases t2 : Go.bits .and .i64 (m : Int) ((m : Int) * 2) = 0
   case neg =>
    have t1b : (Go.bits .andNot .i64 (m : Int) x != 0) = false := bne_eq_false_iff_eq.mpr t1
    have t2b : (Go.bits .and .i64 (m : Int) ((m : Int) * 2) != 0) = true := bne_iff_ne.mpr t2
    have hv : spec_kiNumbers.v2 x m = false := by unfold spec_kiNumbers.v2; rw [beq_eq_false_iff_ne.mpr t2, Bool.and_false]
    go_wp2
    go_roundg (n - (m + 1))
    case measure => have := HM.out; omega
    case rel => exact ⟨m + 1, by first | rfl | rw [hw2.out] | (congr 1; omega), HW, by rw [spec_kiNumbers.nextU_skip _ _ _ _ _ hv]; exact HN, HB, HO, ⟨by omega, rfl⟩⟩
   have t1b : (Go.bits .andNot .i64 (m : Int) x != 0) = false := bne_eq_false_iff_eq.mpr t1
   have t2b : (Go.bits .and .i64 (m : Int) ((m : Int) * 2) != 0) = false := bne_eq_false_iff_eq.mpr t2
   have hv : Aside0 (spec_kiNumbers.v2 x m = true) := ⟨by unfold spec_kiNumbers.v2; rw [t1, t2]; rfl⟩
   obtain ⟨V0, rfl⟩ : ∃ x, x = wr := ⟨wr, rfl⟩
   go_wp2
   clear t1 t2
   go_loopg [8, 9] C (fun q v8 v9 W' => ∃ (c : Nat), v8 = .int .i64 (spec_kiNumbers.popN m c : Nat) ∧ v9 = .int .i64 c ∧ W' = V0 ∧ Aside0 (c ≤ C ∧ q = C - c))
   case atStart => exact ⟨0, rfl, rfl, rfl, ⟨⟨Nat.zero_le _, rfl⟩⟩⟩
   case round =>
    obtain ⟨c, rfl, rfl, rfl, HCC⟩ := hrel
    have hyb := blk_cell HO.out 1
    have hpl := spec_kiNumbers.popN_le m c
    by_cases c3 : c < C
    case neg =>
     have hcC : C = c := by have := HCC.out; omega
     subst hcC
     have c3b : decide ((C : Int) < (C : Int)) = false := decide_eq_false (by omega)
     have hkg6 : spec_kiNumbers.popN m C ≤ 6 := Nat.le_trans hpl hc6'
     go_wp2
     clear hyb c3 c3b hpl
     have HN0 := A_ (show Kd.S (Kd.slice 3 (Kd.int .i64)) 22 wr w.heap.size (fun k => W0.heap.size ≤ k) (.slice (some ⟨W0.heap.size, 0, none⟩) n n) ((spec_kiNumbers.nextU C n K x m).set m (Kings.foldK spec_kiNumbers.c2 K m (spec_kiNumbers.popN m C) 0)) by
      rw [Kings.foldK, spec_kiNumbers.set_same (spec_kiNumbers.nextU_get C n K x m)]; exact HN.out)
     clear HN
     go_loopg [63] n (fun q v63 W' => ∃ (b : Nat), v63 = .int .i64 b ∧ Aside0 (Kd.S (Kd.slice 3 (Kd.int .i64)) 22 W' w.heap.size (fun k => k ≠ w.heap.size ∧ k < W0.heap.size) (.slice (some ⟨g, 0, none⟩) n n) K) ∧ Aside0 (Kd.S (Kd.slice 3 (Kd.int .i64)) 22 W' w.heap.size (fun k => W0.heap.size ≤ k) (.slice (some ⟨W0.heap.size, 0, none⟩) n n) ((spec_kiNumbers.nextU C n K x m).set m (Kings.foldK spec_kiNumbers.c2 K m (spec_kiNumbers.popN m C) b))) ∧ Aside0 (Below w.heap.size w W') ∧ Aside0 (W'.heap[w.heap.size]? = some (.cells #[.int .i64 a0_0, .int .i64 (C : Int), .slice (some ad1) l0_2.length c0_2] 26 (0, 0))) ∧ Aside0 (b ≤ n ∧ q = n - b))
     case atStart => exact ⟨0, rfl, HW, HN0, HB, HO, ⟨⟨Nat.zero_le _, rfl⟩⟩⟩
     case round =>
      obtain ⟨b, rfl, HW, HN, HB, HO, HBN⟩ := hrel
      clear HN0
      by_cases c3 : b < n
      case neg =>
       have hbn : b = n := by have := HBN.out; omega
       have c3b := decide_eq_false c3
       have c3c : decide ((b : Int) < (n : Int)) = false := decide_eq_false (by omega)
       have HN2 := HN.out
       rw [hbn, spec_kiNumbers.nextU_put _ _ _ _ _ hv.out] at HN2
       have HN3 := A_ HN2
       clear HN2 HN hbn
       go_wp2
       go_roundg (n - (m + 1))
       case measure => have := HM.out; omega
       case rel => exact ⟨m + 1, by first | rfl | rw [hw2.out] | (congr 1; omega), HW, HN3, HB, HO, ⟨by omega, rfl⟩⟩
      have c3b := decide_eq_true c3
      have c3c : decide ((b : Int) < (n : Int)) = true := decide_eq_true (by omega)
      have p3 : (0 ≤ (b : Int)) = True := eq_true (by omega)
      have q3 : ((b : Int) < (n : Int)) = True := eq_true (by omega)
      have hw3 : Aside0 (wrap64 ((b : Int) + 1) = ((b + 1 : Nat) : Int)) := ⟨by unfold wrap64; omega⟩
      obtain ⟨okb, vb, hRb, hcb, hfb, hokb, hgb, _⟩ := Cap.S_swap HW.out c3
      generalize hrw : K.getD b [] = row at hRb
      have HRW := A_ hrw
      clear hrw
      obtain ⟨Ab, cb, rfl⟩ := Kd.R_slice hRb
      have hlb := (Kd.R_reads' hRb).2.1
      have HRb := A_ hRb
      have Hokb := A_ hokb
      clear hRb hokb hfb hgb
      by_cases t3 : Go.bits .and .i64 (b : Int) (Go.bits .or .i64 (Go.bits .or .i64 (m : Int) ((m : Int) * 2)) ((m : Int) / 2)) = 0
      case neg =>
       have t3b : (Go.bits .and .i64 (b : Int) (Go.bits .or .i64 (Go.bits .or .i64 (m : Int) ((m : Int) * 2)) ((m : Int) / 2)) == 0) = false := beq_eq_false_iff_ne.mpr t3
       have hc2 : spec_kiNumbers.c2 m b = false := t3b
       clear t3
       go_wp2
       go_roundg (n - (b + 1))
       case measure => have := HBN.out; omega
       case rel => exact ⟨b + 1, by first | rfl | rw [hw3.out] | (congr 1; omega), HW, by rw [Kings.foldK, if_neg (by rw [hc2]; simp)]; exact HN, HB, HO, ⟨by omega, rfl⟩⟩
      have t3b : (Go.bits .and .i64 (b : Int) (Go.bits .or .i64 (Go.bits .or .i64 (m : Int) ((m : Int) * 2)) ((m : Int) / 2)) == 0) = true := beq_iff_eq.mpr t3
      have hc2 : Aside0 (spec_kiNumbers.c2 m b = true) := ⟨t3b⟩
      have p4 : (0 ≤ (m : Int)) = True := eq_true (by omega)
      have q4 : ((m : Int) < (n : Int)) = True := eq_true (by omega)
      obtain ⟨okN, vN, hRN, hcN, hfN, hokN, hgN, hback⟩ := Cap.S_swap HN.out c2
      rw [spec_kiNumbers.set_get (by simp [spec_kiNumbers.nextU]; exact c2)] at hRN
      have HRN := A_ hRN
      have HokN := A_ hokN
      have Hback := A_ hback
      clear hRN hokN hback t3
      have hrd : Aside0 (∀ W_, Kept wr W_ (fun k_ => okN k_) → Kd.C (Kd.int .i64) W_ Ab row.length row) := ⟨fun W_ hk => (Kd.R_reads' (Kd.R_kept HRb.out hk (fun k h1 h2 => by have := (Hokb.out k h1).1.2; have := (HokN.out k h2).1; omega))).2.2⟩
      have hadd2 : Aside0 (spec_kiAdd.f k (Kings.foldK spec_kiNumbers.c2 K m (spec_kiNumbers.popN m C) b) row ((spec_kiNumbers.popN m C : Nat) : Int) = some (Kings.foldK spec_kiNumbers.c2 K m (spec_kiNumbers.popN m C) (b + 1))) := ⟨by
       rw [Kings.foldK, if_pos hc2.out, HRW.out]
       refine HADD.out _ _ _ ?_ ?_ hkg6
       ·
        have := spec_kiNumbers.fold_len m hkg6 HLN.out b; have := HL6.out; have := HI.out; omega
       ·
        have h1 := HLN.out b; rw [HRW.out] at h1; have := HL6.out; have := HI.out; omega⟩
      go_wp2_with (first | (go_at_call 185; (with_reducible refine (spec_kiAdd.calls k okN vN _ Ab cb _ _ _ w _ HB.out HRN.out hrd.out hlb hadd2.out).mono ?_); rintro e w1 ⟨v1, rfl, hR1, hB1, hK1⟩; obtain ⟨A1, cc1, rfl⟩ := Kd.R_slice hR1; obtain ⟨e1, e2, e3⟩ := Hback.out w1 _ _ hK1 hR1 (fun k hk => Nat.le_trans (by have := HB.out.size; omega) hk); rw [List.set_set] at e3; replace e3 := A_ e3; replace hR1 := A_ hR1; replace hB1 := A_ hB1; replace hK1 := A_ hK1))
      have HW5 := A_ (Kd.S_far (Kd.S_step HW.out (fun k hk hlt => hK1.out.2 k hlt (fun hh => by have := (HokN.out k hh).1; omega))) (p := ⟨W0.heap.size, m, none⟩) (fun k hk => by show k ≠ W0.heap.size; omega) (.slice A1 (Kings.foldK spec_kiNumbers.c2 K m (spec_kiNumbers.popN m C) (b + 1)).length cc1))
      have HB5 := A_ (hB1.out.setCell (p := ⟨W0.heap.size, m, none⟩) hlW'.out (.slice A1 (Kings.foldK spec_kiNumbers.c2 K m (spec_kiNumbers.popN m C) (b + 1)).length cc1))
      have HO5 := A_ ((Cap.setCell_ne (W := w1) (p := ⟨W0.heap.size, m, none⟩) (v := .slice A1 (Kings.foldK spec_kiNumbers.c2 K m (spec_kiNumbers.popN m C) (b + 1)).length cc1) (show w.heap.size ≠ W0.heap.size by have := hbx'.out; omega)).trans ((hK1.out.2 _ (Cap.lt_of_at HO.out) (fun hh => by have := (HokN.out _ hh).1; have := hbx'.out; omega)).trans HO.out))
      go_roundg (n - (b + 1))
      case measure => have := HBN.out; omega
      case rel => exact ⟨b + 1, by first | rfl | rw [hw3.out] | (congr 1; omega), HW5, e3, HB5, HO5, ⟨by omega, rfl⟩⟩
    have c3b : decide ((c : Int) < (C : Int)) = true := decide_eq_true (by omega)
    go_wp2
    go_roundg (C - (c + 1))
    case measure => have := HCC.out; omega
    case rel => exact ⟨c + 1, by first | rfl | rw [spec_kiNumbers.pop_step m c (by omega)], by first | rfl | (congr 1; unfold wrap64; omega), rfl, ⟨by omega, rfl⟩⟩

/-! ### bits_OnesCount64: function 227 -/
def bits_OnesCount64.f (a0 : Int) : Option (Int) := some (Go.bits .and .i64 (wrap64 (IntKind.u64.wrap ((IntKind.u64.wrap ((IntKind.u64.wrap ((Go.bits .and .u64 (IntKind.u64.wrap (((IntKind.u64.wrap ((Go.bits .and .u64 ((IntKind.u64.wrap ((Go.bits .and .u64 (a0 / 2) 6148914691236517205) + (Go.bits .and .u64 a0 6148914691236517205))) / 4) 3689348814741910323) + (Go.bits .and .u64 (IntKind.u64.wrap ((Go.bits .and .u64 (a0 / 2) 6148914691236517205) + (Go.bits .and .u64 a0 6148914691236517205))) 3689348814741910323))) / 16) + (IntKind.u64.wrap ((Go.bits .and .u64 ((IntKind.u64.wrap ((Go.bits .and .u64 (a0 / 2) 6148914691236517205) + (Go.bits .and .u64 a0 6148914691236517205))) / 4) 3689348814741910323) + (Go.bits .and .u64 (IntKind.u64.wrap ((Go.bits .and .u64 (a0 / 2) 6148914691236517205) + (Go.bits .and .u64 a0 6148914691236517205))) 3689348814741910323))))) 1085102592571150095) + ((Go.bits .and .u64 (IntKind.u64.wrap (((IntKind.u64.wrap ((Go.bits .and .u64 ((IntKind.u64.wrap ((Go.bits .and .u64 (a0 / 2) 6148914691236517205) + (Go.bits .and .u64 a0 6148914691236517205))) / 4) 3689348814741910323) + (Go.bits .and .u64 (IntKind.u64.wrap ((Go.bits .and .u64 (a0 / 2) 6148914691236517205) + (Go.bits .and .u64 a0 6148914691236517205))) 3689348814741910323))) / 16) + (IntKind.u64.wrap ((Go.bits .and .u64 ((IntKind.u64.wrap ((Go.bits .and .u64 (a0 / 2) 6148914691236517205) + (Go.bits .and .u64 a0 6148914691236517205))) / 4) 3689348814741910323) + (Go.bits .and .u64 (IntKind.u64.wrap ((Go.bits .and .u64 (a0 / 2) 6148914691236517205) + (Go.bits .and .u64 a0 6148914691236517205))) 3689348814741910323))))) 1085102592571150095) / 256))) + ((IntKind.u64.wrap ((Go.bits .and .u64 (IntKind.u64.wrap (((IntKind.u64.wrap ((Go.bits .and .u64 ((IntKind.u64.wrap ((Go.bits .and .u64 (a0 / 2) 6148914691236517205) + (Go.bits .and .u64 a0 6148914691236517205))) / 4) 3689348814741910323) + (Go.bits .and .u64 (IntKind.u64.wrap ((Go.bits .and .u64 (a0 / 2) 6148914691236517205) + (Go.bits .and .u64 a0 6148914691236517205))) 3689348814741910323))) / 16) + (IntKind.u64.wrap ((Go.bits .and .u64 ((IntKind.u64.wrap ((Go.bits .and .u64 (a0 / 2) 6148914691236517205) + (Go.bits .and .u64 a0 6148914691236517205))) / 4) 3689348814741910323) + (Go.bits .and .u64 (IntKind.u64.wrap ((Go.bits .and .u64 (a0 / 2) 6148914691236517205) + (Go.bits .and .u64 a0 6148914691236517205))) 3689348814741910323))))) 1085102592571150095) + ((Go.bits .and .u64 (IntKind.u64.wrap (((IntKind.u64.wrap ((Go.bits .and .u64 ((IntKind.u64.wrap ((Go.bits .and .u64 (a0 / 2) 6148914691236517205) + (Go.bits .and .u64 a0 6148914691236517205))) / 4) 3689348814741910323) + (Go.bits .and .u64 (IntKind.u64.wrap ((Go.bits .and .u64 (a0 / 2) 6148914691236517205) + (Go.bits .and .u64 a0 6148914691236517205))) 3689348814741910323))) / 16) + (IntKind.u64.wrap ((Go.bits .and .u64 ((IntKind.u64.wrap ((Go.bits .and .u64 (a0 / 2) 6148914691236517205) + (Go.bits .and .u64 a0 6148914691236517205))) / 4) 3689348814741910323) + (Go.bits .and .u64 (IntKind.u64.wrap ((Go.bits .and .u64 (a0 / 2) 6148914691236517205) + (Go.bits .and .u64 a0 6148914691236517205))) 3689348814741910323))))) 1085102592571150095) / 256))) / 65536))) + ((IntKind.u64.wrap ((IntKind.u64.wrap ((Go.bits .and .u64 (IntKind.u64.wrap (((IntKind.u64.wrap ((Go.bits .and .u64 ((IntKind.u64.wrap ((Go.bits .and .u64 (a0 / 2) 6148914691236517205) + (Go.bits .and .u64 a0 6148914691236517205))) / 4) 3689348814741910323) + (Go.bits .and .u64 (IntKind.u64.wrap ((Go.bits .and .u64 (a0 / 2) 6148914691236517205) + (Go.bits .and .u64 a0 6148914691236517205))) 3689348814741910323))) / 16) + (IntKind.u64.wrap ((Go.bits .and .u64 ((IntKind.u64.wrap ((Go.bits .and .u64 (a0 / 2) 6148914691236517205) + (Go.bits .and .u64 a0 6148914691236517205))) / 4) 3689348814741910323) + (Go.bits .and .u64 (IntKind.u64.wrap ((Go.bits .and .u64 (a0 / 2) 6148914691236517205) + (Go.bits .and .u64 a0 6148914691236517205))) 3689348814741910323))))) 1085102592571150095) + ((Go.bits .and .u64 (IntKind.u64.wrap (((IntKind.u64.wrap ((Go.bits .and .u64 ((IntKind.u64.wrap ((Go.bits .and .u64 (a0 / 2) 6148914691236517205) + (Go.bits .and .u64 a0 6148914691236517205))) / 4) 3689348814741910323) + (Go.bits .and .u64 (IntKind.u64.wrap ((Go.bits .and .u64 (a0 / 2) 6148914691236517205) + (Go.bits .and .u64 a0 6148914691236517205))) 3689348814741910323))) / 16) + (IntKind.u64.wrap ((Go.bits .and .u64 ((IntKind.u64.wrap ((Go.bits .and .u64 (a0 / 2) 6148914691236517205) + (Go.bits .and .u64 a0 6148914691236517205))) / 4) 3689348814741910323) + (Go.bits .and .u64 (IntKind.u64.wrap ((Go.bits .and .u64 (a0 / 2) 6148914691236517205) + (Go.bits .and .u64 a0 6148914691236517205))) 3689348814741910323))))) 1085102592571150095) / 256))) + ((IntKind.u64.wrap ((Go.bits .and .u64 (IntKind.u64.wrap (((IntKind.u64.wrap ((Go.bits .and .u64 ((IntKind.u64.wrap ((Go.bits .and .u64 (a0 / 2) 6148914691236517205) + (Go.bits .and .u64 a0 6148914691236517205))) / 4) 3689348814741910323) + (Go.bits .and .u64 (IntKind.u64.wrap ((Go.bits .and .u64 (a0 / 2) 6148914691236517205) + (Go.bits .and .u64 a0 6148914691236517205))) 3689348814741910323))) / 16) + (IntKind.u64.wrap ((Go.bits .and .u64 ((IntKind.u64.wrap ((Go.bits .and .u64 (a0 / 2) 6148914691236517205) + (Go.bits .and .u64 a0 6148914691236517205))) / 4) 3689348814741910323) + (Go.bits .and .u64 (IntKind.u64.wrap ((Go.bits .and .u64 (a0 / 2) 6148914691236517205) + (Go.bits .and .u64 a0 6148914691236517205))) 3689348814741910323))))) 1085102592571150095) + ((Go.bits .and .u64 (IntKind.u64.wrap (((IntKind.u64.wrap ((Go.bits .and .u64 ((IntKind.u64.wrap ((Go.bits .and .u64 (a0 / 2) 6148914691236517205) + (Go.bits .and .u64 a0 6148914691236517205))) / 4) 3689348814741910323) + (Go.bits .and .u64 (IntKind.u64.wrap ((Go.bits .and .u64 (a0 / 2) 6148914691236517205) + (Go.bits .and .u64 a0 6148914691236517205))) 3689348814741910323))) / 16) + (IntKind.u64.wrap ((Go.bits .and .u64 ((IntKind.u64.wrap ((Go.bits .and .u64 (a0 / 2) 6148914691236517205) + (Go.bits .and .u64 a0 6148914691236517205))) / 4) 3689348814741910323) + (Go.bits .and .u64 (IntKind.u64.wrap ((Go.bits .and .u64 (a0 / 2) 6148914691236517205) + (Go.bits .and .u64 a0 6148914691236517205))) 3689348814741910323))))) 1085102592571150095) / 256))) / 65536))) / 4294967296)))) 127)
theorem bits_OnesCount64.calls (a0 : Int) (r : Int) (w : World) (h : bits_OnesCount64.f a0 = some r) :
  Calls Try.prog 227 #[.int .u64 a0] w fun e w' => e = .returned (.int .i64 r) ∧ Drawn0 w w' := by
 have H : (some (Go.bits .and .i64 (wrap64 (IntKind.u64.wrap ((IntKind.u64.wrap ((IntKind.u64.wrap ((Go.bits .and .u64 (IntKind.u64.wrap (((IntKind.u64.wrap ((Go.bits .and .u64 ((IntKind.u64.wrap ((Go.bits .and .u64 (a0 / 2) 6148914691236517205) + (Go.bits .and .u64 a0 6148914691236517205))) / 4) 3689348814741910323) + (Go.bits .and .u64 (IntKind.u64.wrap ((Go.bits .and .u64 (a0 / 2) 6148914691236517205) + (Go.bits .and .u64 a0 6148914691236517205))) 3689348814741910323))) / 16) + (IntKind.u64.wrap ((Go.bits .and .u64 ((IntKind.u64.wrap ((Go.bits .and .u64 (a0 / 2) 6148914691236517205) + (Go.bits .and .u64 a0 6148914691236517205))) / 4) 3689348814741910323) + (Go.bits .and .u64 (IntKind.u64.wrap ((Go.bits .and .u64 (a0 / 2) 6148914691236517205) + (Go.bits .and .u64 a0 6148914691236517205))) 3689348814741910323))))) 1085102592571150095) + ((Go.bits .and .u64 (IntKind.u64.wrap (((IntKind.u64.wrap ((Go.bits .and .u64 ((IntKind.u64.wrap ((Go.bits .and .u64 (a0 / 2) 6148914691236517205) + (Go.bits .and .u64 a0 6148914691236517205))) / 4) 3689348814741910323) + (Go.bits .and .u64 (IntKind.u64.wrap ((Go.bits .and .u64 (a0 / 2) 6148914691236517205) + (Go.bits .and .u64 a0 6148914691236517205))) 3689348814741910323))) / 16) + (IntKind.u64.wrap ((Go.bits .and .u64 ((IntKind.u64.wrap ((Go.bits .and .u64 (a0 / 2) 6148914691236517205) + (Go.bits .and .u64 a0 6148914691236517205))) / 4) 3689348814741910323) + (Go.bits .and .u64 (IntKind.u64.wrap ((Go.bits .and .u64 (a0 / 2) 6148914691236517205) + (Go.bits .and .u64 a0 6148914691236517205))) 3689348814741910323))))) 1085102592571150095) / 256))) + ((IntKind.u64.wrap ((Go.bits .and .u64 (IntKind.u64.wrap (((IntKind.u64.wrap ((Go.bits .and .u64 ((IntKind.u64.wrap ((Go.bits .and .u64 (a0 / 2) 6148914691236517205) + (Go.bits .and .u64 a0 6148914691236517205))) / 4) 3689348814741910323) + (Go.bits .and .u64 (IntKind.u64.wrap ((Go.bits .and .u64 (a0 / 2) 6148914691236517205) + (Go.bits .and .u64 a0 6148914691236517205))) 3689348814741910323))) / 16) + (IntKind.u64.wrap ((Go.bits .and .u64 ((IntKind.u64.wrap ((Go.bits .and .u64 (a0 / 2) 6148914691236517205) + (Go.bits .and .u64 a0 6148914691236517205))) / 4) 3689348814741910323) + (Go.bits .and .u64 (IntKind.u64.wrap ((Go.bits .and .u64 (a0 / 2) 6148914691236517205) + (Go.bits .and .u64 a0 6148914691236517205))) 3689348814741910323))))) 1085102592571150095) + ((Go.bits .and .u64 (IntKind.u64.wrap (((IntKind.u64.wrap ((Go.bits .and .u64 ((IntKind.u64.wrap ((Go.bits .and .u64 (a0 / 2) 6148914691236517205) + (Go.bits .and .u64 a0 6148914691236517205))) / 4) 3689348814741910323) + (Go.bits .and .u64 (IntKind.u64.wrap ((Go.bits .and .u64 (a0 / 2) 6148914691236517205) + (Go.bits .and .u64 a0 6148914691236517205))) 3689348814741910323))) / 16) + (IntKind.u64.wrap ((Go.bits .and .u64 ((IntKind.u64.wrap ((Go.bits .and .u64 (a0 / 2) 6148914691236517205) + (Go.bits .and .u64 a0 6148914691236517205))) / 4) 3689348814741910323) + (Go.bits .and .u64 (IntKind.u64.wrap ((Go.bits .and .u64 (a0 / 2) 6148914691236517205) + (Go.bits .and .u64 a0 6148914691236517205))) 3689348814741910323))))) 1085102592571150095) / 256))) / 65536))) + ((IntKind.u64.wrap ((IntKind.u64.wrap ((Go.bits .and .u64 (IntKind.u64.wrap (((IntKind.u64.wrap ((Go.bits .and .u64 ((IntKind.u64.wrap ((Go.bits .and .u64 (a0 / 2) 6148914691236517205) + (Go.bits .and .u64 a0 6148914691236517205))) / 4) 3689348814741910323) + (Go.bits .and .u64 (IntKind.u64.wrap ((Go.bits .and .u64 (a0 / 2) 6148914691236517205) + (Go.bits .and .u64 a0 6148914691236517205))) 3689348814741910323))) / 16) + (IntKind.u64.wrap ((Go.bits .and .u64 ((IntKind.u64.wrap ((Go.bits .and .u64 (a0 / 2) 6148914691236517205) + (Go.bits .and .u64 a0 6148914691236517205))) / 4) 3689348814741910323) + (Go.bits .and .u64 (IntKind.u64.wrap ((Go.bits .and .u64 (a0 / 2) 6148914691236517205) + (Go.bits .and .u64 a0 6148914691236517205))) 3689348814741910323))))) 1085102592571150095) + ((Go.bits .and .u64 (IntKind.u64.wrap (((IntKind.u64.wrap ((Go.bits .and .u64 ((IntKind.u64.wrap ((Go.bits .and .u64 (a0 / 2) 6148914691236517205) + (Go.bits .and .u64 a0 6148914691236517205))) / 4) 3689348814741910323) + (Go.bits .and .u64 (IntKind.u64.wrap ((Go.bits .and .u64 (a0 / 2) 6148914691236517205) + (Go.bits .and .u64 a0 6148914691236517205))) 3689348814741910323))) / 16) + (IntKind.u64.wrap ((Go.bits .and .u64 ((IntKind.u64.wrap ((Go.bits .and .u64 (a0 / 2) 6148914691236517205) + (Go.bits .and .u64 a0 6148914691236517205))) / 4) 3689348814741910323) + (Go.bits .and .u64 (IntKind.u64.wrap ((Go.bits .and .u64 (a0 / 2) 6148914691236517205) + (Go.bits .and .u64 a0 6148914691236517205))) 3689348814741910323))))) 1085102592571150095) / 256))) + ((IntKind.u64.wrap ((Go.bits .and .u64 (IntKind.u64.wrap (((IntKind.u64.wrap ((Go.bits .and .u64 ((IntKind.u64.wrap ((Go.bits .and .u64 (a0 / 2) 6148914691236517205) + (Go.bits .and .u64 a0 6148914691236517205))) / 4) 3689348814741910323) + (Go.bits .and .u64 (IntKind.u64.wrap ((Go.bits .and .u64 (a0 / 2) 6148914691236517205) + (Go.bits .and .u64 a0 6148914691236517205))) 3689348814741910323))) / 16) + (IntKind.u64.wrap ((Go.bits .and .u64 ((IntKind.u64.wrap ((Go.bits .and .u64 (a0 / 2) 6148914691236517205) + (Go.bits .and .u64 a0 6148914691236517205))) / 4) 3689348814741910323) + (Go.bits .and .u64 (IntKind.u64.wrap ((Go.bits .and .u64 (a0 / 2) 6148914691236517205) + (Go.bits .and .u64 a0 6148914691236517205))) 3689348814741910323))))) 1085102592571150095) + ((Go.bits .and .u64 (IntKind.u64.wrap (((IntKind.u64.wrap ((Go.bits .and .u64 ((IntKind.u64.wrap ((Go.bits .and .u64 (a0 / 2) 6148914691236517205) + (Go.bits .and .u64 a0 6148914691236517205))) / 4) 3689348814741910323) + (Go.bits .and .u64 (IntKind.u64.wrap ((Go.bits .and .u64 (a0 / 2) 6148914691236517205) + (Go.bits .and .u64 a0 6148914691236517205))) 3689348814741910323))) / 16) + (IntKind.u64.wrap ((Go.bits .and .u64 ((IntKind.u64.wrap ((Go.bits .and .u64 (a0 / 2) 6148914691236517205) + (Go.bits .and .u64 a0 6148914691236517205))) / 4) 3689348814741910323) + (Go.bits .and .u64 (IntKind.u64.wrap ((Go.bits .and .u64 (a0 / 2) 6148914691236517205) + (Go.bits .and .u64 a0 6148914691236517205))) 3689348814741910323))))) 1085102592571150095) / 256))) / 65536))) / 4294967296)))) 127)) = some r := h
 clear h
 obtain rfl := Option.some.inj H
 go_enter Try.func227, Try.ntmps227
 go_wp2
 go_ret
 exact ⟨tf_, dr_⟩

/-! ### bits_OnesCount: function 217 -/
def bits_OnesCount.f (a0 : Int) : Option (Int) := (bits_OnesCount64.f a0).bind fun t781 => (some t781)
theorem bits_OnesCount.calls (a0 : Int) (r : Int) (w : World) (h : bits_OnesCount.f a0 = some r) :
  Calls Try.prog 217 #[.int .u64 a0] w fun e w' => e = .returned (.int .i64 r) ∧ Drawn0 w w' := by
 have H : ((bits_OnesCount64.f a0).bind fun t781 => (some t781)) = some r := h
 clear h
 replace H := Option.bind_eq_some_iff.mp H
 obtain ⟨t781, A20, H⟩ := H
 replace H : (some t781) = some r := H
 have A2 := A_ A20
 clear A20
 obtain rfl := Option.some.inj H
 go_enter Try.func217, Try.ntmps217
 go_wp2_with (first | (refine gc_ 227 ?_; refine goesT_ (some 7) Try.func227 #[.int .u64 a0] ?_; (with_reducible refine (bits_OnesCount64.calls a0 t781 _ A2.out).mono ?_); rintro e w' ⟨rfl, ⟨nd, rfl⟩⟩; refine ⟨_, rfl, ?_⟩))
 go_ret
 exact ⟨tf_, dr_⟩

/-! ### impl_count: function 187 -/
def impl_count.f (a0 : Int) : Option (Int) := (bits_OnesCount.f (IntKind.u64.wrap (a0))).bind fun t782 => (some t782)
theorem impl_count.calls (a0 : Int) (r : Int) (w : World) (h : impl_count.f a0 = some r) :
  Calls Try.prog 187 #[.int .i64 a0] w fun e w' => e = .returned (.int .i64 r) ∧ Drawn0 w w' := by
 have H : ((bits_OnesCount.f (IntKind.u64.wrap (a0))).bind fun t782 => (some t782)) = some r := h
 clear h
 replace H := Option.bind_eq_some_iff.mp H
 obtain ⟨t782, A20, H⟩ := H
 replace H : (some t782) = some r := H
 have A2 := A_ A20
 clear A20
 obtain rfl := Option.some.inj H
 go_enter Try.func187, Try.ntmps187
 go_wp2_with (first | (refine gc_ 217 ?_; refine goesT_ (some 5) Try.func217 #[.int .u64 (IntKind.u64.wrap (a0))] ?_; (with_reducible refine (bits_OnesCount.calls (IntKind.u64.wrap (a0)) t782 _ A2.out).mono ?_); rintro e w' ⟨rfl, ⟨nd, rfl⟩⟩; refine ⟨_, rfl, ?_⟩))
 go_ret
 exact ⟨tf_, dr_⟩

/-! ### impl_Board_kings: function 107 -/
def impl_Board_kings.cnt (m : Nat) : Nat := ((impl_count.f (m : Int)).getD 0).toNat
def impl_Board_kings.start : List (Int × List Int) := [(0, Cap.zeros.set 0 1)]
def impl_Board_kings.okM (K : List (Int × List Int)) (m : Nat) : Prop := impl_count.f (m : Int) = some ((impl_Board_kings.cnt m : Nat) : Int) ∧ ∀ y ∈ K, Cap.comp m y.1 = true → ∀ j, j < 37 → 0 < y.2.getD j 0 → j + impl_Board_kings.cnt m < 37
def impl_Board_kings.okL : List (Int × List Int) → List Int → Prop
 | _, [] => True
 | K, x :: l => (0 ≤ x ∧ x ≤ 63) ∧ (∀ m, m ≤ x.toNat → Cap.valid x.toNat m = true → impl_Board_kings.okM K m) ∧ impl_Board_kings.okL (Cap.upto impl_Board_kings.cnt K x.toNat (x.toNat + 1)) l
def impl_Board_kings.all (y : Int × List Int) (i : Nat) : Int := y.2.getD i 0
open Classical in
def impl_Board_kings.f (k : Nat) (a0_0 a0_1 : Int) (l0_2 : List Int) : Option (List Int) := if impl_Board_kings.okL impl_Board_kings.start l0_2 then impl_trimmed.f k (Cap.ownV impl_Board_kings.all (Cap.waysOf impl_Board_kings.cnt impl_Board_kings.start l0_2)) else none
open Classical in
theorem impl_Board_kings.mono : ∀ a0 a1 a2 k, LeO (impl_Board_kings.f k a0 a1 a2) (impl_Board_kings.f (k + 1) a0 a1 a2) := fun a0 a1 a2 k => LeO.ite (impl_trimmed.mono _ _) (LeO.refl _)
theorem impl_Board_kings.calls (k : Nat) (a0_0 a0_1 : Int) (A0_2 : Option Addr) (c0_2 : Nat) (l0_2 : List Int) (r : List Int) (w : World) (hr0_2 : Kd.C (Kd.int .i64) w A0_2 l0_2.length l0_2) (hc0_2 : l0_2.length ≤ c0_2) (h : impl_Board_kings.f k a0_0 a0_1 l0_2 = some r) :
  Calls Try.prog 107 #[.agg #[.int .i64 a0_0, .int .i64 a0_1, .slice A0_2 l0_2.length c0_2]] w fun e w' => ∃ v0_ : Value, e = .returned (v0_) ∧ Kd.R (Kd.int .i64) 3 w' w.heap.size (fun _ => True) v0_ r ∧ Below w.heap.size w w' := by
 have HR := A_ hr0_2
 have HC := A_ hc0_2
 clear hr0_2 hc0_2
 unfold impl_Board_kings.f at h
 by_cases hok : impl_Board_kings.okL impl_Board_kings.start l0_2
 case neg =>
  rw [if_neg hok] at h
  exact absurd h (by simp)
 rw [if_pos hok] at h
 have HT := A_ h
 have HLN := A_ HR.out.2.1
 have HOK := A_ hok
 clear h hok
 have hu26 := Try.underlying26
 have hum := A_ Try.underlying138
 have hmm := @run_makeMap Try.prog
 have hmk : ∀ W, _ := Cap.run_make37 (P := Try.prog) (T := 22) Try.underlying22 info3
 obtain ⟨W1, hW1⟩ : ∃ x, x = ((w.alloc (.cells #[.int .i64 a0_0, .int .i64 a0_1, .slice A0_2 l0_2.length c0_2] 26)).alloc (.map #[] 0)).alloc (.cells (Cap.ints Cap.zeros) 3) := ⟨_, rfl⟩
 have b1 : Below w.heap.size w W1 := by rw [hW1]; exact below_alloc (below_alloc (below_alloc (Below.refl _ _) _) _) _
 have s1 : W1.heap.size = w.heap.size + 1 + 1 + 1 := by rw [hW1]; simp
 have f0 : W1.heap[w.heap.size]? = some (.cells #[.int .i64 a0_0, .int .i64 a0_1, .slice A0_2 l0_2.length c0_2] 26 (0, 0)) := by rw [hW1]; exact blk_alloc (blk_alloc (blk_new _ _) _) _
 have e1 : (w.alloc (.cells #[.int .i64 a0_0, .int .i64 a0_1, .slice A0_2 l0_2.length c0_2] 26)).heap.size = w.heap.size + 1 := by simp
 have e2 : ((w.alloc (.cells #[.int .i64 a0_0, .int .i64 a0_1, .slice A0_2 l0_2.length c0_2] 26)).alloc (.map #[] 0)).heap.size = w.heap.size + 1 + 1 := by simp
 have f1 : Cap.MapAt W1 (w.heap.size + 1) [] := by
  have h := heap_alloc_new (w.alloc (.cells #[.int .i64 a0_0, .int .i64 a0_1, .slice A0_2 l0_2.length c0_2] 26)) (.map #[] 0)
  rw [e1] at h
  show W1.heap[w.heap.size + 1]? = _
  rw [hW1, heap_alloc_old _ _ (by rw [e2]; omega)]
  exact h
 have f2 : W1.heap[w.heap.size + 1 + 1]? = some (.cells (Cap.ints Cap.zeros) 3 (0, 0)) := by
  have h := blk_new ((w.alloc (.cells #[.int .i64 a0_0, .int .i64 a0_1, .slice A0_2 l0_2.length c0_2] 26)).alloc (.map #[] 0)) (.cells (Cap.ints Cap.zeros) 3)
  rw [e2, ← hW1] at h
  exact h
 obtain ⟨W2, hup, g1, g2, s2, b2⟩ := f1.update hum.out Try.underlying3 0 (w.heap.size + 1 + 1) (by simp) b1 (Nat.le_succ _)
 have hlk := g1.look hum.out Try.underlying3
 have c2 : W2.heap[w.heap.size + 1 + 1]? = some (.cells (Cap.ints Cap.zeros) 3 (0, 0)) := by rw [g2 _ (by omega)]; exact f2
 have c0 : W2.heap[w.heap.size]? = some (.cells #[.int .i64 a0_0, .int .i64 a0_1, .slice A0_2 l0_2.length c0_2] 26 (0, 0)) := by rw [g2 _ (by omega)]; exact f0
 have hz0 := blk_cell c2 0
 have hz1 := blk_frozen c2 0
 have hy0 := blk_cell c0 0
 rw [hW1] at hup
 replace f0 := A_ f0
 replace f1 := A_ f1
 replace f2 := A_ f2
 replace g1 := A_ g1
 replace g2 := A_ g2
 replace b1 := A_ b1
 replace b2 := A_ b2
 replace c0 := A_ c0
 replace c2 := A_ c2
 replace s1 := A_ s1
 replace s2 := A_ s2
 clear e1 e2 hW1
 go_enter Try.func107, Try.ntmps107
 go_upto_region 3 with (first | fail)
 obtain ⟨W3, hW3⟩ : ∃ x, x = W2.setCell ⟨w.heap.size + 1 + 1, 0, none⟩ (.int .i64 1) := ⟨_, rfl⟩
 rw [← hW3]
 have b3 : Below w.heap.size w W3 := by rw [hW3]; exact b2.out.setCell (by show w.heap.size ≤ w.heap.size + 1 + 1; omega) _
 have d0 : W3.heap[w.heap.size]? = some (.cells #[.int .i64 a0_0, .int .i64 a0_1, .slice A0_2 l0_2.length c0_2] 26 (0, 0)) := by rw [hW3, Cap.setCell_ne (by show w.heap.size ≠ w.heap.size + 1 + 1; omega)]; exact c0.out
 have d1 : Cap.MapAt W3 (w.heap.size + 1) [(0, w.heap.size + 1 + 1)] := by
  have h := g1.out
  unfold Cap.MapAt at h ⊢
  rw [hW3, Cap.setCell_ne (by show w.heap.size + 1 ≠ w.heap.size + 1 + 1; omega)]
  exact h
 have d2 : W3.heap[w.heap.size + 1 + 1]? = some (.cells (Cap.ints (Cap.zeros.set 0 1)) 3 (0, 0)) := by
  rw [hW3, ← Cap.ints_set]
  exact Cap.blk_put c2.out _
 have d3 : Cap.Ways w.heap.size W3 (w.heap.size + 1) [(0, w.heap.size + 1 + 1)] [(0, Cap.zeros.set 0 1)] := ⟨d1, Nat.le_succ _, rfl, fun i x y hx hy => by
  cases i with
  | zero =>
   obtain rfl := Option.some.inj hx
   obtain rfl := Option.some.inj hy
   exact ⟨rfl, rfl, by dsimp only; omega, by dsimp only; omega, d2⟩
  | succ i => simp at hx⟩
 replace b3 := A_ b3
 replace d0 := A_ d0
 replace d3 := A_ d3
 clear d1 d2 hW3 hz0 hz1 hy0 hup hlk g1 g2 s2 b2 c0 c2 f0 f1 f2 s1 b1
 have hy2 := blk_cell d0.out 2
 go_wp2
 go_loopg [27, 3] l0_2.length (fun n v27 v3 W' => ∃ (i : Nat) (B : Nat) (L : List (Int × Nat)) (K : List (Int × List Int)), v27 = .int .i64 i ∧ v3 = .map (some B) ∧ Aside0 (Cap.Ways w.heap.size W' B L K) ∧ Aside0 (Below w.heap.size w W') ∧ Aside0 (W'.heap[w.heap.size]? = some (.cells #[.int .i64 a0_0, .int .i64 a0_1, .slice A0_2 l0_2.length c0_2] 26 (0, 0))) ∧ Aside0 (i ≤ l0_2.length ∧ n = l0_2.length - i) ∧ Aside0 (impl_Board_kings.okL K (l0_2.drop i) ∧ Cap.waysOf impl_Board_kings.cnt K (l0_2.drop i) = Cap.waysOf impl_Board_kings.cnt impl_Board_kings.start l0_2 ∧ ∀ y ∈ K, 0 ≤ y.1 ∧ y.1 ≤ 63))
 case atStart => exact ⟨0, _, _, _, rfl, rfl, d3, b3, d0, ⟨⟨Nat.zero_le _, rfl⟩⟩, ⟨⟨HOK.out, rfl, fun y hy => by rw [List.mem_singleton.1 hy]; exact ⟨by decide, by decide⟩⟩⟩⟩
 case round =>
  obtain ⟨i, B, L, K, rfl, rfl, HW, HB, HO, HI, HK⟩ := hrel
  by_cases c1 : (i : Int) < (l0_2.length : Int)
  case neg =>
   have c1n : ¬ i < l0_2.length := by omega
   have c1b := decide_eq_false c1
   have c1d := decide_eq_false c1n
   clear c1
   have hnil : l0_2.drop i = [] := List.drop_eq_nil_of_le (by omega)
   have hK2 := HK.out.2.1
   rw [hnil] at hK2
   have hT := HT.out
   rw [← show K = Cap.waysOf impl_Board_kings.cnt impl_Board_kings.start l0_2 from hK2] at hT
   replace HT := A_ hT
   clear HK hnil hK2 hT HOK d3 b3
   obtain ⟨V0, rfl⟩ : ∃ x, x = wr := ⟨wr, rfl⟩
   obtain ⟨V1, hV1⟩ : ∃ x, x = V0.alloc (.cells (Cap.ints Cap.zeros) 3) := ⟨_, rfl⟩
   have b5 : Below V0.heap.size V0 V1 := by rw [hV1]; exact below_alloc (Below.refl _ _) _
   have s5 : V1.heap.size = V0.heap.size + 1 := by rw [hV1]; simp
   have w5 := HW.out.below b5
   have r5 : V1.heap[V0.heap.size]? = some (.cells (Cap.ints Cap.zeros) 3 (0, 0)) := by rw [hV1]; exact blk_new _ _
   have hrg := w5.map.range (P := Try.prog) hum.out
   rw [hV1] at hrg
   go_wp2
   obtain ⟨V2, hV2⟩ : ∃ x, x = (V0.alloc (.cells (Cap.ints Cap.zeros) 3)).alloc (.mapIter (some B) L.length #[] L.length) := ⟨_, rfl⟩
   rw [← hV2]
   rw [← hV1] at hV2
   have b6 : Below V1.heap.size V1 V2 := by rw [hV2]; exact below_alloc (Below.refl _ _) _
   have i6 : Cap.IterAt V2 (V0.heap.size + 1) B L.length #[] := by
    have h := heap_alloc_new V1 (.mapIter (some B) L.length #[] L.length)
    rw [← hV2, s5] at h
    exact h
   have w6 := w5.below b6
   have r6 := blk_below r5 b6
   have c5 : Below w.heap.size w V1 := below_then HB.out HB.out.size b5
   have c6 : Below w.heap.size w V2 := below_then c5 c5.size b6
   have hV0b := A_ HB.out.size
   have l5 : Aside0 (∀ k, (k = B ∨ ∃ x ∈ L, x.2 = k) → k < V0.heap.size) := ⟨fun k hk => (HW.out.blk hk).2⟩
   replace i6 := A_ i6
   replace w6 := A_ w6
   replace r6 := A_ r6
   replace c6 := A_ c6
   have HKL := A_ w6.out.len
   clear hV1 hV2 b5 b6 s5 w5 r5 c5 hrg HW HB HO
   go_loopg [95] (leftOf (Cap.ents L).toArray #[]).size (fun n v95 W' => ∃ (seen : Array Nat), v95 = v95 ∧ Aside0 (Cap.IterAt W' (V0.heap.size + 1) B L.length seen) ∧ Aside0 (Cap.Ways w.heap.size W' B L K) ∧ Aside0 (W'.heap[V0.heap.size]? = some (.cells (Cap.ints (Cap.ownS impl_Board_kings.all K seen)) 3 (0, 0))) ∧ Aside0 (Below w.heap.size w W') ∧ Aside0 (n = (leftOf (Cap.ents L).toArray seen).size))
   case atStart => exact ⟨#[], rfl, i6, w6, ⟨by rw [Cap.ownS_none]; exact r6.out⟩, c6, ⟨rfl⟩⟩
   case round =>
    obtain ⟨seen, _, HIT, HW, HR2, HB, HL⟩ := hrel
    clear i6 w6 r6 c6
    rcases HW.out.map.next (P := Try.prog) HIT.out HB.out (by have := hV0b.out; omega) 0 with ⟨hall, hrun⟩ | ⟨idx, x, X2, hx, hs, hrun, hit2, hsame, hsz, hb2, hent, hlt⟩
    ·
     have hown : Cap.ownS impl_Board_kings.all K seen = Cap.ownV impl_Board_kings.all K := Cap.ownS_all _ _ _ (fun q hq => hall q (by rw [HKL.out]; exact hq))
     have hR2 := HR2.out
     rw [hown] at hR2
     have HRR := A_ (Cap.ints_R (base := w.heap.size) hR2 (by rw [show (Cap.ownV impl_Board_kings.all K).length = 37 from Cap.vec_length _]; omega) hV0b.out)
     rw [show (Cap.ownV impl_Board_kings.all K).length = 37 from Cap.vec_length _] at HRR
     clear hown hR2 hall HR2 HIT HW
     go_wp2_with (first | (go_at_call 181; (with_reducible refine (impl_trimmed.calls k (fun _ => True) _ _ r w _ HB.out HRR.out HT.out).mono ?_); rintro e w1 ⟨v0, rfl, hR1, hB1, hK1⟩))
     go_ret
     exact ⟨_, rfl, Kd.R_mono hR1 (fun _ _ => trivial), hB1⟩
    ·
     obtain ⟨xm, xg⟩ := x
     have hi : idx < K.length := by rw [← HKL.out]; exact (List.getElem?_eq_some_iff.1 hx).1
     obtain ⟨y1, y2, y3, y4, y5⟩ := HW.out.row idx _ _ hx (List.getElem?_eq_getElem hi)
     have yD : K.getD idx (0, []) = K[idx] := by rw [List.getD_eq_getElem?_getD, List.getElem?_eq_getElem hi]; rfl
     have xlt := l5.out xg (.inr ⟨_, List.mem_of_getElem? hx, rfl⟩)
     generalize K[idx] = y at y1 y2 y5 yD
     obtain ⟨ym, row⟩ := y
     dsimp only at y1 y2 y3 y4 y5 hrun hent
     subst y1
     have k5 : X2.heap[xg]? = some (.cells (Cap.ints row) 3 (0, 0)) := by rw [hsame _ (by omega)]; exact y5
     have kR : X2.heap[V0.heap.size]? = some (.cells (Cap.ints (Cap.ownS impl_Board_kings.all K seen)) 3 (0, 0)) := by rw [hsame _ (by omega)]; exact HR2.out
     have kW := HW.out.far (W1 := X2) (fun k hk => hsame k (by have := l5.out k hk; omega))
     have K5' := A_ k5
     have KR := A_ kR
     have KW := A_ kW
     have KB := A_ hb2
     have KI := A_ hit2
     have KLT := A_ hlt
     have YD := A_ yD
     have Y2 := A_ y2
     have HS := A_ hs
     have HIX := A_ hi
     have XLT := A_ xlt
     clear k5 kR kW hb2 hit2 hlt yD y2 y3 y4 y5 hs hi xlt hsame hsz hx HW HR2 HB HIT
     go_wp2
     obtain ⟨SS, hSS⟩ : ∃ S, S = (fun q => Cap.sSum (fun j => impl_Board_kings.all (K.getD j (0, [])) q) seen K.length) := ⟨_, rfl⟩
     obtain ⟨pp, hpp⟩ : ∃ p : Int → Bool, p = fun _ => true := ⟨_, rfl⟩
     have hr0 : X2.heap[V0.heap.size]? = some (.cells (Cap.ints (Cap.ownJ SS pp 0 row 0)) 3 (0, 0)) := by
      rw [Cap.ownJ_zero, hSS]
      exact KR.out
     have KR0 := A_ hr0
     have HSS := A_ hSS
     have HPP := A_ hpp
     clear hr0 KR hSS hpp
     go_loopg [101] 37 (fun n v101 W' => ∃ (j : Nat), v101 = .int .i64 j ∧ Aside0 (∀ k, k ≠ V0.heap.size → W'.heap[k]? = X2.heap[k]?) ∧ Aside0 (W'.heap[V0.heap.size]? = some (.cells (Cap.ints (Cap.ownJ SS pp 0 row j)) 3 (0, 0))) ∧ Aside0 (Below w.heap.size w W') ∧ Aside0 (j ≤ 37 ∧ n = 37 - j))
     case atStart => exact ⟨0, rfl, ⟨fun _ _ => rfl⟩, KR0, KB, ⟨⟨by omega, rfl⟩⟩⟩
     case round =>
      obtain ⟨j, rfl, HSA, HJ, HBJ, HJN⟩ := hrel
      clear KR0
      by_cases c5 : j < 37
      case neg =>
       have hj37 : j = 37 := by have := HJN.out; omega
       subst hj37
       clear c5
       have hend : Cap.ownJ SS pp 0 row 37 = Cap.ownS impl_Board_kings.all K (seen.push idx) := by
        rw [HSS.out, HPP.out]
        refine Cap.ownJ_end impl_Board_kings.all _ 0 K seen idx HS.out HIX.out row (fun q hq => ?_)
        rw [YD.out]
        exact (if_pos ⟨Nat.zero_le _, rfl⟩).symm
       have HJ2 := HJ.out
       rw [hend] at HJ2
       have HJ3 := A_ HJ2
       have kW := KW.out.far (W1 := wr) (fun k hk => HSA.out k (by have := l5.out k hk; omega))
       have kI : Cap.IterAt wr (V0.heap.size + 1) B L.length (seen.push idx) := by
        have := KI.out
        unfold Cap.IterAt at this ⊢
        rw [HSA.out _ (by omega)]
        exact this
       have KW2 := A_ kW
       have KI2 := A_ kI
       clear kW kI HJ2 hend
       go_wp2
       go_roundg (leftOf (Cap.ents L).toArray (seen.push idx)).size
       case measure => have := KLT.out; have := HL.out; omega
       case rel => exact ⟨seen.push idx, (by first | rfl | trivial), KI2, KW2, HJ3, HBJ, ⟨rfl⟩⟩
      have c5b := decide_eq_true c5
      have c5c : decide ((j : Int) < 37) = true := decide_eq_true (by omega)
      have p5 : (0 ≤ (j : Int)) = True := eq_true (by omega)
      have q5 : ((j : Int) < 37) = True := eq_true (by omega)
      have x5 := Cap.ints_cell ((HSA.out xg (by have := XLT.out; omega)).trans K5'.out) j (by rw [Y2.out]; exact c5)
      generalize hrj : row.getD j 0 = rj at x5
      have HRJ := A_ hrj
      clear hrj
      have lJ : (Cap.ownJ SS pp 0 row j).length = 37 := Cap.vec_length _
      have x6 := Cap.ints_cell HJ.out j (by rw [lJ]; exact c5)
      have x7 := blk_frozen HJ.out j
      obtain ⟨oj, hoj⟩ : ∃ oj, (Cap.ownJ SS pp 0 row j).getD (j + 0) 0 = oj := ⟨_, rfl⟩
      rw [show (Cap.ownJ SS pp 0 row j).getD j 0 = oj from hoj] at x6
      have hadd2 : (Cap.ownJ SS pp 0 row j).set j (wrap64 (oj + rj)) = Cap.ownJ SS pp 0 row (j + 1) := Cap.ownJ_put SS pp 0 row j HRJ.out (by rw [HPP.out]) (by omega) hoj
      have HADD := A_ hadd2
      clear hadd2 hoj lJ
      go_wp2
      go_roundg (37 - (j + 1))
      case measure => have := HJN.out; omega
      case rel => exact ⟨j + 1, by first | rfl | (congr 1; unfold wrap64; omega), ⟨fun k hk => (Cap.setCell_ne hk).trans (HSA.out k hk)⟩, ⟨by rw [← HADD.out, ← Cap.ints_set]; exact Cap.blk_put HJ.out _⟩, ⟨HBJ.out.setCell (by have := hV0b.out; exact this) _⟩, ⟨by omega, rfl⟩⟩
  have c1b := decide_eq_true c1
  have c1n : i < l0_2.length := by omega
  obtain ⟨ad1, e1, hx1⟩ := Kd.at_int (Kd.C_below HR.out HB.out) (i : Int) (by omega) (by omega)
  rw [Int.toNat_natCast] at hx1
  have p1 : (0 ≤ (i : Int)) = True := eq_true (by omega)
  have q1 : ((i : Int) < (l0_2.length : Int)) = True := eq_true c1
  cases e1
  clear c1
  have hmm := @run_makeMap Try.prog
  go_wp2
  have hdr : l0_2.drop i = rd l0_2 (i : Int) :: l0_2.drop (i + 1) := by
   rw [List.drop_eq_getElem_cons c1n]
   congr 1
   simp [rd, c1n]
  obtain ⟨k1_, k2_, k3_⟩ := HK.out
  rw [hdr] at k1_ k2_
  clear HK hdr
  generalize hcl : rd l0_2 (i : Int) = cl at *
  obtain ⟨⟨x0, x63⟩, k4_, k5_⟩ := k1_
  have k6_ : Cap.waysOf impl_Board_kings.cnt (Cap.upto impl_Board_kings.cnt K cl.toNat (cl.toNat + 1)) (l0_2.drop (i + 1)) = Cap.waysOf impl_Board_kings.cnt impl_Board_kings.start l0_2 := k2_
  clear k2_
  obtain ⟨C, rfl⟩ : ∃ C : Nat, cl = (C : Int) := ⟨cl.toNat, by omega⟩
  have hC : C ≤ 63 := by omega
  rw [Int.toNat_natCast] at k4_ k5_ k6_
  have K3 := A_ k3_
  have K4 := A_ k4_
  have K5 := A_ k5_
  have K6 := A_ k6_
  clear k3_ k4_ k5_ k6_ x0 x63
  obtain ⟨W0, rfl⟩ : ∃ x, x = wr := ⟨wr, rfl⟩
  obtain ⟨W4, hW4⟩ : ∃ x, x = W0.alloc (.map #[] 0) := ⟨_, rfl⟩
  rw [← hW4]
  have b4 : Below W0.heap.size W0 W4 := by rw [hW4]; exact below_alloc (Below.refl _ _) _
  have s4 : W4.heap.size = W0.heap.size + 1 := by rw [hW4]; simp
  have m4 : Cap.MapAt W4 W0.heap.size [] := by rw [hW4]; exact heap_alloc_new _ _
  have n4 : Cap.Ways w.heap.size W4 W0.heap.size [] [] := ⟨m4, HB.out.size, rfl, fun i x y hx hy => by simp at hx⟩
  have w4 := HW.out.below b4
  have l4 : ∀ k, k = B ∨ (∃ x ∈ L, x.2 = k) → k < W0.heap.size := fun k hk => (HW.out.blk hk).2
  have c4 : Below w.heap.size w W4 := below_then HB.out HB.out.size b4
  have o4 := blk_below HO.out b4
  replace n4 := A_ n4
  replace w4 := A_ w4
  replace l4 := A_ l4
  replace c4 := A_ c4
  replace o4 := A_ o4
  have hlW := A_ HB.out.size
  have hbx := A_ (Cap.lt_of_at HO.out)
  clear m4 hW4 b4
  have hw1 : wrap64 ((C : Int) + 1) = (C : Int) + 1 := by unfold wrap64; omega
  rw [hw1]
  clear HW HB HO hw1 hcl
  go_loopg [34] (C + 1) (fun n v34 W' => ∃ (m : Nat) (L2 : List (Int × Nat)), v34 = .int .i64 m ∧ Aside0 (Cap.Ways w.heap.size W' B L K) ∧ Aside0 (Cap.Ways w.heap.size W' W0.heap.size L2 (Cap.upto impl_Board_kings.cnt K C m)) ∧ Aside0 (Below w.heap.size w W') ∧ Aside0 (W'.heap[w.heap.size]? = some (.cells #[.int .i64 a0_0, .int .i64 a0_1, .slice (some ad1) l0_2.length c0_2] 26 (0, 0))) ∧ Aside0 (m ≤ C + 1 ∧ n = C + 1 - m))
  case atStart => exact ⟨0, [], rfl, w4, n4, c4, o4, ⟨⟨Nat.zero_le _, rfl⟩⟩⟩
  case round =>
   obtain ⟨m, L2, rfl, HW, HN, HB, HO, HM⟩ := hrel
   clear n4 w4 c4 o4
   have hw2 : Aside0 (wrap64 ((m : Int) + 1) = ((m + 1 : Nat) : Int)) := ⟨by have := HM.out; unfold wrap64; omega⟩
   by_cases c2 : m < C + 1
   case neg =>
    have hmC : m = C + 1 := by have := HM.out; omega
    subst hmC
    have c2d := decide_eq_false c2
    have c2c : decide (((C + 1 : Nat) : Int) < (C : Int) + 1) = false := decide_eq_false (by omega)
    go_wp2
    go_roundg (l0_2.length - (i + 1))
    case measure => have := HI.out; omega
    case rel => exact ⟨i + 1, W0.heap.size, L2, Cap.upto impl_Board_kings.cnt K C (C + 1), by first | rfl | (congr 1; have := HLN.out; unfold wrap64; omega), rfl, HN, HB, HO, ⟨by omega, rfl⟩, ⟨K5.out, K6.out, fun y hy => by have := Cap.upto_key _ _ _ _ y hy; omega⟩⟩
   have c2b := decide_eq_true c2
   have c2c : decide ((m : Int) < (C : Int) + 1) = true := decide_eq_true (by omega)
   by_cases t1 : Go.bits .andNot .i64 (m : Int) (C : Int) = 0
   case neg =>
    have t1b : (Go.bits .andNot .i64 (m : Int) (C : Int) != 0) = true := bne_iff_ne.mpr t1
    have hv : Cap.valid C m = false := by unfold Cap.valid; rw [beq_eq_false_iff_ne.mpr t1]; rfl
    go_wp2
    go_roundg (C + 1 - (m + 1))
    case measure => have := HM.out; omega
    case rel => exact ⟨m + 1, L2, by first | rfl | rw [hw2.out] | (congr 1; omega), HW, by rw [Cap.upto, if_neg (by rw [hv]; simp)]; exact HN, HB, HO, ⟨by omega, rfl⟩⟩
   by_cases t2 : Go.bits .and .i64 (m : Int) ((m : Int) * 2) = 0
   case neg =>
    have t1b : (Go.bits .andNot .i64 (m : Int) (C : Int) != 0) = false := bne_eq_false_iff_eq.mpr t1
    have t2b : (Go.bits .and .i64 (m : Int) ((m : Int) * 2) != 0) = true := bne_iff_ne.mpr t2
    have hv : Cap.valid C m = false := by unfold Cap.valid; rw [beq_eq_false_iff_ne.mpr t2, Bool.and_false]
    go_wp2
    go_roundg (C + 1 - (m + 1))
    case measure => have := HM.out; omega
    case rel => exact ⟨m + 1, L2, by first | rfl | rw [hw2.out] | (congr 1; omega), HW, by rw [Cap.upto, if_neg (by rw [hv]; simp)]; exact HN, HB, HO, ⟨by omega, rfl⟩⟩
   have t1b : (Go.bits .andNot .i64 (m : Int) (C : Int) != 0) = false := bne_eq_false_iff_eq.mpr t1
   have t2b : (Go.bits .and .i64 (m : Int) ((m : Int) * 2) != 0) = false := bne_eq_false_iff_eq.mpr t2
   have hv : Cap.valid C m = true := by unfold Cap.valid; rw [t1, t2]; rfl
   obtain ⟨V0, rfl⟩ : ∃ x, x = wr := ⟨wr, rfl⟩
   obtain ⟨V1, hV1⟩ : ∃ x, x = V0.alloc (.cells (Cap.ints Cap.zeros) 3) := ⟨_, rfl⟩
   have b5 : Below V0.heap.size V0 V1 := by rw [hV1]; exact below_alloc (Below.refl _ _) _
   have s5 : V1.heap.size = V0.heap.size + 1 := by rw [hV1]; simp
   have w5 := HW.out.below b5
   have r5 : V1.heap[V0.heap.size]? = some (.cells (Cap.ints Cap.zeros) 3 (0, 0)) := by rw [hV1]; exact blk_new _ _
   have hrg := w5.map.range (P := Try.prog) hum.out
   rw [hV1] at hrg
   go_wp2
   obtain ⟨V2, hV2⟩ : ∃ x, x = (V0.alloc (.cells (Cap.ints Cap.zeros) 3)).alloc (.mapIter (some B) L.length #[] L.length) := ⟨_, rfl⟩
   rw [← hV2]
   rw [← hV1] at hV2
   have b6 : Below V1.heap.size V1 V2 := by rw [hV2]; exact below_alloc (Below.refl _ _) _
   have i6 : Cap.IterAt V2 (V0.heap.size + 1) B L.length #[] := by
    have h := heap_alloc_new V1 (.mapIter (some B) L.length #[] L.length)
    rw [← hV2, s5] at h
    exact h
   have w6 := w5.below b6
   have n6 := (HN.out.below b5).below b6
   have r6 := blk_below r5 b6
   have c5 : Below w.heap.size w V1 := below_then HB.out HB.out.size b5
   have c6 : Below w.heap.size w V2 := below_then c5 c5.size b6
   have o6 := blk_below (blk_below HO.out b5) b6
   have hV0 := A_ (Cap.lt_of_at HN.out.map)
   have hV0b := A_ HB.out.size
   have l5 : Aside0 (∀ k, (k = W0.heap.size ∨ ∃ x ∈ L2, x.2 = k) → k < V0.heap.size) := ⟨fun k hk => (HN.out.blk hk).2⟩
   obtain ⟨hcnt, hroom⟩ := K4.out m (by omega) hv
   generalize hcc : impl_Board_kings.cnt m = c at hcnt hroom
   have HCNT := A_ hcnt
   have HROOM := A_ hroom
   have HCC := A_ hcc
   replace i6 := A_ i6
   replace w6 := A_ w6
   replace n6 := A_ n6
   replace r6 := A_ r6
   replace c6 := A_ c6
   replace o6 := A_ o6
   have HKL := A_ w6.out.len
   clear hV1 hV2 b5 b6 s5 w5 r5 c5 hrg HW HN HB HO hcnt hroom hcc
   try rw [show decide ((m : Int) < (C : Int) + 1) = true from decide_eq_true (by omega)]
   go_loopg [51] (leftOf (Cap.ents L).toArray #[]).size (fun n v51 W' => ∃ (seen : Array Nat), v51 = v51 ∧ Aside0 (Cap.IterAt W' (V0.heap.size + 1) B L.length seen) ∧ Aside0 (Cap.Ways w.heap.size W' B L K) ∧ Aside0 (Cap.Ways w.heap.size W' W0.heap.size L2 (Cap.upto impl_Board_kings.cnt K C m)) ∧ Aside0 (W'.heap[V0.heap.size]? = some (.cells (Cap.ints (Cap.ownS (Cap.gives (m : Int) c) K seen)) 3 (0, 0))) ∧ Aside0 (Below w.heap.size w W') ∧ Aside0 (W'.heap[w.heap.size]? = some (.cells #[.int .i64 a0_0, .int .i64 a0_1, .slice (some ad1) l0_2.length c0_2] 26 (0, 0))) ∧ Aside0 (n = (leftOf (Cap.ents L).toArray seen).size))
   case atStart => exact ⟨#[], rfl, i6, w6, n6, ⟨by rw [Cap.ownS_none]; exact r6.out⟩, c6, o6, ⟨rfl⟩⟩
   case round =>
    obtain ⟨seen, _, HIT, HW, HN, HR2, HB, HO, HL⟩ := hrel
    clear i6 w6 n6 r6 c6 o6
    rcases HW.out.map.next (P := Try.prog) HIT.out HB.out (by have := hV0.out; have := hlW.out; omega) 0 with ⟨hall, hrun⟩ | ⟨idx, x, X2, hx, hs, hrun, hit2, hsame, hsz, hb2, hent, hlt⟩
    ·
     have hown : Cap.ownS (Cap.gives (m : Int) c) K seen = Cap.ownV (Cap.gives (m : Int) c) K := Cap.ownS_all _ _ _ (fun q hq => hall q (by rw [HKL.out]; exact hq))
     have hnew : ∀ x ∈ L2, x.1 ≠ (m : Int) := by
      intro x hx e
      obtain ⟨q, hq⟩ := List.mem_iff_getElem?.1 hx
      have hl : q < (Cap.upto impl_Board_kings.cnt K C m).length := by rw [← HN.out.len]; exact (List.getElem?_eq_some_iff.1 hq).1
      have h1 := (HN.out.row q x _ hq (List.getElem?_eq_getElem hl)).1
      have h2 := Cap.upto_key _ _ _ _ _ (List.getElem_mem hl)
      omega
     obtain ⟨X3, hup, hm3, hs3, hz3, hb3⟩ := HN.out.map.update (P := Try.prog) hum.out Try.underlying3 (m : Int) V0.heap.size hnew HB.out hlW.out
     have hN3 := HN.out.more hm3 hs3 HR2.out (by rw [hown]; exact Cap.vec_length _) (Nat.le_trans hlW.out (Nat.le_of_lt hV0.out)) (by have := hV0.out; omega)
     have hW3 := HW.out.far (W1 := X3) (fun k hk => hs3 k (by have := l4.out k hk; omega))
     have hO3 : X3.heap[w.heap.size]? = _ := (hs3 w.heap.size (by have := hbx.out; omega)).trans HO.out
     rw [hown] at hN3
     have HN3 := A_ hN3
     have HW3 := A_ hW3
     have HO3 := A_ hO3
     have HB3 := A_ hb3
     clear hN3 hW3 hO3 hb3 hm3 hs3 hz3 hall hnew hown HN HW HO HB HIT HR2
     go_wp2
     go_roundg (C + 1 - (m + 1))
     case measure => have := HM.out; omega
     case rel => exact ⟨m + 1, L2 ++ [((m : Int), V0.heap.size)], by first | rfl | rw [hw2.out] | (congr 1; omega), HW3, by rw [Cap.upto, if_pos hv, HCC.out]; exact HN3, HB3, HO3, ⟨by omega, rfl⟩⟩
    ·
     obtain ⟨xm, xg⟩ := x
     have hi : idx < K.length := by rw [← HKL.out]; exact (List.getElem?_eq_some_iff.1 hx).1
     obtain ⟨y1, y2, y3, y4, y5⟩ := HW.out.row idx _ _ hx (List.getElem?_eq_getElem hi)
     have ykey := K3.out _ (List.getElem_mem hi)
     have yD : K.getD idx (0, []) = K[idx] := by rw [List.getD_eq_getElem?_getD, List.getElem?_eq_getElem hi]; rfl
     have yroom := HROOM.out _ (List.getElem_mem hi)
     have xlt := l4.out xg (.inr ⟨_, List.mem_of_getElem? hx, rfl⟩)
     generalize K[idx] = y at y1 y2 y5 ykey yD yroom
     obtain ⟨ym, row⟩ := y
     dsimp only at y1 y2 y3 y4 y5 ykey yroom hrun hent
     subst y1
     have hV0a := hV0.out
     have hbxa := hbx.out
     have k5 : X2.heap[xg]? = some (.cells (Cap.ints row) 3 (0, 0)) := by rw [hsame _ (by omega)]; exact y5
     have kR : X2.heap[V0.heap.size]? = some (.cells (Cap.ints (Cap.ownS (Cap.gives (m : Int) c) K seen)) 3 (0, 0)) := by rw [hsame _ (by omega)]; exact HR2.out
     have kO : X2.heap[w.heap.size]? = some (.cells #[.int .i64 a0_0, .int .i64 a0_1, .slice (some ad1) l0_2.length c0_2] 26 (0, 0)) := by rw [hsame _ (by omega)]; exact HO.out
     have kW := HW.out.far (W1 := X2) (fun k hk => hsame k (by have := l4.out k hk; omega))
     have kN := HN.out.far (W1 := X2) (fun k hk => hsame k (by have := l5.out k hk; omega))
     have K5' := A_ k5
     have KR := A_ kR
     have KO := A_ kO
     have KW := A_ kW
     have KN := A_ kN
     have KB := A_ hb2
     have KI := A_ hit2
     have KLT := A_ hlt
     have YD := A_ yD
     have YR := A_ yroom
     have Y2 := A_ y2
     have HS := A_ hs
     have HIX := A_ hi
     have XLT := A_ xlt
     clear k5 kR kO kW kN hb2 hit2 hlt yD yroom y2 y3 y4 y5 hs hi xlt hsame hsz hx HW HN HR2 HB HO HIT
     by_cases t3 : Go.bits .and .i64 (m : Int) (Go.bits .or .i64 (Go.bits .or .i64 xm (xm * 2)) (xm / 2)) = 0
     case neg =>
      have t3b : (Go.bits .and .i64 (m : Int) (Go.bits .or .i64 (Go.bits .or .i64 xm (xm * 2)) (xm / 2)) != 0) = true := bne_iff_ne.mpr t3
      have hcm : Cap.comp (m : Int) xm = false := beq_eq_false_iff_ne.mpr t3
      go_wp2
      go_roundg (leftOf (Cap.ents L).toArray (seen.push idx)).size
      case measure => have := KLT.out; have := HL.out; omega
      case rel => exact ⟨seen.push idx, (by first | rfl | trivial), KI, KW, KN, ⟨by rw [Cap.ownS_skip _ _ _ _ HS.out HIX.out (fun q _ => by rw [YD.out]; unfold Cap.gives; rw [hcm]; exact if_neg (by simp))]; exact KR.out⟩, KB, KO, ⟨rfl⟩⟩
     have t3b : (Go.bits .and .i64 (m : Int) (Go.bits .or .i64 (Go.bits .or .i64 xm (xm * 2)) (xm / 2)) != 0) = false := bne_eq_false_iff_eq.mpr t3
     have hcm : Cap.comp (m : Int) xm = true := beq_iff_eq.mpr t3
     go_wp2
     generalize hSS : (fun q => Cap.sSum (fun j => Cap.gives (m : Int) c (K.getD j (0, [])) q) seen K.length) = SS
     generalize hpp : (fun x : Int => decide (0 < x)) = pp
     have hr0 : X2.heap[V0.heap.size]? = some (.cells (Cap.ints (Cap.ownJ SS pp c row 0)) 3 (0, 0)) := by
      rw [Cap.ownJ_zero, ← hSS]
      exact KR.out
     have KR0 := A_ hr0
     have HSS := A_ hSS
     have HPP := A_ hpp
     clear hr0 KR hSS hpp
     go_loopg [68] 37 (fun n v68 W' => ∃ (j : Nat), v68 = .int .i64 j ∧ Aside0 (∀ k, k ≠ V0.heap.size → W'.heap[k]? = X2.heap[k]?) ∧ Aside0 (W'.heap[V0.heap.size]? = some (.cells (Cap.ints (Cap.ownJ SS pp c row j)) 3 (0, 0))) ∧ Aside0 (Below w.heap.size w W') ∧ Aside0 (j ≤ 37 ∧ n = 37 - j))
     case atStart => exact ⟨0, rfl, ⟨fun _ _ => rfl⟩, KR0, KB, ⟨⟨by omega, rfl⟩⟩⟩
     case round =>
      obtain ⟨j, rfl, HSA, HJ, HBJ, HJN⟩ := hrel
      clear KR0
      by_cases c5 : j < 37
      case neg =>
       have hj37 : j = 37 := by have := HJN.out; omega
       subst hj37
       clear c5
       have hend : Cap.ownJ SS pp c row 37 = Cap.ownS (Cap.gives (m : Int) c) K (seen.push idx) := by
        rw [← HSS.out, ← HPP.out]
        refine Cap.ownJ_end (Cap.gives (m : Int) c) _ c K seen idx HS.out HIX.out row (fun q hq => ?_)
        rw [YD.out]
        unfold Cap.gives
        rw [if_pos hcm]
        exact Cap.if_same (by simp) _ _
       have HJ2 := HJ.out
       rw [hend] at HJ2
       have HJ3 := A_ HJ2
       have kW := KW.out.far (W1 := wr) (fun k hk => HSA.out k (by have := l4.out k hk; omega))
       have kN := KN.out.far (W1 := wr) (fun k hk => HSA.out k (by have := l5.out k hk; omega))
       have kI : Cap.IterAt wr (V0.heap.size + 1) B L.length (seen.push idx) := by
        have := KI.out
        unfold Cap.IterAt at this ⊢
        rw [HSA.out _ (by omega)]
        exact this
       have kO := (HSA.out w.heap.size (by omega)).trans KO.out
       have KW2 := A_ kW
       have KN2 := A_ kN
       have KI2 := A_ kI
       have KO2 := A_ kO
       clear kW kN kI kO HJ2 hend
       go_wp2
       go_roundg (leftOf (Cap.ents L).toArray (seen.push idx)).size
       case measure => have := KLT.out; have := HL.out; omega
       case rel => exact ⟨seen.push idx, (by first | rfl | trivial), KI2, KW2, KN2, HJ3, HBJ, KO2, ⟨rfl⟩⟩
      have c5b := decide_eq_true c5
      have c5c : decide ((j : Int) < 37) = true := decide_eq_true (by omega)
      have p5 : (0 ≤ (j : Int)) = True := eq_true (by omega)
      have q5 : ((j : Int) < 37) = True := eq_true (by omega)
      have x5 := Cap.ints_cell ((HSA.out xg (by have := XLT.out; omega)).trans K5'.out) j (by rw [Y2.out]; exact c5)
      have hw5 : Aside0 (wrap64 ((j : Int) + 1) = (j : Int) + 1) := ⟨by unfold wrap64; omega⟩
      generalize hrj : row.getD j 0 = rj at x5
      have HRJ := A_ hrj
      clear hrj
      by_cases t6 : 0 < rj
      case neg =>
       have t6b := decide_eq_false t6
       have t6c : decide (rj > 0) = false := decide_eq_false t6
       go_wp2
       go_roundg (37 - (j + 1))
       case measure => have := HJN.out; omega
       case rel => exact ⟨j + 1, by first | rfl | rw [hw5.out] | (congr 1; omega), HSA, by rw [Cap.ownJ_skip _ _ _ _ _ (by rw [HRJ.out, ← HPP.out]; exact t6b)]; exact HJ, HBJ, ⟨by omega, rfl⟩⟩
      have t6b := decide_eq_true t6
      have t6c : decide (rj > 0) = true := decide_eq_true t6
      have hjc : j + c < 37 := YR.out hcm j c5 (by rw [HRJ.out]; exact t6)
      obtain ⟨hw6, p6, q6, n6⟩ := Cap.small_sum hjc
      clear hw6
      have lJ : (Cap.ownJ SS pp c row j).length = 37 := Cap.vec_length _
      have x6 := Cap.ints_cell HJ.out (j + c) (by rw [lJ]; exact hjc)
      have x7 := blk_frozen HJ.out (j + c)
      obtain ⟨oj, hoj⟩ : ∃ oj, (Cap.ownJ SS pp c row j).getD (j + c) 0 = oj := ⟨_, rfl⟩
      rw [hoj] at x6
      have hadd2 := Cap.ownJ_put SS pp c row j HRJ.out (by rw [← HPP.out]; exact t6b) hjc hoj
      have HADD := A_ hadd2
      clear hadd2 hoj lJ
      clear HSS HPP KW KN KI KO KB YD YR HROOM HCC HS HIX KLT
      go_wp2_with (first | (go_at_call 187; (with_reducible refine (impl_count.calls (m : Int) (c : Int) _ HCNT.out).mono ?_); rintro e w' ⟨rfl, ⟨nd, rfl⟩⟩))
      go_roundg (37 - (j + 1))
      case measure => have := HJN.out; omega
      case rel => exact ⟨j + 1, by first | rfl | (congr 1; unfold wrap64; omega), ⟨fun k hk => (Cap.setCell_ne hk).trans (HSA.out k hk)⟩, ⟨by rw [← HADD.out, ← Cap.ints_set]; exact Cap.blk_put (W := wr.drewN nd) HJ.out _⟩, ⟨(pw_below_drewN HBJ.out nd).setCell (by have := hV0b.out; exact this) _⟩, ⟨by omega, rfl⟩⟩

/-! ### spec_KingNumbers: function 44 -/
def spec_KingNumbers.f (k : Nat) (a0_0 : Int) (a0_1 : Int) (l0_2 : List Int) : Option (List Int × Bool) := (spec_boGood.f k a0_0 a0_1 l0_2).bind fun t877 => (if t877 = true then ((spec_kiNumbers.f k a0_0 a0_1 l0_2).bind fun t878 => (some (t878, true))) else (some (([] : List Int), false)))
theorem spec_KingNumbers.mono : ∀ a0 a1 a2 k, LeO (spec_KingNumbers.f k a0 a1 a2) (spec_KingNumbers.f (k + 1) a0 a1 a2) := by
 intro a0 a1 a2 k
 unfold spec_KingNumbers.f
 repeat' first | (with_reducible first | exact spec_boGood.mono _ _ _ _ | exact spec_kiNumbers.mono _ _ _ _ | exact LeO.refl _ | exact LeO.none _ | refine LeO.ite ?_ ?_ | refine LeO.bind ?_ (fun _ => ?_)) | exact spec_boGood.mono _ _ _ _ | exact spec_kiNumbers.mono _ _ _ _ | exact LeO.none _ | refine LeO.ite ?_ ?_ | refine LeO.bind ?_ (fun _ => ?_)
theorem spec_KingNumbers.calls (k : Nat) (a0_0 : Int) (a0_1 : Int) (A0_2 : Option Addr) (c0_2 : Nat) (l0_2 : List Int) (r1 : List Int) (r2 : Bool) (w : World) (hr0_2 : Kd.C (Kd.int .i64) w A0_2 l0_2.length l0_2) (hc0_2 : l0_2.length ≤ c0_2) (h : spec_KingNumbers.f k a0_0 a0_1 l0_2 = some (r1, r2)) :
  Calls Try.prog 44 #[.agg #[.int .i64 a0_0, .int .i64 a0_1, .slice A0_2 l0_2.length c0_2]] w fun e w' => ∃ v0_ : Value, e = .returned (.tuple #[v0_, .bool r2]) ∧ Kd.R (Kd.int .i64) 3 w' w.heap.size (fun _ => True) v0_ r1 ∧ Below w.heap.size w w' := by
 have hu26 := Try.underlying26
 have HR0_2 := A_ hr0_2
 have HC0_2 := A_ hc0_2
 clear hr0_2 hc0_2
 have HB := A_ (Below.refl w.heap.size w)
 have H : ((spec_boGood.f k a0_0 a0_1 l0_2).bind fun t877 => (if t877 = true then ((spec_kiNumbers.f k a0_0 a0_1 l0_2).bind fun t878 => (some (t878, true))) else (some (([] : List Int), false)))) = some (r1, r2) := h
 clear h
 replace H := Option.bind_eq_some_iff.mp H
 obtain ⟨t877, A20, H⟩ := H
 replace H : (if t877 = true then ((spec_kiNumbers.f k a0_0 a0_1 l0_2).bind fun t878 => (some (t878, true))) else (some (([] : List Int), false))) = some (r1, r2) := H
 have A2 := A_ A20
 clear A20
 by_cases c3 : t877 = true
 ·
  subst c3
  have H1 : ((spec_kiNumbers.f k a0_0 a0_1 l0_2).bind fun t878 => (some (t878, true))) = some (r1, r2) := by rw [if_pos rfl] at H; exact H
  clear H
  have H := H1
  clear H1
  replace H := Option.bind_eq_some_iff.mp H
  obtain ⟨t878, A40, H⟩ := H
  replace H : (some (t878, true)) = some (r1, r2) := H
  have A4 := A_ A40
  clear A40
  simp only [Option.some.injEq, Prod.mk.injEq] at H
  obtain ⟨rfl, rfl⟩ := H
  go_enter Try.func44, Try.ntmps44
  go_wp2_with (first | (refine gd_ 1 ?_; refine bx_ 1 #[.int .i64 a0_0, .int .i64 a0_1, .slice A0_2 l0_2.length c0_2] 26 ?_; intro gb876 hg w5 hbox hb; have BK876 := A_ (hbox); have GW876 := A_ ((ts_ hg : w.heap.size ≤ gb876)); have GE876 := A_ ((ts_ hg : w.heap.size ≤ gb876)); replace HB := A_ (below_step tb_ hb); clear hb hbox hg; obtain ⟨hcz6_0, hcz6_1, hcz6_2, hfz6_0, hfz6_1, hfz6_2⟩ := cf3_ BK876.out) | (refine gc_ 90 ?_; refine goesT_ (some 5) Try.func90 #[.agg #[.int .i64 a0_0, .int .i64 a0_1, .slice A0_2 l0_2.length c0_2]] ?_; (with_reducible refine (spec_boGood.calls k a0_0 a0_1 _ _ l0_2 true _ ?side1 ?side2 A2.out).mono ?_); (case side1 => exact tc_ HR0_2.out); (case side2 => exact HC0_2.out); rintro e w7 ⟨rfl, hb⟩; refine ⟨_, rfl, ?_⟩; replace BK876 := A_ (blk_below (g := gb876) (o := .cells #[.int .i64 a0_0, .int .i64 a0_1, .slice A0_2 l0_2.length c0_2] 26 (0, 0)) (tk_ BK876) hb); replace HB := A_ (below_step tb_ hb); (try clear hb); obtain ⟨hcz8_0, hcz8_1, hcz8_2, hfz8_0, hfz8_1, hfz8_2⟩ := cf3_ BK876.out) | (refine gc_ 104 ?_; refine goesT_ (some 8) Try.func104 #[.agg #[.int .i64 a0_0, .int .i64 a0_1, .slice A0_2 l0_2.length c0_2]] ?_; (with_reducible refine (spec_kiNumbers.calls k a0_0 a0_1 _ _ l0_2 t878 _ ?side1 ?side2 A4.out).mono ?_); (case side1 => exact tc_ HR0_2.out); (case side2 => exact HC0_2.out); rintro e w9 ⟨v879, rfl, ho0, hb⟩; refine ⟨_, rfl, ?_⟩; have HO880 := A_ (Kd.R_lower ho0 (below_size tb_)); replace BK876 := A_ (blk_below (g := gb876) (o := .cells #[.int .i64 a0_0, .int .i64 a0_1, .slice A0_2 l0_2.length c0_2] 26 (0, 0)) (tk_ BK876) hb); replace HB := A_ (below_step tb_ hb); (try clear hb); (try clear ho0)))
  go_ret2
  exact ⟨_, te_, tr_x HO880.out, tb_⟩
 ·
  replace c3 := Bool.eq_false_iff.mpr c3
  subst c3
  have H1 : (some (([] : List Int), false)) = some (r1, r2) := by rw [if_neg (show ¬ (false = true) by decide)] at H; exact H
  clear H
  have H := H1
  clear H1
  simp only [Option.some.injEq, Prod.mk.injEq] at H
  obtain ⟨rfl, rfl⟩ := H
  go_enter Try.func44, Try.ntmps44
  go_wp2_with (first | (refine gd_ 1 ?_; refine bx_ 1 #[.int .i64 a0_0, .int .i64 a0_1, .slice A0_2 l0_2.length c0_2] 26 ?_; intro gb876 hg w10 hbox hb; have BK876 := A_ (hbox); have GW876 := A_ ((ts_ hg : w.heap.size ≤ gb876)); have GE876 := A_ ((ts_ hg : w.heap.size ≤ gb876)); replace HB := A_ (below_step tb_ hb); clear hb hbox hg; obtain ⟨hcz11_0, hcz11_1, hcz11_2, hfz11_0, hfz11_1, hfz11_2⟩ := cf3_ BK876.out) | (refine gc_ 90 ?_; refine goesT_ (some 5) Try.func90 #[.agg #[.int .i64 a0_0, .int .i64 a0_1, .slice A0_2 l0_2.length c0_2]] ?_; (with_reducible refine (spec_boGood.calls k a0_0 a0_1 _ _ l0_2 false _ ?side1 ?side2 A2.out).mono ?_); (case side1 => exact tc_ HR0_2.out); (case side2 => exact HC0_2.out); rintro e w12 ⟨rfl, hb⟩; refine ⟨_, rfl, ?_⟩; replace BK876 := A_ (blk_below (g := gb876) (o := .cells #[.int .i64 a0_0, .int .i64 a0_1, .slice A0_2 l0_2.length c0_2] 26 (0, 0)) (tk_ BK876) hb); replace HB := A_ (below_step tb_ hb); (try clear hb)))
  go_ret2
  exact ⟨_, te_, by first | exact Kd.R_nil _ _ _ _ _ | exact Kd.N_nil _ _ _ _ _ | exact Kd.V_nil _ _ _ _ _ | exact Kd.Q_nil _ _ _ _ _ | exact Kd.S_nil _ _ _ _ _, tb_⟩

/-! ### impl_KingNumbers: function 45 -/
def impl_KingNumbers.f (k : Nat) (a0_0 : Int) (a0_1 : Int) (l0_2 : List Int) : Option (List Int × Bool) := (impl_IsBoard.f a0_0 a0_1 l0_2).bind fun t882 => (if t882 = true then ((impl_Board_kings.f k a0_0 a0_1 l0_2).bind fun t883 => (some (t883, true))) else (some (([] : List Int), false)))
theorem impl_KingNumbers.mono : ∀ a0 a1 a2 k, LeO (impl_KingNumbers.f k a0 a1 a2) (impl_KingNumbers.f (k + 1) a0 a1 a2) := by
 intro a0 a1 a2 k
 unfold impl_KingNumbers.f
 repeat' first | (with_reducible first | exact impl_Board_kings.mono _ _ _ _ | exact LeO.refl _ | exact LeO.none _ | refine LeO.ite ?_ ?_ | refine LeO.bind ?_ (fun _ => ?_)) | exact impl_Board_kings.mono _ _ _ _ | exact LeO.none _ | refine LeO.ite ?_ ?_ | refine LeO.bind ?_ (fun _ => ?_)
theorem impl_KingNumbers.calls (k : Nat) (a0_0 : Int) (a0_1 : Int) (A0_2 : Option Addr) (c0_2 : Nat) (l0_2 : List Int) (r1 : List Int) (r2 : Bool) (w : World) (hr0_2 : Kd.C (Kd.int .i64) w A0_2 l0_2.length l0_2) (hc0_2 : l0_2.length ≤ c0_2) (h : impl_KingNumbers.f k a0_0 a0_1 l0_2 = some (r1, r2)) :
  Calls Try.prog 45 #[.agg #[.int .i64 a0_0, .int .i64 a0_1, .slice A0_2 l0_2.length c0_2]] w fun e w' => ∃ v0_ : Value, e = .returned (.tuple #[v0_, .bool r2]) ∧ Kd.R (Kd.int .i64) 3 w' w.heap.size (fun _ => True) v0_ r1 ∧ Below w.heap.size w w' := by
 have hu26 := Try.underlying26
 have HR0_2 := A_ hr0_2
 have HC0_2 := A_ hc0_2
 clear hr0_2 hc0_2
 have HB := A_ (Below.refl w.heap.size w)
 have H : ((impl_IsBoard.f a0_0 a0_1 l0_2).bind fun t882 => (if t882 = true then ((impl_Board_kings.f k a0_0 a0_1 l0_2).bind fun t883 => (some (t883, true))) else (some (([] : List Int), false)))) = some (r1, r2) := h
 clear h
 replace H := Option.bind_eq_some_iff.mp H
 obtain ⟨t882, A20, H⟩ := H
 replace H : (if t882 = true then ((impl_Board_kings.f k a0_0 a0_1 l0_2).bind fun t883 => (some (t883, true))) else (some (([] : List Int), false))) = some (r1, r2) := H
 have A2 := A_ A20
 clear A20
 by_cases c3 : t882 = true
 ·
  subst c3
  have H1 : ((impl_Board_kings.f k a0_0 a0_1 l0_2).bind fun t883 => (some (t883, true))) = some (r1, r2) := by rw [if_pos rfl] at H; exact H
  clear H
  have H := H1
  clear H1
  replace H := Option.bind_eq_some_iff.mp H
  obtain ⟨t883, A40, H⟩ := H
  replace H : (some (t883, true)) = some (r1, r2) := H
  have A4 := A_ A40
  clear A40
  simp only [Option.some.injEq, Prod.mk.injEq] at H
  obtain ⟨rfl, rfl⟩ := H
  go_enter Try.func45, Try.ntmps45
  go_wp2_with (first | (refine gd_ 1 ?_; refine bx_ 1 #[.int .i64 a0_0, .int .i64 a0_1, .slice A0_2 l0_2.length c0_2] 26 ?_; intro gb881 hg w5 hbox hb; have BK881 := A_ (hbox); have GW881 := A_ ((ts_ hg : w.heap.size ≤ gb881)); have GE881 := A_ ((ts_ hg : w.heap.size ≤ gb881)); replace HB := A_ (below_step tb_ hb); clear hb hbox hg; obtain ⟨hcz6_0, hcz6_1, hcz6_2, hfz6_0, hfz6_1, hfz6_2⟩ := cf3_ BK881.out) | (refine gc_ 93 ?_; refine goesT_ (some 5) Try.func93 #[.agg #[.int .i64 a0_0, .int .i64 a0_1, .slice A0_2 l0_2.length c0_2]] ?_; (with_reducible refine (impl_IsBoard.calls a0_0 a0_1 _ _ l0_2 true _ ?side1 ?side2 A2.out).mono ?_); (case side1 => exact tc_ HR0_2.out); (case side2 => exact HC0_2.out); rintro e w7 ⟨rfl, hb⟩; refine ⟨_, rfl, ?_⟩; replace BK881 := A_ (blk_below (g := gb881) (o := .cells #[.int .i64 a0_0, .int .i64 a0_1, .slice A0_2 l0_2.length c0_2] 26 (0, 0)) (tk_ BK881) hb); replace HB := A_ (below_step tb_ hb); (try clear hb); obtain ⟨hcz8_0, hcz8_1, hcz8_2, hfz8_0, hfz8_1, hfz8_2⟩ := cf3_ BK881.out) | (refine gc_ 107 ?_; refine goesT_ (some 8) Try.func107 #[.agg #[.int .i64 a0_0, .int .i64 a0_1, .slice A0_2 l0_2.length c0_2]] ?_; (with_reducible refine (impl_Board_kings.calls k a0_0 a0_1 _ _ l0_2 t883 _ ?side1 ?side2 A4.out).mono ?_); (case side1 => exact tc_ HR0_2.out); (case side2 => exact HC0_2.out); rintro e w9 ⟨v884, rfl, ho0, hb⟩; refine ⟨_, rfl, ?_⟩; have HO885 := A_ (Kd.R_lower ho0 (below_size tb_)); replace BK881 := A_ (blk_below (g := gb881) (o := .cells #[.int .i64 a0_0, .int .i64 a0_1, .slice A0_2 l0_2.length c0_2] 26 (0, 0)) (tk_ BK881) hb); replace HB := A_ (below_step tb_ hb); (try clear hb); (try clear ho0)))
  go_ret2
  exact ⟨_, te_, tr_x HO885.out, tb_⟩
 ·
  replace c3 := Bool.eq_false_iff.mpr c3
  subst c3
  have H1 : (some (([] : List Int), false)) = some (r1, r2) := by rw [if_neg (show ¬ (false = true) by decide)] at H; exact H
  clear H
  have H := H1
  clear H1
  simp only [Option.some.injEq, Prod.mk.injEq] at H
  obtain ⟨rfl, rfl⟩ := H
  go_enter Try.func45, Try.ntmps45
  go_wp2_with (first | (refine gd_ 1 ?_; refine bx_ 1 #[.int .i64 a0_0, .int .i64 a0_1, .slice A0_2 l0_2.length c0_2] 26 ?_; intro gb881 hg w10 hbox hb; have BK881 := A_ (hbox); have GW881 := A_ ((ts_ hg : w.heap.size ≤ gb881)); have GE881 := A_ ((ts_ hg : w.heap.size ≤ gb881)); replace HB := A_ (below_step tb_ hb); clear hb hbox hg; obtain ⟨hcz11_0, hcz11_1, hcz11_2, hfz11_0, hfz11_1, hfz11_2⟩ := cf3_ BK881.out) | (refine gc_ 93 ?_; refine goesT_ (some 5) Try.func93 #[.agg #[.int .i64 a0_0, .int .i64 a0_1, .slice A0_2 l0_2.length c0_2]] ?_; (with_reducible refine (impl_IsBoard.calls a0_0 a0_1 _ _ l0_2 false _ ?side1 ?side2 A2.out).mono ?_); (case side1 => exact tc_ HR0_2.out); (case side2 => exact HC0_2.out); rintro e w12 ⟨rfl, hb⟩; refine ⟨_, rfl, ?_⟩; replace BK881 := A_ (blk_below (g := gb881) (o := .cells #[.int .i64 a0_0, .int .i64 a0_1, .slice A0_2 l0_2.length c0_2] 26 (0, 0)) (tk_ BK881) hb); replace HB := A_ (below_step tb_ hb); (try clear hb)))
  go_ret2
  exact ⟨_, te_, by first | exact Kd.R_nil _ _ _ _ _ | exact Kd.N_nil _ _ _ _ _ | exact Kd.V_nil _ _ _ _ _ | exact Kd.Q_nil _ _ _ _ _ | exact Kd.S_nil _ _ _ _ _, tb_⟩

end
end Go.Proofs.Ythlcaikplebpmaa.P
