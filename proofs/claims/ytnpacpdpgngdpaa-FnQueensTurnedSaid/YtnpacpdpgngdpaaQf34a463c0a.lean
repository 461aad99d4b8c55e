-- printed functions (wip/slim.py)
import Derived.Test.YtnpacpdpgngdpaaPx0
import Derived.Test.YtnpacpdpgngdpaaQc74da3dc26
namespace Go.Proofs.Ytnpacpdpgngdpaa.P
noncomputable section
set_option maxHeartbeats 8000000
set_option maxRecDepth 100000
open Go.RowKit Go.Proofs.YtnpacpdpgngdpaaW.PrintWords Go.Proofs.YtnpacpdpgngdpaaW.PrintLast Go.Proofs.YtnpacpdpgngdpaaW.PrintMore
attribute [local go_sem] max2_int min2_int max_two min_two max_three min_three max_four min_four   -- for this text's walks alone
set_option linter.unusedVariables false
set_option linter.unusedSimpArgs false

/-! ### spec_l1Cur_order4: function 245 -/
mutual
def spec_l1Cur_order4.l0 : Nat → Int → List Int → Int → List Int → Int → Int → Option (List Int × Int × Int)
 | 0, _, _, _, _, _, _ => none
 | k + 1, x1, x5, x6, x1000, x1001, x1002 => if x6 < x1 then ((spec_l1Cur_pick.f x1000 x1001 x1002 (wrap64 (x6 + 1))).bind fun bt901 => (if 0 ≤ bt901.1 then (if bt901.1 ≤ (x5.length : Int) then ((spec_l1Own.f (x5.take (bt901.1 : Int).toNat)).bind fun t908 => (if t908.length < 17592186044416 then ((some (t908 ++ [x6] : List Int)).bind fun y911 => ((some (x5.drop (bt901.1 : Int).toNat : List Int)).bind fun y914 => (if y911.length + y914.length < 17592186044416 then (spec_l1Cur_order4.l0 k x1 (y911 ++ y914) (wrap64 (x6 + 1)) x1000 bt901.2.1 bt901.2.2) else (none)))) else (none))) else (none)) else (none))) else (if (x5.length : Int) > 0 then ((spec_l1Cur_one.f x1000 x1001 x1002 15).bind fun bt921 => (spec_l1Cur_order4.j1 k x1 x5 bt921.1 x1000 bt921.2.1 bt921.2.2)) else (spec_l1Cur_order4.j1 k x1 x5 false x1000 x1001 x1002))
def spec_l1Cur_order4.j1 : Nat → Int → List Int → Bool → List Int → Int → Int → Option (List Int × Int × Int)
 | 0, _, _, _, _, _, _ => none
 | k + 1, x1, x5, x36, x1000, x1001, x1002 => if x36 = true then ((spec_l1Cur_pick.f x1000 x1001 x1002 (x5.length : Int)).bind fun bt924 => ((spec_l1Cur_among.f x1000 bt924.2.1 bt924.2.2 (([(-1), 0, x1, 4611686018427387904] : List Int))).bind fun bt930 => (if 0 ≤ bt924.1 then (if bt924.1 < (x5.length : Int) then (some ((x5.set (bt924.1 : Int).toNat bt930.1), bt930.2.1, bt930.2.2)) else (none)) else (none)))) else (some (x5, x1001, x1002))
end
def spec_l1Cur_order4.f (k : Nat) (s0_0 : List Int) (s0_1 : Int) (s0_2 : Int) (a1 : Int) : Option (List Int × Int × Int) := spec_l1Cur_order4.l0 k a1 ([] : List Int) 0 s0_0 s0_1 s0_2
theorem spec_l1Cur_order4.mono_l : ∀ k, (∀ y0 y1 y2 y3 y4 y5, LeO (spec_l1Cur_order4.l0 k y0 y1 y2 y3 y4 y5) (spec_l1Cur_order4.l0 (k + 1) y0 y1 y2 y3 y4 y5)) ∧ (∀ y0 y1 y2 y3 y4 y5, LeO (spec_l1Cur_order4.j1 k y0 y1 y2 y3 y4 y5) (spec_l1Cur_order4.j1 (k + 1) y0 y1 y2 y3 y4 y5))
 | 0 => ⟨fun _ _ _ _ _ _ r h => by simp [spec_l1Cur_order4.l0] at h, fun _ _ _ _ _ _ r h => by simp [spec_l1Cur_order4.j1] at h⟩
 | k + 1 => by
  obtain ⟨ih0, ih1⟩ := spec_l1Cur_order4.mono_l k
  refine ⟨?_, ?_⟩
  ·
   intro y0 y1 y2 y3 y4 y5
   unfold spec_l1Cur_order4.l0
   repeat' first | (with_reducible first | exact ih0 _ _ _ _ _ _ | exact ih1 _ _ _ _ _ _ | exact LeO.refl _ | exact LeO.none _ | refine LeO.ite ?_ ?_ | refine LeO.bind ?_ (fun _ => ?_)) | exact ih0 _ _ _ _ _ _ | exact ih1 _ _ _ _ _ _ | exact LeO.none _ | refine LeO.ite ?_ ?_ | refine LeO.bind ?_ (fun _ => ?_)
  ·
   intro y0 y1 y2 y3 y4 y5
   unfold spec_l1Cur_order4.j1
   repeat' first | (with_reducible first | exact ih0 _ _ _ _ _ _ | exact ih1 _ _ _ _ _ _ | exact LeO.refl _ | exact LeO.none _ | refine LeO.ite ?_ ?_ | refine LeO.bind ?_ (fun _ => ?_)) | exact ih0 _ _ _ _ _ _ | exact ih1 _ _ _ _ _ _ | exact LeO.none _ | refine LeO.ite ?_ ?_ | refine LeO.bind ?_ (fun _ => ?_)
theorem spec_l1Cur_order4.mono : ∀ a0 a1 a2 a3 k, LeO (spec_l1Cur_order4.f k a0 a1 a2 a3) (spec_l1Cur_order4.f (k + 1) a0 a1 a2 a3) := by
 intro a0 a1 a2 a3 k
 obtain ⟨ih0, ih1⟩ := spec_l1Cur_order4.mono_l k
 unfold spec_l1Cur_order4.f
 repeat' first | (with_reducible first | exact ih0 _ _ _ _ _ _ | exact ih1 _ _ _ _ _ _ | exact LeO.refl _ | exact LeO.none _ | refine LeO.ite ?_ ?_ | refine LeO.bind ?_ (fun _ => ?_)) | exact ih0 _ _ _ _ _ _ | exact ih1 _ _ _ _ _ _ | exact LeO.none _ | refine LeO.ite ?_ ?_ | refine LeO.bind ?_ (fun _ => ?_)
theorem spec_l1Cur_order4.calls (k : Nat) (g : Nat) (s0_0 : List Int) (s0_1 : Int) (s0_2 : Int) (a1 : Int) (r1 : List Int) (r2 : Int) (r3 : Int) (w0 w : World) (hI : IsS122 w0 w g s0_0 s0_1 s0_2) (hB : Below w0.heap.size w0 w) (h : spec_l1Cur_order4.f k s0_0 s0_1 s0_2 a1 = some (r1, r2, r3)) :
  Calls Try.prog 245 #[.pointer (some ⟨g, 0, none⟩), .int .i64 a1] w fun e w' => ∃ v0_ : Value, e = .returned (v0_) ∧ Kd.R (Kd.int .i64) 3 w' w.heap.size (fun _ => True) v0_ r1 ∧ IsS122 w0 w' g s0_0 r2 r3 ∧ Below w0.heap.size w0 w' ∧ KeepBut w w' g none := by
 have HI0 := A_ hI
 have HK := A_ (KeepBut.refl w g none)
 have HL := A_ hB.size
 clear hI
 have HW0 := A_ hB.size
 have HB := A_ hB
 clear hB
 have H : (spec_l1Cur_order4.l0 k a1 ([] : List Int) 0 s0_0 s0_1 s0_2) = some (r1, r2, r3) := h
 clear h
 have H' := A_ H
 clear H
 go_enter Try.func245, Try.ntmps245
 go_wp2
 go_loopg [5, 6] k (fun kq v5 v6 w' => ∃ (x5_1 : List Int) (x6_1 : Int) (x1001_1 : Int) (x1002_1 : Int), v6 = .int .i64 x6_1 ∧ Aside0 (spec_l1Cur_order4.l0 kq a1 x5_1 x6_1 s0_0 x1001_1 x1002_1 = some (r1, r2, r3)) ∧ Aside0 (kq ≤ k) ∧ Aside0 (Kd.R (Kd.int .i64) 3 w' w.heap.size (fun _ => True) v5 x5_1) ∧ Aside0 (IsS122 w0 w' g s0_0 x1001_1 x1002_1) ∧ Aside0 (KeepBut w w' g none) ∧ Aside0 (Below w0.heap.size w0 w'))
 case atStart => exact ⟨(([] : List Int)), (0), (s0_1), (s0_2), tf_, H', ⟨Nat.le_refl _⟩, ⟨by first | exact Kd.R_nil _ _ _ _ _ | exact Kd.N_nil _ _ _ _ _ | exact Kd.V_nil _ _ _ _ _ | exact Kd.Q_nil _ _ _ _ _ | exact Kd.S_nil _ _ _ _ _⟩, ⟨by repeat (first | (with_reducible first | exact HI0.out | apply IsS122.alloc | apply IsS122.drewN | apply IsS122.drew | apply IsS122.set_1 | apply IsS122.set_2) | exact HI0.out)⟩, ⟨by repeat (first | (with_reducible first | exact HK.out | apply KeepBut.set_ | apply keep_drewN | apply keep_drew | apply keep_alloc) | exact HK.out)⟩, ⟨by repeat (first | (with_reducible first | exact HB.out | apply below_alloc | apply pw_below_drewN | apply below_drew1 | refine below_set ?_ (IsS122.ge HI0.out)) | exact HB.out)⟩⟩
 case round =>
  clear H'
  try clear c2
  try clear p2
  obtain ⟨x5_1, x6_1, x1001_1, x1002_1, rfl, HA, HK1, HO_5, HI0, HK, HB⟩ := hrel
  cases gk with
  | zero => exact absurd HA.out (by simp [spec_l1Cur_order4.l0])
  | succ k1 =>
   have H := HA.out
   clear HA
   simp only [spec_l1Cur_order4.l0] at H
   by_cases c3 : x6_1 < a1
   ·
    rw [if_pos c3] at H
    have c3b0 := decide_eq_true c3
    clear c3
    replace H := Option.bind_eq_some_iff.mp H
    obtain ⟨⟨t901, t902, t903⟩, A40, H⟩ := H
    replace H : (if 0 ≤ t901 then (if t901 ≤ (x5_1.length : Int) then ((spec_l1Own.f (x5_1.take (t901 : Int).toNat)).bind fun t908 => (if t908.length < 17592186044416 then ((some (t908 ++ [x6_1] : List Int)).bind fun y911 => ((some (x5_1.drop (t901 : Int).toNat : List Int)).bind fun y914 => (if y911.length + y914.length < 17592186044416 then (spec_l1Cur_order4.l0 k1 a1 (y911 ++ y914) (wrap64 (x6_1 + 1)) s0_0 t902 t903) else (none)))) else (none))) else (none)) else (none)) = some (r1, r2, r3) := H
    have A4 := A_ A40
    clear A40
    by_cases c5 : 0 ≤ t901
    ·
     rw [if_pos c5] at H
     have c5b0 := eq_true c5
     have c5b1 := decide_eq_true c5
     clear c5
     by_cases c6 : t901 ≤ (x5_1.length : Int)
     ·
      rw [if_pos c6] at H
      have c6b0 := eq_true c6
      have c6b1 := decide_eq_true c6
      clear c6
      obtain ⟨y904, hy904⟩ : ∃ y_ : List Int, y_ = (x5_1.take (t901 : Int).toNat) := ⟨_, rfl⟩
      replace H : ((spec_l1Own.f y904).bind fun t908 => (if t908.length < 17592186044416 then ((some (t908 ++ [x6_1] : List Int)).bind fun y911 => ((some (x5_1.drop (t901 : Int).toNat : List Int)).bind fun y914 => (if y911.length + y914.length < 17592186044416 then (spec_l1Cur_order4.l0 k1 a1 (y911 ++ y914) (wrap64 (x6_1 + 1)) s0_0 t902 t903) else (none)))) else (none))) = some (r1, r2, r3) := ty_ hy904 H
      have Ny904 := A_ hy904
      clear hy904
      replace H := Option.bind_eq_some_iff.mp H
      obtain ⟨t908, A70, H⟩ := H
      replace H : (if t908.length < 17592186044416 then ((some (t908 ++ [x6_1] : List Int)).bind fun y911 => ((some (x5_1.drop (t901 : Int).toNat : List Int)).bind fun y914 => (if y911.length + y914.length < 17592186044416 then (spec_l1Cur_order4.l0 k1 a1 (y911 ++ y914) (wrap64 (x6_1 + 1)) s0_0 t902 t903) else (none)))) else (none)) = some (r1, r2, r3) := H
      have A7 := A_ A70
      clear A70
      by_cases c8 : t908.length < 17592186044416
      ·
       rw [if_pos c8] at H
       have LMc8 := A_ c8
       clear c8
       obtain ⟨y911, hy911⟩ : ∃ y_ : List Int, y_ = (t908 ++ [x6_1]) := ⟨_, rfl⟩
       replace H : ((some (x5_1.drop (t901 : Int).toNat : List Int)).bind fun y914 => (if y911.length + y914.length < 17592186044416 then (spec_l1Cur_order4.l0 k1 a1 (y911 ++ y914) (wrap64 (x6_1 + 1)) s0_0 t902 t903) else (none))) = some (r1, r2, r3) := ty_ hy911 H
       have Ny911 := A_ hy911
       clear hy911
       have c9b0 := eq_true (od_ : 0 ≤ t901)
       have c10b0 := eq_true (od_ : t901 ≤ (x5_1.length : Int))
       obtain ⟨y914, hy914⟩ : ∃ y_ : List Int, y_ = (x5_1.drop (t901 : Int).toNat) := ⟨_, rfl⟩
       replace H : (if y911.length + y914.length < 17592186044416 then (spec_l1Cur_order4.l0 k1 a1 (y911 ++ y914) (wrap64 (x6_1 + 1)) s0_0 t902 t903) else (none)) = some (r1, r2, r3) := ty_ hy914 H
       have Ny914 := A_ hy914
       clear hy914
       by_cases c11 : y911.length + y914.length < 17592186044416
       ·
        rw [if_pos c11] at H
        have LMc11 := A_ c11
        clear c11
        obtain ⟨y918, hy918⟩ : ∃ y_ : List Int, y_ = (y911 ++ y914) := ⟨_, rfl⟩
        replace H : (spec_l1Cur_order4.l0 k1 a1 y918 (wrap64 (x6_1 + 1)) s0_0 t902 t903) = some (r1, r2, r3) := ty_ hy918 H
        have Ny918 := A_ hy918
        clear hy918
        have H' := A_ H
        clear H
        go_wp2_with (first | (refine gc_ 164 ?_; refine goesT_ (some 17) Try.func164 #[.pointer (some ⟨g, 0, none⟩), .int .i64 (wrap64 (x6_1 + 1))] ?_; (with_reducible refine (spec_l1Cur_pick.calls g s0_0 x1001_1 x1002_1 (wrap64 (x6_1 + 1)) t901 t902 t903 w0 _ ?side1 ?side2 A4.out).mono ?_); (case side1 => repeat (first | (with_reducible first | exact HI0.out | apply IsS122.alloc | apply IsS122.drewN | apply IsS122.drew | apply IsS122.set_1 | apply IsS122.set_2) | exact HI0.out)); (case side2 => repeat (first | (with_reducible first | exact HB.out | apply below_alloc | apply pw_below_drewN | apply below_drew1 | refine below_set ?_ (IsS122.ge HI0.out)) | exact HB.out)); rintro e w12 ⟨rfl, hi, hb, hk⟩; refine ⟨_, rfl, ?_⟩; replace HO_5 := A_ (Kd.R_mono (Kd.R_keep (IsS122.apart (show IsS122 w0 _ g s0_0 x1001_1 x1002_1 from by repeat (first | (with_reducible first | exact HI0.out | apply IsS122.alloc | apply IsS122.drewN | apply IsS122.drew | apply IsS122.set_1 | apply IsS122.set_2) | exact HI0.out)) (tr_x HO_5.out) (by decide)) hk (fun _ h => h.2)) (fun _ h => h.1)); replace HK := A_ (KeepBut.trans (by repeat (first | (with_reducible first | exact HK.out | apply KeepBut.set_ | apply keep_drewN | apply keep_drew | apply keep_alloc) | exact HK.out)) hk (.inl rfl)); replace HB := A_ (hb); replace HI0 := A_ (hi); (try clear hb); (try clear hb2); (try clear hk); (try clear hi); obtain ⟨Ao14, co14, eo14⟩ := Kd.R_slice HO_5.out; subst eo14; have q13 : (t901 : Int) ≤ ((x5_1.length : Int) : Int) := od_; obtain ⟨i013, hi013, _, hsz13, _⟩ := info_parts info3; have hroom13 : x5_1.length ≤ co14 := (Kd.R_reads' HO_5.out).2.1; have hC13 : Kd.C (Kd.int .i64) _ Ao14 x5_1.length x5_1 := (Kd.R_reads' HO_5.out).2.2; have hcut13 := cut_to (P := Try.prog) 22 3 .i64 Try.underlying22 hi013 Ao14 x5_1.length co14 t901 (od_) q13 hroom13; have hr13 := Kd.C_take (m := (t901 : Int).toNat) hC13 (by omega); have hy13 : y904.length = (t901 : Int).toNat := (by rw [Ny904.out, List.length_take]; omega); rw [← Ny904.out] at hr13; rw [← hy13] at hcut13; have HR907 := A_ hr13; have HC907 := A_ (show y904.length ≤ co14 from by omega); clear hr13 hC13 hroom13 hi013 hsz13; have KY13 := A_ hy13; clear hy13; have KL13 := A_ (show (t901 : Int).toNat ≤ x5_1.length from by omega); replace q13 := eq_true q13) | (refine gc_ 150 ?_; refine goesT_ (some 21) Try.func150 #[.slice Ao14 y904.length co14] ?_; (with_reducible refine (spec_l1Own.calls _ _ y904 t908 _ ?side1 ?side2 A7.out).mono ?_); (case side1 => repeat (first | exact (by repeat (first | (with_reducible exact HR907.out) | (with_reducible refine Kd.C_alloc ?_ _) | (with_reducible refine Kd.C_drewN ?_ _) | (with_reducible refine Kd.C_drew ?_) | exact HR907.out)) | (with_reducible refine Kd.C_alloc ?_ _) | (with_reducible refine Kd.C_drewN ?_ _) | (with_reducible refine Kd.C_drew ?_))); (case side2 => exact HC907.out); rintro e w15 ⟨v909, rfl, ho0, hb⟩; refine ⟨_, rfl, ?_⟩; have HO910 := A_ (Kd.R_lower (Kd.R_new' ho0 (Kd.R_lt (tr_x HO_5.out))) (keep_size (w := w) (g := g) (row := none) (by repeat (first | (with_reducible first | exact HK.out | apply KeepBut.set_ | apply keep_drewN | apply keep_drew | apply keep_alloc) | exact HK.out)))); replace HO_5 := A_ (Kd.R_elder' (tr_x HO_5.out) (Kd.R_base ho0) hb); replace HR907 := A_ (Kd.C_below (by repeat (first | (with_reducible exact HR907.out) | (with_reducible refine Kd.C_alloc ?_ _) | (with_reducible refine Kd.C_drewN ?_ _) | (with_reducible refine Kd.C_drew ?_) | exact HR907.out)) hb); replace HK := A_ (KeepBut.trans (by repeat (first | (with_reducible first | exact HK.out | apply KeepBut.set_ | apply keep_drewN | apply keep_drew | apply keep_alloc) | exact HK.out)) (KeepBut.of_below hb g none) (.inl rfl)); replace HB := A_ (below_step (by repeat (first | (with_reducible first | exact HB.out | apply below_alloc | apply pw_below_drewN | apply below_drew1 | refine below_set ?_ (IsS122.ge HI0.out)) | exact HB.out)) hb); replace HI0 := A_ (IsS122.below (by repeat (first | (with_reducible first | exact HI0.out | apply IsS122.alloc | apply IsS122.drewN | apply IsS122.drew | apply IsS122.set_1 | apply IsS122.set_2) | exact HI0.out)) hb); (try clear hb); (try clear hb2); (try clear hk); (try clear hi); (try clear ho0)) | ((with_reducible refine gate_builtin (b := .append) (xs := #[.tmp 21, .tmp 23]) rfl ?_); at_builtin; refine Kd.R_append (Kd.int .i64) w.heap.size rfl (.tmp 21) (.tmp 23) 22 3 (.int .i64 0) 8 rfl Try.underlying22 info3 rfl (by decide) (by omega) v909 t908 x6_1 [.int .i64 x6_1] (fun k_ => some k_ ≠ (.slice Ao14 x5_1.length co14 : Value).ownBlock) (fun _ => False) rfl rfl ?aP (fun _ hk => hk.elim) ?aF ?aO (Below.refl _ _) ?aS ?aL ?_; (case aP => exact rfl); (case aF => exact (fun k_ hk => Kd.fresh' (Kd.R_lt (tr_x HO_5.out)) k_ hk)); (case aO => exact (tr_ (h := by exact Kd.R_mono HO910.out (fun _ hk => hk.2)))); (case aS => exact (keep_size (w := w) (g := g) (row := none) (by repeat (first | (with_reducible first | exact HK.out | apply KeepBut.set_ | apply keep_drewN | apply keep_drew | apply keep_alloc) | exact HK.out)))); (case aL => have := LMc8.out; omega); intro v912 w16 ho hb hg hat; rw [← Ny911.out] at ho; have n0_ := A_ (Kd.R_after (ok := (fun _ => True)) (tr_x HO_5.out) hg hat); have n1_ := A_ (IsS122.grown (by repeat (first | (with_reducible first | exact HI0.out | apply IsS122.alloc | apply IsS122.drewN | apply IsS122.drew | apply IsS122.set_1 | apply IsS122.set_2) | exact HI0.out)) hg (IsS122.own_ne HI0.out HO910.out (by decide))); have n2_ := A_ (below_weaken (by repeat (first | (with_reducible first | exact HB.out | apply below_alloc | apply pw_below_drewN | apply below_drew1 | refine below_set ?_ (IsS122.ge HI0.out)) | exact HB.out)) HL.out hb); have n3_ := A_ (KeepBut.trans (by repeat (first | (with_reducible first | exact HK.out | apply KeepBut.set_ | apply keep_drewN | apply keep_drew | apply keep_alloc) | exact HK.out)) (KeepBut.of_grown hg g) (Kd.R_base2 HO910.out)); have n4_ := A_ ((show Kd.C (Kd.int .i64) w16 Ao14 y904.length y904 from by rw [Ny904.out]; exact Kd.C_take (m := (t901 : Int).toNat) ((Kd.R_reads' (Kd.R_after (ok := (fun _ => True)) (tr_x HO_5.out) hg hat)).2.2) KL13.out)); have n5_ := A_ (ho); clear HO_5; clear HI0; clear HB; clear HK; clear HR907; clear HO910; have HO_5 := n0_; have HI0 := n1_; have HB := n2_; have HK := n3_; have HR907 := n4_; have HO913 := n5_; clear n0_ n1_ n2_ n3_ n4_ n5_; clear ho hb hg hat; have q17 : (t901 : Int) ≤ ((x5_1.length : Int) : Int) := od_; obtain ⟨i017, hi017, _, hsz17, _⟩ := info_parts info3; have hroom17 : x5_1.length ≤ co14 := (Kd.R_reads' HO_5.out).2.1; have hC17 : Kd.C (Kd.int .i64) _ Ao14 x5_1.length x5_1 := (Kd.R_reads' HO_5.out).2.2; have q017 : (0 : Int) ≤ (t901 : Int) := od_; have hcut17 := cut_from (P := Try.prog) 22 3 .i64 Try.underlying22 hi017 1 hsz17 Ao14 x5_1.length co14 t901 q017 q17; have hr17 := Kd.C_drop (m := (t901 : Int).toNat) (c := co14) hC17 (by omega) hroom17; obtain ⟨A17, hA17⟩ : ∃ A1, A1 = (if co14 = (t901 : Int).toNat then Ao14 else (Ao14 : Option Addr).map (·.add ((t901 : Int).toNat * 1))) := ⟨_, rfl⟩; obtain ⟨c17, hc17⟩ : ∃ c1, c1 = co14 - (t901 : Int).toNat := ⟨_, rfl⟩; have hy17 : y914.length = x5_1.length - (t901 : Int).toNat := (by rw [Ny914.out, List.length_drop] <;> omega); rw [show (x5_1).drop (t901 : Int).toNat = y914 from Ny914.out.symm] at hr17; replace hr17 : Kd.C (Kd.int .i64) _ A17 y914.length y914 := (by rw [hA17]; exact hr17); rw [← hy17, ← hA17, ← hc17] at hcut17; have HR917 := A_ hr17; have HC917 := A_ (show y914.length ≤ c17 from by rw [hy17, hc17]; exact Nat.sub_le_sub_right hroom17 _); clear hr17 hC17 hroom17 hi017 hsz17 hc17; have KY17 := A_ hy17; have KA17 := A_ hA17; clear hy17 hA17; have KL17 := A_ (show (t901 : Int).toNat ≤ x5_1.length from by omega); replace q17 := eq_true q17) | ((with_reducible refine gate_builtin (b := .append) (xs := #[.tmp 25, .tmp 28]) rfl ?_); at_builtin; refine Kd.R_append_rows (Kd.int .i64) w.heap.size rfl (.tmp 25) (.tmp 28) 22 3 (.int .i64 0) 8 rfl Try.underlying22 info3 rfl (by decide) (by omega) v912 y911 y914 _ _ _ (fun k_ => some k_ ≠ (.slice Ao14 x5_1.length co14 : Value).ownBlock) (fun _ => False) rfl rfl ?aO ?aR (fun _ _ h => h) (fun _ h => h.elim) ?aF (Below.refl _ _) ?aS ?aL ?_; (case aR => repeat (first | exact (by repeat (first | (with_reducible exact HR917.out) | (with_reducible refine Kd.C_alloc ?_ _) | (with_reducible refine Kd.C_drewN ?_ _) | (with_reducible refine Kd.C_drew ?_) | exact HR917.out)) | (with_reducible refine Kd.C_alloc ?_ _) | (with_reducible refine Kd.C_drewN ?_ _) | (with_reducible refine Kd.C_drew ?_))); (case aF => exact (fun k_ hk => Kd.fresh' (Kd.R_lt (tr_x HO_5.out)) k_ hk)); (case aO => exact (tr_x HO913.out)); (case aS => exact (keep_size (w := w) (g := g) (row := none) (by repeat (first | (with_reducible first | exact HK.out | apply KeepBut.set_ | apply keep_drewN | apply keep_drew | apply keep_alloc) | exact HK.out)))); (case aL => have := LMc11.out; omega); intro v919 w18 ho hb hg hat; rw [← Ny918.out] at ho; have n0_ := A_ (Kd.R_after (ok := (fun _ => True)) (tr_x HO_5.out) hg hat); have n1_ := A_ (IsS122.grown (by repeat (first | (with_reducible first | exact HI0.out | apply IsS122.alloc | apply IsS122.drewN | apply IsS122.drew | apply IsS122.set_1 | apply IsS122.set_2) | exact HI0.out)) hg (IsS122.own_ne HI0.out HO913.out (by decide))); have n2_ := A_ (below_weaken (by repeat (first | (with_reducible first | exact HB.out | apply below_alloc | apply pw_below_drewN | apply below_drew1 | refine below_set ?_ (IsS122.ge HI0.out)) | exact HB.out)) HL.out hb); have n3_ := A_ (KeepBut.trans (by repeat (first | (with_reducible first | exact HK.out | apply KeepBut.set_ | apply keep_drewN | apply keep_drew | apply keep_alloc) | exact HK.out)) (KeepBut.of_grown hg g) (Kd.R_base2 HO913.out)); have n4_ := A_ ((show Kd.C (Kd.int .i64) w18 Ao14 y904.length y904 from by rw [Ny904.out]; exact Kd.C_take (m := (t901 : Int).toNat) ((Kd.R_reads' (Kd.R_after (ok := (fun _ => True)) (tr_x HO_5.out) hg hat)).2.2) KL13.out)); have n5_ := A_ ((show Kd.C (Kd.int .i64) w18 A17 y914.length y914 from by rw [Ny914.out, KA17.out]; exact Kd.C_drop (m := (t901 : Int).toNat) (c := co14) ((Kd.R_reads' (Kd.R_after (ok := (fun _ => True)) (tr_x HO_5.out) hg hat)).2.2) KL17.out ((Kd.R_reads' (Kd.R_after (ok := (fun _ => True)) (tr_x HO_5.out) hg hat)).2.1))); have n6_ := A_ (ho); clear HO_5; clear HI0; clear HB; clear HK; clear HR907; clear HR917; clear HO913; have HO_5 := n0_; have HI0 := n1_; have HB := n2_; have HK := n3_; have HR907 := n4_; have HR917 := n5_; have HO920 := n6_; clear n0_ n1_ n2_ n3_ n4_ n5_ n6_; clear ho hb hg hat))
        go_roundg k1
        case measure => have := HK1.out; omega
        case rel => exact ⟨(y918), (wrap64 (x6_1 + 1)), (t902), (t903), tf_, H', ⟨by have := HK1.out; omega⟩, ⟨by (with_reducible repeat (first | apply Kd.R_alloc | apply Kd.R_drewN | apply Kd.R_drew)); exact Kd.R_mono HO920.out (fun _ hk => trivial)⟩, ⟨by repeat (first | (with_reducible first | exact HI0.out | apply IsS122.alloc | apply IsS122.drewN | apply IsS122.drew | apply IsS122.set_1 | apply IsS122.set_2) | exact HI0.out)⟩, ⟨by repeat (first | (with_reducible first | exact HK.out | apply KeepBut.set_ | apply keep_drewN | apply keep_drew | apply keep_alloc) | exact HK.out)⟩, ⟨by repeat (first | (with_reducible first | exact HB.out | apply below_alloc | apply pw_below_drewN | apply below_drew1 | refine below_set ?_ (IsS122.ge HI0.out)) | exact HB.out)⟩⟩
       ·
        rw [if_neg c11] at H
        exact absurd H (by simp)
      ·
       rw [if_neg c8] at H
       exact absurd H (by simp)
     ·
      rw [if_neg c6] at H
      exact absurd H (by simp)
    ·
     rw [if_neg c5] at H
     exact absurd H (by simp)
   ·
    rw [if_neg c3] at H
    have c3b0 := decide_eq_false c3
    clear c3
    have HC19 := A_ H
    clear H
    go_upto_region 8 with (fail)
    go_cut [36] (fun v36 wc => ∃ (kq : Nat) (x36_18 : Bool) (x1001_18 : Int) (x1002_18 : Int), v36 = .bool x36_18 ∧ Aside0 (spec_l1Cur_order4.j1 kq a1 x5_1 x36_18 s0_0 x1001_18 x1002_18 = some (r1, r2, r3)) ∧ Aside0 (kq ≤ k1) ∧ Aside0 (Kd.R (Kd.int .i64) 3 wc w.heap.size (fun _ => True) u5 x5_1) ∧ Aside0 (IsS122 w0 wc g s0_0 x1001_18 x1002_18) ∧ Aside0 (KeepBut w wc g none) ∧ Aside0 (Below w0.heap.size w0 wc))
    case first =>
     have H := HC19.out
     clear HC19
     by_cases c20 : (x5_1.length : Int) > 0
     ·
      rw [if_pos c20] at H
      have c20b0 := decide_eq_true c20
      have c20b1 : decide (0 < x5_1.length) = true := decide_eq_true (by omega)
      clear c20
      (first | rw [c20b0] | (simp only [i64_w, i32_w]; rw [c20b0]) | skip)
      replace H := Option.bind_eq_some_iff.mp H
      obtain ⟨⟨t921, t922, t923⟩, A210, H⟩ := H
      replace H : (spec_l1Cur_order4.j1 k1 a1 x5_1 t921 s0_0 t922 t923) = some (r1, r2, r3) := H
      have A21 := A_ A210
      clear A210
      have H' := A_ H
      clear H
      obtain ⟨Ao22, co22, eo22⟩ := Kd.R_slice HO_5.out
      subst eo22
      go_wp2_with (first | (go_at_call 166; (with_reducible refine (spec_l1Cur_one.calls g s0_0 x1001_1 x1002_1 15 t921 t922 t923 w0 _ ?side1 ?side2 A21.out).mono ?_); (case side1 => repeat (first | (with_reducible first | exact HI0.out | apply IsS122.alloc | apply IsS122.drewN | apply IsS122.drew | apply IsS122.set_1 | apply IsS122.set_2) | exact HI0.out)); (case side2 => repeat (first | (with_reducible first | exact HB.out | apply below_alloc | apply pw_below_drewN | apply below_drew1 | refine below_set ?_ (IsS122.ge HI0.out)) | exact HB.out)); rintro e w23 ⟨rfl, hi, hb, hk⟩; replace HO_5 := A_ (Kd.R_mono (Kd.R_keep (IsS122.apart (show IsS122 w0 _ g s0_0 x1001_1 x1002_1 from by repeat (first | (with_reducible first | exact HI0.out | apply IsS122.alloc | apply IsS122.drewN | apply IsS122.drew | apply IsS122.set_1 | apply IsS122.set_2) | exact HI0.out)) (tr_x HO_5.out) (by decide)) hk (fun _ h => h.2)) (fun _ h => h.1)); replace HK := A_ (KeepBut.trans (by repeat (first | (with_reducible first | exact HK.out | apply KeepBut.set_ | apply keep_drewN | apply keep_drew | apply keep_alloc) | exact HK.out)) hk (.inl rfl)); replace HB := A_ (hb); replace HI0 := A_ (hi); (try clear hb); (try clear hb2); (try clear hk); (try clear hi)))
      go_meet
      case rel => exact ⟨_, (t921), (t922), (t923), tf_, H', ⟨by have := HK1.out; first | omega | exact Nat.le_refl _⟩, ⟨tr_x HO_5.out⟩, ⟨by repeat (first | (with_reducible first | exact HI0.out | apply IsS122.alloc | apply IsS122.drewN | apply IsS122.drew | apply IsS122.set_1 | apply IsS122.set_2) | exact HI0.out)⟩, ⟨by repeat (first | (with_reducible first | exact HK.out | apply KeepBut.set_ | apply keep_drewN | apply keep_drew | apply keep_alloc) | exact HK.out)⟩, ⟨by repeat (first | (with_reducible first | exact HB.out | apply below_alloc | apply pw_below_drewN | apply below_drew1 | refine below_set ?_ (IsS122.ge HI0.out)) | exact HB.out)⟩⟩
     ·
      rw [if_neg c20] at H
      have c20b0 := decide_eq_false c20
      have c20b1 : decide (0 < x5_1.length) = false := decide_eq_false (by omega)
      clear c20
      (first | rw [c20b0] | (simp only [i64_w, i32_w]; rw [c20b0]) | skip)
      have H' := A_ H
      clear H
      obtain ⟨Ao24, co24, eo24⟩ := Kd.R_slice HO_5.out
      subst eo24
      go_wp2
      go_meet
      case rel => exact ⟨_, (false), (x1001_1), (x1002_1), tf_, H', ⟨by have := HK1.out; first | omega | exact Nat.le_refl _⟩, ⟨tr_x HO_5.out⟩, ⟨by repeat (first | (with_reducible first | exact HI0.out | apply IsS122.alloc | apply IsS122.drewN | apply IsS122.drew | apply IsS122.set_1 | apply IsS122.set_2) | exact HI0.out)⟩, ⟨by repeat (first | (with_reducible first | exact HK.out | apply KeepBut.set_ | apply keep_drewN | apply keep_drew | apply keep_alloc) | exact HK.out)⟩, ⟨by repeat (first | (with_reducible first | exact HB.out | apply below_alloc | apply pw_below_drewN | apply below_drew1 | refine below_set ?_ (IsS122.ge HI0.out)) | exact HB.out)⟩⟩
    case rest =>
     clear HC19
     try clear c1
     try clear q1
     try clear c2
     try clear p2
     try clear c3
     try clear c3b0
     try clear c5
     try clear c5b0
     try clear c5b1
     try clear c6
     try clear c6b0
     try clear c6b1
     try clear p6
     try clear c8
     try clear c9
     try clear c9b0
     try clear c10
     try clear c10b0
     try clear c11
     try clear q13
     try clear c15
     try clear c16
     try clear c17
     try clear q17
     try clear c20
     try clear c20b0
     try clear c20b1
     try clear c24
     try clear p2
     try clear q017
     try clear q13
     try clear q17
     obtain ⟨kq, x36_18, x1001_18, x1002_18, rfl, HA, HJ18, HO_5, HI0, HK, HB⟩ := hcut
     cases kq with
     | zero => exact absurd HA.out (by simp [spec_l1Cur_order4.j1])
     | succ kj18 =>
      have H := HA.out
      clear HA
      simp only [spec_l1Cur_order4.j1] at H
      by_cases c25 : x36_18 = true
      ·
       subst c25
       have H1 : ((spec_l1Cur_pick.f s0_0 x1001_18 x1002_18 (x5_1.length : Int)).bind fun bt924 => ((spec_l1Cur_among.f s0_0 bt924.2.1 bt924.2.2 (([(-1), 0, a1, 4611686018427387904] : List Int))).bind fun bt930 => (if 0 ≤ bt924.1 then (if bt924.1 < (x5_1.length : Int) then (some ((x5_1.set (bt924.1 : Int).toNat bt930.1), bt930.2.1, bt930.2.2)) else (none)) else (none)))) = some (r1, r2, r3) := by rw [if_pos rfl] at H; exact H
       clear H
       have H := H1
       clear H1
       replace H := Option.bind_eq_some_iff.mp H
       obtain ⟨⟨t924, t925, t926⟩, A260, H⟩ := H
       replace H : ((spec_l1Cur_among.f s0_0 t925 t926 (([(-1), 0, a1, 4611686018427387904] : List Int))).bind fun bt930 => (if 0 ≤ t924 then (if t924 < (x5_1.length : Int) then (some ((x5_1.set (t924 : Int).toNat bt930.1), bt930.2.1, bt930.2.2)) else (none)) else (none))) = some (r1, r2, r3) := H
       have A26 := A_ A260
       clear A260
       obtain ⟨y927, hy927⟩ : ∃ y_ : List Int, y_ = (([(-1), 0, a1, 4611686018427387904] : List Int)) := ⟨_, rfl⟩
       replace H : ((spec_l1Cur_among.f s0_0 t925 t926 y927).bind fun bt930 => (if 0 ≤ t924 then (if t924 < (x5_1.length : Int) then (some ((x5_1.set (t924 : Int).toNat bt930.1), bt930.2.1, bt930.2.2)) else (none)) else (none))) = some (r1, r2, r3) := ty_ hy927 H
       have Ny927 := A_ hy927
       clear hy927
       replace H := Option.bind_eq_some_iff.mp H
       obtain ⟨⟨t930, t931, t932⟩, A270, H⟩ := H
       replace H : (if 0 ≤ t924 then (if t924 < (x5_1.length : Int) then (some ((x5_1.set (t924 : Int).toNat t930), t931, t932)) else (none)) else (none)) = some (r1, r2, r3) := H
       have A27 := A_ A270
       clear A270
       by_cases c28 : 0 ≤ t924
       ·
        rw [if_pos c28] at H
        have c28b0 := decide_eq_true c28
        clear c28
        by_cases c29 : t924 < (x5_1.length : Int)
        ·
         rw [if_pos c29] at H
         have c29b0 := decide_eq_true c29
         clear c29
         obtain ⟨y933, hy933⟩ : ∃ y_ : List Int, y_ = (x5_1.set (t924 : Int).toNat t930) := ⟨_, rfl⟩
         replace H : (some (y933, t931, t932)) = some (r1, r2, r3) := ty_ hy933 H
         have Ny933 := A_ hy933
         clear hy933
         simp only [Option.some.injEq, Prod.mk.injEq] at H
         obtain ⟨rfl, rfl, rfl⟩ := H
         obtain ⟨Ao31, co31, eo31⟩ := Kd.R_slice HO_5.out
         subst eo31
         go_wp2_with (first | (refine gc_ 164 ?_; refine goesT_ (some 41) Try.func164 #[.pointer (some ⟨g, 0, none⟩), .int .i64 (x5_1.length : Int)] ?_; (with_reducible refine (spec_l1Cur_pick.calls g s0_0 x1001_18 x1002_18 (x5_1.length : Int) t924 t925 t926 w0 _ ?side1 ?side2 A26.out).mono ?_); (case side1 => repeat (first | (with_reducible first | exact HI0.out | apply IsS122.alloc | apply IsS122.drewN | apply IsS122.drew | apply IsS122.set_1 | apply IsS122.set_2) | exact HI0.out)); (case side2 => repeat (first | (with_reducible first | exact HB.out | apply below_alloc | apply pw_below_drewN | apply below_drew1 | refine below_set ?_ (IsS122.ge HI0.out)) | exact HB.out)); rintro e w32 ⟨rfl, hi, hb, hk⟩; refine ⟨_, rfl, ?_⟩; replace HO_5 := A_ (Kd.R_mono (Kd.R_keep (IsS122.apart (show IsS122 w0 _ g s0_0 x1001_18 x1002_18 from by repeat (first | (with_reducible first | exact HI0.out | apply IsS122.alloc | apply IsS122.drewN | apply IsS122.drew | apply IsS122.set_1 | apply IsS122.set_2) | exact HI0.out)) (tr_x HO_5.out) (by decide)) hk (fun _ h => h.2)) (fun _ h => h.1)); replace HK := A_ (KeepBut.trans (by repeat (first | (with_reducible first | exact HK.out | apply KeepBut.set_ | apply keep_drewN | apply keep_drew | apply keep_alloc) | exact HK.out)) hk (.inl rfl)); replace HB := A_ (hb); replace HI0 := A_ (hi); (try clear hb); (try clear hb2); (try clear hk); (try clear hi)) | (refine gd_ 44 ?_; refine Kd.R_lit (Kd.int .i64) _ 3 ?hg (N := 44) ?hd (xs := ([(-1), 0, a1, 4611686018427387904] : List Int)) (inner := [.int .i64 (-1), .int .i64 0, .int .i64 a1, .int .i64 4611686018427387904]) (ok := fun _ => True) (okp := fun _ => True) ?hr ?hp (fun _ hk => hk) trivial (Below.refl _ _) (Nat.le_refl _) (by simp) ?_; (case hd => rfl); (case hg => rfl); (case hr => first | (go_simp; done) | (go_simp; rfl)); (case hp => exact (Reps.one (show Kd.M (Kd.int .i64) _ _ _ (-1) [.int .i64 (-1)] from rfl) (Reps.one (show Kd.M (Kd.int .i64) _ _ _ 0 [.int .i64 0] from rfl) (Reps.one (show Kd.M (Kd.int .i64) _ _ _ a1 [.int .i64 a1] from rfl) (Reps.one (show Kd.M (Kd.int .i64) _ _ _ 4611686018427387904 [.int .i64 4611686018427387904] from rfl) (Reps.none _ _)))))); intro v928 w33 ho34 hb hg_ hnew_; clear hg_ hnew_; (first | rw [← Ny927.out] at ho34 | (simp only [Int.reduceToNat] at ho34; rw [← Ny927.out] at ho34)); have HO929 := A_ (Kd.R_lower (Kd.R_new' ho34 (Kd.R_lt (tr_x HO_5.out))) (keep_size (w := w) (g := g) (row := none) (by repeat (first | (with_reducible first | exact HK.out | apply KeepBut.set_ | apply keep_drewN | apply keep_drew | apply keep_alloc) | exact HK.out)))); replace HO_5 := A_ (Kd.R_elder' (tr_x HO_5.out) (Kd.R_base ho34) hb); replace HK := A_ (KeepBut.trans (by repeat (first | (with_reducible first | exact HK.out | apply KeepBut.set_ | apply keep_drewN | apply keep_drew | apply keep_alloc) | exact HK.out)) (KeepBut.of_below hb g none) (.inl rfl)); replace HB := A_ (below_step (by repeat (first | (with_reducible first | exact HB.out | apply below_alloc | apply pw_below_drewN | apply below_drew1 | refine below_set ?_ (IsS122.ge HI0.out)) | exact HB.out)) hb); replace HI0 := A_ (IsS122.below (by repeat (first | (with_reducible first | exact HI0.out | apply IsS122.alloc | apply IsS122.drewN | apply IsS122.drew | apply IsS122.set_1 | apply IsS122.set_2) | exact HI0.out)) hb); clear hb ho34; obtain ⟨Ao35, co35, eo35⟩ := Kd.R_slice HO929.out; subst eo35) | (refine gc_ 160 ?_; refine goesT_ (some 45) Try.func160 #[.pointer (some ⟨g, 0, none⟩), .slice Ao35 y927.length co35] ?_; (with_reducible refine (spec_l1Cur_among.calls g s0_0 t925 t926 _ _ y927 t930 t931 t932 w0 _ ?side1 ?side2 ?side3 ?side4 ?side5 A27.out).mono ?_); (case side1 => repeat (first | (with_reducible first | exact HI0.out | apply IsS122.alloc | apply IsS122.drewN | apply IsS122.drew | apply IsS122.set_1 | apply IsS122.set_2) | exact HI0.out)); (case side2 => repeat (first | (with_reducible first | exact HB.out | apply below_alloc | apply pw_below_drewN | apply below_drew1 | refine below_set ?_ (IsS122.ge HI0.out)) | exact HB.out)); (case side3 => exact tc0_ (Kd.R_reads' HO929.out).2.2); (case side4 => exact (Kd.R_reads' HO929.out).2.1); (case side5 => exact far_slice (IsS122.own_ne HI0.out HO929.out (by decide))); rintro e w36 ⟨rfl, hi, hb, hk⟩; refine ⟨_, rfl, ?_⟩; replace HO_5 := A_ (Kd.R_mono (Kd.R_keep (IsS122.apart (show IsS122 w0 _ g s0_0 t925 t926 from by repeat (first | (with_reducible first | exact HI0.out | apply IsS122.alloc | apply IsS122.drewN | apply IsS122.drew | apply IsS122.set_1 | apply IsS122.set_2) | exact HI0.out)) (tr_x HO_5.out) (by decide)) hk (fun _ h => h.2)) (fun _ h => h.1)); replace HO929 := A_ (Kd.R_mono (Kd.R_keep (IsS122.apart (show IsS122 w0 _ g s0_0 t925 t926 from by repeat (first | (with_reducible first | exact HI0.out | apply IsS122.alloc | apply IsS122.drewN | apply IsS122.drew | apply IsS122.set_1 | apply IsS122.set_2) | exact HI0.out)) (tr_x HO929.out) (by decide)) hk (fun _ h => h.2)) (fun _ h => h.1)); replace HK := A_ (KeepBut.trans (by repeat (first | (with_reducible first | exact HK.out | apply KeepBut.set_ | apply keep_drewN | apply keep_drew | apply keep_alloc) | exact HK.out)) hk (.inl rfl)); replace HB := A_ (hb); replace HI0 := A_ (hi); (try clear hb); (try clear hb2); (try clear hk); (try clear hi); have p30 : 0 ≤ (t924 : Int) := od_; have q30 : (t924 : Int) < ((x5_1.length : Int) : Int) := od_; obtain ⟨go30, co30, eo30, gb30, gl30, cl30, HG30⟩ := Kd.R_form HO_5.out (by omega); (first | cases eo30 | (injection eo30 with ea_ en_ ec_; (first | subst ea_ | (injection ea_ with ea_; subst ea_)); subst ec_; clear en_)); have GB30 := A_ gb30; have GG30 := A_ HG30; clear gb30 gl30 HG30; obtain ⟨hx30_0, hf30_0⟩ := Kd.R_celln 0 HO_5.out (t924 : Int) p30 q30; replace p30 := eq_true p30; replace q30 := eq_true q30; have n_ := A_ (Kd.R_mono (ok' := (fun k_ => some k_ ≠ (.slice Ao35 y927.length co35 : Value).ownBlock)) HO_5.out (fun k_ hk => hk.2)); clear HO_5; have HO_5 := n_; clear n_; obtain ⟨hy37_, hz37_⟩ := Kd.R_celln 0 HO_5.out (t924 : Int) (od_) (od_); have HP37 := Kd.R_putg HO_5.out (t924 : Int) t930) | ((with_reducible refine gate_store (t := 3) (p := 46) rfl ?_); refine store_event (t := 3) (p := 46) (v := ?vo_w38) (w1 := (w36.setCell ⟨go30, (t924 : Int).toNat, none⟩ (.int .i64 t930))) ?hg ?ho ?hn ?hr ?_; (case ho => rfl); (case hg => rfl); (case hn => rfl); (case hr => first | (go_simp; done) | (go_simp; rfl)); intro w38 hw; have hg : w36.grownBy w38 (some go30) := (by rw [hw]; exact HP37.2); have hp_ : Kd.R (Kd.int .i64) 3 w38 w.heap.size (fun k_ => some k_ ≠ (.slice Ao35 y927.length co35 : Value).ownBlock) (.slice (some ⟨go30, 0, none⟩) x5_1.length co31) y933 := (by rw [hw, Ny933.out]; exact HP37.1); clear HP37; replace HI0 := A_ (IsS122.grown (by repeat (first | (with_reducible first | exact HI0.out | apply IsS122.alloc | apply IsS122.drewN | apply IsS122.drew | apply IsS122.set_1 | apply IsS122.set_2) | exact HI0.out)) hg (IsS122.own_ne HI0.out HO_5.out (by decide))); replace HO929 := A_ (Kd.R_after (v := (.slice (some ⟨go30, 0, none⟩) x5_1.length co31)) (v1 := (.slice (some ⟨go30, 0, none⟩) x5_1.length co31)) (ok := (fun _ => True)) (tr_x HO929.out) hg (.inl rfl)); replace HB := A_ ((by rw [hw]; exact below_set (HB.out) (Nat.le_trans HL.out GB30.out) : Below w0.heap.size w0 w38)); replace HK := A_ (KeepBut.trans (by repeat (first | (with_reducible first | exact HK.out | apply KeepBut.set_ | apply keep_drewN | apply keep_drew | apply keep_alloc) | exact HK.out)) (KeepBut.of_grown hg g) (Kd.R_base2 HO_5.out)); replace HO_5 := A_ (hp_); clear hg hw hp_))
         go_ret
         exact ⟨_, te_, by (with_reducible repeat (first | apply Kd.R_alloc | apply Kd.R_drewN | apply Kd.R_drew)); exact Kd.R_mono HO_5.out (fun _ hk => trivial), by repeat (first | (with_reducible first | exact HI0.out | apply IsS122.alloc | apply IsS122.drewN | apply IsS122.drew | apply IsS122.set_1 | apply IsS122.set_2) | exact HI0.out), by repeat (first | (with_reducible first | exact HB.out | apply below_alloc | apply pw_below_drewN | apply below_drew1 | refine below_set ?_ (IsS122.ge HI0.out)) | exact HB.out), by repeat (first | (with_reducible first | exact HK.out | apply KeepBut.set_ | apply keep_drewN | apply keep_drew | apply keep_alloc) | exact HK.out)⟩
        ·
         rw [if_neg c29] at H
         exact absurd H (by simp)
       ·
        rw [if_neg c28] at H
        exact absurd H (by simp)
      ·
       replace c25 := Bool.eq_false_iff.mpr c25
       subst c25
       have H1 : (some (x5_1, x1001_18, x1002_18)) = some (r1, r2, r3) := by rw [if_neg (show ¬ (false = true) by decide)] at H; exact H
       clear H
       have H := H1
       clear H1
       simp only [Option.some.injEq, Prod.mk.injEq] at H
       obtain ⟨rfl, rfl, rfl⟩ := H
       go_wp2
       go_ret
       exact ⟨_, te_, tr_x HO_5.out, by repeat (first | (with_reducible first | exact HI0.out | apply IsS122.alloc | apply IsS122.drewN | apply IsS122.drew | apply IsS122.set_1 | apply IsS122.set_2) | exact HI0.out), by repeat (first | (with_reducible first | exact HB.out | apply below_alloc | apply pw_below_drewN | apply below_drew1 | refine below_set ?_ (IsS122.ge HI0.out)) | exact HB.out), by repeat (first | (with_reducible first | exact HK.out | apply KeepBut.set_ | apply keep_drewN | apply keep_drew | apply keep_alloc) | exact HK.out)⟩

/-! ### spec_l1Cur_queens: function 181 -/
def spec_l1Cur_queens.j0 : Nat → Int → List (List Int) → Bool → List Int → Int → Int → Option (List Int × Int × Int)
 | 0, _, _, _, _, _, _ => none
 | k + 1, x3, x4, x17, x1000, x1001, x1002 => if x17 = true then ((spec_l1Cur_order4.f k x1000 x1001 x1002 x3).bind fun bt943 => (some (bt943.1, bt943.2.1, bt943.2.2))) else ((spec_l1Cur_pick.f x1000 x1001 x1002 (x4.length : Int)).bind fun bt948 => (if 0 ≤ bt948.1 then (if bt948.1 < (x4.length : Int) then ((spec_l1Own.f (rd_L1 x4 bt948.1)).bind fun t952 => ((spec_l1Cur_one.f x1000 bt948.2.1 bt948.2.2 15).bind fun bt955 => (if bt955.1 = true then ((spec_l1Cur_among.f x1000 bt955.2.1 bt955.2.2 (([(-1), 0, x3, wrap64 (x3 + 1)] : List Int))).bind fun bt961 => (if t952.length < 17592186044416 then (some ((t952 ++ [bt961.1]), bt961.2.1, bt961.2.2)) else (none))) else (some (t952, bt955.2.1, bt955.2.2))))) else (none)) else (none)))
def spec_l1Cur_queens.f (k : Nat) (s0_0 : List Int) (s0_1 : Int) (s0_2 : Int) : Option (List Int × Int × Int) := (spec_l1Cur_pick.f s0_0 s0_1 s0_2 7).bind fun bt934 => ((spec_quAll.f k (wrap64 (1 + bt934.1)) ([] : List Int)).bind fun t937 => (if (t937.length : Int) = 0 then (spec_l1Cur_queens.j0 k (wrap64 (1 + bt934.1)) t937 true s0_0 bt934.2.1 bt934.2.2) else ((spec_l1Cur_one.f s0_0 bt934.2.1 bt934.2.2 3).bind fun bt940 => (spec_l1Cur_queens.j0 k (wrap64 (1 + bt934.1)) t937 bt940.1 s0_0 bt940.2.1 bt940.2.2))))
theorem spec_l1Cur_queens.mono_l : ∀ k, (∀ y0 y1 y2 y3 y4 y5, LeO (spec_l1Cur_queens.j0 k y0 y1 y2 y3 y4 y5) (spec_l1Cur_queens.j0 (k + 1) y0 y1 y2 y3 y4 y5))
 | 0 => fun _ _ _ _ _ _ r h => by simp [spec_l1Cur_queens.j0] at h
 | k + 1 => by
  have ih0 := spec_l1Cur_queens.mono_l k
  ·
   intro y0 y1 y2 y3 y4 y5
   unfold spec_l1Cur_queens.j0
   repeat' first | (with_reducible first | exact ih0 _ _ _ _ _ _ | exact spec_l1Cur_order4.mono _ _ _ _ _ | exact spec_quAll.mono _ _ _ | exact LeO.refl _ | exact LeO.none _ | refine LeO.ite ?_ ?_ | refine LeO.bind ?_ (fun _ => ?_)) | exact ih0 _ _ _ _ _ _ | exact spec_l1Cur_order4.mono _ _ _ _ _ | exact spec_quAll.mono _ _ _ | exact LeO.none _ | refine LeO.ite ?_ ?_ | refine LeO.bind ?_ (fun _ => ?_)
theorem spec_l1Cur_queens.mono : ∀ a0 a1 a2 k, LeO (spec_l1Cur_queens.f k a0 a1 a2) (spec_l1Cur_queens.f (k + 1) a0 a1 a2) := by
 intro a0 a1 a2 k
 have ih0 := spec_l1Cur_queens.mono_l k
 unfold spec_l1Cur_queens.f
 repeat' first | (with_reducible first | exact ih0 _ _ _ _ _ _ | exact spec_l1Cur_order4.mono _ _ _ _ _ | exact spec_quAll.mono _ _ _ | exact LeO.refl _ | exact LeO.none _ | refine LeO.ite ?_ ?_ | refine LeO.bind ?_ (fun _ => ?_)) | exact ih0 _ _ _ _ _ _ | exact spec_l1Cur_order4.mono _ _ _ _ _ | exact spec_quAll.mono _ _ _ | exact LeO.none _ | refine LeO.ite ?_ ?_ | refine LeO.bind ?_ (fun _ => ?_)
theorem spec_l1Cur_queens.calls (k : Nat) (g : Nat) (s0_0 : List Int) (s0_1 : Int) (s0_2 : Int) (r1 : List Int) (r2 : Int) (r3 : Int) (w0 w : World) (hI : IsS122 w0 w g s0_0 s0_1 s0_2) (hB : Below w0.heap.size w0 w) (h : spec_l1Cur_queens.f k s0_0 s0_1 s0_2 = some (r1, r2, r3)) :
  Calls Try.prog 181 #[.pointer (some ⟨g, 0, none⟩)] w fun e w' => ∃ v0_ : Value, e = .returned (v0_) ∧ Kd.R (Kd.int .i64) 3 w' w.heap.size (fun _ => True) v0_ r1 ∧ IsS122 w0 w' g s0_0 r2 r3 ∧ Below w0.heap.size w0 w' ∧ KeepBut w w' g none := by
 have HI0 := A_ hI
 have HK := A_ (KeepBut.refl w g none)
 have HL := A_ hB.size
 clear hI
 have HW0 := A_ hB.size
 have HB := A_ hB
 clear hB
 have H : ((spec_l1Cur_pick.f s0_0 s0_1 s0_2 7).bind fun bt934 => ((spec_quAll.f k (wrap64 (1 + bt934.1)) ([] : List Int)).bind fun t937 => (if (t937.length : Int) = 0 then (spec_l1Cur_queens.j0 k (wrap64 (1 + bt934.1)) t937 true s0_0 bt934.2.1 bt934.2.2) else ((spec_l1Cur_one.f s0_0 bt934.2.1 bt934.2.2 3).bind fun bt940 => (spec_l1Cur_queens.j0 k (wrap64 (1 + bt934.1)) t937 bt940.1 s0_0 bt940.2.1 bt940.2.2))))) = some (r1, r2, r3) := h
 clear h
 replace H := Option.bind_eq_some_iff.mp H
 obtain ⟨⟨t934, t935, t936⟩, A20, H⟩ := H
 replace H : ((spec_quAll.f k (wrap64 (1 + t934)) ([] : List Int)).bind fun t937 => (if (t937.length : Int) = 0 then (spec_l1Cur_queens.j0 k (wrap64 (1 + t934)) t937 true s0_0 t935 t936) else ((spec_l1Cur_one.f s0_0 t935 t936 3).bind fun bt940 => (spec_l1Cur_queens.j0 k (wrap64 (1 + t934)) t937 bt940.1 s0_0 bt940.2.1 bt940.2.2)))) = some (r1, r2, r3) := H
 have A2 := A_ A20
 clear A20
 replace H := Option.bind_eq_some_iff.mp H
 obtain ⟨t937, A30, H⟩ := H
 replace H : (if (t937.length : Int) = 0 then (spec_l1Cur_queens.j0 k (wrap64 (1 + t934)) t937 true s0_0 t935 t936) else ((spec_l1Cur_one.f s0_0 t935 t936 3).bind fun bt940 => (spec_l1Cur_queens.j0 k (wrap64 (1 + t934)) t937 bt940.1 s0_0 bt940.2.1 bt940.2.2))) = some (r1, r2, r3) := H
 have A3 := A_ A30
 clear A30
 have HC4 := A_ H
 clear H
 go_enter Try.func181, Try.ntmps181
 go_upto_region 3 with (first | (refine gc_ 164 ?_; refine goesT_ (some 7) Try.func164 #[.pointer (some ⟨g, 0, none⟩), .int .i64 7] ?_; (with_reducible refine (spec_l1Cur_pick.calls g s0_0 s0_1 s0_2 7 t934 t935 t936 w0 _ ?side1 ?side2 A2.out).mono ?_); (case side1 => repeat (first | (with_reducible first | exact HI0.out | apply IsS122.alloc | apply IsS122.drewN | apply IsS122.drew | apply IsS122.set_1 | apply IsS122.set_2) | exact HI0.out)); (case side2 => repeat (first | (with_reducible first | exact HB.out | apply below_alloc | apply pw_below_drewN | apply below_drew1 | refine below_set ?_ (IsS122.ge HI0.out)) | exact HB.out)); rintro e w5 ⟨rfl, hi, hb, hk⟩; refine ⟨_, rfl, ?_⟩; replace HK := A_ (KeepBut.trans (by repeat (first | (with_reducible first | exact HK.out | apply KeepBut.set_ | apply keep_drewN | apply keep_drew | apply keep_alloc) | exact HK.out)) hk (.inl rfl)); replace HB := A_ (hb); replace HI0 := A_ (hi); (try clear hb); (try clear hb2); (try clear hk); (try clear hi)) | (refine gc_ 178 ?_; refine goesT_ (some 10) Try.func178 #[.int .i64 (wrap64 (1 + t934)), .slice none 0 0] ?_; (refine (spec_quAll.calls k (wrap64 (1 + t934)) _ _ ([] : List Int) t937 _ ?side1 ?side2 A3.out).mono ?_); (case side1 => exact Kd.C_nil _ _); (case side2 => exact Nat.le_refl _); rintro e w6 ⟨v938, rfl, ho0, hb⟩; refine ⟨_, rfl, ?_⟩; have HO939 := A_ (Kd.N_lower (Kd.N_mono (ok' := fun k_ => k_ ≠ g) ho0 (fun k_ hk_ => (IsS122.fresh (by repeat (first | (with_reducible first | exact HI0.out | apply IsS122.alloc | apply IsS122.drewN | apply IsS122.drew | apply IsS122.set_1 | apply IsS122.set_2) | exact HI0.out)) k_ hk_))) (keep_size (w := w) (g := g) (row := none) (by repeat (first | (with_reducible first | exact HK.out | apply KeepBut.set_ | apply keep_drewN | apply keep_drew | apply keep_alloc) | exact HK.out)))); replace HK := A_ (KeepBut.trans (by repeat (first | (with_reducible first | exact HK.out | apply KeepBut.set_ | apply keep_drewN | apply keep_drew | apply keep_alloc) | exact HK.out)) (KeepBut.of_below hb g none) (.inl rfl)); replace HB := A_ (below_step (by repeat (first | (with_reducible first | exact HB.out | apply below_alloc | apply pw_below_drewN | apply below_drew1 | refine below_set ?_ (IsS122.ge HI0.out)) | exact HB.out)) hb); replace HI0 := A_ (IsS122.below (by repeat (first | (with_reducible first | exact HI0.out | apply IsS122.alloc | apply IsS122.drewN | apply IsS122.drew | apply IsS122.set_1 | apply IsS122.set_2) | exact HI0.out)) hb); (try clear hb); (try clear hb2); (try clear hk); (try clear hi); (try clear ho0)))
 (try simp only [Act.put, List.setIfInBounds_toArray, List.set_cons_zero, List.set_cons_succ])
 go_cut [17] (fun v17 wc => ∃ (kq : Nat) (x17_3 : Bool) (x1001_3 : Int) (x1002_3 : Int), v17 = .bool x17_3 ∧ Aside0 (spec_l1Cur_queens.j0 kq (wrap64 (1 + t934)) t937 x17_3 s0_0 x1001_3 x1002_3 = some (r1, r2, r3)) ∧ Aside0 (kq ≤ k) ∧ Aside0 (Kd.N (Kd.slice 3 (Kd.int .i64)) 22 wc w.heap.size (fun k_ => k_ ≠ g) v938 t937) ∧ Aside0 (IsS122 w0 wc g s0_0 x1001_3 x1002_3) ∧ Aside0 (KeepBut w wc g none) ∧ Aside0 (Below w0.heap.size w0 wc))
 case first =>
  have H := HC4.out
  clear HC4
  by_cases c7 : (t937.length : Int) = 0
  ·
   rw [if_pos c7] at H
   have c7b0 : ((t937.length : Int) == 0) = true := beq_iff_eq.mpr c7
   have c7b1 : ((t937.length : Int) != 0) = false := bne_eq_false_iff_eq.mpr c7
   clear c7
   (first | rw [c7b0] | (simp only [i64_w, i32_w]; rw [c7b0]) | skip)
   have H' := A_ H
   clear H
   obtain ⟨Ao8, co8, eo8⟩ := Kd.N_slice HO939.out
   subst eo8
   go_wp2
   go_meet
   case rel => exact ⟨_, (true), (t935), (t936), tf_, H', ⟨by first | omega | exact Nat.le_refl _⟩, ⟨by (with_reducible repeat (first | apply Kd.N_alloc | apply Kd.N_drewN | apply Kd.N_drew)); exact HO939.out⟩, ⟨by repeat (first | (with_reducible first | exact HI0.out | apply IsS122.alloc | apply IsS122.drewN | apply IsS122.drew | apply IsS122.set_1 | apply IsS122.set_2) | exact HI0.out)⟩, ⟨by repeat (first | (with_reducible first | exact HK.out | apply KeepBut.set_ | apply keep_drewN | apply keep_drew | apply keep_alloc) | exact HK.out)⟩, ⟨by repeat (first | (with_reducible first | exact HB.out | apply below_alloc | apply pw_below_drewN | apply below_drew1 | refine below_set ?_ (IsS122.ge HI0.out)) | exact HB.out)⟩⟩
  ·
   rw [if_neg c7] at H
   have c7b0 : ((t937.length : Int) == 0) = false := beq_eq_false_iff_ne.mpr c7
   have c7b1 : ((t937.length : Int) != 0) = true := bne_iff_ne.mpr c7
   have c7b2 : ¬ (t937 = []) := fun h_ => c7 (by rw [h_]; rfl)
   (first | rw [c7b0] | (simp only [i64_w, i32_w]; rw [c7b0]) | skip)
   replace H := Option.bind_eq_some_iff.mp H
   obtain ⟨⟨t940, t941, t942⟩, A90, H⟩ := H
   replace H : (spec_l1Cur_queens.j0 k (wrap64 (1 + t934)) t937 t940 s0_0 t941 t942) = some (r1, r2, r3) := H
   have A9 := A_ A90
   clear A90
   have H' := A_ H
   clear H
   obtain ⟨Ao10, co10, eo10⟩ := Kd.N_slice HO939.out
   subst eo10
   go_wp2_with (first | (go_at_call 166; (with_reducible refine (spec_l1Cur_one.calls g s0_0 t935 t936 3 t940 t941 t942 w0 _ ?side1 ?side2 A9.out).mono ?_); (case side1 => repeat (first | (with_reducible first | exact HI0.out | apply IsS122.alloc | apply IsS122.drewN | apply IsS122.drew | apply IsS122.set_1 | apply IsS122.set_2) | exact HI0.out)); (case side2 => repeat (first | (with_reducible first | exact HB.out | apply below_alloc | apply pw_below_drewN | apply below_drew1 | refine below_set ?_ (IsS122.ge HI0.out)) | exact HB.out)); rintro e w11 ⟨rfl, hi, hb, hk⟩; replace HO939 := A_ (Kd.N_mono (Kd.N_keep (Kd.N_mono (ok := fun k_ => k_ ≠ g) (by (with_reducible repeat (first | apply Kd.N_alloc | apply Kd.N_drewN | apply Kd.N_drew)); exact HO939.out) (fun k_ hk_ => (⟨hk_, hk_⟩ : _ ∧ k_ ≠ g))) hk (fun _ h => h.2)) (fun _ h => h.1)); replace HK := A_ (KeepBut.trans (by repeat (first | (with_reducible first | exact HK.out | apply KeepBut.set_ | apply keep_drewN | apply keep_drew | apply keep_alloc) | exact HK.out)) hk (.inl rfl)); replace HB := A_ (hb); replace HI0 := A_ (hi); (try clear hb); (try clear hb2); (try clear hk); (try clear hi)))
   go_meet
   case rel => exact ⟨_, (t940), (t941), (t942), tf_, H', ⟨by first | omega | exact Nat.le_refl _⟩, ⟨by (with_reducible repeat (first | apply Kd.N_alloc | apply Kd.N_drewN | apply Kd.N_drew)); exact HO939.out⟩, ⟨by repeat (first | (with_reducible first | exact HI0.out | apply IsS122.alloc | apply IsS122.drewN | apply IsS122.drew | apply IsS122.set_1 | apply IsS122.set_2) | exact HI0.out)⟩, ⟨by repeat (first | (with_reducible first | exact HK.out | apply KeepBut.set_ | apply keep_drewN | apply keep_drew | apply keep_alloc) | exact HK.out)⟩, ⟨by repeat (first | (with_reducible first | exact HB.out | apply below_alloc | apply pw_below_drewN | apply below_drew1 | refine below_set ?_ (IsS122.ge HI0.out)) | exact HB.out)⟩⟩
 case rest =>
  clear HC4
  try clear c1
  try clear p2
  try clear p6
  try clear c7
  try clear c7b0
  try clear c7b1
  try clear c7b2
  obtain ⟨kq, x17_3, x1001_3, x1002_3, rfl, HA, HJ3, HO_4, HI0, HK, HB⟩ := hcut
  cases kq with
  | zero => exact absurd HA.out (by simp [spec_l1Cur_queens.j0])
  | succ kj3 =>
   have H := HA.out
   clear HA
   simp only [spec_l1Cur_queens.j0] at H
   by_cases c12 : x17_3 = true
   ·
    subst c12
    have H1 : ((spec_l1Cur_order4.f kj3 s0_0 x1001_3 x1002_3 (wrap64 (1 + t934))).bind fun bt943 => (some (bt943.1, bt943.2.1, bt943.2.2))) = some (r1, r2, r3) := by rw [if_pos rfl] at H; exact H
    clear H
    have H := H1
    clear H1
    replace H := Option.bind_eq_some_iff.mp H
    obtain ⟨⟨t943, t946, t947⟩, A130, H⟩ := H
    replace H : (some (t943, t946, t947)) = some (r1, r2, r3) := H
    have A13 := A_ A130
    clear A130
    simp only [Option.some.injEq, Prod.mk.injEq] at H
    obtain ⟨rfl, rfl, rfl⟩ := H
    go_wp2_with (first | (refine gc_ 245 ?_; refine goesT_ (some 20) Try.func245 #[.pointer (some ⟨g, 0, none⟩), .int .i64 (wrap64 (1 + t934))] ?_; (with_reducible refine (spec_l1Cur_order4.calls kj3 g s0_0 x1001_3 x1002_3 (wrap64 (1 + t934)) t943 t946 t947 w0 _ ?side1 ?side2 A13.out).mono ?_); (case side1 => repeat (first | (with_reducible first | exact HI0.out | apply IsS122.alloc | apply IsS122.drewN | apply IsS122.drew | apply IsS122.set_1 | apply IsS122.set_2) | exact HI0.out)); (case side2 => repeat (first | (with_reducible first | exact HB.out | apply below_alloc | apply pw_below_drewN | apply below_drew1 | refine below_set ?_ (IsS122.ge HI0.out)) | exact HB.out)); rintro e w14 ⟨v944, rfl, ho0, hi, hb, hk⟩; refine ⟨_, rfl, ?_⟩; replace HO_4 := A_ (Kd.N_mono (Kd.N_told (Kd.N_oldK (Kd.N_mono (ok := fun k_ => k_ ≠ g) (by (with_reducible repeat (first | apply Kd.N_alloc | apply Kd.N_drewN | apply Kd.N_drew)); exact HO_4.out) (fun k_ hk_ => (⟨hk_, hk_⟩ : _ ∧ k_ ≠ g))) hk) (Kd.R_base ho0)) (fun _ h_ => h_.1)); have HO945 := A_ (Kd.R_lower ho0 (keep_size (w := w) (g := g) (row := none) (by repeat (first | (with_reducible first | exact HK.out | apply KeepBut.set_ | apply keep_drewN | apply keep_drew | apply keep_alloc) | exact HK.out)))); replace HK := A_ (KeepBut.trans (by repeat (first | (with_reducible first | exact HK.out | apply KeepBut.set_ | apply keep_drewN | apply keep_drew | apply keep_alloc) | exact HK.out)) hk (.inl rfl)); replace HB := A_ (hb); replace HI0 := A_ (hi); (try clear hb); (try clear hb2); (try clear hk); (try clear hi); (try clear ho0)))
    go_ret
    exact ⟨_, te_, tr_x HO945.out, by repeat (first | (with_reducible first | exact HI0.out | apply IsS122.alloc | apply IsS122.drewN | apply IsS122.drew | apply IsS122.set_1 | apply IsS122.set_2) | exact HI0.out), by repeat (first | (with_reducible first | exact HB.out | apply below_alloc | apply pw_below_drewN | apply below_drew1 | refine below_set ?_ (IsS122.ge HI0.out)) | exact HB.out), by repeat (first | (with_reducible first | exact HK.out | apply KeepBut.set_ | apply keep_drewN | apply keep_drew | apply keep_alloc) | exact HK.out)⟩
   ·
    replace c12 := Bool.eq_false_iff.mpr c12
    subst c12
    have H1 : ((spec_l1Cur_pick.f s0_0 x1001_3 x1002_3 (t937.length : Int)).bind fun bt948 => (if 0 ≤ bt948.1 then (if bt948.1 < (t937.length : Int) then ((spec_l1Own.f (rd_L1 t937 bt948.1)).bind fun t952 => ((spec_l1Cur_one.f s0_0 bt948.2.1 bt948.2.2 15).bind fun bt955 => (if bt955.1 = true then ((spec_l1Cur_among.f s0_0 bt955.2.1 bt955.2.2 (([(-1), 0, (wrap64 (1 + t934)), wrap64 ((wrap64 (1 + t934)) + 1)] : List Int))).bind fun bt961 => (if t952.length < 17592186044416 then (some ((t952 ++ [bt961.1]), bt961.2.1, bt961.2.2)) else (none))) else (some (t952, bt955.2.1, bt955.2.2))))) else (none)) else (none))) = some (r1, r2, r3) := by rw [if_neg (show ¬ (false = true) by decide)] at H; exact H
    clear H
    have H := H1
    clear H1
    replace H := Option.bind_eq_some_iff.mp H
    obtain ⟨⟨t948, t949, t950⟩, A150, H⟩ := H
    replace H : (if 0 ≤ t948 then (if t948 < (t937.length : Int) then ((spec_l1Own.f (rd_L1 t937 t948)).bind fun t952 => ((spec_l1Cur_one.f s0_0 t949 t950 15).bind fun bt955 => (if bt955.1 = true then ((spec_l1Cur_among.f s0_0 bt955.2.1 bt955.2.2 (([(-1), 0, (wrap64 (1 + t934)), wrap64 ((wrap64 (1 + t934)) + 1)] : List Int))).bind fun bt961 => (if t952.length < 17592186044416 then (some ((t952 ++ [bt961.1]), bt961.2.1, bt961.2.2)) else (none))) else (some (t952, bt955.2.1, bt955.2.2))))) else (none)) else (none)) = some (r1, r2, r3) := H
    have A15 := A_ A150
    clear A150
    by_cases c16 : 0 ≤ t948
    ·
     rw [if_pos c16] at H
     have c16b0 := decide_eq_true c16
     clear c16
     by_cases c17 : t948 < (t937.length : Int)
     ·
      rw [if_pos c17] at H
      have c17b0 := decide_eq_true c17
      clear c17
      replace H := Option.bind_eq_some_iff.mp H
      obtain ⟨t952, A180, H⟩ := H
      replace H : ((spec_l1Cur_one.f s0_0 t949 t950 15).bind fun bt955 => (if bt955.1 = true then ((spec_l1Cur_among.f s0_0 bt955.2.1 bt955.2.2 (([(-1), 0, (wrap64 (1 + t934)), wrap64 ((wrap64 (1 + t934)) + 1)] : List Int))).bind fun bt961 => (if t952.length < 17592186044416 then (some ((t952 ++ [bt961.1]), bt961.2.1, bt961.2.2)) else (none))) else (some (t952, bt955.2.1, bt955.2.2)))) = some (r1, r2, r3) := H
      have A18 := A_ A180
      clear A180
      replace H := Option.bind_eq_some_iff.mp H
      obtain ⟨⟨t955, t956, t957⟩, A190, H⟩ := H
      replace H : (if t955 = true then ((spec_l1Cur_among.f s0_0 t956 t957 (([(-1), 0, (wrap64 (1 + t934)), wrap64 ((wrap64 (1 + t934)) + 1)] : List Int))).bind fun bt961 => (if t952.length < 17592186044416 then (some ((t952 ++ [bt961.1]), bt961.2.1, bt961.2.2)) else (none))) else (some (t952, t956, t957))) = some (r1, r2, r3) := H
      have A19 := A_ A190
      clear A190
      by_cases c20 : t955 = true
      ·
       subst c20
       have H1 : ((spec_l1Cur_among.f s0_0 t956 t957 (([(-1), 0, (wrap64 (1 + t934)), wrap64 ((wrap64 (1 + t934)) + 1)] : List Int))).bind fun bt961 => (if t952.length < 17592186044416 then (some ((t952 ++ [bt961.1]), bt961.2.1, bt961.2.2)) else (none))) = some (r1, r2, r3) := by rw [if_pos rfl] at H; exact H
       clear H
       have H := H1
       clear H1
       obtain ⟨y958, hy958⟩ : ∃ y_ : List Int, y_ = (([(-1), 0, (wrap64 (1 + t934)), wrap64 ((wrap64 (1 + t934)) + 1)] : List Int)) := ⟨_, rfl⟩
       replace H : ((spec_l1Cur_among.f s0_0 t956 t957 y958).bind fun bt961 => (if t952.length < 17592186044416 then (some ((t952 ++ [bt961.1]), bt961.2.1, bt961.2.2)) else (none))) = some (r1, r2, r3) := ty_ hy958 H
       have Ny958 := A_ hy958
       clear hy958
       replace H := Option.bind_eq_some_iff.mp H
       obtain ⟨⟨t961, t962, t963⟩, A210, H⟩ := H
       replace H : (if t952.length < 17592186044416 then (some ((t952 ++ [t961]), t962, t963)) else (none)) = some (r1, r2, r3) := H
       have A21 := A_ A210
       clear A210
       by_cases c22 : t952.length < 17592186044416
       ·
        rw [if_pos c22] at H
        have LMc22 := A_ c22
        clear c22
        obtain ⟨y964, hy964⟩ : ∃ y_ : List Int, y_ = (t952 ++ [t961]) := ⟨_, rfl⟩
        replace H : (some (y964, t962, t963)) = some (r1, r2, r3) := ty_ hy964 H
        have Ny964 := A_ hy964
        clear hy964
        simp only [Option.some.injEq, Prod.mk.injEq] at H
        obtain ⟨rfl, rfl, rfl⟩ := H
        obtain ⟨Ao23, co23, eo23⟩ := Kd.N_slice HO_4.out
        subst eo23
        go_wp2_with (first | (refine gc_ 164 ?_; refine goesT_ (some 25) Try.func164 #[.pointer (some ⟨g, 0, none⟩), .int .i64 (t937.length : Int)] ?_; (with_reducible refine (spec_l1Cur_pick.calls g s0_0 x1001_3 x1002_3 (t937.length : Int) t948 t949 t950 w0 _ ?side1 ?side2 A15.out).mono ?_); (case side1 => repeat (first | (with_reducible first | exact HI0.out | apply IsS122.alloc | apply IsS122.drewN | apply IsS122.drew | apply IsS122.set_1 | apply IsS122.set_2) | exact HI0.out)); (case side2 => repeat (first | (with_reducible first | exact HB.out | apply below_alloc | apply pw_below_drewN | apply below_drew1 | refine below_set ?_ (IsS122.ge HI0.out)) | exact HB.out)); rintro e w24 ⟨rfl, hi, hb, hk⟩; refine ⟨_, rfl, ?_⟩; replace HO_4 := A_ (Kd.N_mono (Kd.N_keep (Kd.N_mono (ok := fun k_ => k_ ≠ g) (by (with_reducible repeat (first | apply Kd.N_alloc | apply Kd.N_drewN | apply Kd.N_drew)); exact HO_4.out) (fun k_ hk_ => (⟨hk_, hk_⟩ : _ ∧ k_ ≠ g))) hk (fun _ h => h.2)) (fun _ h => h.1)); replace HK := A_ (KeepBut.trans (by repeat (first | (with_reducible first | exact HK.out | apply KeepBut.set_ | apply keep_drewN | apply keep_drew | apply keep_alloc) | exact HK.out)) hk (.inl rfl)); replace HB := A_ (hb); replace HI0 := A_ (hi); (try clear hb); (try clear hb2); (try clear hk); (try clear hi); have p951 : 0 ≤ (t948 : Int) := od_; have q951 : t948 < (t937.length : Int) := od_; obtain ⟨ad951, A951_0, c951_0, e951, hx951_0, hl951_0, hi951_0⟩ := at_L1 (Kd.N_reads' HO_4.out).2.2 t948 p951 q951; cases e951; obtain ⟨ce951, hce951, hMe951, hcc951⟩ := Kd.N_get HO_4.out [] t948 p951 (by first | exact q951 | exact od_ | (have e_ := (Kd.N_reads' HO_4.out).1; omega)); obtain ⟨ua951_0, uc951_0, rfl, ul951_0, ge951_0⟩ := Kd.FK_slice_open hMe951; have hv951_0 := hcc951 0 _ rfl; rw [Nat.add_zero, show ((Kd.slice 3 (Kd.int .i64))).sz = 1 from rfl, Nat.mul_one] at hv951_0; replace hv951_0 := Option.some.inj (hv951_0.symm.trans hx951_0); injection hv951_0 with hva_ hvn_ hvc_; rw [hva_] at ge951_0; rw [hvc_] at ul951_0; have HL951_0 := A_ (show Kd.V (Kd.int .i64) 3 _ w.heap.size _ _ (rd_L1 t937 t948) from Kd.V_mk ul951_0 ge951_0); clear hva_ hvn_ hvc_ ge951_0 ul951_0; clear hcc951 hce951; have HR951_0 := A_ hi951_0; have HC951_0 := A_ hl951_0; clear hi951_0 hl951_0; replace p951 := eq_true p951; replace q951 := eq_true q951) | (refine gc_ 150 ?_; refine goesT_ (some 28) Try.func150 #[.slice A951_0 (rd_L1 t937 t948).length c951_0] ?_; (with_reducible refine (spec_l1Own.calls _ _ (rd_L1 t937 t948) t952 _ ?side1 ?side2 A18.out).mono ?_); (case side1 => repeat (first | exact (by repeat (first | (with_reducible exact HR951_0.out) | (with_reducible refine Kd.C_alloc ?_ _) | (with_reducible refine Kd.C_drewN ?_ _) | (with_reducible refine Kd.C_drew ?_) | exact HR951_0.out)) | (with_reducible refine Kd.C_alloc ?_ _) | (with_reducible refine Kd.C_drewN ?_ _) | (with_reducible refine Kd.C_drew ?_))); (case side2 => exact HC951_0.out); rintro e w25 ⟨v953, rfl, ho0, hb⟩; refine ⟨_, rfl, ?_⟩; replace HO_4 := A_ (Kd.N_elder' (by (with_reducible repeat (first | apply Kd.N_alloc | apply Kd.N_drewN | apply Kd.N_drew)); exact HO_4.out) (Kd.R_base ho0) hb); replace HL951_0 := A_ (Kd.V_elder' (by (with_reducible repeat (first | apply Kd.V_alloc | apply Kd.V_drewN | apply Kd.V_drew)); exact HL951_0.out) (Kd.R_base ho0) hb); have HO954 := A_ (Kd.R_lower ho0 (keep_size (w := w) (g := g) (row := none) (by repeat (first | (with_reducible first | exact HK.out | apply KeepBut.set_ | apply keep_drewN | apply keep_drew | apply keep_alloc) | exact HK.out)))); replace HR951_0 := A_ (Kd.C_below (by repeat (first | (with_reducible exact HR951_0.out) | (with_reducible refine Kd.C_alloc ?_ _) | (with_reducible refine Kd.C_drewN ?_ _) | (with_reducible refine Kd.C_drew ?_) | exact HR951_0.out)) hb); replace HK := A_ (KeepBut.trans (by repeat (first | (with_reducible first | exact HK.out | apply KeepBut.set_ | apply keep_drewN | apply keep_drew | apply keep_alloc) | exact HK.out)) (KeepBut.of_below hb g none) (.inl rfl)); replace HB := A_ (below_step (by repeat (first | (with_reducible first | exact HB.out | apply below_alloc | apply pw_below_drewN | apply below_drew1 | refine below_set ?_ (IsS122.ge HI0.out)) | exact HB.out)) hb); replace HI0 := A_ (IsS122.below (by repeat (first | (with_reducible first | exact HI0.out | apply IsS122.alloc | apply IsS122.drewN | apply IsS122.drew | apply IsS122.set_1 | apply IsS122.set_2) | exact HI0.out)) hb); (try clear hb); (try clear hb2); (try clear hk); (try clear hi); (try clear ho0)) | (refine gc_ 166 ?_; refine goesT_ (some 30) Try.func166 #[.pointer (some ⟨g, 0, none⟩), .int .i64 15] ?_; (with_reducible refine (spec_l1Cur_one.calls g s0_0 t949 t950 15 true t956 t957 w0 _ ?side1 ?side2 A19.out).mono ?_); (case side1 => repeat (first | (with_reducible first | exact HI0.out | apply IsS122.alloc | apply IsS122.drewN | apply IsS122.drew | apply IsS122.set_1 | apply IsS122.set_2) | exact HI0.out)); (case side2 => repeat (first | (with_reducible first | exact HB.out | apply below_alloc | apply pw_below_drewN | apply below_drew1 | refine below_set ?_ (IsS122.ge HI0.out)) | exact HB.out)); rintro e w26 ⟨rfl, hi, hb, hk⟩; refine ⟨_, rfl, ?_⟩; replace HO_4 := A_ (Kd.N_mono (Kd.N_keep (Kd.N_mono (ok := fun k_ => (k_ ≠ g ∧ some k_ ≠ (v953 : Value).ownBlock)) (by (with_reducible repeat (first | apply Kd.N_alloc | apply Kd.N_drewN | apply Kd.N_drew)); exact HO_4.out) (fun k_ hk_ => (⟨hk_, hk_.1⟩ : _ ∧ k_ ≠ g))) hk (fun _ h => h.2)) (fun _ h => h.1)); replace HL951_0 := A_ (Kd.V_mono (Kd.V_keep (Kd.V_mono (ok := fun k_ => ((k_ ≠ g ∧ some k_ ≠ (.slice (some ad951) t937.length co23 : Value).ownBlock) ∧ some k_ ≠ (v953 : Value).ownBlock)) (by (with_reducible repeat (first | apply Kd.V_alloc | apply Kd.V_drewN | apply Kd.V_drew)); exact HL951_0.out) (fun k_ hk_ => (⟨hk_, hk_.1.1⟩ : _ ∧ k_ ≠ g))) hk (fun _ h => h.2)) (fun _ h => h.1)); replace HO954 := A_ (Kd.R_mono (Kd.R_keep (IsS122.apart (show IsS122 w0 _ g s0_0 t949 t950 from by repeat (first | (with_reducible first | exact HI0.out | apply IsS122.alloc | apply IsS122.drewN | apply IsS122.drew | apply IsS122.set_1 | apply IsS122.set_2) | exact HI0.out)) (tr_x HO954.out) (by decide)) hk (fun _ h => h.2)) (fun _ h => h.1)); replace HK := A_ (KeepBut.trans (by repeat (first | (with_reducible first | exact HK.out | apply KeepBut.set_ | apply keep_drewN | apply keep_drew | apply keep_alloc) | exact HK.out)) hk (.inl rfl)); replace HB := A_ (hb); replace HI0 := A_ (hi); (try clear hb); (try clear hb2); (try clear hk); (try clear hi)) | (refine gd_ 36 ?_; refine Kd.R_lit (Kd.int .i64) _ 3 ?hg (N := 36) ?hd (xs := ([(-1), 0, (wrap64 (1 + t934)), wrap64 ((wrap64 (1 + t934)) + 1)] : List Int)) (inner := [.int .i64 (-1), .int .i64 0, .int .i64 (wrap64 (1 + t934)), .int .i64 (wrap64 ((wrap64 (1 + t934)) + 1))]) (ok := fun _ => True) (okp := fun _ => True) ?hr ?hp (fun _ hk => hk) trivial (Below.refl _ _) (Nat.le_refl _) (by simp) ?_; (case hd => rfl); (case hg => rfl); (case hr => first | (go_simp; done) | (go_simp; rfl)); (case hp => exact (Reps.one (show Kd.M (Kd.int .i64) _ _ _ (-1) [.int .i64 (-1)] from rfl) (Reps.one (show Kd.M (Kd.int .i64) _ _ _ 0 [.int .i64 0] from rfl) (Reps.one (show Kd.M (Kd.int .i64) _ _ _ (wrap64 (1 + t934)) [.int .i64 (wrap64 (1 + t934))] from rfl) (Reps.one (show Kd.M (Kd.int .i64) _ _ _ (wrap64 ((wrap64 (1 + t934)) + 1)) [.int .i64 (wrap64 ((wrap64 (1 + t934)) + 1))] from rfl) (Reps.none _ _)))))); intro v959 w27 ho28 hb hg_ hnew_; clear hg_ hnew_; (first | rw [← Ny958.out] at ho28 | (simp only [Int.reduceToNat] at ho28; rw [← Ny958.out] at ho28)); replace HO_4 := A_ (Kd.N_elder' (by (with_reducible repeat (first | apply Kd.N_alloc | apply Kd.N_drewN | apply Kd.N_drew)); exact HO_4.out) (Kd.R_base ho28) hb); replace HL951_0 := A_ (Kd.V_elder' (by (with_reducible repeat (first | apply Kd.V_alloc | apply Kd.V_drewN | apply Kd.V_drew)); exact HL951_0.out) (Kd.R_base ho28) hb); have HO960 := A_ (Kd.R_lower (Kd.R_new' ho28 (Kd.R_lt (tr_x HO954.out))) (keep_size (w := w) (g := g) (row := none) (by repeat (first | (with_reducible first | exact HK.out | apply KeepBut.set_ | apply keep_drewN | apply keep_drew | apply keep_alloc) | exact HK.out)))); replace HO954 := A_ (Kd.R_elder' (tr_x HO954.out) (Kd.R_base ho28) hb); replace HK := A_ (KeepBut.trans (by repeat (first | (with_reducible first | exact HK.out | apply KeepBut.set_ | apply keep_drewN | apply keep_drew | apply keep_alloc) | exact HK.out)) (KeepBut.of_below hb g none) (.inl rfl)); replace HB := A_ (below_step (by repeat (first | (with_reducible first | exact HB.out | apply below_alloc | apply pw_below_drewN | apply below_drew1 | refine below_set ?_ (IsS122.ge HI0.out)) | exact HB.out)) hb); replace HI0 := A_ (IsS122.below (by repeat (first | (with_reducible first | exact HI0.out | apply IsS122.alloc | apply IsS122.drewN | apply IsS122.drew | apply IsS122.set_1 | apply IsS122.set_2) | exact HI0.out)) hb); clear hb ho28; obtain ⟨Ao29, co29, eo29⟩ := Kd.R_slice HO960.out; subst eo29) | (refine gc_ 160 ?_; refine goesT_ (some 37) Try.func160 #[.pointer (some ⟨g, 0, none⟩), .slice Ao29 y958.length co29] ?_; (with_reducible refine (spec_l1Cur_among.calls g s0_0 t956 t957 _ _ y958 t961 t962 t963 w0 _ ?side1 ?side2 ?side3 ?side4 ?side5 A21.out).mono ?_); (case side1 => repeat (first | (with_reducible first | exact HI0.out | apply IsS122.alloc | apply IsS122.drewN | apply IsS122.drew | apply IsS122.set_1 | apply IsS122.set_2) | exact HI0.out)); (case side2 => repeat (first | (with_reducible first | exact HB.out | apply below_alloc | apply pw_below_drewN | apply below_drew1 | refine below_set ?_ (IsS122.ge HI0.out)) | exact HB.out)); (case side3 => exact tc0_ (Kd.R_reads' HO960.out).2.2); (case side4 => exact (Kd.R_reads' HO960.out).2.1); (case side5 => exact far_slice (IsS122.own_ne HI0.out HO960.out (by decide))); rintro e w30 ⟨rfl, hi, hb, hk⟩; refine ⟨_, rfl, ?_⟩; replace HO_4 := A_ (Kd.N_mono (Kd.N_keep (Kd.N_mono (ok := fun k_ => ((k_ ≠ g ∧ some k_ ≠ (v953 : Value).ownBlock) ∧ some k_ ≠ (.slice Ao29 y958.length co29 : Value).ownBlock)) (by (with_reducible repeat (first | apply Kd.N_alloc | apply Kd.N_drewN | apply Kd.N_drew)); exact HO_4.out) (fun k_ hk_ => (⟨hk_, hk_.1.1⟩ : _ ∧ k_ ≠ g))) hk (fun _ h => h.2)) (fun _ h => h.1)); replace HL951_0 := A_ (Kd.V_mono (Kd.V_keep (Kd.V_mono (ok := fun k_ => (((k_ ≠ g ∧ some k_ ≠ (.slice (some ad951) t937.length co23 : Value).ownBlock) ∧ some k_ ≠ (v953 : Value).ownBlock) ∧ some k_ ≠ (.slice Ao29 y958.length co29 : Value).ownBlock)) (by (with_reducible repeat (first | apply Kd.V_alloc | apply Kd.V_drewN | apply Kd.V_drew)); exact HL951_0.out) (fun k_ hk_ => (⟨hk_, hk_.1.1.1⟩ : _ ∧ k_ ≠ g))) hk (fun _ h => h.2)) (fun _ h => h.1)); replace HO954 := A_ (Kd.R_mono (Kd.R_keep (IsS122.apart (show IsS122 w0 _ g s0_0 t956 t957 from by repeat (first | (with_reducible first | exact HI0.out | apply IsS122.alloc | apply IsS122.drewN | apply IsS122.drew | apply IsS122.set_1 | apply IsS122.set_2) | exact HI0.out)) (tr_x HO954.out) (by decide)) hk (fun _ h => h.2)) (fun _ h => h.1)); replace HO960 := A_ (Kd.R_mono (Kd.R_keep (IsS122.apart (show IsS122 w0 _ g s0_0 t956 t957 from by repeat (first | (with_reducible first | exact HI0.out | apply IsS122.alloc | apply IsS122.drewN | apply IsS122.drew | apply IsS122.set_1 | apply IsS122.set_2) | exact HI0.out)) (tr_x HO960.out) (by decide)) hk (fun _ h => h.2)) (fun _ h => h.1)); replace HK := A_ (KeepBut.trans (by repeat (first | (with_reducible first | exact HK.out | apply KeepBut.set_ | apply keep_drewN | apply keep_drew | apply keep_alloc) | exact HK.out)) hk (.inl rfl)); replace HB := A_ (hb); replace HI0 := A_ (hi); (try clear hb); (try clear hb2); (try clear hk); (try clear hi)) | ((with_reducible refine gate_builtin (b := .append) (xs := #[.tmp 31, .tmp 38]) rfl ?_); at_builtin; refine Kd.R_append (Kd.int .i64) w.heap.size rfl (.tmp 31) (.tmp 38) 22 3 (.int .i64 0) 8 rfl Try.underlying22 info3 rfl (by decide) (by omega) v953 t952 t961 [.int .i64 t961] (fun k_ => some k_ ≠ (.slice Ao29 y958.length co29 : Value).ownBlock) (fun _ => False) rfl rfl ?aP (fun _ hk => hk.elim) ?aF ?aO (Below.refl _ _) ?aS ?aL ?_; (case aP => exact rfl); (case aF => exact (fun k_ hk => Kd.fresh' (Kd.R_lt (tr_x HO960.out)) k_ hk)); (case aO => exact (tr_ (h := by exact Kd.R_mono HO954.out (fun _ hk => hk.2)))); (case aS => exact (keep_size (w := w) (g := g) (row := none) (by repeat (first | (with_reducible first | exact HK.out | apply KeepBut.set_ | apply keep_drewN | apply keep_drew | apply keep_alloc) | exact HK.out)))); (case aL => have := LMc22.out; omega); intro v965 w31 ho hb hg hat; rw [← Ny964.out] at ho; have n0_ := A_ (Kd.N_afterv (ok := (fun k_ => some k_ ≠ (.slice Ao29 y958.length co29 : Value).ownBlock ∧ k_ ≠ g)) (by (with_reducible repeat (first | apply Kd.N_alloc | apply Kd.N_drewN | apply Kd.N_drew)); exact Kd.N_mono HO_4.out om_) hg hat); have n1_ := A_ (IsS122.grown (by repeat (first | (with_reducible first | exact HI0.out | apply IsS122.alloc | apply IsS122.drewN | apply IsS122.drew | apply IsS122.set_1 | apply IsS122.set_2) | exact HI0.out)) hg (IsS122.own_ne HI0.out HO954.out (by decide))); have n2_ := A_ (Kd.V_afterv (ok := (fun k_ => some k_ ≠ (.slice (some ad951) t937.length co23 : Value).ownBlock ∧ some k_ ≠ (.slice Ao29 y958.length co29 : Value).ownBlock ∧ k_ ≠ g)) (by (with_reducible repeat (first | apply Kd.V_alloc | apply Kd.V_drewN | apply Kd.V_drew)); exact Kd.V_mono HL951_0.out om_) hg hat); have n3_ := A_ (Kd.R_after (ok := (fun _ => True)) (tr_x HO960.out) hg hat); have n4_ := A_ (below_weaken (by repeat (first | (with_reducible first | exact HB.out | apply below_alloc | apply pw_below_drewN | apply below_drew1 | refine below_set ?_ (IsS122.ge HI0.out)) | exact HB.out)) HL.out hb); have n5_ := A_ (KeepBut.trans (by repeat (first | (with_reducible first | exact HK.out | apply KeepBut.set_ | apply keep_drewN | apply keep_drew | apply keep_alloc) | exact HK.out)) (KeepBut.of_grown hg g) (Kd.R_base2 HO954.out)); have n6_ := A_ (ho); clear HO_4; clear HI0; clear HL951_0; clear HO960; clear HB; clear HK; clear HO954; have HO_4 := n0_; have HI0 := n1_; have HL951_0 := n2_; have HO960 := n3_; have HB := n4_; have HK := n5_; have HO966 := n6_; clear n0_ n1_ n2_ n3_ n4_ n5_ n6_; clear ho hb hg hat))
        go_ret
        exact ⟨_, te_, by (with_reducible repeat (first | apply Kd.R_alloc | apply Kd.R_drewN | apply Kd.R_drew)); exact Kd.R_mono HO966.out (fun _ hk => trivial), by repeat (first | (with_reducible first | exact HI0.out | apply IsS122.alloc | apply IsS122.drewN | apply IsS122.drew | apply IsS122.set_1 | apply IsS122.set_2) | exact HI0.out), by repeat (first | (with_reducible first | exact HB.out | apply below_alloc | apply pw_below_drewN | apply below_drew1 | refine below_set ?_ (IsS122.ge HI0.out)) | exact HB.out), by repeat (first | (with_reducible first | exact HK.out | apply KeepBut.set_ | apply keep_drewN | apply keep_drew | apply keep_alloc) | exact HK.out)⟩
       ·
        rw [if_neg c22] at H
        exact absurd H (by simp)
      ·
       replace c20 := Bool.eq_false_iff.mpr c20
       subst c20
       have H1 : (some (t952, t956, t957)) = some (r1, r2, r3) := by rw [if_neg (show ¬ (false = true) by decide)] at H; exact H
       clear H
       have H := H1
       clear H1
       simp only [Option.some.injEq, Prod.mk.injEq] at H
       obtain ⟨rfl, rfl, rfl⟩ := H
       obtain ⟨Ao32, co32, eo32⟩ := Kd.N_slice HO_4.out
       subst eo32
       go_wp2_with (first | (refine gc_ 164 ?_; refine goesT_ (some 25) Try.func164 #[.pointer (some ⟨g, 0, none⟩), .int .i64 (t937.length : Int)] ?_; (with_reducible refine (spec_l1Cur_pick.calls g s0_0 x1001_3 x1002_3 (t937.length : Int) t948 t949 t950 w0 _ ?side1 ?side2 A15.out).mono ?_); (case side1 => repeat (first | (with_reducible first | exact HI0.out | apply IsS122.alloc | apply IsS122.drewN | apply IsS122.drew | apply IsS122.set_1 | apply IsS122.set_2) | exact HI0.out)); (case side2 => repeat (first | (with_reducible first | exact HB.out | apply below_alloc | apply pw_below_drewN | apply below_drew1 | refine below_set ?_ (IsS122.ge HI0.out)) | exact HB.out)); rintro e w33 ⟨rfl, hi, hb, hk⟩; refine ⟨_, rfl, ?_⟩; replace HO_4 := A_ (Kd.N_mono (Kd.N_keep (Kd.N_mono (ok := fun k_ => k_ ≠ g) (by (with_reducible repeat (first | apply Kd.N_alloc | apply Kd.N_drewN | apply Kd.N_drew)); exact HO_4.out) (fun k_ hk_ => (⟨hk_, hk_⟩ : _ ∧ k_ ≠ g))) hk (fun _ h => h.2)) (fun _ h => h.1)); replace HK := A_ (KeepBut.trans (by repeat (first | (with_reducible first | exact HK.out | apply KeepBut.set_ | apply keep_drewN | apply keep_drew | apply keep_alloc) | exact HK.out)) hk (.inl rfl)); replace HB := A_ (hb); replace HI0 := A_ (hi); (try clear hb); (try clear hb2); (try clear hk); (try clear hi); have p951 : 0 ≤ (t948 : Int) := od_; have q951 : t948 < (t937.length : Int) := od_; obtain ⟨ad951, A951_0, c951_0, e951, hx951_0, hl951_0, hi951_0⟩ := at_L1 (Kd.N_reads' HO_4.out).2.2 t948 p951 q951; cases e951; obtain ⟨ce951, hce951, hMe951, hcc951⟩ := Kd.N_get HO_4.out [] t948 p951 (by first | exact q951 | exact od_ | (have e_ := (Kd.N_reads' HO_4.out).1; omega)); obtain ⟨ua951_0, uc951_0, rfl, ul951_0, ge951_0⟩ := Kd.FK_slice_open hMe951; have hv951_0 := hcc951 0 _ rfl; rw [Nat.add_zero, show ((Kd.slice 3 (Kd.int .i64))).sz = 1 from rfl, Nat.mul_one] at hv951_0; replace hv951_0 := Option.some.inj (hv951_0.symm.trans hx951_0); injection hv951_0 with hva_ hvn_ hvc_; rw [hva_] at ge951_0; rw [hvc_] at ul951_0; have HL951_0 := A_ (show Kd.V (Kd.int .i64) 3 _ w.heap.size _ _ (rd_L1 t937 t948) from Kd.V_mk ul951_0 ge951_0); clear hva_ hvn_ hvc_ ge951_0 ul951_0; clear hcc951 hce951; have HR951_0 := A_ hi951_0; have HC951_0 := A_ hl951_0; clear hi951_0 hl951_0; replace p951 := eq_true p951; replace q951 := eq_true q951) | (refine gc_ 150 ?_; refine goesT_ (some 28) Try.func150 #[.slice A951_0 (rd_L1 t937 t948).length c951_0] ?_; (with_reducible refine (spec_l1Own.calls _ _ (rd_L1 t937 t948) t952 _ ?side1 ?side2 A18.out).mono ?_); (case side1 => repeat (first | exact (by repeat (first | (with_reducible exact HR951_0.out) | (with_reducible refine Kd.C_alloc ?_ _) | (with_reducible refine Kd.C_drewN ?_ _) | (with_reducible refine Kd.C_drew ?_) | exact HR951_0.out)) | (with_reducible refine Kd.C_alloc ?_ _) | (with_reducible refine Kd.C_drewN ?_ _) | (with_reducible refine Kd.C_drew ?_))); (case side2 => exact HC951_0.out); rintro e w34 ⟨v953, rfl, ho0, hb⟩; refine ⟨_, rfl, ?_⟩; replace HO_4 := A_ (Kd.N_elder' (by (with_reducible repeat (first | apply Kd.N_alloc | apply Kd.N_drewN | apply Kd.N_drew)); exact HO_4.out) (Kd.R_base ho0) hb); replace HL951_0 := A_ (Kd.V_elder' (by (with_reducible repeat (first | apply Kd.V_alloc | apply Kd.V_drewN | apply Kd.V_drew)); exact HL951_0.out) (Kd.R_base ho0) hb); have HO954 := A_ (Kd.R_lower ho0 (keep_size (w := w) (g := g) (row := none) (by repeat (first | (with_reducible first | exact HK.out | apply KeepBut.set_ | apply keep_drewN | apply keep_drew | apply keep_alloc) | exact HK.out)))); replace HR951_0 := A_ (Kd.C_below (by repeat (first | (with_reducible exact HR951_0.out) | (with_reducible refine Kd.C_alloc ?_ _) | (with_reducible refine Kd.C_drewN ?_ _) | (with_reducible refine Kd.C_drew ?_) | exact HR951_0.out)) hb); replace HK := A_ (KeepBut.trans (by repeat (first | (with_reducible first | exact HK.out | apply KeepBut.set_ | apply keep_drewN | apply keep_drew | apply keep_alloc) | exact HK.out)) (KeepBut.of_below hb g none) (.inl rfl)); replace HB := A_ (below_step (by repeat (first | (with_reducible first | exact HB.out | apply below_alloc | apply pw_below_drewN | apply below_drew1 | refine below_set ?_ (IsS122.ge HI0.out)) | exact HB.out)) hb); replace HI0 := A_ (IsS122.below (by repeat (first | (with_reducible first | exact HI0.out | apply IsS122.alloc | apply IsS122.drewN | apply IsS122.drew | apply IsS122.set_1 | apply IsS122.set_2) | exact HI0.out)) hb); (try clear hb); (try clear hb2); (try clear hk); (try clear hi); (try clear ho0)) | (refine gc_ 166 ?_; refine goesT_ (some 30) Try.func166 #[.pointer (some ⟨g, 0, none⟩), .int .i64 15] ?_; (with_reducible refine (spec_l1Cur_one.calls g s0_0 t949 t950 15 false t956 t957 w0 _ ?side1 ?side2 A19.out).mono ?_); (case side1 => repeat (first | (with_reducible first | exact HI0.out | apply IsS122.alloc | apply IsS122.drewN | apply IsS122.drew | apply IsS122.set_1 | apply IsS122.set_2) | exact HI0.out)); (case side2 => repeat (first | (with_reducible first | exact HB.out | apply below_alloc | apply pw_below_drewN | apply below_drew1 | refine below_set ?_ (IsS122.ge HI0.out)) | exact HB.out)); rintro e w35 ⟨rfl, hi, hb, hk⟩; refine ⟨_, rfl, ?_⟩; replace HO_4 := A_ (Kd.N_mono (Kd.N_keep (Kd.N_mono (ok := fun k_ => (k_ ≠ g ∧ some k_ ≠ (v953 : Value).ownBlock)) (by (with_reducible repeat (first | apply Kd.N_alloc | apply Kd.N_drewN | apply Kd.N_drew)); exact HO_4.out) (fun k_ hk_ => (⟨hk_, hk_.1⟩ : _ ∧ k_ ≠ g))) hk (fun _ h => h.2)) (fun _ h => h.1)); replace HL951_0 := A_ (Kd.V_mono (Kd.V_keep (Kd.V_mono (ok := fun k_ => ((k_ ≠ g ∧ some k_ ≠ (.slice (some ad951) t937.length co32 : Value).ownBlock) ∧ some k_ ≠ (v953 : Value).ownBlock)) (by (with_reducible repeat (first | apply Kd.V_alloc | apply Kd.V_drewN | apply Kd.V_drew)); exact HL951_0.out) (fun k_ hk_ => (⟨hk_, hk_.1.1⟩ : _ ∧ k_ ≠ g))) hk (fun _ h => h.2)) (fun _ h => h.1)); replace HO954 := A_ (Kd.R_mono (Kd.R_keep (IsS122.apart (show IsS122 w0 _ g s0_0 t949 t950 from by repeat (first | (with_reducible first | exact HI0.out | apply IsS122.alloc | apply IsS122.drewN | apply IsS122.drew | apply IsS122.set_1 | apply IsS122.set_2) | exact HI0.out)) (tr_x HO954.out) (by decide)) hk (fun _ h => h.2)) (fun _ h => h.1)); replace HK := A_ (KeepBut.trans (by repeat (first | (with_reducible first | exact HK.out | apply KeepBut.set_ | apply keep_drewN | apply keep_drew | apply keep_alloc) | exact HK.out)) hk (.inl rfl)); replace HB := A_ (hb); replace HI0 := A_ (hi); (try clear hb); (try clear hb2); (try clear hk); (try clear hi)))
       go_ret
       exact ⟨_, te_, tr_x HO954.out, by repeat (first | (with_reducible first | exact HI0.out | apply IsS122.alloc | apply IsS122.drewN | apply IsS122.drew | apply IsS122.set_1 | apply IsS122.set_2) | exact HI0.out), by repeat (first | (with_reducible first | exact HB.out | apply below_alloc | apply pw_below_drewN | apply below_drew1 | refine below_set ?_ (IsS122.ge HI0.out)) | exact HB.out), by repeat (first | (with_reducible first | exact HK.out | apply KeepBut.set_ | apply keep_drewN | apply keep_drew | apply keep_alloc) | exact HK.out)⟩
     ·
      rw [if_neg c17] at H
      exact absurd H (by simp)
    ·
     rw [if_neg c16] at H
     exact absurd H (by simp)

/-! ### impl_isPerm: function 180 -/
def impl_isPerm.l0 : Nat → List Int → Int → List Int → Int → Int → Option (Bool)
 | 0, _, _, _, _, _ => none
 | k + 1, x0, x1, x11, x12, x13 => if x13 < x12 then (if 0 ≤ x13 then (if x13 < (x11.length : Int) then ((impl_within.f (rd x11 x13) 0 (wrap64 (x1 - 1))).bind fun t1014 => (if t1014 = true then (if x13 ≤ (x0.length : Int) then ((slices_Contains_int_int.f k (x0.take (x13 : Int).toNat) (rd x11 x13)).bind fun t1019 => (if t1019 = true then (some false) else (impl_isPerm.l0 k x0 x1 x11 x12 (wrap64 (x13 + 1))))) else (none)) else (some false))) else (none)) else (none)) else (some true)
def impl_isPerm.f (k : Nat) (l0 : List Int) (a1 : Int) : Option (Bool) := if (l0.length : Int) = a1 then (impl_isPerm.l0 k l0 a1 l0 (l0.length : Int) 0) else (some false)
theorem impl_isPerm.mono_l : ∀ k, (∀ y0 y1 y2 y3 y4, LeO (impl_isPerm.l0 k y0 y1 y2 y3 y4) (impl_isPerm.l0 (k + 1) y0 y1 y2 y3 y4))
 | 0 => fun _ _ _ _ _ r h => by simp [impl_isPerm.l0] at h
 | k + 1 => by
  have ih0 := impl_isPerm.mono_l k
  ·
   intro y0 y1 y2 y3 y4
   unfold impl_isPerm.l0
   repeat' first | (with_reducible first | exact ih0 _ _ _ _ _ | exact slices_Contains_int_int.mono _ _ _ | exact LeO.refl _ | exact LeO.none _ | refine LeO.ite ?_ ?_ | refine LeO.bind ?_ (fun _ => ?_)) | exact ih0 _ _ _ _ _ | exact slices_Contains_int_int.mono _ _ _ | exact LeO.none _ | refine LeO.ite ?_ ?_ | refine LeO.bind ?_ (fun _ => ?_)
theorem impl_isPerm.mono : ∀ a0 a1 k, LeO (impl_isPerm.f k a0 a1) (impl_isPerm.f (k + 1) a0 a1) := by
 intro a0 a1 k
 have ih0 := impl_isPerm.mono_l k
 unfold impl_isPerm.f
 repeat' first | (with_reducible first | exact ih0 _ _ _ _ _ | exact slices_Contains_int_int.mono _ _ _ | exact LeO.refl _ | exact LeO.none _ | refine LeO.ite ?_ ?_ | refine LeO.bind ?_ (fun _ => ?_)) | exact ih0 _ _ _ _ _ | exact slices_Contains_int_int.mono _ _ _ | exact LeO.none _ | refine LeO.ite ?_ ?_ | refine LeO.bind ?_ (fun _ => ?_)
theorem impl_isPerm.calls (k : Nat) (A0 : Option Addr) (c0 : Nat) (l0 : List Int) (a1 : Int) (r : Bool) (w : World) (hr0 : Kd.C (Kd.int .i64) w A0 l0.length l0) (hc0 : l0.length ≤ c0) (h : impl_isPerm.f k l0 a1 = some r) :
  Calls Try.prog 180 #[.slice A0 l0.length c0, .int .i64 a1] w fun e w' => e = .returned (.bool r) ∧ Drawn0 w w' := by
 have HR0 := A_ hr0
 have HC0 := A_ hc0
 clear hr0 hc0
 have H : (if (l0.length : Int) = a1 then (impl_isPerm.l0 k l0 a1 l0 (l0.length : Int) 0) else (some false)) = some r := h
 clear h
 by_cases c3 : (l0.length : Int) = a1
 ·
  rw [if_pos c3] at H
  have c3b0 : ((l0.length : Int) == a1) = true := beq_iff_eq.mpr c3
  have c3b1 : ((l0.length : Int) != a1) = false := bne_eq_false_iff_eq.mpr c3
  clear c3
  have H' := A_ H
  clear H
  go_enter Try.func180, Try.ntmps180
  go_wp2
  go_loopg [13] k (fun kq v13 w' => ∃ (x13_1 : Int), v13 = .int .i64 x13_1 ∧ Aside0 (impl_isPerm.l0 kq l0 a1 l0 (l0.length : Int) x13_1 = some r) ∧ Aside0 (kq ≤ k) ∧ Drawn0 w w')
  case atStart => exact ⟨(0), tf_, H', ⟨Nat.le_refl _⟩, dr_⟩
  case round =>
   clear H'
   try clear c1
   try clear p2
   try clear c3
   try clear c3b0
   try clear c3b1
   obtain ⟨x13_1, rfl, HA, HK1, ⟨m1, rfl⟩⟩ := hrel
   cases gk with
   | zero => exact absurd HA.out (by simp [impl_isPerm.l0])
   | succ k1 =>
    have H := HA.out
    clear HA
    simp only [impl_isPerm.l0] at H
    by_cases c4 : x13_1 < (l0.length : Int)
    ·
     rw [if_pos c4] at H
     have c4b0 := decide_eq_true c4
     clear c4
     by_cases c5 : 0 ≤ x13_1
     ·
      rw [if_pos c5] at H
      have c5b0 := decide_eq_true c5
      clear c5
      by_cases c6 : x13_1 < (l0.length : Int)
      ·
       rw [if_pos c6] at H
       have c6b0 := decide_eq_true c6
       clear c6
       replace H := Option.bind_eq_some_iff.mp H
       obtain ⟨t1014, A70, H⟩ := H
       replace H : (if t1014 = true then (if x13_1 ≤ (l0.length : Int) then ((slices_Contains_int_int.f k1 (l0.take (x13_1 : Int).toNat) (rd l0 x13_1)).bind fun t1019 => (if t1019 = true then (some false) else (impl_isPerm.l0 k1 l0 a1 l0 (l0.length : Int) (wrap64 (x13_1 + 1))))) else (none)) else (some false)) = some r := H
       have A7 := A_ A70
       clear A70
       by_cases c8 : t1014 = true
       ·
        subst c8
        have H1 : (if x13_1 ≤ (l0.length : Int) then ((slices_Contains_int_int.f k1 (l0.take (x13_1 : Int).toNat) (rd l0 x13_1)).bind fun t1019 => (if t1019 = true then (some false) else (impl_isPerm.l0 k1 l0 a1 l0 (l0.length : Int) (wrap64 (x13_1 + 1))))) else (none)) = some r := by rw [if_pos rfl] at H; exact H
        clear H
        have H := H1
        clear H1
        have c9b0 := eq_true (od_ : 0 ≤ x13_1)
        by_cases c10 : x13_1 ≤ (l0.length : Int)
        ·
         rw [if_pos c10] at H
         have c10b0 := eq_true c10
         have c10b1 := decide_eq_true c10
         clear c10
         obtain ⟨y1015, hy1015⟩ : ∃ y_ : List Int, y_ = (l0.take (x13_1 : Int).toNat) := ⟨_, rfl⟩
         replace H : ((slices_Contains_int_int.f k1 y1015 (rd l0 x13_1)).bind fun t1019 => (if t1019 = true then (some false) else (impl_isPerm.l0 k1 l0 a1 l0 (l0.length : Int) (wrap64 (x13_1 + 1))))) = some r := ty_ hy1015 H
         have Ny1015 := A_ hy1015
         clear hy1015
         replace H := Option.bind_eq_some_iff.mp H
         obtain ⟨t1019, A110, H⟩ := H
         replace H : (if t1019 = true then (some false) else (impl_isPerm.l0 k1 l0 a1 l0 (l0.length : Int) (wrap64 (x13_1 + 1)))) = some r := H
         have A11 := A_ A110
         clear A110
         by_cases c12 : t1019 = true
         ·
          subst c12
          have H1 : (some false) = some r := by rw [if_pos rfl] at H; exact H
          clear H
          have H := H1
          clear H1
          obtain rfl := Option.some.inj H
          have p1013 : 0 ≤ (x13_1 : Int) := od_
          have q1013 : x13_1 < (l0.length : Int) := od_
          obtain ⟨ad1013, e1013, hx1013_0⟩ := Kd.at_int HR0.out x13_1 p1013 q1013
          cases e1013
          replace p1013 := eq_true p1013
          replace q1013 := eq_true q1013
          go_wp2_with (first | (refine gc_ 139 ?_; refine goesT_ (some 21) Try.func139 #[.int .i64 (rd l0 x13_1), .int .i64 0, .int .i64 (wrap64 (a1 - 1))] ?_; (with_reducible refine (impl_within.calls (rd l0 x13_1) 0 (wrap64 (a1 - 1)) true _ A7.out).mono ?_); rintro e w' ⟨rfl, ⟨nd, rfl⟩⟩; refine ⟨_, rfl, ?_⟩; have q13 : (x13_1 : Int) ≤ ((l0.length : Int) : Int) := od_; obtain ⟨i013, hi013, _, hsz13, _⟩ := info_parts info3; have hroom13 : l0.length ≤ c0 := HC0.out; have hC13 : Kd.C (Kd.int .i64) _ (some ad1013) l0.length l0 := HR0.out; have hcut13 := cut_to (P := Try.prog) 22 3 .i64 Try.underlying22 hi013 (some ad1013) l0.length c0 x13_1 (od_) q13 hroom13; have hr13 := Kd.C_take (m := (x13_1 : Int).toNat) hC13 (by omega); have hy13 : y1015.length = (x13_1 : Int).toNat := (by rw [Ny1015.out, List.length_take]; omega); rw [← Ny1015.out] at hr13; rw [← hy13] at hcut13; have HR1018 := A_ hr13; have HC1018 := A_ (show y1015.length ≤ c0 from by omega); clear hr13 hC13 hroom13 hi013 hsz13; have KY13 := A_ hy13; clear hy13; replace q13 := eq_true q13) | (go_at_call 182; (with_reducible refine (slices_Contains_int_int.calls k1 _ _ y1015 (rd l0 x13_1) true _ ?side1 ?side2 A11.out).mono ?_); (case side1 => exact tc0_ HR1018.out); (case side2 => exact HC1018.out); rintro e w' ⟨rfl, ⟨nd, rfl⟩⟩))
          go_ret
          exact ⟨tf_, dr_⟩
         ·
          replace c12 := Bool.eq_false_iff.mpr c12
          subst c12
          have H1 : (impl_isPerm.l0 k1 l0 a1 l0 (l0.length : Int) (wrap64 (x13_1 + 1))) = some r := by rw [if_neg (show ¬ (false = true) by decide)] at H; exact H
          clear H
          have H := H1
          clear H1
          have H' := A_ H
          clear H
          have p1013 : 0 ≤ (x13_1 : Int) := od_
          have q1013 : x13_1 < (l0.length : Int) := od_
          obtain ⟨ad1013, e1013, hx1013_0⟩ := Kd.at_int HR0.out x13_1 p1013 q1013
          cases e1013
          replace p1013 := eq_true p1013
          replace q1013 := eq_true q1013
          go_wp2_with (first | (refine gc_ 139 ?_; refine goesT_ (some 21) Try.func139 #[.int .i64 (rd l0 x13_1), .int .i64 0, .int .i64 (wrap64 (a1 - 1))] ?_; (with_reducible refine (impl_within.calls (rd l0 x13_1) 0 (wrap64 (a1 - 1)) true _ A7.out).mono ?_); rintro e w' ⟨rfl, ⟨nd, rfl⟩⟩; refine ⟨_, rfl, ?_⟩; have q14 : (x13_1 : Int) ≤ ((l0.length : Int) : Int) := od_; obtain ⟨i014, hi014, _, hsz14, _⟩ := info_parts info3; have hroom14 : l0.length ≤ c0 := HC0.out; have hC14 : Kd.C (Kd.int .i64) _ (some ad1013) l0.length l0 := HR0.out; have hcut14 := cut_to (P := Try.prog) 22 3 .i64 Try.underlying22 hi014 (some ad1013) l0.length c0 x13_1 (od_) q14 hroom14; have hr14 := Kd.C_take (m := (x13_1 : Int).toNat) hC14 (by omega); have hy14 : y1015.length = (x13_1 : Int).toNat := (by rw [Ny1015.out, List.length_take]; omega); rw [← Ny1015.out] at hr14; rw [← hy14] at hcut14; have HR1018 := A_ hr14; have HC1018 := A_ (show y1015.length ≤ c0 from by omega); clear hr14 hC14 hroom14 hi014 hsz14; have KY14 := A_ hy14; clear hy14; replace q14 := eq_true q14) | (go_at_call 182; (with_reducible refine (slices_Contains_int_int.calls k1 _ _ y1015 (rd l0 x13_1) false _ ?side1 ?side2 A11.out).mono ?_); (case side1 => exact tc0_ HR1018.out); (case side2 => exact HC1018.out); rintro e w' ⟨rfl, ⟨nd, rfl⟩⟩))
          go_roundg k1
          case measure => have := HK1.out; omega
          case rel => exact ⟨(wrap64 (x13_1 + 1)), tf_, H', ⟨by have := HK1.out; omega⟩, dr_⟩
        ·
         rw [if_neg c10] at H
         exact absurd H (by simp)
       ·
        replace c8 := Bool.eq_false_iff.mpr c8
        subst c8
        have H1 : (some false) = some r := by rw [if_neg (show ¬ (false = true) by decide)] at H; exact H
        clear H
        have H := H1
        clear H1
        obtain rfl := Option.some.inj H
        have p1013 : 0 ≤ (x13_1 : Int) := od_
        have q1013 : x13_1 < (l0.length : Int) := od_
        obtain ⟨ad1013, e1013, hx1013_0⟩ := Kd.at_int HR0.out x13_1 p1013 q1013
        cases e1013
        replace p1013 := eq_true p1013
        replace q1013 := eq_true q1013
        go_wp2_with (first | (refine gc_ 139 ?_; refine goesT_ (some 21) Try.func139 #[.int .i64 (rd l0 x13_1), .int .i64 0, .int .i64 (wrap64 (a1 - 1))] ?_; (with_reducible refine (impl_within.calls (rd l0 x13_1) 0 (wrap64 (a1 - 1)) false _ A7.out).mono ?_); rintro e w' ⟨rfl, ⟨nd, rfl⟩⟩; refine ⟨_, rfl, ?_⟩))
        go_ret
        exact ⟨tf_, dr_⟩
      ·
       rw [if_neg c6] at H
       exact absurd H (by simp)
     ·
      rw [if_neg c5] at H
      exact absurd H (by simp)
    ·
     rw [if_neg c4] at H
     have c4b0 := decide_eq_false c4
     clear c4
     obtain rfl := Option.some.inj H
     go_wp2
     go_ret
     exact ⟨tf_, dr_⟩
 ·
  rw [if_neg c3] at H
  have c3b0 : ((l0.length : Int) == a1) = false := beq_eq_false_iff_ne.mpr c3
  have c3b1 : ((l0.length : Int) != a1) = true := bne_iff_ne.mpr c3
  obtain rfl := Option.some.inj H
  go_enter Try.func180, Try.ntmps180
  go_wp2
  go_ret
  exact ⟨tf_, dr_⟩

/-! ### impl_isList: function 170 -/
def impl_isList.f (k : Nat) (l0 : List Int) : Option (Bool) := (impl_isMany.f (l0.length : Int)).bind fun t1020 => (if t1020 = true then ((impl_isPerm.f k l0 (l0.length : Int)).bind fun t1021 => (some t1021)) else (some false))
theorem impl_isList.mono : ∀ a0 k, LeO (impl_isList.f k a0) (impl_isList.f (k + 1) a0) := by
 intro a0 k
 unfold impl_isList.f
 repeat' first | (with_reducible first | exact impl_isPerm.mono _ _ _ | exact LeO.refl _ | exact LeO.none _ | refine LeO.ite ?_ ?_ | refine LeO.bind ?_ (fun _ => ?_)) | exact impl_isPerm.mono _ _ _ | exact LeO.none _ | refine LeO.ite ?_ ?_ | refine LeO.bind ?_ (fun _ => ?_)
theorem impl_isList.calls (k : Nat) (A0 : Option Addr) (c0 : Nat) (l0 : List Int) (r : Bool) (w : World) (hr0 : Kd.C (Kd.int .i64) w A0 l0.length l0) (hc0 : l0.length ≤ c0) (h : impl_isList.f k l0 = some r) :
  Calls Try.prog 170 #[.slice A0 l0.length c0] w fun e w' => e = .returned (.bool r) ∧ Drawn0 w w' := by
 have HR0 := A_ hr0
 have HC0 := A_ hc0
 clear hr0 hc0
 have H : ((impl_isMany.f (l0.length : Int)).bind fun t1020 => (if t1020 = true then ((impl_isPerm.f k l0 (l0.length : Int)).bind fun t1021 => (some t1021)) else (some false))) = some r := h
 clear h
 replace H := Option.bind_eq_some_iff.mp H
 obtain ⟨t1020, A20, H⟩ := H
 replace H : (if t1020 = true then ((impl_isPerm.f k l0 (l0.length : Int)).bind fun t1021 => (some t1021)) else (some false)) = some r := H
 have A2 := A_ A20
 clear A20
 by_cases c3 : t1020 = true
 ·
  subst c3
  have H1 : ((impl_isPerm.f k l0 (l0.length : Int)).bind fun t1021 => (some t1021)) = some r := by rw [if_pos rfl] at H; exact H
  clear H
  have H := H1
  clear H1
  replace H := Option.bind_eq_some_iff.mp H
  obtain ⟨t1021, A40, H⟩ := H
  replace H : (some t1021) = some r := H
  have A4 := A_ A40
  clear A40
  obtain rfl := Option.some.inj H
  go_enter Try.func170, Try.ntmps170
  go_wp2_with (first | (refine gc_ 161 ?_; refine goesT_ (some 5) Try.func161 #[.int .i64 (l0.length : Int)] ?_; (with_reducible refine (impl_isMany.calls (l0.length : Int) true _ A2.out).mono ?_); rintro e w' ⟨rfl, ⟨nd, rfl⟩⟩; refine ⟨_, rfl, ?_⟩) | (go_at_call 180; (with_reducible refine (impl_isPerm.calls k _ _ l0 (l0.length : Int) t1021 _ ?side1 ?side2 A4.out).mono ?_); (case side1 => exact tc0_ HR0.out); (case side2 => exact HC0.out); rintro e w' ⟨rfl, ⟨nd, rfl⟩⟩))
  go_ret
  exact ⟨tf_, dr_⟩
 ·
  replace c3 := Bool.eq_false_iff.mpr c3
  subst c3
  have H1 : (some false) = some r := by rw [if_neg (show ¬ (false = true) by decide)] at H; exact H
  clear H
  have H := H1
  clear H1
  obtain rfl := Option.some.inj H
  go_enter Try.func170, Try.ntmps170
  go_wp2_with (first | (refine gc_ 161 ?_; refine goesT_ (some 5) Try.func161 #[.int .i64 (l0.length : Int)] ?_; (with_reducible refine (impl_isMany.calls (l0.length : Int) false _ A2.out).mono ?_); rintro e w' ⟨rfl, ⟨nd, rfl⟩⟩; refine ⟨_, rfl, ?_⟩))
  go_ret
  exact ⟨tf_, dr_⟩

/-! ### impl_areQueens: function 175 -/
mutual
def impl_areQueens.l0 : Nat → List Int → List Int → Int → Int → Option (Bool)
 | 0, _, _, _, _ => none
 | k + 1, x0, x7, x8, x9 => if x9 < x8 then (if 0 ≤ x9 then (if x9 < (x7.length : Int) then (if x9 ≤ (x0.length : Int) then ((some (x0.take (x9 : Int).toNat : List Int)).bind fun y1049 => (impl_areQueens.l1 k x0 x9 (rd x7 x9) x7 x8 x9 y1049 (y1049.length : Int) 0)) else (none)) else (none)) else (none)) else (some true)
def impl_areQueens.l1 : Nat → List Int → Int → Int → List Int → Int → Int → List Int → Int → Int → Option (Bool)
 | 0, _, _, _, _, _, _, _, _, _ => none
 | k + 1, x0, x3, x4, x7, x8, x9, x16, x17, x18 => if x18 < x17 then (if 0 ≤ x18 then (if x18 < (x16.length : Int) then ((impl_attacked.f x18 (rd x16 x18) x3 x4).bind fun t1054 => (if t1054 = true then (some false) else (impl_areQueens.l1 k x0 x3 x4 x7 x8 x9 x16 x17 (wrap64 (x18 + 1))))) else (none)) else (none)) else (impl_areQueens.l0 k x0 x7 x8 (wrap64 (x9 + 1)))
end
def impl_areQueens.f (k : Nat) (l0 : List Int) : Option (Bool) := impl_areQueens.l0 k l0 l0 (l0.length : Int) 0
theorem impl_areQueens.mono_l : ∀ k, (∀ y0 y1 y2 y3, LeO (impl_areQueens.l0 k y0 y1 y2 y3) (impl_areQueens.l0 (k + 1) y0 y1 y2 y3)) ∧ (∀ y0 y1 y2 y3 y4 y5 y6 y7 y8, LeO (impl_areQueens.l1 k y0 y1 y2 y3 y4 y5 y6 y7 y8) (impl_areQueens.l1 (k + 1) y0 y1 y2 y3 y4 y5 y6 y7 y8))
 | 0 => ⟨fun _ _ _ _ r h => by simp [impl_areQueens.l0] at h, fun _ _ _ _ _ _ _ _ _ r h => by simp [impl_areQueens.l1] at h⟩
 | k + 1 => by
  obtain ⟨ih0, ih1⟩ := impl_areQueens.mono_l k
  refine ⟨?_, ?_⟩
  ·
   intro y0 y1 y2 y3
   unfold impl_areQueens.l0
   repeat' first | (with_reducible first | exact ih0 _ _ _ _ | exact ih1 _ _ _ _ _ _ _ _ _ | exact LeO.refl _ | exact LeO.none _ | refine LeO.ite ?_ ?_ | refine LeO.bind ?_ (fun _ => ?_)) | exact ih0 _ _ _ _ | exact ih1 _ _ _ _ _ _ _ _ _ | exact LeO.none _ | refine LeO.ite ?_ ?_ | refine LeO.bind ?_ (fun _ => ?_)
  ·
   intro y0 y1 y2 y3 y4 y5 y6 y7 y8
   unfold impl_areQueens.l1
   repeat' first | (with_reducible first | exact ih0 _ _ _ _ | exact ih1 _ _ _ _ _ _ _ _ _ | exact LeO.refl _ | exact LeO.none _ | refine LeO.ite ?_ ?_ | refine LeO.bind ?_ (fun _ => ?_)) | exact ih0 _ _ _ _ | exact ih1 _ _ _ _ _ _ _ _ _ | exact LeO.none _ | refine LeO.ite ?_ ?_ | refine LeO.bind ?_ (fun _ => ?_)
theorem impl_areQueens.mono : ∀ a0 k, LeO (impl_areQueens.f k a0) (impl_areQueens.f (k + 1) a0) := by
 intro a0 k
 obtain ⟨ih0, ih1⟩ := impl_areQueens.mono_l k
 unfold impl_areQueens.f
 repeat' first | (with_reducible first | exact ih0 _ _ _ _ | exact ih1 _ _ _ _ _ _ _ _ _ | exact LeO.refl _ | exact LeO.none _ | refine LeO.ite ?_ ?_ | refine LeO.bind ?_ (fun _ => ?_)) | exact ih0 _ _ _ _ | exact ih1 _ _ _ _ _ _ _ _ _ | exact LeO.none _ | refine LeO.ite ?_ ?_ | refine LeO.bind ?_ (fun _ => ?_)
theorem impl_areQueens.calls (k : Nat) (A0 : Option Addr) (c0 : Nat) (l0 : List Int) (r : Bool) (w : World) (hr0 : Kd.C (Kd.int .i64) w A0 l0.length l0) (hc0 : l0.length ≤ c0) (h : impl_areQueens.f k l0 = some r) :
  Calls Try.prog 175 #[.slice A0 l0.length c0] w fun e w' => e = .returned (.bool r) ∧ Below w.heap.size w w' := by
 have HR0 := A_ hr0
 have HC0 := A_ hc0
 clear hr0 hc0
 have HB := A_ (Below.refl w.heap.size w)
 have H : (impl_areQueens.l0 k l0 l0 (l0.length : Int) 0) = some r := h
 clear h
 have H' := A_ H
 clear H
 go_enter Try.func175, Try.ntmps175
 go_wp2
 go_loopg [9] k (fun kq v9 w' => ∃ (x9_1 : Int), v9 = .int .i64 x9_1 ∧ Aside0 (impl_areQueens.l0 kq l0 l0 (l0.length : Int) x9_1 = some r) ∧ Aside0 (kq ≤ k) ∧ Aside0 (Below w.heap.size w w'))
 case atStart => exact ⟨(0), tf_, H', ⟨Nat.le_refl _⟩, ⟨tb_⟩⟩
 case round =>
  clear H'
  try clear c1
  obtain ⟨x9_1, rfl, HA, HK1, HB⟩ := hrel
  cases gk with
  | zero => exact absurd HA.out (by simp [impl_areQueens.l0])
  | succ k1 =>
   have H := HA.out
   clear HA
   simp only [impl_areQueens.l0] at H
   by_cases c2 : x9_1 < (l0.length : Int)
   ·
    rw [if_pos c2] at H
    have c2b0 := decide_eq_true c2
    clear c2
    by_cases c3 : 0 ≤ x9_1
    ·
     rw [if_pos c3] at H
     have c3b0 := decide_eq_true c3
     clear c3
     by_cases c4 : x9_1 < (l0.length : Int)
     ·
      rw [if_pos c4] at H
      have c4b0 := decide_eq_true c4
      clear c4
      have c5b0 := eq_true (od_ : 0 ≤ x9_1)
      by_cases c6 : x9_1 ≤ (l0.length : Int)
      ·
       rw [if_pos c6] at H
       have c6b0 := eq_true c6
       have c6b1 := decide_eq_true c6
       clear c6
       obtain ⟨y1049, hy1049⟩ : ∃ y_ : List Int, y_ = (l0.take (x9_1 : Int).toNat) := ⟨_, rfl⟩
       replace H : (impl_areQueens.l1 k1 l0 x9_1 (rd l0 x9_1) l0 (l0.length : Int) x9_1 y1049 (y1049.length : Int) 0) = some r := ty_ hy1049 H
       have Ny1049 := A_ hy1049
       clear hy1049
       have H' := A_ H
       clear H
       have p1048 : 0 ≤ (x9_1 : Int) := od_
       have q1048 : x9_1 < (l0.length : Int) := od_
       obtain ⟨ad1048, e1048, hx1048_0⟩ := Kd.at_int HR0.out x9_1 p1048 q1048
       cases e1048
       (try replace hx1048_0 := (HB.out.cell (World.block_lt_of_cell? w _ hx1048_0)).trans hx1048_0)
       replace p1048 := eq_true p1048
       replace q1048 := eq_true q1048
       have q7 : (x9_1 : Int) ≤ ((l0.length : Int) : Int) := od_
       obtain ⟨i07, hi07, _, hsz7, _⟩ := info_parts info3
       have hroom7 : l0.length ≤ c0 := HC0.out
       have hC7 : Kd.C (Kd.int .i64) _ (some ad1048) l0.length l0 := HR0.out
       have hcut7 := cut_to (P := Try.prog) 22 3 .i64 Try.underlying22 hi07 (some ad1048) l0.length c0 x9_1 (od_) q7 hroom7
       have hr7 := Kd.C_take (m := (x9_1 : Int).toNat) hC7 (by omega)
       have hy7 : y1049.length = (x9_1 : Int).toNat := (by rw [Ny1049.out, List.length_take]; omega)
       rw [← Ny1049.out] at hr7
       rw [← hy7] at hcut7
       have HR1052 := A_ hr7
       have HC1052 := A_ (show y1049.length ≤ c0 from by omega)
       clear hr7 hC7 hroom7 hi07 hsz7
       have KY7 := A_ hy7
       clear hy7
       replace q7 := eq_true q7
       go_wp2
       go_loopg [18] k1 (fun kq v18 w' => ∃ (x18_2 : Int), v18 = .int .i64 x18_2 ∧ Aside0 (impl_areQueens.l1 kq l0 x9_1 (rd l0 x9_1) l0 (l0.length : Int) x9_1 y1049 (y1049.length : Int) x18_2 = some r) ∧ Aside0 (kq ≤ k1) ∧ Aside0 (Below w.heap.size w w'))
       case atStart => exact ⟨(0), tf_, H', ⟨Nat.le_refl _⟩, ⟨tb_⟩⟩
       case round =>
        clear H'
        try clear c1
        try clear p1
        try clear q1
        try clear hx1
        try clear c2
        try clear c2b0
        try clear p2
        try clear c3
        try clear c3b0
        try clear c4
        try clear c4b0
        try clear c5
        try clear c5b0
        try clear c6
        try clear c6b0
        try clear c6b1
        try clear q7
        try clear hx1048_0
        try clear p1048
        try clear q1048
        try clear q7
        obtain ⟨x18_2, rfl, HA, HK2, HB⟩ := hrel
        cases gk with
        | zero => exact absurd HA.out (by simp [impl_areQueens.l1])
        | succ k2 =>
         have H := HA.out
         clear HA
         simp only [impl_areQueens.l1] at H
         by_cases c8 : x18_2 < (y1049.length : Int)
         ·
          rw [if_pos c8] at H
          have c8b0 := decide_eq_true c8
          clear c8
          by_cases c9 : 0 ≤ x18_2
          ·
           rw [if_pos c9] at H
           have c9b0 := decide_eq_true c9
           clear c9
           by_cases c10 : x18_2 < (y1049.length : Int)
           ·
            rw [if_pos c10] at H
            have c10b0 := decide_eq_true c10
            clear c10
            replace H := Option.bind_eq_some_iff.mp H
            obtain ⟨t1054, A110, H⟩ := H
            replace H : (if t1054 = true then (some false) else (impl_areQueens.l1 k2 l0 x9_1 (rd l0 x9_1) l0 (l0.length : Int) x9_1 y1049 (y1049.length : Int) (wrap64 (x18_2 + 1)))) = some r := H
            have A11 := A_ A110
            clear A110
            by_cases c12 : t1054 = true
            ·
             subst c12
             have H1 : (some false) = some r := by rw [if_pos rfl] at H; exact H
             clear H
             have H := H1
             clear H1
             obtain rfl := Option.some.inj H
             have p1053 : 0 ≤ (x18_2 : Int) := od_
             have q1053 : x18_2 < (y1049.length : Int) := od_
             obtain ⟨ad1053, e1053, hx1053_0⟩ := Kd.at_int HR1052.out x18_2 p1053 q1053
             obtain rfl : ad1048 = ad1053 := (by injection e1053)
             (try replace hx1053_0 := (HB.out.cell (World.block_lt_of_cell? w _ hx1053_0)).trans hx1053_0)
             replace p1053 := eq_true p1053
             replace q1053 := eq_true q1053
             go_wp2_with (first | (refine gc_ 187 ?_; refine goesT_ (some 27) Try.func187 #[.int .i64 x18_2, .int .i64 (rd y1049 x18_2), .int .i64 x9_1, .int .i64 (rd l0 x9_1)] ?_; (with_reducible refine (impl_attacked.calls x18_2 (rd y1049 x18_2) x9_1 (rd l0 x9_1) true _ A11.out).mono ?_); rintro e w13 ⟨rfl, hb⟩; refine ⟨_, rfl, ?_⟩; replace HB := A_ (below_step tb_ hb); (try clear hb)))
             go_ret
             exact ⟨te_, tb_⟩
            ·
             replace c12 := Bool.eq_false_iff.mpr c12
             subst c12
             have H1 : (impl_areQueens.l1 k2 l0 x9_1 (rd l0 x9_1) l0 (l0.length : Int) x9_1 y1049 (y1049.length : Int) (wrap64 (x18_2 + 1))) = some r := by rw [if_neg (show ¬ (false = true) by decide)] at H; exact H
             clear H
             have H := H1
             clear H1
             have H' := A_ H
             clear H
             have p1053 : 0 ≤ (x18_2 : Int) := od_
             have q1053 : x18_2 < (y1049.length : Int) := od_
             obtain ⟨ad1053, e1053, hx1053_0⟩ := Kd.at_int HR1052.out x18_2 p1053 q1053
             obtain rfl : ad1048 = ad1053 := (by injection e1053)
             (try replace hx1053_0 := (HB.out.cell (World.block_lt_of_cell? w _ hx1053_0)).trans hx1053_0)
             replace p1053 := eq_true p1053
             replace q1053 := eq_true q1053
             go_wp2_with (first | (refine gc_ 187 ?_; refine goesT_ (some 27) Try.func187 #[.int .i64 x18_2, .int .i64 (rd y1049 x18_2), .int .i64 x9_1, .int .i64 (rd l0 x9_1)] ?_; (with_reducible refine (impl_attacked.calls x18_2 (rd y1049 x18_2) x9_1 (rd l0 x9_1) false _ A11.out).mono ?_); rintro e w14 ⟨rfl, hb⟩; refine ⟨_, rfl, ?_⟩; replace HB := A_ (below_step tb_ hb); (try clear hb)))
             go_roundg k2
             case measure => have := HK1.out; have := HK2.out; omega
             case rel => exact ⟨(wrap64 (x18_2 + 1)), tf_, H', ⟨by have := HK1.out; have := HK2.out; omega⟩, ⟨tb_⟩⟩
           ·
            rw [if_neg c10] at H
            exact absurd H (by simp)
          ·
           rw [if_neg c9] at H
           exact absurd H (by simp)
         ·
          rw [if_neg c8] at H
          have c8b0 := decide_eq_false c8
          clear c8
          have H' := A_ H
          clear H
          go_wp2
          go_roundg k2
          case measure => have := HK1.out; have := HK2.out; omega
          case rel => exact ⟨(wrap64 (x9_1 + 1)), tf_, H', ⟨by have := HK1.out; have := HK2.out; omega⟩, ⟨tb_⟩⟩
      ·
       rw [if_neg c6] at H
       exact absurd H (by simp)
     ·
      rw [if_neg c4] at H
      exact absurd H (by simp)
    ·
     rw [if_neg c3] at H
     exact absurd H (by simp)
   ·
    rw [if_neg c2] at H
    have c2b0 := decide_eq_false c2
    clear c2
    obtain rfl := Option.some.inj H
    go_wp2
    go_ret
    exact ⟨te_, tb_⟩

end
end Go.Proofs.Ytnpacpdpgngdpaa.P
