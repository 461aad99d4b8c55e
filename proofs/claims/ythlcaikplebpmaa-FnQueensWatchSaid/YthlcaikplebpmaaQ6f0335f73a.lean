-- printed functions (wip/slim.py)
import Derived.Test.YthlcaikplebpmaaPx0
import Derived.Test.YthlcaikplebpmaaQ9e06a928a8
import Derived.Test.YthlcaikplebpmaaQ7ab77d5325
import Derived.Test.YthlcaikplebpmaaQ02e819e362
namespace Go.Proofs.Ythlcaikplebpmaa.P
noncomputable section
set_option maxHeartbeats 8000000
set_option maxRecDepth 100000
open Go.RowKit Go.Proofs.YthlcaikplebpmaaW.PrintWords Go.Proofs.YthlcaikplebpmaaW.PrintLast Go.Proofs.YthlcaikplebpmaaW.PrintMore
attribute [local go_sem] max2_int min2_int max_two min_two max_three min_three max_four min_four   -- for this text's walks alone
set_option linter.unusedVariables false
set_option linter.unusedSimpArgs false

/-! ### laws_FnQueensWatch: function 12 -/
mutual
def laws_FnQueensWatch.j0 : Nat → List Int → Int → List (List Int) → Bool → Bool → Option (Bool)
 | 0, _, _, _, _, _ => none
 | k + 1, x1, x5, x6, x7, x47 => if x47 = true then (none) else (if x7 = true then ((impl_AreWatching.f k x5 x6).bind fun bt1001 => (if bt1001.2 = true then (if bt1001.1 = true then (laws_FnQueensWatch.j1 k x1 x5 x6 (decide ((x6.length : Int) > (wrap64 (Int.tdiv (wrap64 (x5 + 2)) 2))))) else (none)) else (none))) else (laws_FnQueensWatch.j3 k x1))
def laws_FnQueensWatch.j3 : Nat → List Int → Option (Bool)
 | 0, _ => none
 | k + 1, x1 => (spec_DrawAreWatching.f k x1).bind fun bt1024 => ((impl_AreWatching.f k bt1024.1 bt1024.2).bind fun bt1028 => ((spec_AreWatching.f k bt1024.1 bt1024.2).bind fun bt1030 => (if (bt1028.2 != bt1030.2) = true then (none) else (laws_FnQueensWatch.j4 k bt1024.1 bt1024.2 bt1028.1 (bt1028.1 != bt1030.1)))))
def laws_FnQueensWatch.j4 : Nat → Int → List (List Int) → Bool → Bool → Option (Bool)
 | 0, _, _, _, _ => none
 | k + 1, x16, x17, x18, x120 => if x120 = true then (none) else (if x18 = true then (if x16 ≤ 6 then ((impl_LeastWatch.f k x16).bind fun bt1032 => (if bt1032.2 = true then (some (decide ((x17.length : Int) ≥ (bt1032.1.length : Int)))) else (none))) else (some true)) else (some true))
def laws_FnQueensWatch.j1 : Nat → List Int → Int → List (List Int) → Bool → Option (Bool)
 | 0, _, _, _, _ => none
 | k + 1, x1, x5, x6, x68 => if x68 = true then (none) else (laws_FnQueensWatch.l0 k x1 x5 x6 (x6.length : Int) 0)
def laws_FnQueensWatch.l0 : Nat → List Int → Int → List (List Int) → Int → Int → Option (Bool)
 | 0, _, _, _, _, _ => none
 | k + 1, x1, x5, x6, x70, x71 => if x71 < x70 then ((some (([] : List (List Int)) : List (List Int))).bind fun y1003 => (if 0 ≤ x71 then (if x71 ≤ (x6.length : Int) then ((some (x6.take (x71 : Int).toNat : List (List Int))).bind fun y1006 => (if y1003.length + y1006.length < 5864062014805 then ((some (y1003 ++ y1006 : List (List Int))).bind fun y1011 => (if 0 ≤ (wrap64 (x71 + 1)) then (if (wrap64 (x71 + 1)) ≤ (x6.length : Int) then ((some (x6.drop ((wrap64 (x71 + 1)) : Int).toNat : List (List Int))).bind fun y1014 => (if y1011.length + y1014.length < 5864062014805 then ((impl_AreWatching.f k x5 (y1011 ++ y1014)).bind fun bt1022 => (if bt1022.2 = true then (if bt1022.1 = true then (none) else (laws_FnQueensWatch.l0 k x1 x5 x6 x70 (wrap64 (x71 + 1)))) else (none))) else (none))) else (none)) else (none))) else (none))) else (none)) else (none))) else (laws_FnQueensWatch.j3 k x1)
end
def laws_FnQueensWatch.f (k : Nat) (l0 : List Int) (l1 : List Int) : Option (Bool) := (laws_big.f l0 l1).bind fun t990 => (if t990 = true then (some true) else ((spec_DrawLeastWatch.f l0).bind fun t991 => ((impl_LeastWatch.f k t991).bind fun bt992 => ((spec_LeastWatch.f k t991).bind fun bt996 => (if (bt992.2 != bt996.2) = true then (none) else ((laws_kRows.f k bt992.1 bt996.1).bind fun t1000 => (laws_FnQueensWatch.j0 k l1 t991 bt992.1 bt992.2 (!t1000))))))))
theorem laws_FnQueensWatch.mono_l : ∀ k, (∀ y0 y1 y2 y3 y4, LeO (laws_FnQueensWatch.j0 k y0 y1 y2 y3 y4) (laws_FnQueensWatch.j0 (k + 1) y0 y1 y2 y3 y4)) ∧ (∀ y0, LeO (laws_FnQueensWatch.j3 k y0) (laws_FnQueensWatch.j3 (k + 1) y0)) ∧ (∀ y0 y1 y2 y3, LeO (laws_FnQueensWatch.j4 k y0 y1 y2 y3) (laws_FnQueensWatch.j4 (k + 1) y0 y1 y2 y3)) ∧ (∀ y0 y1 y2 y3, LeO (laws_FnQueensWatch.j1 k y0 y1 y2 y3) (laws_FnQueensWatch.j1 (k + 1) y0 y1 y2 y3)) ∧ (∀ y0 y1 y2 y3 y4, LeO (laws_FnQueensWatch.l0 k y0 y1 y2 y3 y4) (laws_FnQueensWatch.l0 (k + 1) y0 y1 y2 y3 y4))
 | 0 => ⟨fun _ _ _ _ _ r h => by simp [laws_FnQueensWatch.j0] at h, fun _ r h => by simp [laws_FnQueensWatch.j3] at h, fun _ _ _ _ r h => by simp [laws_FnQueensWatch.j4] at h, fun _ _ _ _ r h => by simp [laws_FnQueensWatch.j1] at h, fun _ _ _ _ _ r h => by simp [laws_FnQueensWatch.l0] at h⟩
 | k + 1 => by
  obtain ⟨ih0, ih1, ih2, ih3, ih4⟩ := laws_FnQueensWatch.mono_l k
  refine ⟨?_, ?_, ?_, ?_, ?_⟩
  ·
   intro y0 y1 y2 y3 y4
   unfold laws_FnQueensWatch.j0
   repeat' first | (with_reducible first | exact ih0 _ _ _ _ _ | exact ih1 _ | exact ih2 _ _ _ _ | exact ih3 _ _ _ _ | exact ih4 _ _ _ _ _ | exact impl_AreWatching.mono _ _ _ | exact impl_LeastWatch.mono _ _ | exact laws_kRows.mono _ _ _ | exact spec_AreWatching.mono _ _ _ | exact spec_DrawAreWatching.mono _ _ | exact spec_LeastWatch.mono _ _ | exact LeO.refl _ | exact LeO.none _ | refine LeO.ite ?_ ?_ | refine LeO.bind ?_ (fun _ => ?_)) | exact ih0 _ _ _ _ _ | exact ih1 _ | exact ih2 _ _ _ _ | exact ih3 _ _ _ _ | exact ih4 _ _ _ _ _ | exact impl_AreWatching.mono _ _ _ | exact impl_LeastWatch.mono _ _ | exact laws_kRows.mono _ _ _ | exact spec_AreWatching.mono _ _ _ | exact spec_DrawAreWatching.mono _ _ | exact spec_LeastWatch.mono _ _ | exact LeO.none _ | refine LeO.ite ?_ ?_ | refine LeO.bind ?_ (fun _ => ?_)
  ·
   intro y0
   unfold laws_FnQueensWatch.j3
   repeat' first | (with_reducible first | exact ih0 _ _ _ _ _ | exact ih1 _ | exact ih2 _ _ _ _ | exact ih3 _ _ _ _ | exact ih4 _ _ _ _ _ | exact impl_AreWatching.mono _ _ _ | exact impl_LeastWatch.mono _ _ | exact laws_kRows.mono _ _ _ | exact spec_AreWatching.mono _ _ _ | exact spec_DrawAreWatching.mono _ _ | exact spec_LeastWatch.mono _ _ | exact LeO.refl _ | exact LeO.none _ | refine LeO.ite ?_ ?_ | refine LeO.bind ?_ (fun _ => ?_)) | exact ih0 _ _ _ _ _ | exact ih1 _ | exact ih2 _ _ _ _ | exact ih3 _ _ _ _ | exact ih4 _ _ _ _ _ | exact impl_AreWatching.mono _ _ _ | exact impl_LeastWatch.mono _ _ | exact laws_kRows.mono _ _ _ | exact spec_AreWatching.mono _ _ _ | exact spec_DrawAreWatching.mono _ _ | exact spec_LeastWatch.mono _ _ | exact LeO.none _ | refine LeO.ite ?_ ?_ | refine LeO.bind ?_ (fun _ => ?_)
  ·
   intro y0 y1 y2 y3
   unfold laws_FnQueensWatch.j4
   repeat' first | (with_reducible first | exact ih0 _ _ _ _ _ | exact ih1 _ | exact ih2 _ _ _ _ | exact ih3 _ _ _ _ | exact ih4 _ _ _ _ _ | exact impl_AreWatching.mono _ _ _ | exact impl_LeastWatch.mono _ _ | exact laws_kRows.mono _ _ _ | exact spec_AreWatching.mono _ _ _ | exact spec_DrawAreWatching.mono _ _ | exact spec_LeastWatch.mono _ _ | exact LeO.refl _ | exact LeO.none _ | refine LeO.ite ?_ ?_ | refine LeO.bind ?_ (fun _ => ?_)) | exact ih0 _ _ _ _ _ | exact ih1 _ | exact ih2 _ _ _ _ | exact ih3 _ _ _ _ | exact ih4 _ _ _ _ _ | exact impl_AreWatching.mono _ _ _ | exact impl_LeastWatch.mono _ _ | exact laws_kRows.mono _ _ _ | exact spec_AreWatching.mono _ _ _ | exact spec_DrawAreWatching.mono _ _ | exact spec_LeastWatch.mono _ _ | exact LeO.none _ | refine LeO.ite ?_ ?_ | refine LeO.bind ?_ (fun _ => ?_)
  ·
   intro y0 y1 y2 y3
   unfold laws_FnQueensWatch.j1
   repeat' first | (with_reducible first | exact ih0 _ _ _ _ _ | exact ih1 _ | exact ih2 _ _ _ _ | exact ih3 _ _ _ _ | exact ih4 _ _ _ _ _ | exact impl_AreWatching.mono _ _ _ | exact impl_LeastWatch.mono _ _ | exact laws_kRows.mono _ _ _ | exact spec_AreWatching.mono _ _ _ | exact spec_DrawAreWatching.mono _ _ | exact spec_LeastWatch.mono _ _ | exact LeO.refl _ | exact LeO.none _ | refine LeO.ite ?_ ?_ | refine LeO.bind ?_ (fun _ => ?_)) | exact ih0 _ _ _ _ _ | exact ih1 _ | exact ih2 _ _ _ _ | exact ih3 _ _ _ _ | exact ih4 _ _ _ _ _ | exact impl_AreWatching.mono _ _ _ | exact impl_LeastWatch.mono _ _ | exact laws_kRows.mono _ _ _ | exact spec_AreWatching.mono _ _ _ | exact spec_DrawAreWatching.mono _ _ | exact spec_LeastWatch.mono _ _ | exact LeO.none _ | refine LeO.ite ?_ ?_ | refine LeO.bind ?_ (fun _ => ?_)
  ·
   intro y0 y1 y2 y3 y4
   unfold laws_FnQueensWatch.l0
   repeat' first | (with_reducible first | exact ih0 _ _ _ _ _ | exact ih1 _ | exact ih2 _ _ _ _ | exact ih3 _ _ _ _ | exact ih4 _ _ _ _ _ | exact impl_AreWatching.mono _ _ _ | exact impl_LeastWatch.mono _ _ | exact laws_kRows.mono _ _ _ | exact spec_AreWatching.mono _ _ _ | exact spec_DrawAreWatching.mono _ _ | exact spec_LeastWatch.mono _ _ | exact LeO.refl _ | exact LeO.none _ | refine LeO.ite ?_ ?_ | refine LeO.bind ?_ (fun _ => ?_)) | exact ih0 _ _ _ _ _ | exact ih1 _ | exact ih2 _ _ _ _ | exact ih3 _ _ _ _ | exact ih4 _ _ _ _ _ | exact impl_AreWatching.mono _ _ _ | exact impl_LeastWatch.mono _ _ | exact laws_kRows.mono _ _ _ | exact spec_AreWatching.mono _ _ _ | exact spec_DrawAreWatching.mono _ _ | exact spec_LeastWatch.mono _ _ | exact LeO.none _ | refine LeO.ite ?_ ?_ | refine LeO.bind ?_ (fun _ => ?_)
theorem laws_FnQueensWatch.mono : ∀ a0 a1 k, LeO (laws_FnQueensWatch.f k a0 a1) (laws_FnQueensWatch.f (k + 1) a0 a1) := by
 intro a0 a1 k
 obtain ⟨ih0, ih1, ih2, ih3, ih4⟩ := laws_FnQueensWatch.mono_l k
 unfold laws_FnQueensWatch.f
 repeat' first | (with_reducible first | exact ih0 _ _ _ _ _ | exact ih1 _ | exact ih2 _ _ _ _ | exact ih3 _ _ _ _ | exact ih4 _ _ _ _ _ | exact impl_AreWatching.mono _ _ _ | exact impl_LeastWatch.mono _ _ | exact laws_kRows.mono _ _ _ | exact spec_AreWatching.mono _ _ _ | exact spec_DrawAreWatching.mono _ _ | exact spec_LeastWatch.mono _ _ | exact LeO.refl _ | exact LeO.none _ | refine LeO.ite ?_ ?_ | refine LeO.bind ?_ (fun _ => ?_)) | exact ih0 _ _ _ _ _ | exact ih1 _ | exact ih2 _ _ _ _ | exact ih3 _ _ _ _ | exact ih4 _ _ _ _ _ | exact impl_AreWatching.mono _ _ _ | exact impl_LeastWatch.mono _ _ | exact laws_kRows.mono _ _ _ | exact spec_AreWatching.mono _ _ _ | exact spec_DrawAreWatching.mono _ _ | exact spec_LeastWatch.mono _ _ | exact LeO.none _ | refine LeO.ite ?_ ?_ | refine LeO.bind ?_ (fun _ => ?_)
def laws_FnQueensWatch.T15 : Bool × List (List Nat × List Nat) := (true, [([], []), ([], []), ([], []), ([1, 2], [1, 2]), ([0, 3], [0, 3]), ([], []), ([], []), ([6], [6]), ([5, 7], [5, 7]), ([4, 8, 4], [4, 8]), ([9, 9, 0, 1, 2, 3, 4, 5, 6, 7, 8, 9], [9])])
def laws_FnQueensWatch.B15 : List Nat := [0, 0, 0, 6, 15, 0, 0, 64, 224, 511, 1023]
theorem laws_FnQueensWatch.tab15 : rtab .any (opsOf Try.f12 15) = laws_FnQueensWatch.T15 := by kernel_rfl
theorem laws_FnQueensWatch.bits15 : waitsOk laws_FnQueensWatch.T15.2 laws_FnQueensWatch.B15 = true := by kernel_rfl
theorem laws_FnQueensWatch.calls (k : Nat) (A0 : Option Addr) (c0 : Nat) (l0 : List Int) (A1 : Option Addr) (c1 : Nat) (l1 : List Int) (r : Bool) (w : World) (hr0 : Kd.C (Kd.int .u8) w A0 l0.length l0) (hc0 : l0.length ≤ c0) (hr1 : Kd.C (Kd.int .u8) w A1 l1.length l1) (hc1 : l1.length ≤ c1) (h : laws_FnQueensWatch.f k l0 l1 = some r) :
  Calls Try.prog 12 #[.slice A0 l0.length c0, .slice A1 l1.length c1] w fun e w' => e = .returned (.bool r) ∧ Below w.heap.size w w' := by
 have HR0 := A_ hr0
 have HC0 := A_ hc0
 clear hr0 hc0
 have HR1 := A_ hr1
 have HC1 := A_ hc1
 clear hr1 hc1
 have HB := A_ (Below.refl w.heap.size w)
 have H : ((laws_big.f l0 l1).bind fun t990 => (if t990 = true then (some true) else ((spec_DrawLeastWatch.f l0).bind fun t991 => ((impl_LeastWatch.f k t991).bind fun bt992 => ((spec_LeastWatch.f k t991).bind fun bt996 => (if (bt992.2 != bt996.2) = true then (none) else ((laws_kRows.f k bt992.1 bt996.1).bind fun t1000 => (laws_FnQueensWatch.j0 k l1 t991 bt992.1 bt992.2 (!t1000))))))))) = some r := h
 clear h
 replace H := Option.bind_eq_some_iff.mp H
 obtain ⟨t990, A30, H⟩ := H
 replace H : (if t990 = true then (some true) else ((spec_DrawLeastWatch.f l0).bind fun t991 => ((impl_LeastWatch.f k t991).bind fun bt992 => ((spec_LeastWatch.f k t991).bind fun bt996 => (if (bt992.2 != bt996.2) = true then (none) else ((laws_kRows.f k bt992.1 bt996.1).bind fun t1000 => (laws_FnQueensWatch.j0 k l1 t991 bt992.1 bt992.2 (!t1000)))))))) = some r := H
 have A3 := A_ A30
 clear A30
 by_cases c4 : t990 = true
 ·
  subst c4
  have H1 : (some true) = some r := by rw [if_pos rfl] at H; exact H
  clear H
  have H := H1
  clear H1
  obtain rfl := Option.some.inj H
  go_enter Try.func12, Try.ntmps12
  go_wp2_with (first | (refine gc_ 46 ?_; refine goesT_ (some 26) Try.func46 #[.slice A0 l0.length c0, .slice A1 l1.length c1] ?_; (with_reducible refine (laws_big.calls _ _ l0 _ _ l1 true _ ?side1 ?side2 ?side3 ?side4 A3.out).mono ?_); (case side1 => exact tc0_ HR0.out); (case side2 => exact HC0.out); (case side3 => exact tc0_ HR1.out); (case side4 => exact HC1.out); rintro e w' ⟨rfl, ⟨nd, rfl⟩⟩; refine ⟨_, rfl, ?_⟩))
  go_ret
  exact ⟨te_, tb_⟩
 ·
  replace c4 := Bool.eq_false_iff.mpr c4
  subst c4
  have H1 : ((spec_DrawLeastWatch.f l0).bind fun t991 => ((impl_LeastWatch.f k t991).bind fun bt992 => ((spec_LeastWatch.f k t991).bind fun bt996 => (if (bt992.2 != bt996.2) = true then (none) else ((laws_kRows.f k bt992.1 bt996.1).bind fun t1000 => (laws_FnQueensWatch.j0 k l1 t991 bt992.1 bt992.2 (!t1000))))))) = some r := by rw [if_neg (show ¬ (false = true) by decide)] at H; exact H
  clear H
  have H := H1
  clear H1
  replace H := Option.bind_eq_some_iff.mp H
  obtain ⟨t991, A50, H⟩ := H
  replace H : ((impl_LeastWatch.f k t991).bind fun bt992 => ((spec_LeastWatch.f k t991).bind fun bt996 => (if (bt992.2 != bt996.2) = true then (none) else ((laws_kRows.f k bt992.1 bt996.1).bind fun t1000 => (laws_FnQueensWatch.j0 k l1 t991 bt992.1 bt992.2 (!t1000)))))) = some r := H
  have A5 := A_ A50
  clear A50
  replace H := Option.bind_eq_some_iff.mp H
  obtain ⟨⟨t992, t993⟩, A60, H⟩ := H
  replace H : ((spec_LeastWatch.f k t991).bind fun bt996 => (if (t993 != bt996.2) = true then (none) else ((laws_kRows.f k t992 bt996.1).bind fun t1000 => (laws_FnQueensWatch.j0 k l1 t991 t992 t993 (!t1000))))) = some r := H
  have A6 := A_ A60
  clear A60
  replace H := Option.bind_eq_some_iff.mp H
  obtain ⟨⟨t996, t997⟩, A70, H⟩ := H
  replace H : (if (t993 != t997) = true then (none) else ((laws_kRows.f k t992 t996).bind fun t1000 => (laws_FnQueensWatch.j0 k l1 t991 t992 t993 (!t1000)))) = some r := H
  have A7 := A_ A70
  clear A70
  have HC8 := A_ H
  clear H
  go_enter Try.func12, Try.ntmps12
  go_upto_region 6 with (first | (refine gc_ 46 ?_; refine goesT_ (some 26) Try.func46 #[.slice A0 l0.length c0, .slice A1 l1.length c1] ?_; (with_reducible refine (laws_big.calls _ _ l0 _ _ l1 false _ ?side1 ?side2 ?side3 ?side4 A3.out).mono ?_); (case side1 => exact tc0_ HR0.out); (case side2 => exact HC0.out); (case side3 => exact tc0_ HR1.out); (case side4 => exact HC1.out); rintro e w' ⟨rfl, ⟨nd, rfl⟩⟩; refine ⟨_, rfl, ?_⟩) | (refine gc_ 47 ?_; refine goesT_ (some 28) Try.func47 #[.slice A0 l0.length c0] ?_; (with_reducible refine (spec_DrawLeastWatch.calls _ _ l0 t991 _ ?side1 ?side2 A5.out).mono ?_); (case side1 => exact tc0_ HR0.out); (case side2 => exact HC0.out); rintro e w9 ⟨rfl, hb⟩; refine ⟨_, rfl, ?_⟩; replace HB := A_ (below_step tb_ hb); (try clear hb)) | (refine gc_ 41 ?_; refine goesT_ (some 31) Try.func41 #[.int .i64 t991] ?_; (with_reducible refine (impl_LeastWatch.calls k t991 t992 t993 _ A6.out).mono ?_); rintro e w10 ⟨v994, rfl, ho0, hb⟩; refine ⟨_, rfl, ?_⟩; have HO995 := A_ (Kd.N_lower (Kd.N_mono (ok' := fun k_ => True) (Kd.S_N (Kd.S_bound ho0)) (fun k_ hk_ => trivial)) (below_size tb_)); replace HB := A_ (below_step tb_ hb); (try clear hb); (try clear ho0)) | (refine gc_ 40 ?_; refine goesT_ (some 36) Try.func40 #[.int .i64 t991] ?_; (with_reducible refine (spec_LeastWatch.calls k t991 t996 t997 _ A7.out).mono ?_); rintro e w11 ⟨v998, rfl, ho0, hb⟩; refine ⟨_, rfl, ?_⟩; have HO999 := A_ (Kd.N_lower (Kd.N_mono (ok' := fun k_ => some k_ ≠ (v994 : Value).ownBlock) (Kd.S_N (Kd.S_bound ho0)) (fun k_ hk_ => (Kd.fresh' (Kd.N_lt (by (with_reducible repeat (first | apply Kd.N_alloc | apply Kd.N_drewN | apply Kd.N_drew)); exact HO995.out)) k_ hk_.2.1))) (below_size tb_)); replace HO995 := A_ (Kd.N_elder' (by (with_reducible repeat (first | apply Kd.N_alloc | apply Kd.N_drewN | apply Kd.N_drew)); exact HO995.out) (by first | exact Kd.N_base ho0 | exact Kd.S_base ho0) hb); replace HB := A_ (below_step tb_ hb); (try clear hb); (try clear ho0)))
  (try simp only [Act.put, List.setIfInBounds_toArray, List.set_cons_zero, List.set_cons_succ])
  go_cut [47] (fun v47 wc => ∃ (kq : Nat) (x47_7 : Bool), v47 = .bool x47_7 ∧ Aside0 (laws_FnQueensWatch.j0 kq l1 t991 t992 t993 x47_7 = some r) ∧ Aside0 (kq ≤ k) ∧ Aside0 (Kd.N (Kd.slice 3 (Kd.int .i64)) 22 wc w.heap.size (fun _ => True) v994 t992) ∧ Aside0 (Below w.heap.size w wc))
  case first =>
   as_aux_lemma =>
    have H := HC8.out
    clear HC8
    by_cases c12 : (t993 != t997) = true
    ·
     rw [if_pos c12] at H
     exact absurd H (by simp)
    ·
     rw [if_neg c12] at H
     have c12b0 : (t993 != t997) = false := by simpa using c12
     (try (have c12b1 : decide (t993 = t997) = true := by simpa using c12))
     (try (have c12b2 : (t993 == t997) = true := by simpa using c12))
     clear c12
     (first | rw [c12b0] | rw [c12b1] | (simp only [i64_w, i32_w]; rw [c12b0]) | skip)
     replace H := Option.bind_eq_some_iff.mp H
     obtain ⟨t1000, A130, H⟩ := H
     replace H : (laws_FnQueensWatch.j0 k l1 t991 t992 t993 (!t1000)) = some r := H
     have A13 := A_ A130
     clear A130
     have H' := A_ H
     clear H
     obtain ⟨Ao14, co14, eo14⟩ := Kd.N_slice HO995.out
     subst eo14
     obtain ⟨Ao15, co15, eo15⟩ := Kd.N_slice HO999.out
     subst eo15
     go_wp2_with (first | (go_at_call 48; (with_reducible refine (laws_kRows.calls k _ _ t992 _ _ t996 t1000 _ ?side1 ?side2 ?side3 ?side4 A13.out).mono ?_); (case side1 => repeat (first | exact (Kd.N_reads' HO995.out).2.2 | (with_reducible refine Kd.C_alloc ?_ _) | (with_reducible refine Kd.C_drewN ?_ _) | (with_reducible refine Kd.C_drew ?_))); (case side2 => exact (Kd.N_reads' HO995.out).2.1); (case side3 => repeat (first | exact (Kd.N_reads' HO999.out).2.2 | (with_reducible refine Kd.C_alloc ?_ _) | (with_reducible refine Kd.C_drewN ?_ _) | (with_reducible refine Kd.C_drew ?_))); (case side4 => exact (Kd.N_reads' HO999.out).2.1); rintro e w' ⟨rfl, ⟨nd, rfl⟩⟩))
     go_meet
     case rel => exact ⟨_, (!t1000), tf_, H', ⟨by first | omega | exact Nat.le_refl _⟩, ⟨by (with_reducible repeat (first | apply Kd.N_alloc | apply Kd.N_drewN | apply Kd.N_drew)); exact Kd.N_mono HO995.out (fun _ hk => trivial)⟩, ⟨tb_⟩⟩
  case rest =>
   as_aux_lemma =>
    clear HC8
    try clear c1
    try clear p2
    try clear c4
    try clear c12
    try clear c12b0
    try clear c12b1
    try clear c12b2
    obtain ⟨kq, x47_7, rfl, HA, HJ7, HO_6, HB⟩ := hcut
    cases kq with
    | zero => exact absurd HA.out (by simp [laws_FnQueensWatch.j0])
    | succ kj7 =>
     have H := HA.out
     clear HA
     simp only [laws_FnQueensWatch.j0] at H
     by_cases c16 : x47_7 = true
     ·
      subst c16
      have H1 : (none) = some r := by rw [if_pos rfl] at H; exact H
      clear H
      have H := H1
      clear H1
      exact absurd H (by simp)
     ·
      replace c16 := Bool.eq_false_iff.mpr c16
      subst c16
      have H1 : (if t993 = true then ((impl_AreWatching.f kj7 t991 t992).bind fun bt1001 => (if bt1001.2 = true then (if bt1001.1 = true then (laws_FnQueensWatch.j1 kj7 l1 t991 t992 (decide ((t992.length : Int) > (wrap64 (Int.tdiv (wrap64 (t991 + 2)) 2))))) else (none)) else (none))) else (laws_FnQueensWatch.j3 kj7 l1)) = some r := by rw [if_neg (show ¬ (false = true) by decide)] at H; exact H
      clear H
      have H := H1
      clear H1
      have HC17 := A_ H
      clear H
      go_upto_if 48 with (fail)
      go_cut [] (fun wc => ∃ (kq : Nat), Aside0 (laws_FnQueensWatch.j3 kq l1 = some r) ∧ Aside0 (kq ≤ kj7) ∧ Aside0 (Below w.heap.size w wc))
      case first =>
       as_aux_lemma =>
        have H := HC17.out
        clear HC17
        by_cases c18 : t993 = true
        ·
         subst c18
         have H1 : ((impl_AreWatching.f kj7 t991 t992).bind fun bt1001 => (if bt1001.2 = true then (if bt1001.1 = true then (laws_FnQueensWatch.j1 kj7 l1 t991 t992 (decide ((t992.length : Int) > (wrap64 (Int.tdiv (wrap64 (t991 + 2)) 2))))) else (none)) else (none))) = some r := by rw [if_pos rfl] at H; exact H
         clear H
         have H := H1
         clear H1
         replace H := Option.bind_eq_some_iff.mp H
         obtain ⟨⟨t1001, t1002⟩, A190, H⟩ := H
         replace H : (if t1002 = true then (if t1001 = true then (laws_FnQueensWatch.j1 kj7 l1 t991 t992 (decide ((t992.length : Int) > (wrap64 (Int.tdiv (wrap64 (t991 + 2)) 2))))) else (none)) else (none)) = some r := H
         have A19 := A_ A190
         clear A190
         have HC20 := A_ H
         clear H
         obtain ⟨Ao21, co21, eo21⟩ := Kd.N_slice HO_6.out
         subst eo21
         go_upto_region 10 with (first | (refine gc_ 49 ?_; refine goesT_ (some 52) Try.func49 #[.int .i64 t991, .slice Ao21 t992.length co21] ?_; (with_reducible refine (impl_AreWatching.calls kj7 t991 _ _ t992 t1001 t1002 _ ?side1 ?side2 A19.out).mono ?_); (case side1 => repeat (first | exact (Kd.N_reads' HO_6.out).2.2 | (with_reducible refine Kd.C_alloc ?_ _) | (with_reducible refine Kd.C_drewN ?_ _) | (with_reducible refine Kd.C_drew ?_))); (case side2 => exact (Kd.N_reads' HO_6.out).2.1); rintro e w22 ⟨rfl, hb⟩; refine ⟨_, rfl, ?_⟩; replace HO_6 := A_ (Kd.N_below (by (with_reducible repeat (first | apply Kd.N_alloc | apply Kd.N_drewN | apply Kd.N_drew)); exact HO_6.out) hb); replace HB := A_ (below_step tb_ hb); (try clear hb)))
         (try simp only [Act.put, List.setIfInBounds_toArray, List.set_cons_zero, List.set_cons_succ])
         go_cut [68] (fun v68 wc => ∃ (kq : Nat) (x68_19 : Bool), v68 = .bool x68_19 ∧ Aside0 (laws_FnQueensWatch.j1 kq l1 t991 t992 x68_19 = some r) ∧ Aside0 (kq ≤ kj7) ∧ Aside0 (Kd.N (Kd.slice 3 (Kd.int .i64)) 22 wc w.heap.size (fun _ => True) (.slice Ao21 t992.length co21) t992) ∧ Aside0 (Below w.heap.size w wc))
         case first =>
          as_aux_lemma =>
           have H := HC20.out
           clear HC20
           by_cases c23 : t1002 = true
           ·
            subst c23
            have H1 : (if t1001 = true then (laws_FnQueensWatch.j1 kj7 l1 t991 t992 (decide ((t992.length : Int) > (wrap64 (Int.tdiv (wrap64 (t991 + 2)) 2))))) else (none)) = some r := by rw [if_pos rfl] at H; exact H
            clear H
            have H := H1
            clear H1
            by_cases c24 : t1001 = true
            ·
             subst c24
             have H1 : (laws_FnQueensWatch.j1 kj7 l1 t991 t992 (decide ((t992.length : Int) > (wrap64 (Int.tdiv (wrap64 (t991 + 2)) 2))))) = some r := by rw [if_pos rfl] at H; exact H
             clear H
             have H := H1
             clear H1
             have H' := A_ H
             clear H
             go_wp2
             go_meet
             case rel => exact ⟨_, (decide ((t992.length : Int) > (wrap64 (Int.tdiv (wrap64 (t991 + 2)) 2)))), tf_, H', ⟨by have := HJ7.out; first | omega | exact Nat.le_refl _⟩, ⟨by (with_reducible repeat (first | apply Kd.N_alloc | apply Kd.N_drewN | apply Kd.N_drew)); exact HO_6.out⟩, ⟨tb_⟩⟩
            ·
             replace c24 := Bool.eq_false_iff.mpr c24
             subst c24
             have H1 : (none) = some r := by rw [if_neg (show ¬ (false = true) by decide)] at H; exact H
             clear H
             have H := H1
             clear H1
             exact absurd H (by simp)
           ·
            replace c23 := Bool.eq_false_iff.mpr c23
            subst c23
            have H1 : (none) = some r := by rw [if_neg (show ¬ (false = true) by decide)] at H; exact H
            clear H
            have H := H1
            clear H1
            exact absurd H (by simp)
         case rest =>
          as_aux_lemma =>
           clear HC20
           try clear c1
           try clear c2
           try clear p2
           try clear c4
           try clear p6
           try clear c12
           try clear c12b0
           try clear c12b1
           try clear c12b2
           try clear c16
           try clear c18
           try clear c23
           try clear c24
           try clear p2
           obtain ⟨kq, x68_19, rfl, HA, HJ19, HO_6, HB⟩ := hcut
           cases kq with
           | zero => exact absurd HA.out (by simp [laws_FnQueensWatch.j1])
           | succ kj19 =>
            have H := HA.out
            clear HA
            simp only [laws_FnQueensWatch.j1] at H
            by_cases c25 : x68_19 = true
            ·
             subst c25
             have H1 : (none) = some r := by rw [if_pos rfl] at H; exact H
             clear H
             have H := H1
             clear H1
             exact absurd H (by simp)
            ·
             replace c25 := Bool.eq_false_iff.mpr c25
             subst c25
             have H1 : (laws_FnQueensWatch.l0 kj19 l1 t991 t992 (t992.length : Int) 0) = some r := by rw [if_neg (show ¬ (false = true) by decide)] at H; exact H
             clear H
             have H := H1
             clear H1
             have H' := A_ H
             clear H
             go_wp2
             go_loopg [71] kj19 (fun kq v71 w' => ∃ (x71_3 : Int), v71 = .int .i64 x71_3 ∧ Aside0 (laws_FnQueensWatch.l0 kq l1 t991 t992 (t992.length : Int) x71_3 = some r) ∧ Aside0 (kq ≤ kj19) ∧ Aside0 (Kd.N (Kd.slice 3 (Kd.int .i64)) 22 w' w.heap.size (fun _ => True) (.slice Ao21 t992.length co21) t992) ∧ Aside0 (Below w.heap.size w w'))
             case atStart => exact ⟨(0), tf_, H', ⟨Nat.le_refl _⟩, ⟨by (with_reducible repeat (first | apply Kd.N_alloc | apply Kd.N_drewN | apply Kd.N_drew)); exact HO_6.out⟩, ⟨tb_⟩⟩
             case round =>
              clear H'
              try clear c1
              try clear c2
              try clear p2
              try clear c4
              try clear p6
              try clear c12
              try clear c12b0
              try clear c12b1
              try clear c12b2
              try clear c16
              try clear c18
              try clear c23
              try clear c24
              try clear c25
              try clear p2
              try clear p6
              obtain ⟨x71_3, rfl, HA, HK3, HO_6, HB⟩ := hrel
              cases gk with
              | zero => exact absurd HA.out (by simp [laws_FnQueensWatch.l0])
              | succ k3 =>
               have H := HA.out
               clear HA
               simp only [laws_FnQueensWatch.l0] at H
               by_cases c26 : x71_3 < (t992.length : Int)
               ·
                rw [if_pos c26] at H
                have c26b0 := decide_eq_true c26
                clear c26
                obtain ⟨y1003, hy1003⟩ : ∃ y_ : List (List Int), y_ = (([] : List (List Int))) := ⟨_, rfl⟩
                replace H : (if 0 ≤ x71_3 then (if x71_3 ≤ (t992.length : Int) then ((some (t992.take (x71_3 : Int).toNat : List (List Int))).bind fun y1006 => (if y1003.length + y1006.length < 5864062014805 then ((some (y1003 ++ y1006 : List (List Int))).bind fun y1011 => (if 0 ≤ (wrap64 (x71_3 + 1)) then (if (wrap64 (x71_3 + 1)) ≤ (t992.length : Int) then ((some (t992.drop ((wrap64 (x71_3 + 1)) : Int).toNat : List (List Int))).bind fun y1014 => (if y1011.length + y1014.length < 5864062014805 then ((impl_AreWatching.f k3 t991 (y1011 ++ y1014)).bind fun bt1022 => (if bt1022.2 = true then (if bt1022.1 = true then (none) else (laws_FnQueensWatch.l0 k3 l1 t991 t992 (t992.length : Int) (wrap64 (x71_3 + 1)))) else (none))) else (none))) else (none)) else (none))) else (none))) else (none)) else (none)) = some r := ty_ hy1003 H
                have Ny1003 := A_ hy1003
                clear hy1003
                by_cases c27 : 0 ≤ x71_3
                ·
                 rw [if_pos c27] at H
                 have c27b0 := eq_true c27
                 have c27b1 := decide_eq_true c27
                 clear c27
                 by_cases c28 : x71_3 ≤ (t992.length : Int)
                 ·
                  rw [if_pos c28] at H
                  have c28b0 := eq_true c28
                  have c28b1 := decide_eq_true c28
                  clear c28
                  obtain ⟨y1006, hy1006⟩ : ∃ y_ : List (List Int), y_ = (t992.take (x71_3 : Int).toNat) := ⟨_, rfl⟩
                  replace H : (if y1003.length + y1006.length < 5864062014805 then ((some (y1003 ++ y1006 : List (List Int))).bind fun y1011 => (if 0 ≤ (wrap64 (x71_3 + 1)) then (if (wrap64 (x71_3 + 1)) ≤ (t992.length : Int) then ((some (t992.drop ((wrap64 (x71_3 + 1)) : Int).toNat : List (List Int))).bind fun y1014 => (if y1011.length + y1014.length < 5864062014805 then ((impl_AreWatching.f k3 t991 (y1011 ++ y1014)).bind fun bt1022 => (if bt1022.2 = true then (if bt1022.1 = true then (none) else (laws_FnQueensWatch.l0 k3 l1 t991 t992 (t992.length : Int) (wrap64 (x71_3 + 1)))) else (none))) else (none))) else (none)) else (none))) else (none)) = some r := ty_ hy1006 H
                  have Ny1006 := A_ hy1006
                  clear hy1006
                  by_cases c29 : y1003.length + y1006.length < 5864062014805
                  ·
                   rw [if_pos c29] at H
                   have LMc29 := A_ c29
                   clear c29
                   obtain ⟨y1011, hy1011⟩ : ∃ y_ : List (List Int), y_ = (y1003 ++ y1006) := ⟨_, rfl⟩
                   replace H : (if 0 ≤ (wrap64 (x71_3 + 1)) then (if (wrap64 (x71_3 + 1)) ≤ (t992.length : Int) then ((some (t992.drop ((wrap64 (x71_3 + 1)) : Int).toNat : List (List Int))).bind fun y1014 => (if y1011.length + y1014.length < 5864062014805 then ((impl_AreWatching.f k3 t991 (y1011 ++ y1014)).bind fun bt1022 => (if bt1022.2 = true then (if bt1022.1 = true then (none) else (laws_FnQueensWatch.l0 k3 l1 t991 t992 (t992.length : Int) (wrap64 (x71_3 + 1)))) else (none))) else (none))) else (none)) else (none)) = some r := ty_ hy1011 H
                   have Ny1011 := A_ hy1011
                   clear hy1011
                   obtain ⟨ji30, hji30⟩ : ∃ j_ : Int, (wrap64 (x71_3 + 1)) = j_ := ⟨_, rfl⟩
                   replace H : (if 0 ≤ (ji30) then (if (ji30) ≤ (t992.length : Int) then ((some (t992.drop ((ji30) : Int).toNat : List (List Int))).bind fun y1014 => (if y1011.length + y1014.length < 5864062014805 then ((impl_AreWatching.f k3 t991 (y1011 ++ y1014)).bind fun bt1022 => (if bt1022.2 = true then (if bt1022.1 = true then (none) else (laws_FnQueensWatch.l0 k3 l1 t991 t992 (t992.length : Int) ji30)) else (none))) else (none))) else (none)) else (none)) = some r := by first | (rw [hji30] at H; exact H) | (simp only [hji30] at H ⊢; exact H)
                   have hji30w : (IntKind.i64.wrap (x71_3 + 1)) = ji30 := (i64_w _).trans hji30
                   by_cases c31 : 0 ≤ (ji30)
                   ·
                    rw [if_pos c31] at H
                    have c31b0 := eq_true c31
                    have c31b1 := decide_eq_true c31
                    clear c31
                    by_cases c32 : (ji30) ≤ (t992.length : Int)
                    ·
                     rw [if_pos c32] at H
                     have c32b0 := eq_true c32
                     have c32b1 := decide_eq_true c32
                     clear c32
                     obtain ⟨y1014, hy1014⟩ : ∃ y_ : List (List Int), y_ = (t992.drop ((ji30) : Int).toNat) := ⟨_, rfl⟩
                     replace H : (if y1011.length + y1014.length < 5864062014805 then ((impl_AreWatching.f k3 t991 (y1011 ++ y1014)).bind fun bt1022 => (if bt1022.2 = true then (if bt1022.1 = true then (none) else (laws_FnQueensWatch.l0 k3 l1 t991 t992 (t992.length : Int) ji30)) else (none))) else (none)) = some r := ty_ hy1014 H
                     have Ny1014 := A_ hy1014
                     clear hy1014
                     by_cases c33 : y1011.length + y1014.length < 5864062014805
                     ·
                      rw [if_pos c33] at H
                      have LMc33 := A_ c33
                      clear c33
                      obtain ⟨y1019, hy1019⟩ : ∃ y_ : List (List Int), y_ = (y1011 ++ y1014) := ⟨_, rfl⟩
                      replace H : ((impl_AreWatching.f k3 t991 y1019).bind fun bt1022 => (if bt1022.2 = true then (if bt1022.1 = true then (none) else (laws_FnQueensWatch.l0 k3 l1 t991 t992 (t992.length : Int) ji30)) else (none))) = some r := ty_ hy1019 H
                      have Ny1019 := A_ hy1019
                      clear hy1019
                      replace H := Option.bind_eq_some_iff.mp H
                      obtain ⟨⟨t1022, t1023⟩, A340, H⟩ := H
                      replace H : (if t1023 = true then (if t1022 = true then (none) else (laws_FnQueensWatch.l0 k3 l1 t991 t992 (t992.length : Int) ji30)) else (none)) = some r := H
                      have A34 := A_ A340
                      clear A340
                      by_cases c35 : t1023 = true
                      ·
                       subst c35
                       have H1 : (if t1022 = true then (none) else (laws_FnQueensWatch.l0 k3 l1 t991 t992 (t992.length : Int) ji30)) = some r := by rw [if_pos rfl] at H; exact H
                       clear H
                       have H := H1
                       clear H1
                       by_cases c36 : t1022 = true
                       ·
                        subst c36
                        have H1 : (none) = some r := by rw [if_pos rfl] at H; exact H
                        clear H
                        have H := H1
                        clear H1
                        exact absurd H (by simp)
                       ·
                        replace c36 := Bool.eq_false_iff.mpr c36
                        subst c36
                        have H1 : (laws_FnQueensWatch.l0 k3 l1 t991 t992 (t992.length : Int) ji30) = some r := by rw [if_neg (show ¬ (false = true) by decide)] at H; exact H
                        clear H
                        have H := H1
                        clear H1
                        have H' := A_ H
                        clear H
                        try go_wp2
                        have n0_ := A_ (Kd.N_drew HO_6.out)
                        have n1_ := A_ (below_drew1 HB.out)
                        clear HO_6
                        clear HB
                        have HO_6 := n0_
                        have HB := n1_
                        clear n0_ n1_
                        have q38 : (x71_3 : Int) ≤ ((t992.length : Int) : Int) := od_
                        obtain ⟨i038, hi038, _, hsz38, _⟩ := info_parts info22
                        have hroom38 : t992.length ≤ co21 := (Kd.N_reads' HO_6.out).2.1
                        have hC38 : Kd.F (Kd.slice 3 (Kd.int .i64)) _ _ Ao21 t992.length t992 := (Kd.V_at (base := w.heap.size) (Kd.N_V HO_6.out)).2.2
                        have hcut38 := cut_to (P := Try.prog) 41 22 .i64 Try.underlying41 hi038 Ao21 t992.length co21 x71_3 (od_) q38 hroom38
                        have hr38 := Kd.F_take (m := (x71_3 : Int).toNat) hC38 (by omega)
                        have hy38 : y1006.length = (x71_3 : Int).toNat := (by rw [Ny1006.out, List.length_take]; omega)
                        rw [← Ny1006.out] at hr38
                        rw [← hy38] at hcut38
                        have HO1010 := A_ (show Kd.V (Kd.slice 3 (Kd.int .i64)) 22 _ w.heap.size _ (.slice Ao21 y1006.length co21) y1006 from Kd.V_mk (by omega) hr38)
                        have HC1010 := A_ (show y1006.length ≤ co21 from by omega)
                        clear hr38 hC38 hroom38 hi038 hsz38
                        have KY38 := A_ hy38
                        clear hy38
                        replace q38 := eq_true q38
                        have q39 : ((ji30) : Int) ≤ ((t992.length : Int) : Int) := od_
                        obtain ⟨i039, hi039, _, hsz39, _⟩ := info_parts info22
                        have hroom39 : t992.length ≤ co21 := (Kd.N_reads' HO_6.out).2.1
                        have hC39 : Kd.F (Kd.slice 3 (Kd.int .i64)) _ _ Ao21 t992.length t992 := (Kd.V_at (base := w.heap.size) (Kd.N_V HO_6.out)).2.2
                        have q039 : (0 : Int) ≤ ((ji30) : Int) := od_
                        have hcut39 := cut_from (P := Try.prog) 41 22 .i64 Try.underlying41 hi039 1 hsz39 Ao21 t992.length co21 (ji30) q039 q39
                        have hr39 := Kd.F_cut (m := ((ji30) : Int).toNat) (c := co21) hC39 (by omega) hroom39
                        obtain ⟨A39, hA39⟩ : ∃ A1, A1 = (if co21 = ((ji30) : Int).toNat then Ao21 else (Ao21 : Option Addr).map (·.add (((ji30) : Int).toNat * 1))) := ⟨_, rfl⟩
                        obtain ⟨c39, hc39⟩ : ∃ c1, c1 = co21 - ((ji30) : Int).toNat := ⟨_, rfl⟩
                        have hy39 : y1014.length = t992.length - ((ji30) : Int).toNat := (by rw [Ny1014.out, List.length_drop] <;> omega)
                        rw [show (t992).drop ((ji30) : Int).toNat = y1014 from Ny1014.out.symm] at hr39
                        replace hr39 : Kd.F (Kd.slice 3 (Kd.int .i64)) _ _ A39 y1014.length y1014 := (by rw [hA39]; exact hr39)
                        rw [← hy39, ← hA39, ← hc39] at hcut39
                        have HO1018 := A_ (show Kd.V (Kd.slice 3 (Kd.int .i64)) 22 _ w.heap.size _ (.slice A39 y1014.length c39) y1014 from Kd.V_mk (by rw [hy39, hc39]; exact Nat.sub_le_sub_right hroom39 _) hr39)
                        have HC1018 := A_ (show y1014.length ≤ c39 from by rw [hy39, hc39]; exact Nat.sub_le_sub_right hroom39 _)
                        clear hr39 hC39 hroom39 hi039 hsz39 hc39
                        have KY39 := A_ hy39
                        have KA39 := A_ hA39
                        clear hy39 hA39
                        replace q39 := eq_true q39
                        refine start_ (n := 11) (S := fun w' => True) (ds := []) (Fn.bl 11 0) (by kernel_rfl) rfl rfl trivial (fun hHeld => ?_); refine with_tabW laws_FnQueensWatch.tab15 laws_FnQueensWatch.bits15 (fun HT_ HW_ => ?_)
                        generalize wr.drew = w37 at HO_6 HB HO1010 HO1018 hHeld ⊢
                        refine pq_ 1 (some 75) (Fn.bl 11 2) HT_.out ?_
                        refine pq_ 2 (some 76) (Fn.bl 11 6) HT_.out ?_
                        refine pq_ 3 (some 77) (Fn.bl 11 14) HT_.out ?_
                        refine pq_ 5 (some 79) (Fn.bl 11 46) HT_.out ?_
                        refine pq_ 6 (some 80) (Fn.bl 11 110) HT_.out ?_
                        refine pq_ 7 (some 81) (Fn.bl 11 238) HT_.out ?_
                        refine pq_ 8 (some 82) (Fn.bl 11 494) HT_.out ?_
                        refine one_ (i := 0) (N := some 74) (Fn.bl 11 495) rfl rfl (one_of HT_.out (by kernel_rfl)) (by decide) (fun K hK => ?_)
                        refine Kd.N_lit_step (Kd.slice 3 (Kd.int .i64)) _ 22 ?hg (N' := 74) ?hd (xs := ([] : List (List Int))) (inner := []) (ok := (fun k_ => some k_ ≠ (.slice Ao21 t992.length co21 : Value).ownBlock)) (okp := (fun k_ => some k_ ≠ (.slice Ao21 t992.length co21 : Value).ownBlock)) ?hr ?hp (fun _ hk => hk) ((show ∀ k_, w37.heap.size ≤ k_ → (fun k_ => some k_ ≠ (.slice Ao21 t992.length co21 : Value).ownBlock) k_ from fun k_ hk => Kd.fresh' (Kd.N_lt (by (with_reducible repeat (first | apply Kd.N_alloc | apply Kd.N_drewN | apply Kd.N_drew)); exact HO_6.out)) k_ hk) _ (Nat.le_refl _)) (Below.refl _ _) (Nat.le_refl _) (by simp) ?_; (case hd => rfl); (case hg => rfl); (case hr => first | (go_simp; done) | (go_simp; rfl)); (case hp => exact (Reps.none _ _))
                        intro v1004 w40 ho41 hb hg_ hnew_
                        clear hg_ hnew_
                        (first | rw [← Ny1003.out] at ho41 | (simp only [Int.reduceToNat] at ho41; rw [← Ny1003.out] at ho41))
                        have n0_ := A_ (Kd.N_elder' (by (with_reducible repeat (first | apply Kd.N_alloc | apply Kd.N_drewN | apply Kd.N_drew)); exact HO_6.out) (by first | exact Kd.N_base ho41 | exact Kd.S_base ho41) hb)
                        have n1_ := A_ (Kd.V_elder' (by (with_reducible repeat (first | apply Kd.V_alloc | apply Kd.V_drewN | apply Kd.V_drew)); exact HO1010.out) (by first | exact Kd.N_base ho41 | exact Kd.S_base ho41) hb)
                        have n2_ := A_ (Kd.V_elder' (by (with_reducible repeat (first | apply Kd.V_alloc | apply Kd.V_drewN | apply Kd.V_drew)); exact HO1018.out) (by first | exact Kd.N_base ho41 | exact Kd.S_base ho41) hb)
                        have n3_ := A_ (Kd.N_lower ho41 (below_size tb_))
                        have n4_ := A_ (below_step tb_ hb)
                        clear HO_6
                        clear HO1010
                        clear HO1018
                        clear HB
                        have HO_6 := n0_
                        have HO1010 := n1_
                        have HO1018 := n2_
                        have HO1005 := n3_
                        have HB := n4_
                        clear n0_ n1_ n2_ n3_ n4_
                        clear hb ho41
                        refine hK.out _ _ trivial (fun hHeld => ?_)
                        clear hK K
                        refine norm_ (a' := ?_) ?_ ?_
                        rotate_left
                        ·
                         show Act.put _ (some 74) _ = _
                         simp only [Act.put, List.setIfInBounds_toArray, List.set_cons_zero, List.set_cons_succ, i64_w, i32_w]
                         rfl
                        refine one_ (i := 4) (N := some 78) (Fn.bl 11 511) rfl rfl (one_of HT_.out (by kernel_rfl)) (by decide) (fun K hK => ?_)
                        refine Kd.N_append_rows_step (Kd.slice 3 (Kd.int .i64)) (w0 := w) w.heap.size (by rfl) (.tmp 74) (.tmp 77) 41 22 (.slice none 0 0) 24 rfl Try.underlying41 info22 rfl (by decide) (by omega) v1004 y1003 y1006 _ _ _ (fun _ => True) (fun k_ => ((fun _ => True)) k_ ∧ some k_ ≠ (v1004 : Value).ownBlock) rfl rfl ?aO ?aR (fun _ hk => hk) ?aF ?aB ?aS ?aL ?_
                        (case aR => exact (by skip; exact Kd.V_F (Kd.V_mono (ok' := (fun k_ => ((fun _ => True)) k_ ∧ some k_ ≠ (v1004 : Value).ownBlock)) (HO1010.out) (fun k_ hk => ⟨trivial, hk.2⟩))))
                        (case aB => exact tb_)
                        (case aF => exact (fun _ _ => trivial))
                        (case aO => exact (by (with_reducible repeat (first | apply Kd.N_alloc | apply Kd.N_drewN | apply Kd.N_drew)); exact Kd.N_mono HO1005.out (fun _ hk => trivial)))
                        (case aS => exact (below_size tb_))
                        (case aL => have := LMc29.out; omega)
                        intro v1012 w42 ho hb hg hat
                        rw [← Ny1011.out] at ho
                        have n0_ := A_ (Kd.N_afterv (ok := (fun _ => True)) (by (with_reducible repeat (first | apply Kd.N_alloc | apply Kd.N_drewN | apply Kd.N_drew)); exact HO_6.out) hg hat)
                        have n1_ := A_ (Kd.V_afterv (ok := (fun _ => True)) (by (with_reducible repeat (first | apply Kd.V_alloc | apply Kd.V_drewN | apply Kd.V_drew)); exact HO1010.out) hg hat)
                        have n2_ := A_ (Kd.V_afterv (ok := (fun _ => True)) (by (with_reducible repeat (first | apply Kd.V_alloc | apply Kd.V_drewN | apply Kd.V_drew)); exact HO1018.out) hg hat)
                        have n3_ := A_ (hb)
                        have n4_ := A_ (ho)
                        clear HO_6
                        clear HO1010
                        clear HO1018
                        clear HB
                        clear HO1005
                        have HO_6 := n0_
                        have HO1010 := n1_
                        have HO1018 := n2_
                        have HB := n3_
                        have HO1013 := n4_
                        clear n0_ n1_ n2_ n3_ n4_
                        clear ho hb hg hat
                        refine hK.out _ _ trivial (fun hHeld => ?_)
                        clear hK K
                        refine norm_ (a' := ?_) ?_ ?_
                        rotate_left
                        ·
                         show Act.put _ (some 78) _ = _
                         simp only [Act.put, List.setIfInBounds_toArray, List.set_cons_zero, List.set_cons_succ, i64_w, i32_w]
                         rfl
                        refine one_ (i := 9) (N := some 83) (Fn.bl 11 1023) rfl rfl (one_of HT_.out (by kernel_rfl)) (by decide) (fun K hK => ?_)
                        refine Kd.N_append_rows_step (Kd.slice 3 (Kd.int .i64)) (w0 := w) w.heap.size (by rfl) (.tmp 78) (.tmp 82) 41 22 (.slice none 0 0) 24 rfl Try.underlying41 info22 rfl (by decide) (by omega) v1012 y1011 y1014 _ _ _ (fun _ => True) (fun k_ => ((fun _ => True)) k_ ∧ some k_ ≠ (v1012 : Value).ownBlock) rfl rfl ?aO ?aR (fun _ hk => hk) ?aF ?aB ?aS ?aL ?_
                        (case aR => exact (by skip; exact Kd.V_F (Kd.V_mono (ok' := (fun k_ => ((fun _ => True)) k_ ∧ some k_ ≠ (v1012 : Value).ownBlock)) (HO1018.out) (fun k_ hk => ⟨trivial, hk.2⟩))))
                        (case aB => exact tb_)
                        (case aF => exact (fun _ _ => trivial))
                        (case aO => exact (by (with_reducible repeat (first | apply Kd.N_alloc | apply Kd.N_drewN | apply Kd.N_drew)); exact HO1013.out))
                        (case aS => exact (below_size tb_))
                        (case aL => have := LMc33.out; omega)
                        intro v1020 w43 ho hb hg hat
                        rw [← Ny1019.out] at ho
                        have n0_ := A_ (Kd.N_afterv (ok := (fun _ => True)) (by (with_reducible repeat (first | apply Kd.N_alloc | apply Kd.N_drewN | apply Kd.N_drew)); exact HO_6.out) hg hat)
                        have n1_ := A_ (Kd.V_afterv (ok := (fun _ => True)) (by (with_reducible repeat (first | apply Kd.V_alloc | apply Kd.V_drewN | apply Kd.V_drew)); exact HO1010.out) hg hat)
                        have n2_ := A_ (Kd.V_afterv (ok := (fun _ => True)) (by (with_reducible repeat (first | apply Kd.V_alloc | apply Kd.V_drewN | apply Kd.V_drew)); exact HO1018.out) hg hat)
                        have n3_ := A_ (hb)
                        have n4_ := A_ (ho)
                        clear HO_6
                        clear HO1010
                        clear HO1018
                        clear HB
                        clear HO1013
                        have HO_6 := n0_
                        have HO1010 := n1_
                        have HO1018 := n2_
                        have HB := n3_
                        have HO1021 := n4_
                        clear n0_ n1_ n2_ n3_ n4_
                        clear ho hb hg hat
                        refine hK.out _ _ trivial (fun hHeld => ?_)
                        clear hK K
                        refine norm_ (a' := ?_) ?_ ?_
                        rotate_left
                        ·
                         show Act.put _ (some 83) _ = _
                         simp only [Act.put, List.setIfInBounds_toArray, List.set_cons_zero, List.set_cons_succ, i64_w, i32_w]
                         rfl
                        refine pq_ 10 (some 13) (Fn.bl 11 2047) HT_.out ?_
                        refine done_ (done_of HT_.out (by kernel_rfl)) ?_
                        obtain ⟨Ao44, co44, eo44⟩ := Kd.N_slice HO1021.out
                        subst eo44
                        try go_wp2_with (first | (refine gc_ 49 ?_; refine goesT_ (some 87) Try.func49 #[.int .i64 t991, .slice Ao44 y1019.length co44] ?_; (with_reducible refine (impl_AreWatching.calls k3 t991 _ _ y1019 false true _ ?side1 ?side2 A34.out).mono ?_); (case side1 => repeat (first | exact (Kd.N_reads' HO1021.out).2.2 | (with_reducible refine Kd.C_alloc ?_ _) | (with_reducible refine Kd.C_drewN ?_ _) | (with_reducible refine Kd.C_drew ?_))); (case side2 => exact (Kd.N_reads' HO1021.out).2.1); rintro e w45 ⟨rfl, hb⟩; refine ⟨_, rfl, ?_⟩; replace HO_6 := A_ (Kd.N_below (by (with_reducible repeat (first | apply Kd.N_alloc | apply Kd.N_drewN | apply Kd.N_drew)); exact HO_6.out) hb); replace HO1010 := A_ (Kd.V_below (by (with_reducible repeat (first | apply Kd.V_alloc | apply Kd.V_drewN | apply Kd.V_drew)); exact HO1010.out) hb); replace HO1018 := A_ (Kd.V_below (by (with_reducible repeat (first | apply Kd.V_alloc | apply Kd.V_drewN | apply Kd.V_drew)); exact HO1018.out) hb); replace HO1021 := A_ (Kd.N_below (by (with_reducible repeat (first | apply Kd.N_alloc | apply Kd.N_drewN | apply Kd.N_drew)); exact HO1021.out) hb); replace HB := A_ (below_step tb_ hb); (try clear hb)))
                        go_roundg k3
                        case measure => have := HJ7.out; have := HJ19.out; have := HK3.out; omega
                        case rel => exact ⟨(ji30), (by first | rfl | (simp; done) | (simp only [← hji30] <;> (first | rfl | simp)) | (simp [*]; done)), H', ⟨by have := HJ7.out; have := HJ19.out; have := HK3.out; omega⟩, ⟨by (with_reducible repeat (first | apply Kd.N_alloc | apply Kd.N_drewN | apply Kd.N_drew)); exact Kd.N_mono HO_6.out (fun _ hk => trivial)⟩, ⟨tb_⟩⟩
                      ·
                       replace c35 := Bool.eq_false_iff.mpr c35
                       subst c35
                       have H1 : (none) = some r := by rw [if_neg (show ¬ (false = true) by decide)] at H; exact H
                       clear H
                       have H := H1
                       clear H1
                       exact absurd H (by simp)
                     ·
                      rw [if_neg c33] at H
                      exact absurd H (by simp)
                    ·
                     rw [if_neg c32] at H
                     exact absurd H (by simp)
                   ·
                    rw [if_neg c31] at H
                    exact absurd H (by simp)
                  ·
                   rw [if_neg c29] at H
                   exact absurd H (by simp)
                 ·
                  rw [if_neg c28] at H
                  exact absurd H (by simp)
                ·
                 rw [if_neg c27] at H
                 exact absurd H (by simp)
               ·
                rw [if_neg c26] at H
                have c26b0 := decide_eq_false c26
                clear c26
                have H' := A_ H
                clear H
                go_wp2
                go_meet
                case rel => exact ⟨_, H', ⟨by have := HJ7.out; have := HJ19.out; have := HK3.out; first | omega | exact Nat.le_refl _⟩, ⟨tb_⟩⟩
        ·
         replace c18 := Bool.eq_false_iff.mpr c18
         subst c18
         have H1 : (laws_FnQueensWatch.j3 kj7 l1) = some r := by rw [if_neg (show ¬ (false = true) by decide)] at H; exact H
         clear H
         have H := H1
         clear H1
         have H' := A_ H
         clear H
         go_wp2
         go_meet
         case rel => exact ⟨_, H', ⟨by have := HJ7.out; first | omega | exact Nat.le_refl _⟩, ⟨tb_⟩⟩
      case rest =>
       as_aux_lemma =>
        clear HC17
        try clear c1
        try clear c2
        try clear p2
        try clear c3
        try clear q3
        try clear c4
        try clear p6
        try clear c12
        try clear c12b0
        try clear c12b1
        try clear c12b2
        try clear c16
        try clear c18
        try clear c23
        try clear c24
        try clear c25
        try clear c26
        try clear c26b0
        try clear c27
        try clear c27b0
        try clear c27b1
        try clear c28
        try clear c28b0
        try clear c28b1
        try clear c29
        try clear c31
        try clear c31b0
        try clear c31b1
        try clear c32
        try clear c32b0
        try clear c32b1
        try clear c33
        try clear c35
        try clear c36
        try clear q38
        try clear c39
        try clear q39
        try clear c40
        try clear c41
        try clear p2
        try clear p6
        try clear q039
        try clear q38
        try clear q39
        obtain ⟨kq, HA, HJ16, HB⟩ := hcut
        cases kq with
        | zero => exact absurd HA.out (by simp [laws_FnQueensWatch.j3])
        | succ kj16 =>
         have H := HA.out
         clear HA
         simp only [laws_FnQueensWatch.j3] at H
         replace H := Option.bind_eq_some_iff.mp H
         obtain ⟨⟨t1024, t1025⟩, A460, H⟩ := H
         replace H : ((impl_AreWatching.f kj16 t1024 t1025).bind fun bt1028 => ((spec_AreWatching.f kj16 t1024 t1025).bind fun bt1030 => (if (bt1028.2 != bt1030.2) = true then (none) else (laws_FnQueensWatch.j4 kj16 t1024 t1025 bt1028.1 (bt1028.1 != bt1030.1))))) = some r := H
         have A46 := A_ A460
         clear A460
         replace H := Option.bind_eq_some_iff.mp H
         obtain ⟨⟨t1028, t1029⟩, A470, H⟩ := H
         replace H : ((spec_AreWatching.f kj16 t1024 t1025).bind fun bt1030 => (if (t1029 != bt1030.2) = true then (none) else (laws_FnQueensWatch.j4 kj16 t1024 t1025 t1028 (t1028 != bt1030.1)))) = some r := H
         have A47 := A_ A470
         clear A470
         replace H := Option.bind_eq_some_iff.mp H
         obtain ⟨⟨t1030, t1031⟩, A480, H⟩ := H
         replace H : (if (t1029 != t1031) = true then (none) else (laws_FnQueensWatch.j4 kj16 t1024 t1025 t1028 (t1028 != t1030))) = some r := H
         have A48 := A_ A480
         clear A480
         have HC49 := A_ H
         clear H
         go_upto_region 23 with (first | (refine gc_ 50 ?_; refine goesT_ (some 98) Try.func50 #[.slice A1 l1.length c1] ?_; (with_reducible refine (spec_DrawAreWatching.calls kj16 _ _ l1 t1024 t1025 _ ?side1 ?side2 A46.out).mono ?_); (case side1 => exact tc_ HR1.out); (case side2 => exact HC1.out); rintro e w50 ⟨v1026, rfl, ho0, hb⟩; refine ⟨_, rfl, ?_⟩; have HO1027 := A_ (Kd.N_lower (Kd.N_mono (ok' := fun k_ => True) (Kd.S_N (Kd.S_bound ho0)) (fun k_ hk_ => trivial)) (below_size tb_)); replace HB := A_ (below_step tb_ hb); (try clear hb); (try clear ho0); obtain ⟨Ao51, co51, eo51⟩ := Kd.N_slice HO1027.out; subst eo51) | (refine gc_ 49 ?_; refine goesT_ (some 104) Try.func49 #[.int .i64 t1024, .slice Ao51 t1025.length co51] ?_; (with_reducible refine (impl_AreWatching.calls kj16 t1024 _ _ t1025 t1028 t1029 _ ?side1 ?side2 A47.out).mono ?_); (case side1 => repeat (first | exact (Kd.N_reads' HO1027.out).2.2 | (with_reducible refine Kd.C_alloc ?_ _) | (with_reducible refine Kd.C_drewN ?_ _) | (with_reducible refine Kd.C_drew ?_))); (case side2 => exact (Kd.N_reads' HO1027.out).2.1); rintro e w52 ⟨rfl, hb⟩; refine ⟨_, rfl, ?_⟩; replace HO1027 := A_ (Kd.N_below (by (with_reducible repeat (first | apply Kd.N_alloc | apply Kd.N_drewN | apply Kd.N_drew)); exact HO1027.out) hb); replace HB := A_ (below_step tb_ hb); (try clear hb)) | (refine gc_ 51 ?_; refine goesT_ (some 110) Try.func51 #[.int .i64 t1024, .slice Ao51 t1025.length co51] ?_; (with_reducible refine (spec_AreWatching.calls kj16 t1024 _ _ t1025 t1030 t1031 _ ?side1 ?side2 A48.out).mono ?_); (case side1 => repeat (first | exact (Kd.N_reads' HO1027.out).2.2 | (with_reducible refine Kd.C_alloc ?_ _) | (with_reducible refine Kd.C_drewN ?_ _) | (with_reducible refine Kd.C_drew ?_))); (case side2 => exact (Kd.N_reads' HO1027.out).2.1); rintro e w' ⟨rfl, ⟨nd, rfl⟩⟩; refine ⟨_, rfl, ?_⟩))
         (try simp only [Act.put, List.setIfInBounds_toArray, List.set_cons_zero, List.set_cons_succ])
         go_cut [120] (fun v120 wc => ∃ (kq : Nat) (x120_48 : Bool), v120 = .bool x120_48 ∧ Aside0 (laws_FnQueensWatch.j4 kq t1024 t1025 t1028 x120_48 = some r) ∧ Aside0 (kq ≤ kj16) ∧ Aside0 (Kd.N (Kd.slice 3 (Kd.int .i64)) 22 wc w.heap.size (fun _ => True) (.slice Ao51 t1025.length co51) t1025) ∧ Aside0 (Below w.heap.size w wc))
         case first =>
          as_aux_lemma =>
           have H := HC49.out
           clear HC49
           by_cases c53 : (t1029 != t1031) = true
           ·
            rw [if_pos c53] at H
            exact absurd H (by simp)
           ·
            rw [if_neg c53] at H
            have c53b0 : (t1029 != t1031) = false := by simpa using c53
            (try (have c53b1 : decide (t1029 = t1031) = true := by simpa using c53))
            (try (have c53b2 : (t1029 == t1031) = true := by simpa using c53))
            clear c53
            (first | rw [c53b0] | rw [c53b1] | (simp only [i64_w, i32_w]; rw [c53b0]) | skip)
            have H' := A_ H
            clear H
            go_wp2
            go_meet
            case rel => exact ⟨_, ((t1028 != t1030)), tf_, H', ⟨by have := HJ7.out; have := HJ16.out; first | omega | exact Nat.le_refl _⟩, ⟨by (with_reducible repeat (first | apply Kd.N_alloc | apply Kd.N_drewN | apply Kd.N_drew)); exact HO1027.out⟩, ⟨tb_⟩⟩
         case rest =>
          as_aux_lemma =>
           clear HC49
           try clear c1
           try clear c2
           try clear p2
           try clear c3
           try clear q3
           try clear c4
           try clear c5
           try clear p6
           try clear c12
           try clear c12b0
           try clear c12b1
           try clear c12b2
           try clear c16
           try clear c18
           try clear c23
           try clear c24
           try clear c25
           try clear c26
           try clear c26b0
           try clear c27
           try clear c27b0
           try clear c27b1
           try clear c28
           try clear c28b0
           try clear c28b1
           try clear c29
           try clear c31
           try clear c31b0
           try clear c31b1
           try clear c32
           try clear c32b0
           try clear c32b1
           try clear c33
           try clear c35
           try clear c36
           try clear q38
           try clear c39
           try clear q39
           try clear c40
           try clear c41
           try clear c49
           try clear c50
           try clear c51
           try clear c53
           try clear c53b0
           try clear c53b1
           try clear c53b2
           try clear p2
           try clear p6
           try clear q039
           try clear q3
           try clear q38
           try clear q39
           obtain ⟨kq, x120_48, rfl, HA, HJ48, HO_17, HB⟩ := hcut
           cases kq with
           | zero => exact absurd HA.out (by simp [laws_FnQueensWatch.j4])
           | succ kj48 =>
            have H := HA.out
            clear HA
            simp only [laws_FnQueensWatch.j4] at H
            by_cases c54 : x120_48 = true
            ·
             subst c54
             have H1 : (none) = some r := by rw [if_pos rfl] at H; exact H
             clear H
             have H := H1
             clear H1
             exact absurd H (by simp)
            ·
             replace c54 := Bool.eq_false_iff.mpr c54
             subst c54
             have H1 : (if t1028 = true then (if t1024 ≤ 6 then ((impl_LeastWatch.f kj48 t1024).bind fun bt1032 => (if bt1032.2 = true then (some (decide ((t1025.length : Int) ≥ (bt1032.1.length : Int)))) else (none))) else (some true)) else (some true)) = some r := by rw [if_neg (show ¬ (false = true) by decide)] at H; exact H
             clear H
             have H := H1
             clear H1
             by_cases c55 : t1028 = true
             ·
              subst c55
              have H1 : (if t1024 ≤ 6 then ((impl_LeastWatch.f kj48 t1024).bind fun bt1032 => (if bt1032.2 = true then (some (decide ((t1025.length : Int) ≥ (bt1032.1.length : Int)))) else (none))) else (some true)) = some r := by rw [if_pos rfl] at H; exact H
              clear H
              have H := H1
              clear H1
              by_cases c56 : t1024 ≤ 6
              ·
               rw [if_pos c56] at H
               have c56b0 := decide_eq_true c56
               clear c56
               replace H := Option.bind_eq_some_iff.mp H
               obtain ⟨⟨t1032, t1033⟩, A570, H⟩ := H
               replace H : (if t1033 = true then (some (decide ((t1025.length : Int) ≥ (t1032.length : Int)))) else (none)) = some r := H
               have A57 := A_ A570
               clear A570
               by_cases c58 : t1033 = true
               ·
                subst c58
                have H1 : (some (decide ((t1025.length : Int) ≥ (t1032.length : Int)))) = some r := by rw [if_pos rfl] at H; exact H
                clear H
                have H := H1
                clear H1
                obtain rfl := Option.some.inj H
                go_wp2_with (first | (refine gc_ 41 ?_; refine goesT_ (some 128) Try.func41 #[.int .i64 t1024] ?_; (with_reducible refine (impl_LeastWatch.calls kj48 t1024 t1032 true _ A57.out).mono ?_); rintro e w59 ⟨v1034, rfl, ho0, hb⟩; refine ⟨_, rfl, ?_⟩; have HO1035 := A_ (Kd.N_lower (Kd.N_mono (ok' := fun k_ => some k_ ≠ (.slice Ao51 t1025.length co51 : Value).ownBlock) (Kd.S_N (Kd.S_bound ho0)) (fun k_ hk_ => (Kd.fresh' (Kd.N_lt (by (with_reducible repeat (first | apply Kd.N_alloc | apply Kd.N_drewN | apply Kd.N_drew)); exact HO_17.out)) k_ hk_.2.1))) (below_size tb_)); replace HO_17 := A_ (Kd.N_elder' (by (with_reducible repeat (first | apply Kd.N_alloc | apply Kd.N_drewN | apply Kd.N_drew)); exact HO_17.out) (by first | exact Kd.N_base ho0 | exact Kd.S_base ho0) hb); replace HB := A_ (below_step tb_ hb); (try clear hb); (try clear ho0); obtain ⟨Ao60, co60, eo60⟩ := Kd.N_slice HO1035.out; subst eo60))
                go_ret
                exact ⟨te_, tb_⟩
               ·
                replace c58 := Bool.eq_false_iff.mpr c58
                subst c58
                have H1 : (none) = some r := by rw [if_neg (show ¬ (false = true) by decide)] at H; exact H
                clear H
                have H := H1
                clear H1
                exact absurd H (by simp)
              ·
               rw [if_neg c56] at H
               have c56b0 := decide_eq_false c56
               clear c56
               obtain rfl := Option.some.inj H
               go_wp2
               go_ret
               exact ⟨te_, tb_⟩
             ·
              replace c55 := Bool.eq_false_iff.mpr c55
              subst c55
              have H1 : (some true) = some r := by rw [if_neg (show ¬ (false = true) by decide)] at H; exact H
              clear H
              have H := H1
              clear H1
              obtain rfl := Option.some.inj H
              go_wp2
              go_ret
              exact ⟨te_, tb_⟩
   
/-- THE ONE PURE STATEMENT of laws_FnQueensWatch: yours. -/
def laws_FnQueensWatch.Pure : Prop := ∀ (l0 : List Int) (l1 : List Int), l0.length ≤ maxLen → l0.length * 1 ≤ 140737488351232 → (∀ x ∈ l0, (Lit.int .u8 x).wf = true) → l1.length ≤ maxLen → l1.length * 1 ≤ 140737488351232 → (∀ x ∈ l1, (Lit.int .u8 x).wf = true) → ∃ k, laws_FnQueensWatch.f k l0 l1 = some true
theorem laws_FnQueensWatch.walk (P : laws_FnQueensWatch.Pure) (a0 : Option Addr) (len0 cap0 : Nat) (z0 : List Int) (a1 : Option Addr) (len1 cap1 : Nat) (z1 : List Int) (w : World) (w0 : (a0 = none ∧ len0 = 0 ∧ cap0 = 0 ∧ z0 = []) ∨ ∃ x, a0 = some x ∧ len0 ≤ cap0 ∧ cap0 ≤ maxLen ∧ z0.length = cap0 ∧ (∀ i, i < z0.length → w.cell? (x.add i) = some (.int .u8 (z0.getD i 0))) ∧ ∀ n ∈ z0, (Lit.int .u8 n).wf = true) (y0 : len0 * 1 ≤ 140737488351232) (w1 : (a1 = none ∧ len1 = 0 ∧ cap1 = 0 ∧ z1 = []) ∨ ∃ x, a1 = some x ∧ len1 ≤ cap1 ∧ cap1 ≤ maxLen ∧ z1.length = cap1 ∧ (∀ i, i < z1.length → w.cell? (x.add i) = some (.int .u8 (z1.getD i 0))) ∧ ∀ n ∈ z1, (Lit.int .u8 n).wf = true) (y1 : len1 * 1 ≤ 140737488351232) :
  Calls Try.prog 12 #[.slice a0 len0 cap0, .slice a1 len1 cap1] w fun e w' => e = .returned (.bool true) ∧ Below w.heap.size w w' := by
 obtain ⟨l0, rfl, hr0, hm0, hw0, hc0⟩ := ReadsInt.ofRowC w0
 obtain ⟨l1, rfl, hr1, hm1, hw1, hc1⟩ := ReadsInt.ofRowC w1
 obtain ⟨k, h⟩ := P l0 l1 hm0 y0 hw0 hm1 y1 hw1
 refine (laws_FnQueensWatch.calls k _ _ l0 _ _ l1 true w (Kd.C_of_reads (d := (0 : Int)) (h1 := fun _ => rfl) hr0) hc0 (Kd.C_of_reads (d := (0 : Int)) (h1 := fun _ => rfl) hr1) hc1 h).mono ?_
 rintro e w' ⟨rfl, hd⟩
 exact ⟨rfl, hd⟩

end
end Go.Proofs.Ythlcaikplebpmaa.P
