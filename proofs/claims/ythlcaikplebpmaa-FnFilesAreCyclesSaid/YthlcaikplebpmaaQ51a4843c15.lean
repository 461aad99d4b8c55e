-- printed functions (wip/slim.py)
import Derived.Test.YthlcaikplebpmaaPx0
import Derived.Test.YthlcaikplebpmaaQ189f40801e
namespace Go.Proofs.Ythlcaikplebpmaa.P
noncomputable section
set_option maxHeartbeats 8000000
set_option maxRecDepth 100000
open Go.RowKit Go.Proofs.YthlcaikplebpmaaW.PrintWords Go.Proofs.YthlcaikplebpmaaW.PrintLast Go.Proofs.YthlcaikplebpmaaW.PrintMore
attribute [local go_sem] max2_int min2_int max_two min_two max_three min_three max_four min_four   -- for this text's walks alone
set_option linter.unusedVariables false
set_option linter.unusedSimpArgs false

/-! ### spec_l1Cur_blocks: function 153 -/
def spec_l1Cur_blocks.l0 : Nat → Bool → List (List Int) → Int → Int → List Int → Int → Int → Option ((List (List Int)) × Int × Int)
 | 0, _, _, _, _, _, _, _ => none
 | k + 1, x1, x5, x6, x7, x1000, x1001, x1002 => if x7 < x6 then ((spec_l1Cur_pick.f x1000 x1001 x1002 (wrap64 ((x5.length : Int) + 1))).bind fun bt1342 => (if bt1342.1 = (x5.length : Int) then (if x5.length < 5864062014805 then (spec_l1Cur_blocks.l0 k x1 (x5 ++ [(([x7] : List Int))]) x6 (wrap64 (x7 + 1)) x1000 bt1342.2.1 bt1342.2.2) else (none)) else (if 0 ≤ bt1342.1 then (if bt1342.1 < (x5.length : Int) then (if x1 = true then (if 0 ≤ ((rd_L1 x5 bt1342.1).length : Int) then (if ((rd_L1 x5 bt1342.1).length : Int) ≤ ((rd_L1 x5 bt1342.1).length : Int) then ((spec_l1Own.f ((rd_L1 x5 bt1342.1).take (((rd_L1 x5 bt1342.1).length : Int) : Int).toNat)).bind fun t1357 => (if t1357.length < 17592186044416 then ((some (t1357 ++ [x7] : List Int)).bind fun y1360 => ((some ((rd_L1 x5 bt1342.1).drop (((rd_L1 x5 bt1342.1).length : Int) : Int).toNat : List Int)).bind fun y1364 => (if y1360.length + y1364.length < 17592186044416 then (spec_l1Cur_blocks.l0 k x1 (x5.set (bt1342.1 : Int).toNat (y1360 ++ y1364)) x6 (wrap64 (x7 + 1)) x1000 bt1342.2.1 bt1342.2.2) else (none)))) else (none))) else (none)) else (none)) else ((spec_l1Cur_pick.f x1000 bt1342.2.1 bt1342.2.2 ((rd_L1 x5 bt1342.1).length : Int)).bind fun bt1373 => (if 0 ≤ (wrap64 (1 + bt1373.1)) then (if (wrap64 (1 + bt1373.1)) ≤ ((rd_L1 x5 bt1342.1).length : Int) then ((spec_l1Own.f ((rd_L1 x5 bt1342.1).take ((wrap64 (1 + bt1373.1)) : Int).toNat)).bind fun t1381 => (if t1381.length < 17592186044416 then ((some (t1381 ++ [x7] : List Int)).bind fun y1384 => ((some ((rd_L1 x5 bt1342.1).drop ((wrap64 (1 + bt1373.1)) : Int).toNat : List Int)).bind fun y1388 => (if y1384.length + y1388.length < 17592186044416 then (spec_l1Cur_blocks.l0 k x1 (x5.set (bt1342.1 : Int).toNat (y1384 ++ y1388)) x6 (wrap64 (x7 + 1)) x1000 bt1373.2.1 bt1373.2.2) else (none)))) else (none))) else (none)) else (none)))) else (none)) else (none)))) else ((spec_l1Cur_pick.f x1000 x1001 x1002 16).bind fun bt1396 => (if bt1396.1 = 0 then (if 0 < (x5.length : Int) then ((spec_l1Cur_among.f x1000 bt1396.2.1 bt1396.2.2 (([(-1), 0, 1, 6, 4611686018427387904] : List Int))).bind fun bt1403 => (if 0 < ((rd_L1 x5 0).length : Int) then (some ((x5.set (0 : Int).toNat ((rd_L1 x5 0).set (0 : Int).toNat bt1403.1)), bt1403.2.1, bt1403.2.2)) else (none))) else (none)) else (if bt1396.1 = 1 then (if x5.length < 5864062014805 then (some ((x5 ++ [[]]), bt1396.2.1, bt1396.2.2)) else (none)) else (if bt1396.1 = 2 then (if x5.length < 5864062014805 then (some ((x5 ++ [(([wrap64 (x6 + 1)] : List Int))]), bt1396.2.1, bt1396.2.2)) else (none)) else (if bt1396.1 = 3 then (if x5.length < 5864062014805 then (some ((x5 ++ [(([0, 1, 2, 3, 4, 5] : List Int))]), bt1396.2.1, bt1396.2.2)) else (none)) else (some (x5, bt1396.2.1, bt1396.2.2)))))))
def spec_l1Cur_blocks.f (k : Nat) (s0_0 : List Int) (s0_1 : Int) (s0_2 : Int) (a1 : Bool) : Option ((List (List Int)) × Int × Int) := (spec_l1Cur_pick.f s0_0 s0_1 s0_2 6).bind fun bt1339 => (spec_l1Cur_blocks.l0 k a1 ([] : List (List Int)) (wrap64 (1 + bt1339.1)) 0 s0_0 bt1339.2.1 bt1339.2.2)
theorem spec_l1Cur_blocks.mono_l : ∀ k, (∀ y0 y1 y2 y3 y4 y5 y6, LeO (spec_l1Cur_blocks.l0 k y0 y1 y2 y3 y4 y5 y6) (spec_l1Cur_blocks.l0 (k + 1) y0 y1 y2 y3 y4 y5 y6))
 | 0 => fun _ _ _ _ _ _ _ r h => by simp [spec_l1Cur_blocks.l0] at h
 | k + 1 => by
  have ih0 := spec_l1Cur_blocks.mono_l k
  ·
   intro y0 y1 y2 y3 y4 y5 y6
   unfold spec_l1Cur_blocks.l0
   repeat' first | (with_reducible first | exact ih0 _ _ _ _ _ _ _ | exact LeO.refl _ | exact LeO.none _ | refine LeO.ite ?_ ?_ | refine LeO.bind ?_ (fun _ => ?_)) | exact ih0 _ _ _ _ _ _ _ | exact LeO.none _ | refine LeO.ite ?_ ?_ | refine LeO.bind ?_ (fun _ => ?_)
theorem spec_l1Cur_blocks.mono : ∀ a0 a1 a2 a3 k, LeO (spec_l1Cur_blocks.f k a0 a1 a2 a3) (spec_l1Cur_blocks.f (k + 1) a0 a1 a2 a3) := by
 intro a0 a1 a2 a3 k
 have ih0 := spec_l1Cur_blocks.mono_l k
 unfold spec_l1Cur_blocks.f
 repeat' first | (with_reducible first | exact ih0 _ _ _ _ _ _ _ | exact LeO.refl _ | exact LeO.none _ | refine LeO.ite ?_ ?_ | refine LeO.bind ?_ (fun _ => ?_)) | exact ih0 _ _ _ _ _ _ _ | exact LeO.none _ | refine LeO.ite ?_ ?_ | refine LeO.bind ?_ (fun _ => ?_)
def spec_l1Cur_blocks.T16 : Bool × List (List Nat × List Nat) := (true, [([], []), ([0], [0]), ([1], [1]), ([], []), ([], []), ([3, 4], [3, 4]), ([2, 0, 1, 2, 3, 4, 5], [2]), ([6, 5, 5, 0, 1, 2, 3, 4, 5], [5, 6])])
def spec_l1Cur_blocks.B16 : List Nat := [0, 1, 3, 0, 0, 24, 63, 127]
theorem spec_l1Cur_blocks.tab16 : rtab .any (opsOf Try.f153 16) = spec_l1Cur_blocks.T16 := by kernel_rfl
theorem spec_l1Cur_blocks.bits16 : waitsOk spec_l1Cur_blocks.T16.2 spec_l1Cur_blocks.B16 = true := by kernel_rfl
theorem spec_l1Cur_blocks.calls (k : Nat) (g : Nat) (s0_0 : List Int) (s0_1 : Int) (s0_2 : Int) (a1 : Bool) (r1 : List (List Int)) (r2 : Int) (r3 : Int) (w0 w : World) (hI : IsS100 w0 w g s0_0 s0_1 s0_2) (hB : Below w0.heap.size w0 w) (h : spec_l1Cur_blocks.f k s0_0 s0_1 s0_2 a1 = some (r1, r2, r3)) :
  Calls Try.prog 153 #[.pointer (some ⟨g, 0, none⟩), .bool a1] w fun e w' => ∃ v0_ : Value, e = .returned (v0_) ∧ Kd.S (Kd.slice 3 (Kd.int .i64)) 22 w' w.heap.size (fun _ => True) v0_ r1 ∧ IsS100 w0 w' g s0_0 r2 r3 ∧ Below w0.heap.size w0 w' ∧ KeepBut w w' g none := by
 have HI0 := A_ hI
 have HK := A_ (KeepBut.refl w g none)
 have HL := A_ hB.size
 clear hI
 have HW0 := A_ hB.size
 have HB := A_ hB
 clear hB
 have H : ((spec_l1Cur_pick.f s0_0 s0_1 s0_2 6).bind fun bt1339 => (spec_l1Cur_blocks.l0 k a1 ([] : List (List Int)) (wrap64 (1 + bt1339.1)) 0 s0_0 bt1339.2.1 bt1339.2.2)) = some (r1, r2, r3) := h
 clear h
 replace H := Option.bind_eq_some_iff.mp H
 obtain ⟨⟨t1339, t1340, t1341⟩, A30, H⟩ := H
 replace H : (spec_l1Cur_blocks.l0 k a1 ([] : List (List Int)) (wrap64 (1 + t1339)) 0 s0_0 t1340 t1341) = some (r1, r2, r3) := H
 have A3 := A_ A30
 clear A30
 have H' := A_ H
 clear H
 go_enter Try.func153, Try.ntmps153
 go_wp2_with (first | (refine gc_ 122 ?_; refine goesT_ (some 12) Try.func122 #[.pointer (some ⟨g, 0, none⟩), .int .i64 6] ?_; (with_reducible refine (spec_l1Cur_pick.calls g s0_0 s0_1 s0_2 6 t1339 t1340 t1341 w0 _ ?side1 ?side2 A3.out).mono ?_); (case side1 => repeat (first | (with_reducible first | exact HI0.out | apply IsS100.alloc | apply IsS100.drewN | apply IsS100.drew | apply IsS100.set_1 | apply IsS100.set_2) | exact HI0.out)); (case side2 => repeat (first | (with_reducible first | exact HB.out | apply below_alloc | apply pw_below_drewN | apply below_drew1 | refine below_set ?_ (IsS100.ge HI0.out)) | exact HB.out)); rintro e w4 ⟨rfl, hi, hb, hk⟩; refine ⟨_, rfl, ?_⟩; replace HK := A_ (KeepBut.trans (by repeat (first | (with_reducible first | exact HK.out | apply KeepBut.set_ | apply keep_drewN | apply keep_drew | apply keep_alloc) | exact HK.out)) hk (.inl rfl)); replace HB := A_ (hb); replace HI0 := A_ (hi); (try clear hb); (try clear hb2); (try clear hk); (try clear hi)))
 go_loopg [5, 7] k (fun kq v5 v7 w' => ∃ (x5_1 : List (List Int)) (x7_1 : Int) (x1001_1 : Int) (x1002_1 : Int), v7 = .int .i64 x7_1 ∧ Aside0 (spec_l1Cur_blocks.l0 kq a1 x5_1 (wrap64 (1 + t1339)) x7_1 s0_0 x1001_1 x1002_1 = some (r1, r2, r3)) ∧ Aside0 (kq ≤ k) ∧ Aside0 (Kd.S (Kd.slice 3 (Kd.int .i64)) 22 w' w.heap.size (fun _ => True) v5 x5_1) ∧ Aside0 (IsS100 w0 w' g s0_0 x1001_1 x1002_1) ∧ Aside0 (KeepBut w w' g none) ∧ Aside0 (Below w0.heap.size w0 w'))
 case atStart => exact ⟨(([] : List (List Int))), (0), (t1340), (t1341), tf_, H', ⟨Nat.le_refl _⟩, ⟨by first | exact Kd.S_nil _ _ _ _ _ | exact Kd.N_nil _ _ _ _ _ | exact Kd.V_nil _ _ _ _ _ | exact Kd.Q_nil _ _ _ _ _ | exact Kd.R_nil _ _ _ _ _⟩, ⟨by repeat (first | (with_reducible first | exact HI0.out | apply IsS100.alloc | apply IsS100.drewN | apply IsS100.drew | apply IsS100.set_1 | apply IsS100.set_2) | exact HI0.out)⟩, ⟨by repeat (first | (with_reducible first | exact HK.out | apply KeepBut.set_ | apply keep_drewN | apply keep_drew | apply keep_alloc) | exact HK.out)⟩, ⟨by repeat (first | (with_reducible first | exact HB.out | apply below_alloc | apply pw_below_drewN | apply below_drew1 | refine below_set ?_ (IsS100.ge HI0.out)) | exact HB.out)⟩⟩
 case round =>
  clear H'
  try clear c1
  try clear p2
  obtain ⟨x5_1, x7_1, x1001_1, x1002_1, rfl, HA, HK1, HO_5, HI0, HK, HB⟩ := hrel
  cases gk with
  | zero => exact absurd HA.out (by simp [spec_l1Cur_blocks.l0])
  | succ k1 =>
   have H := HA.out
   clear HA
   simp only [spec_l1Cur_blocks.l0] at H
   by_cases c5 : x7_1 < (wrap64 (1 + t1339))
   ·
    rw [if_pos c5] at H
    have c5b0 := decide_eq_true c5
    clear c5
    replace H := Option.bind_eq_some_iff.mp H
    obtain ⟨⟨t1342, t1343, t1344⟩, A60, H⟩ := H
    replace H : (if t1342 = (x5_1.length : Int) then (if x5_1.length < 5864062014805 then (spec_l1Cur_blocks.l0 k1 a1 (x5_1 ++ [(([x7_1] : List Int))]) (wrap64 (1 + t1339)) (wrap64 (x7_1 + 1)) s0_0 t1343 t1344) else (none)) else (if 0 ≤ t1342 then (if t1342 < (x5_1.length : Int) then (if a1 = true then (if 0 ≤ ((rd_L1 x5_1 t1342).length : Int) then (if ((rd_L1 x5_1 t1342).length : Int) ≤ ((rd_L1 x5_1 t1342).length : Int) then ((spec_l1Own.f ((rd_L1 x5_1 t1342).take (((rd_L1 x5_1 t1342).length : Int) : Int).toNat)).bind fun t1357 => (if t1357.length < 17592186044416 then ((some (t1357 ++ [x7_1] : List Int)).bind fun y1360 => ((some ((rd_L1 x5_1 t1342).drop (((rd_L1 x5_1 t1342).length : Int) : Int).toNat : List Int)).bind fun y1364 => (if y1360.length + y1364.length < 17592186044416 then (spec_l1Cur_blocks.l0 k1 a1 (x5_1.set (t1342 : Int).toNat (y1360 ++ y1364)) (wrap64 (1 + t1339)) (wrap64 (x7_1 + 1)) s0_0 t1343 t1344) else (none)))) else (none))) else (none)) else (none)) else ((spec_l1Cur_pick.f s0_0 t1343 t1344 ((rd_L1 x5_1 t1342).length : Int)).bind fun bt1373 => (if 0 ≤ (wrap64 (1 + bt1373.1)) then (if (wrap64 (1 + bt1373.1)) ≤ ((rd_L1 x5_1 t1342).length : Int) then ((spec_l1Own.f ((rd_L1 x5_1 t1342).take ((wrap64 (1 + bt1373.1)) : Int).toNat)).bind fun t1381 => (if t1381.length < 17592186044416 then ((some (t1381 ++ [x7_1] : List Int)).bind fun y1384 => ((some ((rd_L1 x5_1 t1342).drop ((wrap64 (1 + bt1373.1)) : Int).toNat : List Int)).bind fun y1388 => (if y1384.length + y1388.length < 17592186044416 then (spec_l1Cur_blocks.l0 k1 a1 (x5_1.set (t1342 : Int).toNat (y1384 ++ y1388)) (wrap64 (1 + t1339)) (wrap64 (x7_1 + 1)) s0_0 bt1373.2.1 bt1373.2.2) else (none)))) else (none))) else (none)) else (none)))) else (none)) else (none))) = some (r1, r2, r3) := H
    have A6 := A_ A60
    clear A60
    by_cases c7 : t1342 = (x5_1.length : Int)
    ·
     rw [if_pos c7] at H
     have c7b0 : (t1342 == (x5_1.length : Int)) = true := beq_iff_eq.mpr c7
     have c7b1 : (t1342 != (x5_1.length : Int)) = false := bne_eq_false_iff_eq.mpr c7
     clear c7
     obtain ⟨y1345, hy1345⟩ : ∃ y_ : List Int, y_ = (([x7_1] : List Int)) := ⟨_, rfl⟩
     replace H : (if x5_1.length < 5864062014805 then (spec_l1Cur_blocks.l0 k1 a1 (x5_1 ++ [y1345]) (wrap64 (1 + t1339)) (wrap64 (x7_1 + 1)) s0_0 t1343 t1344) else (none)) = some (r1, r2, r3) := ty_ hy1345 H
     have Ny1345 := A_ hy1345
     clear hy1345
     by_cases c8 : x5_1.length < 5864062014805
     ·
      rw [if_pos c8] at H
      have LMc8 := A_ c8
      clear c8
      obtain ⟨y1348, hy1348⟩ : ∃ y_ : List (List Int), y_ = (x5_1 ++ [y1345]) := ⟨_, rfl⟩
      replace H : (spec_l1Cur_blocks.l0 k1 a1 y1348 (wrap64 (1 + t1339)) (wrap64 (x7_1 + 1)) s0_0 t1343 t1344) = some (r1, r2, r3) := ty_ hy1348 H
      have Ny1348 := A_ hy1348
      clear hy1348
      have H' := A_ H
      clear H
      obtain ⟨Ao9, co9, eo9⟩ := Kd.S_slice HO_5.out
      subst eo9
      go_wp2_with (first | (refine gc_ 122 ?_; refine goesT_ (some 23) Try.func122 #[.pointer (some ⟨g, 0, none⟩), .int .i64 (wrap64 ((x5_1.length : Int) + 1))] ?_; (with_reducible refine (spec_l1Cur_pick.calls g s0_0 x1001_1 x1002_1 (wrap64 ((x5_1.length : Int) + 1)) t1342 t1343 t1344 w0 _ ?side1 ?side2 A6.out).mono ?_); (case side1 => repeat (first | (with_reducible first | exact HI0.out | apply IsS100.alloc | apply IsS100.drewN | apply IsS100.drew | apply IsS100.set_1 | apply IsS100.set_2) | exact HI0.out)); (case side2 => repeat (first | (with_reducible first | exact HB.out | apply below_alloc | apply pw_below_drewN | apply below_drew1 | refine below_set ?_ (IsS100.ge HI0.out)) | exact HB.out)); rintro e w10 ⟨rfl, hi, hb, hk⟩; refine ⟨_, rfl, ?_⟩; replace HO_5 := A_ (Kd.S_mono (Kd.S_keep (IsS100.apartS (show IsS100 w0 _ g s0_0 x1001_1 x1002_1 from by repeat (first | (with_reducible first | exact HI0.out | apply IsS100.alloc | apply IsS100.drewN | apply IsS100.drew | apply IsS100.set_1 | apply IsS100.set_2) | exact HI0.out)) (ts1_x HO_5.out) (by decide)) hk (fun _ h => h.2)) (fun _ h => h.1)); replace HK := A_ (KeepBut.trans (by repeat (first | (with_reducible first | exact HK.out | apply KeepBut.set_ | apply keep_drewN | apply keep_drew | apply keep_alloc) | exact HK.out)) hk (.inl rfl)); replace HB := A_ (hb); replace HI0 := A_ (hi); (try clear hb); (try clear hb2); (try clear hk); (try clear hi)) | (refine gd_ 30 ?_; refine Kd.R_lit (Kd.int .i64) _ 3 ?hg (N := 30) ?hd (xs := ([x7_1] : List Int)) (inner := [.int .i64 x7_1]) (ok := fun _ => True) (okp := fun _ => True) ?hr ?hp (fun _ hk => hk) trivial (Below.refl _ _) (Nat.le_refl _) (by simp) ?_; (case hd => rfl); (case hg => rfl); (case hr => first | (go_simp; done) | (go_simp; rfl)); (case hp => exact (Reps.one (show Kd.M (Kd.int .i64) _ _ _ x7_1 [.int .i64 x7_1] from rfl) (Reps.none _ _))); intro v1346 w11 ho12 hb hg_ hnew_; clear hg_ hnew_; (first | rw [← Ny1345.out] at ho12 | (simp only [Int.reduceToNat] at ho12; rw [← Ny1345.out] at ho12)); replace HO_5 := A_ (Kd.S_elder' (ts1_x HO_5.out) (Kd.R_base ho12) hb); have HO1347 := A_ (Kd.R_lower ho12 (keep_size (w := w) (g := g) (row := none) (by repeat (first | (with_reducible first | exact HK.out | apply KeepBut.set_ | apply keep_drewN | apply keep_drew | apply keep_alloc) | exact HK.out)))); replace HK := A_ (KeepBut.trans (by repeat (first | (with_reducible first | exact HK.out | apply KeepBut.set_ | apply keep_drewN | apply keep_drew | apply keep_alloc) | exact HK.out)) (KeepBut.of_below hb g none) (.inl rfl)); replace HB := A_ (below_step (by repeat (first | (with_reducible first | exact HB.out | apply below_alloc | apply pw_below_drewN | apply below_drew1 | refine below_set ?_ (IsS100.ge HI0.out)) | exact HB.out)) hb); replace HI0 := A_ (IsS100.below (by repeat (first | (with_reducible first | exact HI0.out | apply IsS100.alloc | apply IsS100.drewN | apply IsS100.drew | apply IsS100.set_1 | apply IsS100.set_2) | exact HI0.out)) hb); clear hb ho12; obtain ⟨Ao14, co14, eo14⟩ := Kd.R_slice HO1347.out; subst eo14) | ((with_reducible refine gate_builtin (b := .append) (xs := #[.tmp 28, .tmp 31]) rfl ?_); at_builtin; refine Kd.S_append (Kd.slice 3 (Kd.int .i64)) w.heap.size rfl (.tmp 28) (.tmp 31) 41 22 (.slice none 0 0) 24 rfl Try.underlying41 info22 rfl (by decide) (by omega) (.slice Ao9 x5_1.length co9) x5_1 y1345 [.slice Ao14 y1345.length co14] (fun _ => True) (fun k_ => some k_ = (.slice Ao14 y1345.length co14 : Value).ownBlock) rfl rfl ?aP (fun k_ hk_ => ((Kd.R_mono (ok' := fun k_ => ((fun _ => True)) k_ ∧ some k_ ≠ (.slice Ao9 x5_1.length co9 : Value).ownBlock) (Kd.R_apart' (HO1347.out) (Kd.S_typed HO_5.out) (by decide)) (fun k_ hk => ⟨trivial, hk.2⟩))).1 k_ hk_.symm) ?aF ?aO (Below.refl _ _) ?aS ?aL ?_; (case aP => exact Kd.M_row (Kd.R_mono (Kd.R_tight rfl (Kd.R_mono (ok' := fun k_ => ((fun _ => True)) k_ ∧ some k_ ≠ (.slice Ao9 x5_1.length co9 : Value).ownBlock) (Kd.R_apart' (HO1347.out) (Kd.S_typed HO_5.out) (by decide)) (fun k_ hk => ⟨trivial, hk.2⟩))) (fun _ h_ => h_))); (case aF => exact (fun _ _ => trivial)); (case aO => exact (ts1_ (h := by exact Kd.S_mono HO_5.out (fun k_ hk => ⟨trivial, fun e_ => hk.2 e_⟩)))); (case aS => exact (keep_size (w := w) (g := g) (row := none) (by repeat (first | (with_reducible first | exact HK.out | apply KeepBut.set_ | apply keep_drewN | apply keep_drew | apply keep_alloc) | exact HK.out)))); (case aL => have := LMc8.out; omega); intro v1349 w13 ho hb hg hat; rw [← Ny1348.out] at ho; have n0_ := A_ (IsS100.grown (by repeat (first | (with_reducible first | exact HI0.out | apply IsS100.alloc | apply IsS100.drewN | apply IsS100.drew | apply IsS100.set_1 | apply IsS100.set_2) | exact HI0.out)) hg (IsS100.own_neS HI0.out HO_5.out (by decide))); have n1_ := A_ (below_weaken (by repeat (first | (with_reducible first | exact HB.out | apply below_alloc | apply pw_below_drewN | apply below_drew1 | refine below_set ?_ (IsS100.ge HI0.out)) | exact HB.out)) HL.out hb); have n2_ := A_ (KeepBut.trans (by repeat (first | (with_reducible first | exact HK.out | apply KeepBut.set_ | apply keep_drewN | apply keep_drew | apply keep_alloc) | exact HK.out)) (KeepBut.of_grown hg g) (Kd.S_base2 HO_5.out)); have n3_ := A_ (ho); clear HI0; clear HB; clear HK; clear HO_5; clear HO1347; have HI0 := n0_; have HB := n1_; have HK := n2_; have HO1350 := n3_; clear n0_ n1_ n2_ n3_; clear ho hb hg hat))
      go_roundg k1
      case measure => have := HK1.out; omega
      case rel => exact ⟨(y1348), (wrap64 (x7_1 + 1)), (t1343), (t1344), tf_, H', ⟨by have := HK1.out; omega⟩, ⟨ts1_x HO1350.out⟩, ⟨by repeat (first | (with_reducible first | exact HI0.out | apply IsS100.alloc | apply IsS100.drewN | apply IsS100.drew | apply IsS100.set_1 | apply IsS100.set_2) | exact HI0.out)⟩, ⟨by repeat (first | (with_reducible first | exact HK.out | apply KeepBut.set_ | apply keep_drewN | apply keep_drew | apply keep_alloc) | exact HK.out)⟩, ⟨by repeat (first | (with_reducible first | exact HB.out | apply below_alloc | apply pw_below_drewN | apply below_drew1 | refine below_set ?_ (IsS100.ge HI0.out)) | exact HB.out)⟩⟩
     ·
      rw [if_neg c8] at H
      exact absurd H (by simp)
    ·
     rw [if_neg c7] at H
     have c7b0 : (t1342 == (x5_1.length : Int)) = false := beq_eq_false_iff_ne.mpr c7
     have c7b1 : (t1342 != (x5_1.length : Int)) = true := bne_iff_ne.mpr c7
     by_cases c15 : 0 ≤ t1342
     ·
      rw [if_pos c15] at H
      have c15b0 := decide_eq_true c15
      clear c15
      by_cases c16 : t1342 < (x5_1.length : Int)
      ·
       rw [if_pos c16] at H
       have c16b0 := decide_eq_true c16
       clear c16
       by_cases c17 : a1 = true
       ·
        subst c17
        have H1 : (if 0 ≤ ((rd_L1 x5_1 t1342).length : Int) then (if ((rd_L1 x5_1 t1342).length : Int) ≤ ((rd_L1 x5_1 t1342).length : Int) then ((spec_l1Own.f ((rd_L1 x5_1 t1342).take (((rd_L1 x5_1 t1342).length : Int) : Int).toNat)).bind fun t1357 => (if t1357.length < 17592186044416 then ((some (t1357 ++ [x7_1] : List Int)).bind fun y1360 => ((some ((rd_L1 x5_1 t1342).drop (((rd_L1 x5_1 t1342).length : Int) : Int).toNat : List Int)).bind fun y1364 => (if y1360.length + y1364.length < 17592186044416 then (spec_l1Cur_blocks.l0 k1 true (x5_1.set (t1342 : Int).toNat (y1360 ++ y1364)) (wrap64 (1 + t1339)) (wrap64 (x7_1 + 1)) s0_0 t1343 t1344) else (none)))) else (none))) else (none)) else (none)) = some (r1, r2, r3) := by rw [if_pos rfl] at H; exact H
        clear H
        have H := H1
        clear H1
        by_cases c18 : 0 ≤ ((rd_L1 x5_1 t1342).length : Int)
        ·
         rw [if_pos c18] at H
         have c18b0 := eq_true c18
         have c18b1 := decide_eq_true c18
         clear c18
         by_cases c19 : ((rd_L1 x5_1 t1342).length : Int) ≤ ((rd_L1 x5_1 t1342).length : Int)
         ·
          rw [if_pos c19] at H
          have c19b0 := eq_true c19
          have c19b1 := decide_eq_true c19
          clear c19
          obtain ⟨y1353, hy1353⟩ : ∃ y_ : List Int, y_ = ((rd_L1 x5_1 t1342).take (((rd_L1 x5_1 t1342).length : Int) : Int).toNat) := ⟨_, rfl⟩
          replace H : ((spec_l1Own.f y1353).bind fun t1357 => (if t1357.length < 17592186044416 then ((some (t1357 ++ [x7_1] : List Int)).bind fun y1360 => ((some ((rd_L1 x5_1 t1342).drop (((rd_L1 x5_1 t1342).length : Int) : Int).toNat : List Int)).bind fun y1364 => (if y1360.length + y1364.length < 17592186044416 then (spec_l1Cur_blocks.l0 k1 true (x5_1.set (t1342 : Int).toNat (y1360 ++ y1364)) (wrap64 (1 + t1339)) (wrap64 (x7_1 + 1)) s0_0 t1343 t1344) else (none)))) else (none))) = some (r1, r2, r3) := ty_ hy1353 H
          have Ny1353 := A_ hy1353
          clear hy1353
          replace H := Option.bind_eq_some_iff.mp H
          obtain ⟨t1357, A200, H⟩ := H
          replace H : (if t1357.length < 17592186044416 then ((some (t1357 ++ [x7_1] : List Int)).bind fun y1360 => ((some ((rd_L1 x5_1 t1342).drop (((rd_L1 x5_1 t1342).length : Int) : Int).toNat : List Int)).bind fun y1364 => (if y1360.length + y1364.length < 17592186044416 then (spec_l1Cur_blocks.l0 k1 true (x5_1.set (t1342 : Int).toNat (y1360 ++ y1364)) (wrap64 (1 + t1339)) (wrap64 (x7_1 + 1)) s0_0 t1343 t1344) else (none)))) else (none)) = some (r1, r2, r3) := H
          have A20 := A_ A200
          clear A200
          by_cases c21 : t1357.length < 17592186044416
          ·
           rw [if_pos c21] at H
           have LMc21 := A_ c21
           clear c21
           obtain ⟨y1360, hy1360⟩ : ∃ y_ : List Int, y_ = (t1357 ++ [x7_1]) := ⟨_, rfl⟩
           replace H : ((some ((rd_L1 x5_1 t1342).drop (((rd_L1 x5_1 t1342).length : Int) : Int).toNat : List Int)).bind fun y1364 => (if y1360.length + y1364.length < 17592186044416 then (spec_l1Cur_blocks.l0 k1 true (x5_1.set (t1342 : Int).toNat (y1360 ++ y1364)) (wrap64 (1 + t1339)) (wrap64 (x7_1 + 1)) s0_0 t1343 t1344) else (none))) = some (r1, r2, r3) := ty_ hy1360 H
           have Ny1360 := A_ hy1360
           clear hy1360
           have c22b0 := eq_true (od_ : 0 ≤ ((rd_L1 x5_1 t1342).length : Int))
           have c23b0 := eq_true (od_ : ((rd_L1 x5_1 t1342).length : Int) ≤ ((rd_L1 x5_1 t1342).length : Int))
           obtain ⟨y1364, hy1364⟩ : ∃ y_ : List Int, y_ = ((rd_L1 x5_1 t1342).drop (((rd_L1 x5_1 t1342).length : Int) : Int).toNat) := ⟨_, rfl⟩
           replace H : (if y1360.length + y1364.length < 17592186044416 then (spec_l1Cur_blocks.l0 k1 true (x5_1.set (t1342 : Int).toNat (y1360 ++ y1364)) (wrap64 (1 + t1339)) (wrap64 (x7_1 + 1)) s0_0 t1343 t1344) else (none)) = some (r1, r2, r3) := ty_ hy1364 H
           have Ny1364 := A_ hy1364
           clear hy1364
           by_cases c24 : y1360.length + y1364.length < 17592186044416
           ·
            rw [if_pos c24] at H
            have LMc24 := A_ c24
            clear c24
            obtain ⟨y1368, hy1368⟩ : ∃ y_ : List Int, y_ = (y1360 ++ y1364) := ⟨_, rfl⟩
            replace H : (spec_l1Cur_blocks.l0 k1 true (x5_1.set (t1342 : Int).toNat y1368) (wrap64 (1 + t1339)) (wrap64 (x7_1 + 1)) s0_0 t1343 t1344) = some (r1, r2, r3) := ty_ hy1368 H
            have Ny1368 := A_ hy1368
            clear hy1368
            obtain ⟨y1371, hy1371⟩ : ∃ y_ : List (List Int), y_ = (x5_1.set (t1342 : Int).toNat y1368) := ⟨_, rfl⟩
            replace H : (spec_l1Cur_blocks.l0 k1 true y1371 (wrap64 (1 + t1339)) (wrap64 (x7_1 + 1)) s0_0 t1343 t1344) = some (r1, r2, r3) := ty_ hy1371 H
            have Ny1371 := A_ hy1371
            clear hy1371
            have H' := A_ H
            clear H
            obtain ⟨Ao26, co26, eo26⟩ := Kd.S_slice HO_5.out
            subst eo26
            go_wp2_with (first | (refine gc_ 122 ?_; refine goesT_ (some 23) Try.func122 #[.pointer (some ⟨g, 0, none⟩), .int .i64 (wrap64 ((x5_1.length : Int) + 1))] ?_; (with_reducible refine (spec_l1Cur_pick.calls g s0_0 x1001_1 x1002_1 (wrap64 ((x5_1.length : Int) + 1)) t1342 t1343 t1344 w0 _ ?side1 ?side2 A6.out).mono ?_); (case side1 => repeat (first | (with_reducible first | exact HI0.out | apply IsS100.alloc | apply IsS100.drewN | apply IsS100.drew | apply IsS100.set_1 | apply IsS100.set_2) | exact HI0.out)); (case side2 => repeat (first | (with_reducible first | exact HB.out | apply below_alloc | apply pw_below_drewN | apply below_drew1 | refine below_set ?_ (IsS100.ge HI0.out)) | exact HB.out)); rintro e w27 ⟨rfl, hi, hb, hk⟩; refine ⟨_, rfl, ?_⟩; replace HO_5 := A_ (Kd.S_mono (Kd.S_keep (IsS100.apartS (show IsS100 w0 _ g s0_0 x1001_1 x1002_1 from by repeat (first | (with_reducible first | exact HI0.out | apply IsS100.alloc | apply IsS100.drewN | apply IsS100.drew | apply IsS100.set_1 | apply IsS100.set_2) | exact HI0.out)) (ts1_x HO_5.out) (by decide)) hk (fun _ h => h.2)) (fun _ h => h.1)); replace HK := A_ (KeepBut.trans (by repeat (first | (with_reducible first | exact HK.out | apply KeepBut.set_ | apply keep_drewN | apply keep_drew | apply keep_alloc) | exact HK.out)) hk (.inl rfl)); replace HB := A_ (hb); replace HI0 := A_ (hi); (try clear hb); (try clear hb2); (try clear hk); (try clear hi); have p1351 : 0 ≤ (t1342 : Int) := od_; have q1351 : t1342 < (x5_1.length : Int) := od_; obtain ⟨ad1351, A1351_0, c1351_0, e1351, hx1351_0, hl1351_0, hi1351_0⟩ := at_L1 (Kd.S_reads' HO_5.out).2.2 t1342 p1351 q1351; cases e1351; obtain ⟨ce1351, hce1351, hMe1351, hcc1351⟩ := Kd.S_get HO_5.out [] t1342 p1351 (by first | exact q1351 | exact od_ | (have e_ := (Kd.S_reads' HO_5.out).1; omega)); obtain ⟨ve1351_0, rfl, ge1351_0⟩ := hMe1351; have hv1351_0 := hcc1351 0 _ rfl; rw [Nat.add_zero, show ((Kd.slice 3 (Kd.int .i64))).sz = 1 from rfl, Nat.mul_one] at hv1351_0; replace hv1351_0 := Option.some.inj (hv1351_0.symm.trans hx1351_0); rw [hv1351_0] at ge1351_0; have HL1351_0 := A_ (show Kd.R (Kd.int .i64) 3 _ _ _ _ (rd_L1 x5_1 t1342) from ge1351_0); clear hv1351_0 ge1351_0; have HX1351_0 := A_ hx1351_0; clear hcc1351 hce1351; have HR1351_0 := A_ hi1351_0; have HC1351_0 := A_ hl1351_0; clear hi1351_0 hl1351_0; replace p1351 := eq_true p1351; replace q1351 := eq_true q1351; have p1352 : 0 ≤ (t1342 : Int) := od_; have q1352 : t1342 < (x5_1.length : Int) := od_; obtain ⟨ad1352, A1352_0, c1352_0, e1352, hx1352_0, hl1352_0, hi1352_0⟩ := at_L1 (Kd.S_reads' HO_5.out).2.2 t1342 p1352 q1352; obtain rfl : ad1351 = ad1352 := (by injection e1352); obtain ⟨ce1352, hce1352, hMe1352, hcc1352⟩ := Kd.S_get HO_5.out [] t1342 p1352 (by first | exact q1352 | exact od_ | (have e_ := (Kd.S_reads' HO_5.out).1; omega)); obtain ⟨ve1352_0, rfl, ge1352_0⟩ := hMe1352; have hv1352_0 := hcc1352 0 _ rfl; rw [Nat.add_zero, show ((Kd.slice 3 (Kd.int .i64))).sz = 1 from rfl, Nat.mul_one] at hv1352_0; replace hv1352_0 := Option.some.inj (hv1352_0.symm.trans hx1352_0); rw [hv1352_0] at ge1352_0; have HL1352_0 := A_ (show Kd.R (Kd.int .i64) 3 _ _ _ _ (rd_L1 x5_1 t1342) from ge1352_0); clear hv1352_0 ge1352_0; have HX1352_0 := A_ hx1352_0; clear hcc1352 hce1352; have HR1352_0 := A_ hi1352_0; have HC1352_0 := A_ hl1352_0; clear hi1352_0 hl1352_0; replace p1352 := eq_true p1352; replace q1352 := eq_true q1352; have ea_ := Option.some.inj (hx1351_0.symm.trans hx1352_0); injection ea_ with ea_ en_ ec_; subst ea_; subst ec_; clear en_; have q28 : (((rd_L1 x5_1 t1342).length : Int) : Int) ≤ (((rd_L1 x5_1 t1342).length : Int) : Int) := od_; obtain ⟨i028, hi028, _, hsz28, _⟩ := info_parts info3; have hroom28 : (rd_L1 x5_1 t1342).length ≤ c1351_0 := HC1352_0.out; have hC28 : Kd.C (Kd.int .i64) _ A1351_0 (rd_L1 x5_1 t1342).length (rd_L1 x5_1 t1342) := (by repeat (first | (with_reducible exact HR1352_0.out) | (with_reducible refine Kd.C_alloc ?_ _) | (with_reducible refine Kd.C_drewN ?_ _) | (with_reducible refine Kd.C_drew ?_) | exact HR1352_0.out)); have hcut28 := cut_to (P := Try.prog) 22 3 .i64 Try.underlying22 hi028 A1351_0 (rd_L1 x5_1 t1342).length c1351_0 ((rd_L1 x5_1 t1342).length : Int) (od_) q28 hroom28; have hr28 := Kd.C_take (m := (((rd_L1 x5_1 t1342).length : Int) : Int).toNat) hC28 (by omega); have hy28 : y1353.length = (((rd_L1 x5_1 t1342).length : Int) : Int).toNat := (by rw [Ny1353.out, List.length_take]; omega); rw [← Ny1353.out] at hr28; rw [← hy28] at hcut28; have HR1356 := A_ hr28; have HC1356 := A_ (show y1353.length ≤ c1351_0 from by omega); clear hr28 hC28 hroom28 hi028 hsz28; have KY28 := A_ hy28; clear hy28; replace q28 := eq_true q28) | (refine gc_ 131 ?_; refine goesT_ (some 54) Try.func131 #[.slice A1351_0 y1353.length c1351_0] ?_; (with_reducible refine (spec_l1Own.calls _ _ y1353 t1357 _ ?side1 ?side2 A20.out).mono ?_); (case side1 => repeat (first | exact (by repeat (first | (with_reducible exact HR1356.out) | (with_reducible refine Kd.C_alloc ?_ _) | (with_reducible refine Kd.C_drewN ?_ _) | (with_reducible refine Kd.C_drew ?_) | exact HR1356.out)) | (with_reducible refine Kd.C_alloc ?_ _) | (with_reducible refine Kd.C_drewN ?_ _) | (with_reducible refine Kd.C_drew ?_))); (case side2 => exact HC1356.out); rintro e w29 ⟨v1358, rfl, ho0, hb⟩; refine ⟨_, rfl, ?_⟩; replace HO_5 := A_ (Kd.S_elder' (ts1_x HO_5.out) (Kd.R_base ho0) hb); have HO1359 := A_ (Kd.R_lower (Kd.R_new' (Kd.R_new' ho0 (Kd.R_lt (tr_x HL1351_0.out))) (Kd.R_lt (tr_x HL1352_0.out))) (keep_size (w := w) (g := g) (row := none) (by repeat (first | (with_reducible first | exact HK.out | apply KeepBut.set_ | apply keep_drewN | apply keep_drew | apply keep_alloc) | exact HK.out)))); replace HL1351_0 := A_ (Kd.R_elder' (tr_x HL1351_0.out) (Kd.R_base ho0) hb); replace HL1352_0 := A_ (Kd.R_elder' (tr_x HL1352_0.out) (Kd.R_base ho0) hb); replace HR1351_0 := A_ (Kd.C_below (by repeat (first | (with_reducible exact HR1351_0.out) | (with_reducible refine Kd.C_alloc ?_ _) | (with_reducible refine Kd.C_drewN ?_ _) | (with_reducible refine Kd.C_drew ?_) | exact HR1351_0.out)) hb); replace HX1351_0 := A_ (pw_cell_below hb HX1351_0.out); replace HR1352_0 := A_ (Kd.C_below (by repeat (first | (with_reducible exact HR1352_0.out) | (with_reducible refine Kd.C_alloc ?_ _) | (with_reducible refine Kd.C_drewN ?_ _) | (with_reducible refine Kd.C_drew ?_) | exact HR1352_0.out)) hb); replace HX1352_0 := A_ (pw_cell_below hb HX1352_0.out); replace HR1356 := A_ (Kd.C_below (by repeat (first | (with_reducible exact HR1356.out) | (with_reducible refine Kd.C_alloc ?_ _) | (with_reducible refine Kd.C_drewN ?_ _) | (with_reducible refine Kd.C_drew ?_) | exact HR1356.out)) hb); replace HK := A_ (KeepBut.trans (by repeat (first | (with_reducible first | exact HK.out | apply KeepBut.set_ | apply keep_drewN | apply keep_drew | apply keep_alloc) | exact HK.out)) (KeepBut.of_below hb g none) (.inl rfl)); replace HB := A_ (below_step (by repeat (first | (with_reducible first | exact HB.out | apply below_alloc | apply pw_below_drewN | apply below_drew1 | refine below_set ?_ (IsS100.ge HI0.out)) | exact HB.out)) hb); replace HI0 := A_ (IsS100.below (by repeat (first | (with_reducible first | exact HI0.out | apply IsS100.alloc | apply IsS100.drewN | apply IsS100.drew | apply IsS100.set_1 | apply IsS100.set_2) | exact HI0.out)) hb); (try clear hb); (try clear hb2); (try clear hk); (try clear hi); (try clear ho0)) | ((with_reducible refine gate_builtin (b := .append) (xs := #[.tmp 54, .tmp 56]) rfl ?_); at_builtin; refine Kd.R_append (Kd.int .i64) w.heap.size rfl (.tmp 54) (.tmp 56) 22 3 (.int .i64 0) 8 rfl Try.underlying22 info3 rfl (by decide) (by omega) v1358 t1357 x7_1 [.int .i64 x7_1] (fun k_ => some k_ ≠ (.slice A1351_0 (rd_L1 x5_1 t1342).length c1351_0 : Value).ownBlock ∧ some k_ ≠ (.slice A1351_0 (rd_L1 x5_1 t1342).length c1351_0 : Value).ownBlock) (fun _ => False) rfl rfl ?aP (fun _ hk => hk.elim) ?aF ?aO (Below.refl _ _) ?aS ?aL ?_; (case aP => exact rfl); (case aF => exact (fun k_ hk => ⟨Kd.fresh' (Kd.R_lt (tr_x HL1351_0.out)) k_ hk, Kd.fresh' (Kd.R_lt (tr_x HL1352_0.out)) k_ hk⟩)); (case aO => exact (tr_ (h := by exact Kd.R_mono HO1359.out om_))); (case aS => exact (keep_size (w := w) (g := g) (row := none) (by repeat (first | (with_reducible first | exact HK.out | apply KeepBut.set_ | apply keep_drewN | apply keep_drew | apply keep_alloc) | exact HK.out)))); (case aL => have := LMc21.out; omega); intro v1361 w30 ho hb hg hat; rw [← Ny1360.out] at ho; have n0_ := A_ (Kd.S_after (ok := (fun _ => True)) (ts1_x HO_5.out) hg hat); have n1_ := A_ (IsS100.grown (by repeat (first | (with_reducible first | exact HI0.out | apply IsS100.alloc | apply IsS100.drewN | apply IsS100.drew | apply IsS100.set_1 | apply IsS100.set_2) | exact HI0.out)) hg (IsS100.own_ne HI0.out HO1359.out (by decide))); have n2_ := A_ (Kd.R_after (ok := (fun k_ => some k_ ≠ (.slice (some ad1351) x5_1.length co26 : Value).ownBlock)) (tr_ (h := by exact Kd.R_mono HL1351_0.out om_)) hg hat); have n3_ := A_ (Kd.R_after (ok := (fun k_ => some k_ ≠ (.slice (some ad1351) x5_1.length co26 : Value).ownBlock)) (tr_ (h := by exact Kd.R_mono HL1352_0.out om_)) hg hat); have n4_ := A_ (below_weaken (by repeat (first | (with_reducible first | exact HB.out | apply below_alloc | apply pw_below_drewN | apply below_drew1 | refine below_set ?_ (IsS100.ge HI0.out)) | exact HB.out)) HL.out hb); have n5_ := A_ (KeepBut.trans (by repeat (first | (with_reducible first | exact HK.out | apply KeepBut.set_ | apply keep_drewN | apply keep_drew | apply keep_alloc) | exact HK.out)) (KeepBut.of_grown hg g) (Kd.R_base2 HO1359.out)); have n6_ := A_ (ho); clear HO_5; clear HI0; clear HL1351_0; clear HL1352_0; clear HB; clear HK; clear HO1359; have HO_5 := n0_; have HI0 := n1_; have HL1351_0 := n2_; have HL1352_0 := n3_; have HB := n4_; have HK := n5_; have HO1362 := n6_; clear n0_ n1_ n2_ n3_ n4_ n5_ n6_; clear ho hb hg hat; have p1363 : 0 ≤ (t1342 : Int) := od_; have q1363 : t1342 < (x5_1.length : Int) := od_; obtain ⟨ad1363, A1363_0, c1363_0, e1363, hx1363_0, hl1363_0, hi1363_0⟩ := at_L1 (Kd.S_reads' HO_5.out).2.2 t1342 p1363 q1363; obtain rfl : ad1351 = ad1363 := (by injection e1363); obtain ⟨ce1363, hce1363, hMe1363, hcc1363⟩ := Kd.S_get HO_5.out [] t1342 p1363 (by first | exact q1363 | exact od_ | (have e_ := (Kd.S_reads' HO_5.out).1; omega)); obtain ⟨ve1363_0, rfl, ge1363_0⟩ := hMe1363; have hv1363_0 := hcc1363 0 _ rfl; rw [Nat.add_zero, show ((Kd.slice 3 (Kd.int .i64))).sz = 1 from rfl, Nat.mul_one] at hv1363_0; replace hv1363_0 := Option.some.inj (hv1363_0.symm.trans hx1363_0); rw [hv1363_0] at ge1363_0; have HL1363_0 := A_ (show Kd.R (Kd.int .i64) 3 _ _ _ _ (rd_L1 x5_1 t1342) from ge1363_0); clear hv1363_0 ge1363_0; have HX1363_0 := A_ hx1363_0; clear hcc1363 hce1363; have HR1363_0 := A_ hi1363_0; have HC1363_0 := A_ hl1363_0; clear hi1363_0 hl1363_0; replace p1363 := eq_true p1363; replace q1363 := eq_true q1363; have q31 : (((rd_L1 x5_1 t1342).length : Int) : Int) ≤ (((rd_L1 x5_1 t1342).length : Int) : Int) := od_; obtain ⟨i031, hi031, _, hsz31, _⟩ := info_parts info3; have hroom31 : (rd_L1 x5_1 t1342).length ≤ c1363_0 := HC1363_0.out; have hC31 : Kd.C (Kd.int .i64) _ A1363_0 (rd_L1 x5_1 t1342).length (rd_L1 x5_1 t1342) := (by repeat (first | (with_reducible exact HR1363_0.out) | (with_reducible refine Kd.C_alloc ?_ _) | (with_reducible refine Kd.C_drewN ?_ _) | (with_reducible refine Kd.C_drew ?_) | exact HR1363_0.out)); have q031 : (0 : Int) ≤ (((rd_L1 x5_1 t1342).length : Int) : Int) := od_; have hcut31 := cut_from (P := Try.prog) 22 3 .i64 Try.underlying22 hi031 1 hsz31 A1363_0 (rd_L1 x5_1 t1342).length c1363_0 ((rd_L1 x5_1 t1342).length : Int) q031 q31; have hr31 := Kd.C_drop (m := (((rd_L1 x5_1 t1342).length : Int) : Int).toNat) (c := c1363_0) hC31 (by omega) hroom31; obtain ⟨A31, hA31⟩ : ∃ A1, A1 = (if c1363_0 = (((rd_L1 x5_1 t1342).length : Int) : Int).toNat then A1363_0 else (A1363_0 : Option Addr).map (·.add ((((rd_L1 x5_1 t1342).length : Int) : Int).toNat * 1))) := ⟨_, rfl⟩; obtain ⟨c31, hc31⟩ : ∃ c1, c1 = c1363_0 - (((rd_L1 x5_1 t1342).length : Int) : Int).toNat := ⟨_, rfl⟩; have hy31 : y1364.length = (rd_L1 x5_1 t1342).length - (((rd_L1 x5_1 t1342).length : Int) : Int).toNat := (by rw [Ny1364.out, List.length_drop] <;> omega); rw [show (rd_L1 x5_1 t1342).drop (((rd_L1 x5_1 t1342).length : Int) : Int).toNat = y1364 from Ny1364.out.symm] at hr31; replace hr31 : Kd.C (Kd.int .i64) _ A31 y1364.length y1364 := (by rw [hA31]; exact hr31); rw [← hy31, ← hA31, ← hc31] at hcut31; have HR1367 := A_ hr31; have HC1367 := A_ (show y1364.length ≤ c31 from by rw [hy31, hc31]; exact Nat.sub_le_sub_right hroom31 _); clear hr31 hC31 hroom31 hi031 hsz31 hc31; have KY31 := A_ hy31; have KA31 := A_ hA31; clear hy31 hA31; replace q31 := eq_true q31) | ((with_reducible refine gate_builtin (b := .append) (xs := #[.tmp 60, .tmp 66]) rfl ?_); at_builtin; refine Kd.R_append_rows (Kd.int .i64) w.heap.size rfl (.tmp 60) (.tmp 66) 22 3 (.int .i64 0) 8 rfl Try.underlying22 info3 rfl (by decide) (by omega) v1361 y1360 y1364 _ _ _ (fun k_ => some k_ ≠ (.slice A1351_0 (rd_L1 x5_1 t1342).length c1351_0 : Value).ownBlock ∧ some k_ ≠ (.slice A1351_0 (rd_L1 x5_1 t1342).length c1351_0 : Value).ownBlock) (fun _ => False) rfl rfl ?aO ?aR (fun _ _ h => h) (fun _ h => h.elim) ?aF (Below.refl _ _) ?aS ?aL ?_; (case aR => repeat (first | exact (by repeat (first | (with_reducible exact HR1367.out) | (with_reducible refine Kd.C_alloc ?_ _) | (with_reducible refine Kd.C_drewN ?_ _) | (with_reducible refine Kd.C_drew ?_) | exact HR1367.out)) | (with_reducible refine Kd.C_alloc ?_ _) | (with_reducible refine Kd.C_drewN ?_ _) | (with_reducible refine Kd.C_drew ?_))); (case aF => exact (fun k_ hk => ⟨Kd.fresh' (Kd.R_lt (tr_x HL1351_0.out)) k_ hk, Kd.fresh' (Kd.R_lt (tr_x HL1352_0.out)) k_ hk⟩)); (case aO => exact (tr_x HO1362.out)); (case aS => exact (keep_size (w := w) (g := g) (row := none) (by repeat (first | (with_reducible first | exact HK.out | apply KeepBut.set_ | apply keep_drewN | apply keep_drew | apply keep_alloc) | exact HK.out)))); (case aL => have := LMc24.out; omega); intro v1369 w32 ho hb hg hat; rw [← Ny1368.out] at ho; have n0_ := A_ (Kd.S_after (ok := (fun _ => True)) (ts1_x HO_5.out) hg hat); have n1_ := A_ (IsS100.grown (by repeat (first | (with_reducible first | exact HI0.out | apply IsS100.alloc | apply IsS100.drewN | apply IsS100.drew | apply IsS100.set_1 | apply IsS100.set_2) | exact HI0.out)) hg (IsS100.own_ne HI0.out HO1362.out (by decide))); have n2_ := A_ (Kd.R_after (ok := (fun k_ => some k_ ≠ (.slice (some ad1351) x5_1.length co26 : Value).ownBlock)) (tr_x HL1351_0.out) hg hat); have n3_ := A_ (Kd.R_after (ok := (fun k_ => some k_ ≠ (.slice (some ad1351) x5_1.length co26 : Value).ownBlock)) (tr_x HL1352_0.out) hg hat); have n4_ := A_ (Kd.R_after (ok := (fun k_ => some k_ ≠ (.slice (some ad1351) x5_1.length co26 : Value).ownBlock)) (tr_ (h := by exact Kd.R_mono HL1363_0.out om_)) hg hat); have n5_ := A_ (below_weaken (by repeat (first | (with_reducible first | exact HB.out | apply below_alloc | apply pw_below_drewN | apply below_drew1 | refine below_set ?_ (IsS100.ge HI0.out)) | exact HB.out)) HL.out hb); have n6_ := A_ (KeepBut.trans (by repeat (first | (with_reducible first | exact HK.out | apply KeepBut.set_ | apply keep_drewN | apply keep_drew | apply keep_alloc) | exact HK.out)) (KeepBut.of_grown hg g) (Kd.R_base2 HO1362.out)); have n7_ := A_ (ho); clear HO_5; clear HI0; clear HL1351_0; clear HL1352_0; clear HL1363_0; clear HB; clear HK; clear HO1362; have HO_5 := n0_; have HI0 := n1_; have HL1351_0 := n2_; have HL1352_0 := n3_; have HL1363_0 := n4_; have HB := n5_; have HK := n6_; have HO1370 := n7_; clear n0_ n1_ n2_ n3_ n4_ n5_ n6_ n7_; clear ho hb hg hat; have p25 : 0 ≤ (t1342 : Int) := od_; have q25 : (t1342 : Int) < ((x5_1.length : Int) : Int) := od_; obtain ⟨go25, co25, eo25, gb25, gl25, cl25, HG25⟩ := Kd.S_form HO_5.out (by omega); (first | cases eo25 | (injection eo25 with ea_ en_ ec_; (first | subst ea_ | (injection ea_ with ea_; subst ea_)); subst ec_; clear en_)); have GB25 := A_ gb25; have GG25 := A_ HG25; clear gb25 gl25 HG25; (first | simp only [add_plain] at hx1351_0 | skip); (first | simp only [add_plain] at hx1352_0 | skip); (first | simp only [add_plain] at hx1363_0 | skip); obtain ⟨_, ce25, hcl25, hM25, hcc25, hfr25, _, _⟩ := Kd.S_elem HO_5.out [] (t1342 : Int) p25 q25; obtain ⟨ve25_0, rfl, ge25_0⟩ := hM25; have hx25_0 := hcc25 0 _ rfl; have hf25_0 := hfr25 0; (try simp only [show ((Kd.slice 3 (Kd.int .i64))).sz = 1 from rfl, Nat.mul_one, Nat.add_zero] at hx25_0); (try simp only [show ((Kd.slice 3 (Kd.int .i64))).sz = 1 from rfl, Nat.mul_one, Nat.add_zero] at hf25_0); (try clear hcl25); (try clear hcc25); (try clear hfr25); (try clear hM25); replace p25 := eq_true p25; replace q25 := eq_true q25; have n_ := A_ (Kd.S_mono (ok' := (fun k_ => some k_ ≠ (v1369 : Value).ownBlock)) HO_5.out (fun k_ hk => hk.2)); clear HO_5; have HO_5 := n_; clear n_; have HX33 := A_ (show Kd.S (Kd.slice 3 (Kd.int .i64)) 22 w32 w.heap.size (fun k_ => ((fun _ => True)) k_ ∧ ¬ ((fun k_ => some k_ = (v1369 : Value).ownBlock)) k_) (.slice (some ⟨go25, 0, none⟩) x5_1.length co26) x5_1 from (ts1_ (h := by exact Kd.S_mono HO_5.out (fun k_ hk => ⟨trivial, fun e_ => hk e_⟩)))); obtain ⟨oki33, ce33, hcl33, hM33, hcc33, hfr33, hoki33, hH33⟩ := Kd.S_elem HX33.out [] (t1342 : Int) (od_) (by have h_ : (t1342 : Int) < ((x5_1.length : Int) : Int) := od_; first | exact h_ | (have e_ := (Kd.S_reads' HO_5.out).1; omega) | simpa using h_); obtain ⟨ve33_0, rfl, ge33_0⟩ := hM33; have HP33 := Kd.S_seg hH33 (od_) (by have h_ : (t1342 : Int) < ((x5_1.length : Int) : Int) := od_; first | exact h_ | (have e_ := (Kd.S_reads' HO_5.out).1; omega) | simpa using h_) (seg := [v1369]) (j := 0) (show 1 ≤ 1 from by decide) (x' := y1368) (Kd.M_row (Kd.R_mono (Kd.R_tight rfl (Kd.R_mono (ok' := fun k_ => ((fun _ => True)) k_ ∧ k_ ≠ go25) (Kd.R_apart' (HO1370.out) (Kd.S_typed HO_5.out) (by decide)) (fun k_ hk => ⟨trivial, fun e_ => (hk.2) (by rw [e_]; rfl)⟩))) (fun _ h_ => Or.inr (h_)))) (fun _ hk => hk) (fun k_ hk_ => ((Kd.R_mono (ok' := fun k_ => ((fun _ => True)) k_ ∧ k_ ≠ go25) (Kd.R_apart' (HO1370.out) (Kd.S_typed HO_5.out) (by decide)) (fun k_ hk => ⟨trivial, fun e_ => (hk.2) (by rw [e_]; rfl)⟩))).1 k_ hk_.symm); have hx33_0 := hcc33 0 _ rfl; (try simp only [show ((Kd.slice 3 (Kd.int .i64))).sz = 1 from rfl, Nat.mul_one, Nat.add_zero] at hx33_0); have hf33_0 := hfr33 0; (try simp only [show ((Kd.slice 3 (Kd.int .i64))).sz = 1 from rfl, Nat.mul_one, Nat.add_zero] at hf33_0); (try clear hcl33); (try clear hcc33); (try clear hfr33); (try clear hM33); (try clear hoki33); (try clear hH33); (try simp only [show ((Kd.slice 3 (Kd.int .i64))).sz = 1 from rfl, Nat.mul_one, Nat.add_zero] at HP33)) | ((with_reducible refine gate_store (t := 22) (p := 68) rfl ?_); refine store_event (t := 22) (p := 68) (v := ?vo_w34) (w1 := (w32.setCell ⟨go25, (t1342 : Int).toNat, none⟩ (v1369))) ?hg ?ho ?hn ?hr ?_; (case ho => rfl); (case hg => rfl); (case hn => rfl); (case hr => first | (go_simp; done) | (go_simp; rfl) | (obtain ⟨_, _, e_⟩ := Kd.R_slice HO1370.out; subst e_; go_simp; done) | (obtain ⟨_, _, e_⟩ := Kd.R_slice HO1370.out; subst e_; go_simp; rfl)); intro w34 hw; have hg : w32.grownBy w34 (some go25) := (by rw [hw]; exact HP33.2); have hp_ : Kd.S (Kd.slice 3 (Kd.int .i64)) 22 w34 w.heap.size (fun _ => True) (.slice (some ⟨go25, 0, none⟩) x5_1.length co26) y1371 := (by rw [hw, Ny1371.out]; exact HP33.1); clear HP33; have n0_ := A_ (hp_); have n1_ := A_ (IsS100.grown (by repeat (first | (with_reducible first | exact HI0.out | apply IsS100.alloc | apply IsS100.drewN | apply IsS100.drew | apply IsS100.set_1 | apply IsS100.set_2) | exact HI0.out)) hg (IsS100.own_neS HI0.out HO_5.out (by decide))); have n2_ := A_ (Kd.R_after (v := (.slice (some ⟨go25, 0, none⟩) x5_1.length co26)) (v1 := (.slice (some ⟨go25, 0, none⟩) x5_1.length co26)) (ok := (fun k_ => some k_ ≠ (v1369 : Value).ownBlock)) (tr_ (h := by exact Kd.R_mono HL1351_0.out om_)) hg (.inl rfl)); have n3_ := A_ (Kd.R_after (v := (.slice (some ⟨go25, 0, none⟩) x5_1.length co26)) (v1 := (.slice (some ⟨go25, 0, none⟩) x5_1.length co26)) (ok := (fun k_ => some k_ ≠ (v1369 : Value).ownBlock)) (tr_ (h := by exact Kd.R_mono HL1352_0.out om_)) hg (.inl rfl)); have n4_ := A_ (Kd.R_after (v := (.slice (some ⟨go25, 0, none⟩) x5_1.length co26)) (v1 := (.slice (some ⟨go25, 0, none⟩) x5_1.length co26)) (ok := (fun k_ => some k_ ≠ (v1369 : Value).ownBlock)) (tr_ (h := by exact Kd.R_mono HL1363_0.out om_)) hg (.inl rfl)); have n5_ := A_ ((by rw [hw]; exact below_set (HB.out) (Nat.le_trans HL.out GB25.out) : Below w0.heap.size w0 w34)); have n6_ := A_ (KeepBut.trans (by repeat (first | (with_reducible first | exact HK.out | apply KeepBut.set_ | apply keep_drewN | apply keep_drew | apply keep_alloc) | exact HK.out)) (KeepBut.of_grown hg g) (Kd.S_base2 HO_5.out)); clear HO_5; clear HI0; clear HL1351_0; clear HL1352_0; clear HL1363_0; clear HB; clear HK; clear HO1370; have HO_5 := n0_; have HI0 := n1_; have HL1351_0 := n2_; have HL1352_0 := n3_; have HL1363_0 := n4_; have HB := n5_; have HK := n6_; clear n0_ n1_ n2_ n3_ n4_ n5_ n6_; clear hg hw hp_))
            go_roundg k1
            case measure => have := HK1.out; omega
            case rel => exact ⟨(y1371), (wrap64 (x7_1 + 1)), (t1343), (t1344), tf_, H', ⟨by have := HK1.out; omega⟩, ⟨ts1_x HO_5.out⟩, ⟨by repeat (first | (with_reducible first | exact HI0.out | apply IsS100.alloc | apply IsS100.drewN | apply IsS100.drew | apply IsS100.set_1 | apply IsS100.set_2) | exact HI0.out)⟩, ⟨by repeat (first | (with_reducible first | exact HK.out | apply KeepBut.set_ | apply keep_drewN | apply keep_drew | apply keep_alloc) | exact HK.out)⟩, ⟨by repeat (first | (with_reducible first | exact HB.out | apply below_alloc | apply pw_below_drewN | apply below_drew1 | refine below_set ?_ (IsS100.ge HI0.out)) | exact HB.out)⟩⟩
           ·
            rw [if_neg c24] at H
            exact absurd H (by simp)
          ·
           rw [if_neg c21] at H
           exact absurd H (by simp)
         ·
          rw [if_neg c19] at H
          exact absurd H (by simp)
        ·
         rw [if_neg c18] at H
         exact absurd H (by simp)
       ·
        replace c17 := Bool.eq_false_iff.mpr c17
        subst c17
        have H1 : ((spec_l1Cur_pick.f s0_0 t1343 t1344 ((rd_L1 x5_1 t1342).length : Int)).bind fun bt1373 => (if 0 ≤ (wrap64 (1 + bt1373.1)) then (if (wrap64 (1 + bt1373.1)) ≤ ((rd_L1 x5_1 t1342).length : Int) then ((spec_l1Own.f ((rd_L1 x5_1 t1342).take ((wrap64 (1 + bt1373.1)) : Int).toNat)).bind fun t1381 => (if t1381.length < 17592186044416 then ((some (t1381 ++ [x7_1] : List Int)).bind fun y1384 => ((some ((rd_L1 x5_1 t1342).drop ((wrap64 (1 + bt1373.1)) : Int).toNat : List Int)).bind fun y1388 => (if y1384.length + y1388.length < 17592186044416 then (spec_l1Cur_blocks.l0 k1 false (x5_1.set (t1342 : Int).toNat (y1384 ++ y1388)) (wrap64 (1 + t1339)) (wrap64 (x7_1 + 1)) s0_0 bt1373.2.1 bt1373.2.2) else (none)))) else (none))) else (none)) else (none))) = some (r1, r2, r3) := by rw [if_neg (show ¬ (false = true) by decide)] at H; exact H
        clear H
        have H := H1
        clear H1
        replace H := Option.bind_eq_some_iff.mp H
        obtain ⟨⟨t1373, t1374, t1375⟩, A350, H⟩ := H
        replace H : (if 0 ≤ (wrap64 (1 + t1373)) then (if (wrap64 (1 + t1373)) ≤ ((rd_L1 x5_1 t1342).length : Int) then ((spec_l1Own.f ((rd_L1 x5_1 t1342).take ((wrap64 (1 + t1373)) : Int).toNat)).bind fun t1381 => (if t1381.length < 17592186044416 then ((some (t1381 ++ [x7_1] : List Int)).bind fun y1384 => ((some ((rd_L1 x5_1 t1342).drop ((wrap64 (1 + t1373)) : Int).toNat : List Int)).bind fun y1388 => (if y1384.length + y1388.length < 17592186044416 then (spec_l1Cur_blocks.l0 k1 false (x5_1.set (t1342 : Int).toNat (y1384 ++ y1388)) (wrap64 (1 + t1339)) (wrap64 (x7_1 + 1)) s0_0 t1374 t1375) else (none)))) else (none))) else (none)) else (none)) = some (r1, r2, r3) := H
        have A35 := A_ A350
        clear A350
        obtain ⟨ji36, hji36⟩ : ∃ j_ : Int, (wrap64 (1 + t1373)) = j_ := ⟨_, rfl⟩
        replace H : (if 0 ≤ (ji36) then (if (ji36) ≤ ((rd_L1 x5_1 t1342).length : Int) then ((spec_l1Own.f ((rd_L1 x5_1 t1342).take ((ji36) : Int).toNat)).bind fun t1381 => (if t1381.length < 17592186044416 then ((some (t1381 ++ [x7_1] : List Int)).bind fun y1384 => ((some ((rd_L1 x5_1 t1342).drop ((ji36) : Int).toNat : List Int)).bind fun y1388 => (if y1384.length + y1388.length < 17592186044416 then (spec_l1Cur_blocks.l0 k1 false (x5_1.set (t1342 : Int).toNat (y1384 ++ y1388)) (wrap64 (1 + t1339)) (wrap64 (x7_1 + 1)) s0_0 t1374 t1375) else (none)))) else (none))) else (none)) else (none)) = some (r1, r2, r3) := by first | (rw [hji36] at H; exact H) | (simp only [hji36] at H ⊢; exact H)
        (try rw [hji36] at A6)
        (try rw [hji36] at A35)
        have hji36w : (IntKind.i64.wrap (1 + t1373)) = ji36 := (i64_w _).trans hji36
        by_cases c37 : 0 ≤ (ji36)
        ·
         rw [if_pos c37] at H
         have c37b0 := eq_true c37
         have c37b1 := decide_eq_true c37
         clear c37
         by_cases c38 : (ji36) ≤ ((rd_L1 x5_1 t1342).length : Int)
         ·
          rw [if_pos c38] at H
          have c38b0 := eq_true c38
          have c38b1 := decide_eq_true c38
          clear c38
          obtain ⟨y1377, hy1377⟩ : ∃ y_ : List Int, y_ = ((rd_L1 x5_1 t1342).take ((ji36) : Int).toNat) := ⟨_, rfl⟩
          replace H : ((spec_l1Own.f y1377).bind fun t1381 => (if t1381.length < 17592186044416 then ((some (t1381 ++ [x7_1] : List Int)).bind fun y1384 => ((some ((rd_L1 x5_1 t1342).drop ((ji36) : Int).toNat : List Int)).bind fun y1388 => (if y1384.length + y1388.length < 17592186044416 then (spec_l1Cur_blocks.l0 k1 false (x5_1.set (t1342 : Int).toNat (y1384 ++ y1388)) (wrap64 (1 + t1339)) (wrap64 (x7_1 + 1)) s0_0 t1374 t1375) else (none)))) else (none))) = some (r1, r2, r3) := ty_ hy1377 H
          have Ny1377 := A_ hy1377
          clear hy1377
          replace H := Option.bind_eq_some_iff.mp H
          obtain ⟨t1381, A390, H⟩ := H
          replace H : (if t1381.length < 17592186044416 then ((some (t1381 ++ [x7_1] : List Int)).bind fun y1384 => ((some ((rd_L1 x5_1 t1342).drop ((ji36) : Int).toNat : List Int)).bind fun y1388 => (if y1384.length + y1388.length < 17592186044416 then (spec_l1Cur_blocks.l0 k1 false (x5_1.set (t1342 : Int).toNat (y1384 ++ y1388)) (wrap64 (1 + t1339)) (wrap64 (x7_1 + 1)) s0_0 t1374 t1375) else (none)))) else (none)) = some (r1, r2, r3) := H
          have A39 := A_ A390
          clear A390
          by_cases c40 : t1381.length < 17592186044416
          ·
           rw [if_pos c40] at H
           have LMc40 := A_ c40
           clear c40
           obtain ⟨y1384, hy1384⟩ : ∃ y_ : List Int, y_ = (t1381 ++ [x7_1]) := ⟨_, rfl⟩
           replace H : ((some ((rd_L1 x5_1 t1342).drop ((ji36) : Int).toNat : List Int)).bind fun y1388 => (if y1384.length + y1388.length < 17592186044416 then (spec_l1Cur_blocks.l0 k1 false (x5_1.set (t1342 : Int).toNat (y1384 ++ y1388)) (wrap64 (1 + t1339)) (wrap64 (x7_1 + 1)) s0_0 t1374 t1375) else (none))) = some (r1, r2, r3) := ty_ hy1384 H
           have Ny1384 := A_ hy1384
           clear hy1384
           have c41b0 := eq_true (od_ : 0 ≤ (ji36))
           have c42b0 := eq_true (od_ : (ji36) ≤ ((rd_L1 x5_1 t1342).length : Int))
           obtain ⟨y1388, hy1388⟩ : ∃ y_ : List Int, y_ = ((rd_L1 x5_1 t1342).drop ((ji36) : Int).toNat) := ⟨_, rfl⟩
           replace H : (if y1384.length + y1388.length < 17592186044416 then (spec_l1Cur_blocks.l0 k1 false (x5_1.set (t1342 : Int).toNat (y1384 ++ y1388)) (wrap64 (1 + t1339)) (wrap64 (x7_1 + 1)) s0_0 t1374 t1375) else (none)) = some (r1, r2, r3) := ty_ hy1388 H
           have Ny1388 := A_ hy1388
           clear hy1388
           by_cases c43 : y1384.length + y1388.length < 17592186044416
           ·
            rw [if_pos c43] at H
            have LMc43 := A_ c43
            clear c43
            obtain ⟨y1392, hy1392⟩ : ∃ y_ : List Int, y_ = (y1384 ++ y1388) := ⟨_, rfl⟩
            replace H : (spec_l1Cur_blocks.l0 k1 false (x5_1.set (t1342 : Int).toNat y1392) (wrap64 (1 + t1339)) (wrap64 (x7_1 + 1)) s0_0 t1374 t1375) = some (r1, r2, r3) := ty_ hy1392 H
            have Ny1392 := A_ hy1392
            clear hy1392
            obtain ⟨y1395, hy1395⟩ : ∃ y_ : List (List Int), y_ = (x5_1.set (t1342 : Int).toNat y1392) := ⟨_, rfl⟩
            replace H : (spec_l1Cur_blocks.l0 k1 false y1395 (wrap64 (1 + t1339)) (wrap64 (x7_1 + 1)) s0_0 t1374 t1375) = some (r1, r2, r3) := ty_ hy1395 H
            have Ny1395 := A_ hy1395
            clear hy1395
            have H' := A_ H
            clear H
            obtain ⟨Ao45, co45, eo45⟩ := Kd.S_slice HO_5.out
            subst eo45
            go_wp2_with (first | (refine gc_ 122 ?_; refine goesT_ (some 23) Try.func122 #[.pointer (some ⟨g, 0, none⟩), .int .i64 (wrap64 ((x5_1.length : Int) + 1))] ?_; (with_reducible refine (spec_l1Cur_pick.calls g s0_0 x1001_1 x1002_1 (wrap64 ((x5_1.length : Int) + 1)) t1342 t1343 t1344 w0 _ ?side1 ?side2 A6.out).mono ?_); (case side1 => repeat (first | (with_reducible first | exact HI0.out | apply IsS100.alloc | apply IsS100.drewN | apply IsS100.drew | apply IsS100.set_1 | apply IsS100.set_2) | exact HI0.out)); (case side2 => repeat (first | (with_reducible first | exact HB.out | apply below_alloc | apply pw_below_drewN | apply below_drew1 | refine below_set ?_ (IsS100.ge HI0.out)) | exact HB.out)); rintro e w46 ⟨rfl, hi, hb, hk⟩; refine ⟨_, rfl, ?_⟩; replace HO_5 := A_ (Kd.S_mono (Kd.S_keep (IsS100.apartS (show IsS100 w0 _ g s0_0 x1001_1 x1002_1 from by repeat (first | (with_reducible first | exact HI0.out | apply IsS100.alloc | apply IsS100.drewN | apply IsS100.drew | apply IsS100.set_1 | apply IsS100.set_2) | exact HI0.out)) (ts1_x HO_5.out) (by decide)) hk (fun _ h => h.2)) (fun _ h => h.1)); replace HK := A_ (KeepBut.trans (by repeat (first | (with_reducible first | exact HK.out | apply KeepBut.set_ | apply keep_drewN | apply keep_drew | apply keep_alloc) | exact HK.out)) hk (.inl rfl)); replace HB := A_ (hb); replace HI0 := A_ (hi); (try clear hb); (try clear hb2); (try clear hk); (try clear hi); have p1351 : 0 ≤ (t1342 : Int) := od_; have q1351 : t1342 < (x5_1.length : Int) := od_; obtain ⟨ad1351, A1351_0, c1351_0, e1351, hx1351_0, hl1351_0, hi1351_0⟩ := at_L1 (Kd.S_reads' HO_5.out).2.2 t1342 p1351 q1351; cases e1351; obtain ⟨ce1351, hce1351, hMe1351, hcc1351⟩ := Kd.S_get HO_5.out [] t1342 p1351 (by first | exact q1351 | exact od_ | (have e_ := (Kd.S_reads' HO_5.out).1; omega)); obtain ⟨ve1351_0, rfl, ge1351_0⟩ := hMe1351; have hv1351_0 := hcc1351 0 _ rfl; rw [Nat.add_zero, show ((Kd.slice 3 (Kd.int .i64))).sz = 1 from rfl, Nat.mul_one] at hv1351_0; replace hv1351_0 := Option.some.inj (hv1351_0.symm.trans hx1351_0); rw [hv1351_0] at ge1351_0; have HL1351_0 := A_ (show Kd.R (Kd.int .i64) 3 _ _ _ _ (rd_L1 x5_1 t1342) from ge1351_0); clear hv1351_0 ge1351_0; have HX1351_0 := A_ hx1351_0; clear hcc1351 hce1351; have HR1351_0 := A_ hi1351_0; have HC1351_0 := A_ hl1351_0; clear hi1351_0 hl1351_0; replace p1351 := eq_true p1351; replace q1351 := eq_true q1351; have p1372 : 0 ≤ (t1342 : Int) := od_; have q1372 : t1342 < (x5_1.length : Int) := od_; obtain ⟨ad1372, A1372_0, c1372_0, e1372, hx1372_0, hl1372_0, hi1372_0⟩ := at_L1 (Kd.S_reads' HO_5.out).2.2 t1342 p1372 q1372; obtain rfl : ad1351 = ad1372 := (by injection e1372); obtain ⟨ce1372, hce1372, hMe1372, hcc1372⟩ := Kd.S_get HO_5.out [] t1342 p1372 (by first | exact q1372 | exact od_ | (have e_ := (Kd.S_reads' HO_5.out).1; omega)); obtain ⟨ve1372_0, rfl, ge1372_0⟩ := hMe1372; have hv1372_0 := hcc1372 0 _ rfl; rw [Nat.add_zero, show ((Kd.slice 3 (Kd.int .i64))).sz = 1 from rfl, Nat.mul_one] at hv1372_0; replace hv1372_0 := Option.some.inj (hv1372_0.symm.trans hx1372_0); rw [hv1372_0] at ge1372_0; have HL1372_0 := A_ (show Kd.R (Kd.int .i64) 3 _ _ _ _ (rd_L1 x5_1 t1342) from ge1372_0); clear hv1372_0 ge1372_0; have HX1372_0 := A_ hx1372_0; clear hcc1372 hce1372; have HR1372_0 := A_ hi1372_0; have HC1372_0 := A_ hl1372_0; clear hi1372_0 hl1372_0; replace p1372 := eq_true p1372; replace q1372 := eq_true q1372; have ea_ := Option.some.inj (hx1351_0.symm.trans hx1372_0); injection ea_ with ea_ en_ ec_; subst ea_; subst ec_; clear en_) | (refine gc_ 122 ?_; refine goesT_ (some 46) Try.func122 #[.pointer (some ⟨g, 0, none⟩), .int .i64 ((rd_L1 x5_1 t1342).length : Int)] ?_; (with_reducible refine (spec_l1Cur_pick.calls g s0_0 t1343 t1344 ((rd_L1 x5_1 t1342).length : Int) t1373 t1374 t1375 w0 _ ?side1 ?side2 A35.out).mono ?_); (case side1 => repeat (first | (with_reducible first | exact HI0.out | apply IsS100.alloc | apply IsS100.drewN | apply IsS100.drew | apply IsS100.set_1 | apply IsS100.set_2) | exact HI0.out)); (case side2 => repeat (first | (with_reducible first | exact HB.out | apply below_alloc | apply pw_below_drewN | apply below_drew1 | refine below_set ?_ (IsS100.ge HI0.out)) | exact HB.out)); rintro e w47 ⟨rfl, hi, hb, hk⟩; refine ⟨_, rfl, ?_⟩; replace HL1351_0 := A_ (Kd.R_mono (Kd.R_keep (IsS100.apart (show IsS100 w0 _ g s0_0 t1343 t1344 from by repeat (first | (with_reducible first | exact HI0.out | apply IsS100.alloc | apply IsS100.drewN | apply IsS100.drew | apply IsS100.set_1 | apply IsS100.set_2) | exact HI0.out)) (tr_x HL1351_0.out) (by decide)) hk (fun _ h => h.2)) (fun _ h => h.1)); replace HX1351_0 := A_ (keep_cell hk HX1351_0.out (by first | (rw [add_block]; exact Kd.own_blk (IsS100.own_neS HI0.out HO_5.out (by decide))) | (show (Addr.add _ _).block ≠ _; rw [add_block]; exact Kd.own_blk (IsS100.own_neS HI0.out HO_5.out (by decide))) | exact Kd.own_blk (IsS100.own_neS HI0.out HO_5.out (by decide)) | (dsimp only; exact Kd.own_blk (IsS100.own_neS HI0.out HO_5.out (by decide))))); replace HL1372_0 := A_ (Kd.R_mono (Kd.R_keep (IsS100.apart (show IsS100 w0 _ g s0_0 t1343 t1344 from by repeat (first | (with_reducible first | exact HI0.out | apply IsS100.alloc | apply IsS100.drewN | apply IsS100.drew | apply IsS100.set_1 | apply IsS100.set_2) | exact HI0.out)) (tr_x HL1372_0.out) (by decide)) hk (fun _ h => h.2)) (fun _ h => h.1)); replace HX1372_0 := A_ (keep_cell hk HX1372_0.out (by first | (rw [add_block]; exact Kd.own_blk (IsS100.own_neS HI0.out HO_5.out (by decide))) | (show (Addr.add _ _).block ≠ _; rw [add_block]; exact Kd.own_blk (IsS100.own_neS HI0.out HO_5.out (by decide))) | exact Kd.own_blk (IsS100.own_neS HI0.out HO_5.out (by decide)) | (dsimp only; exact Kd.own_blk (IsS100.own_neS HI0.out HO_5.out (by decide))))); replace HO_5 := A_ (Kd.S_mono (Kd.S_keep (IsS100.apartS (show IsS100 w0 _ g s0_0 t1343 t1344 from by repeat (first | (with_reducible first | exact HI0.out | apply IsS100.alloc | apply IsS100.drewN | apply IsS100.drew | apply IsS100.set_1 | apply IsS100.set_2) | exact HI0.out)) (ts1_x HO_5.out) (by decide)) hk (fun _ h => h.2)) (fun _ h => h.1)); replace HK := A_ (KeepBut.trans (by repeat (first | (with_reducible first | exact HK.out | apply KeepBut.set_ | apply keep_drewN | apply keep_drew | apply keep_alloc) | exact HK.out)) hk (.inl rfl)); replace HB := A_ (hb); replace HI0 := A_ (hi); (try clear hb); (try clear hb2); (try clear hk); (try clear hi); have p1376 : 0 ≤ (t1342 : Int) := od_; have q1376 : t1342 < (x5_1.length : Int) := od_; obtain ⟨ad1376, A1376_0, c1376_0, e1376, hx1376_0, hl1376_0, hi1376_0⟩ := at_L1 (Kd.S_reads' HO_5.out).2.2 t1342 p1376 q1376; obtain rfl : ad1351 = ad1376 := (by injection e1376); obtain ⟨ce1376, hce1376, hMe1376, hcc1376⟩ := Kd.S_get HO_5.out [] t1342 p1376 (by first | exact q1376 | exact od_ | (have e_ := (Kd.S_reads' HO_5.out).1; omega)); obtain ⟨ve1376_0, rfl, ge1376_0⟩ := hMe1376; have hv1376_0 := hcc1376 0 _ rfl; rw [Nat.add_zero, show ((Kd.slice 3 (Kd.int .i64))).sz = 1 from rfl, Nat.mul_one] at hv1376_0; replace hv1376_0 := Option.some.inj (hv1376_0.symm.trans hx1376_0); rw [hv1376_0] at ge1376_0; have HL1376_0 := A_ (show Kd.R (Kd.int .i64) 3 _ _ _ _ (rd_L1 x5_1 t1342) from ge1376_0); clear hv1376_0 ge1376_0; have HX1376_0 := A_ hx1376_0; clear hcc1376 hce1376; have HR1376_0 := A_ hi1376_0; have HC1376_0 := A_ hl1376_0; clear hi1376_0 hl1376_0; replace p1376 := eq_true p1376; replace q1376 := eq_true q1376; have q48 : ((ji36) : Int) ≤ (((rd_L1 x5_1 t1342).length : Int) : Int) := od_; obtain ⟨i048, hi048, _, hsz48, _⟩ := info_parts info3; have hroom48 : (rd_L1 x5_1 t1342).length ≤ c1376_0 := HC1376_0.out; have hC48 : Kd.C (Kd.int .i64) _ A1376_0 (rd_L1 x5_1 t1342).length (rd_L1 x5_1 t1342) := (by repeat (first | (with_reducible exact HR1376_0.out) | (with_reducible refine Kd.C_alloc ?_ _) | (with_reducible refine Kd.C_drewN ?_ _) | (with_reducible refine Kd.C_drew ?_) | exact HR1376_0.out)); have hcut48 := cut_to (P := Try.prog) 22 3 .i64 Try.underlying22 hi048 A1376_0 (rd_L1 x5_1 t1342).length c1376_0 (ji36) (od_) q48 hroom48; have hr48 := Kd.C_take (m := ((ji36) : Int).toNat) hC48 (by omega); have hy48 : y1377.length = ((ji36) : Int).toNat := (by rw [Ny1377.out, List.length_take]; omega); rw [← Ny1377.out] at hr48; rw [← hy48] at hcut48; have HR1380 := A_ hr48; have HC1380 := A_ (show y1377.length ≤ c1376_0 from by omega); clear hr48 hC48 hroom48 hi048 hsz48; have KY48 := A_ hy48; clear hy48; replace q48 := eq_true q48) | (refine gc_ 131 ?_; refine goesT_ (some 54) Try.func131 #[.slice A1376_0 y1377.length c1376_0] ?_; (with_reducible refine (spec_l1Own.calls _ _ y1377 t1381 _ ?side1 ?side2 A39.out).mono ?_); (case side1 => repeat (first | exact (by repeat (first | (with_reducible exact HR1380.out) | (with_reducible refine Kd.C_alloc ?_ _) | (with_reducible refine Kd.C_drewN ?_ _) | (with_reducible refine Kd.C_drew ?_) | exact HR1380.out)) | (with_reducible refine Kd.C_alloc ?_ _) | (with_reducible refine Kd.C_drewN ?_ _) | (with_reducible refine Kd.C_drew ?_))); (case side2 => exact HC1380.out); rintro e w49 ⟨v1382, rfl, ho0, hb⟩; refine ⟨_, rfl, ?_⟩; replace HO_5 := A_ (Kd.S_elder' (ts1_x HO_5.out) (Kd.R_base ho0) hb); have HO1383 := A_ (Kd.R_lower (Kd.R_new' (Kd.R_new' (Kd.R_new' ho0 (Kd.R_lt (tr_x HL1351_0.out))) (Kd.R_lt (tr_x HL1372_0.out))) (Kd.R_lt (tr_x HL1376_0.out))) (keep_size (w := w) (g := g) (row := none) (by repeat (first | (with_reducible first | exact HK.out | apply KeepBut.set_ | apply keep_drewN | apply keep_drew | apply keep_alloc) | exact HK.out)))); replace HL1351_0 := A_ (Kd.R_elder' (tr_x HL1351_0.out) (Kd.R_base ho0) hb); replace HL1372_0 := A_ (Kd.R_elder' (tr_x HL1372_0.out) (Kd.R_base ho0) hb); replace HL1376_0 := A_ (Kd.R_elder' (tr_x HL1376_0.out) (Kd.R_base ho0) hb); replace HX1351_0 := A_ (pw_cell_below hb HX1351_0.out); replace HX1372_0 := A_ (pw_cell_below hb HX1372_0.out); replace HR1376_0 := A_ (Kd.C_below (by repeat (first | (with_reducible exact HR1376_0.out) | (with_reducible refine Kd.C_alloc ?_ _) | (with_reducible refine Kd.C_drewN ?_ _) | (with_reducible refine Kd.C_drew ?_) | exact HR1376_0.out)) hb); replace HX1376_0 := A_ (pw_cell_below hb HX1376_0.out); replace HR1380 := A_ (Kd.C_below (by repeat (first | (with_reducible exact HR1380.out) | (with_reducible refine Kd.C_alloc ?_ _) | (with_reducible refine Kd.C_drewN ?_ _) | (with_reducible refine Kd.C_drew ?_) | exact HR1380.out)) hb); replace HK := A_ (KeepBut.trans (by repeat (first | (with_reducible first | exact HK.out | apply KeepBut.set_ | apply keep_drewN | apply keep_drew | apply keep_alloc) | exact HK.out)) (KeepBut.of_below hb g none) (.inl rfl)); replace HB := A_ (below_step (by repeat (first | (with_reducible first | exact HB.out | apply below_alloc | apply pw_below_drewN | apply below_drew1 | refine below_set ?_ (IsS100.ge HI0.out)) | exact HB.out)) hb); replace HI0 := A_ (IsS100.below (by repeat (first | (with_reducible first | exact HI0.out | apply IsS100.alloc | apply IsS100.drewN | apply IsS100.drew | apply IsS100.set_1 | apply IsS100.set_2) | exact HI0.out)) hb); (try clear hb); (try clear hb2); (try clear hk); (try clear hi); (try clear ho0)) | ((with_reducible refine gate_builtin (b := .append) (xs := #[.tmp 54, .tmp 56]) rfl ?_); at_builtin; refine Kd.R_append (Kd.int .i64) w.heap.size rfl (.tmp 54) (.tmp 56) 22 3 (.int .i64 0) 8 rfl Try.underlying22 info3 rfl (by decide) (by omega) v1382 t1381 x7_1 [.int .i64 x7_1] (fun k_ => some k_ ≠ (.slice A1351_0 (rd_L1 x5_1 t1342).length c1351_0 : Value).ownBlock ∧ some k_ ≠ (.slice A1351_0 (rd_L1 x5_1 t1342).length c1351_0 : Value).ownBlock ∧ some k_ ≠ (.slice A1376_0 (rd_L1 x5_1 t1342).length c1376_0 : Value).ownBlock) (fun _ => False) rfl rfl ?aP (fun _ hk => hk.elim) ?aF ?aO (Below.refl _ _) ?aS ?aL ?_; (case aP => exact rfl); (case aF => exact (fun k_ hk => ⟨Kd.fresh' (Kd.R_lt (tr_x HL1351_0.out)) k_ hk, Kd.fresh' (Kd.R_lt (tr_x HL1372_0.out)) k_ hk, Kd.fresh' (Kd.R_lt (tr_x HL1376_0.out)) k_ hk⟩)); (case aO => exact (tr_ (h := by exact Kd.R_mono HO1383.out om_))); (case aS => exact (keep_size (w := w) (g := g) (row := none) (by repeat (first | (with_reducible first | exact HK.out | apply KeepBut.set_ | apply keep_drewN | apply keep_drew | apply keep_alloc) | exact HK.out)))); (case aL => have := LMc40.out; omega); intro v1385 w50 ho hb hg hat; rw [← Ny1384.out] at ho; have n0_ := A_ (Kd.S_after (ok := (fun _ => True)) (ts1_x HO_5.out) hg hat); have n1_ := A_ (IsS100.grown (by repeat (first | (with_reducible first | exact HI0.out | apply IsS100.alloc | apply IsS100.drewN | apply IsS100.drew | apply IsS100.set_1 | apply IsS100.set_2) | exact HI0.out)) hg (IsS100.own_ne HI0.out HO1383.out (by decide))); have n2_ := A_ (Kd.R_after (ok := (fun k_ => some k_ ≠ (.slice (some ad1351) x5_1.length co45 : Value).ownBlock)) (tr_ (h := by exact Kd.R_mono HL1351_0.out om_)) hg hat); have n3_ := A_ (Kd.R_after (ok := (fun k_ => some k_ ≠ (.slice (some ad1351) x5_1.length co45 : Value).ownBlock)) (tr_ (h := by exact Kd.R_mono HL1372_0.out om_)) hg hat); have n4_ := A_ (Kd.R_after (ok := (fun k_ => some k_ ≠ (.slice (some ad1351) x5_1.length co45 : Value).ownBlock)) (tr_ (h := by exact Kd.R_mono HL1376_0.out om_)) hg hat); have n5_ := A_ (below_weaken (by repeat (first | (with_reducible first | exact HB.out | apply below_alloc | apply pw_below_drewN | apply below_drew1 | refine below_set ?_ (IsS100.ge HI0.out)) | exact HB.out)) HL.out hb); have n6_ := A_ (KeepBut.trans (by repeat (first | (with_reducible first | exact HK.out | apply KeepBut.set_ | apply keep_drewN | apply keep_drew | apply keep_alloc) | exact HK.out)) (KeepBut.of_grown hg g) (Kd.R_base2 HO1383.out)); have n7_ := A_ (ho); clear HO_5; clear HI0; clear HL1351_0; clear HL1372_0; clear HL1376_0; clear HB; clear HK; clear HO1383; have HO_5 := n0_; have HI0 := n1_; have HL1351_0 := n2_; have HL1372_0 := n3_; have HL1376_0 := n4_; have HB := n5_; have HK := n6_; have HO1386 := n7_; clear n0_ n1_ n2_ n3_ n4_ n5_ n6_ n7_; clear ho hb hg hat; have p1387 : 0 ≤ (t1342 : Int) := od_; have q1387 : t1342 < (x5_1.length : Int) := od_; obtain ⟨ad1387, A1387_0, c1387_0, e1387, hx1387_0, hl1387_0, hi1387_0⟩ := at_L1 (Kd.S_reads' HO_5.out).2.2 t1342 p1387 q1387; obtain rfl : ad1351 = ad1387 := (by injection e1387); obtain ⟨ce1387, hce1387, hMe1387, hcc1387⟩ := Kd.S_get HO_5.out [] t1342 p1387 (by first | exact q1387 | exact od_ | (have e_ := (Kd.S_reads' HO_5.out).1; omega)); obtain ⟨ve1387_0, rfl, ge1387_0⟩ := hMe1387; have hv1387_0 := hcc1387 0 _ rfl; rw [Nat.add_zero, show ((Kd.slice 3 (Kd.int .i64))).sz = 1 from rfl, Nat.mul_one] at hv1387_0; replace hv1387_0 := Option.some.inj (hv1387_0.symm.trans hx1387_0); rw [hv1387_0] at ge1387_0; have HL1387_0 := A_ (show Kd.R (Kd.int .i64) 3 _ _ _ _ (rd_L1 x5_1 t1342) from ge1387_0); clear hv1387_0 ge1387_0; have HX1387_0 := A_ hx1387_0; clear hcc1387 hce1387; have HR1387_0 := A_ hi1387_0; have HC1387_0 := A_ hl1387_0; clear hi1387_0 hl1387_0; replace p1387 := eq_true p1387; replace q1387 := eq_true q1387; have q51 : ((ji36) : Int) ≤ (((rd_L1 x5_1 t1342).length : Int) : Int) := od_; obtain ⟨i051, hi051, _, hsz51, _⟩ := info_parts info3; have hroom51 : (rd_L1 x5_1 t1342).length ≤ c1387_0 := HC1387_0.out; have hC51 : Kd.C (Kd.int .i64) _ A1387_0 (rd_L1 x5_1 t1342).length (rd_L1 x5_1 t1342) := (by repeat (first | (with_reducible exact HR1387_0.out) | (with_reducible refine Kd.C_alloc ?_ _) | (with_reducible refine Kd.C_drewN ?_ _) | (with_reducible refine Kd.C_drew ?_) | exact HR1387_0.out)); have q051 : (0 : Int) ≤ ((ji36) : Int) := od_; have hcut51 := cut_from (P := Try.prog) 22 3 .i64 Try.underlying22 hi051 1 hsz51 A1387_0 (rd_L1 x5_1 t1342).length c1387_0 (ji36) q051 q51; have hr51 := Kd.C_drop (m := ((ji36) : Int).toNat) (c := c1387_0) hC51 (by omega) hroom51; obtain ⟨A51, hA51⟩ : ∃ A1, A1 = (if c1387_0 = ((ji36) : Int).toNat then A1387_0 else (A1387_0 : Option Addr).map (·.add (((ji36) : Int).toNat * 1))) := ⟨_, rfl⟩; obtain ⟨c51, hc51⟩ : ∃ c1, c1 = c1387_0 - ((ji36) : Int).toNat := ⟨_, rfl⟩; have hy51 : y1388.length = (rd_L1 x5_1 t1342).length - ((ji36) : Int).toNat := (by rw [Ny1388.out, List.length_drop] <;> omega); rw [show (rd_L1 x5_1 t1342).drop ((ji36) : Int).toNat = y1388 from Ny1388.out.symm] at hr51; replace hr51 : Kd.C (Kd.int .i64) _ A51 y1388.length y1388 := (by rw [hA51]; exact hr51); rw [← hy51, ← hA51, ← hc51] at hcut51; have HR1391 := A_ hr51; have HC1391 := A_ (show y1388.length ≤ c51 from by rw [hy51, hc51]; exact Nat.sub_le_sub_right hroom51 _); clear hr51 hC51 hroom51 hi051 hsz51 hc51; have KY51 := A_ hy51; have KA51 := A_ hA51; clear hy51 hA51; replace q51 := eq_true q51) | ((with_reducible refine gate_builtin (b := .append) (xs := #[.tmp 60, .tmp 66]) rfl ?_); at_builtin; refine Kd.R_append_rows (Kd.int .i64) w.heap.size rfl (.tmp 60) (.tmp 66) 22 3 (.int .i64 0) 8 rfl Try.underlying22 info3 rfl (by decide) (by omega) v1385 y1384 y1388 _ _ _ (fun k_ => some k_ ≠ (.slice A1351_0 (rd_L1 x5_1 t1342).length c1351_0 : Value).ownBlock ∧ some k_ ≠ (.slice A1351_0 (rd_L1 x5_1 t1342).length c1351_0 : Value).ownBlock ∧ some k_ ≠ (.slice A1376_0 (rd_L1 x5_1 t1342).length c1376_0 : Value).ownBlock) (fun _ => False) rfl rfl ?aO ?aR (fun _ _ h => h) (fun _ h => h.elim) ?aF (Below.refl _ _) ?aS ?aL ?_; (case aR => repeat (first | exact (by repeat (first | (with_reducible exact HR1391.out) | (with_reducible refine Kd.C_alloc ?_ _) | (with_reducible refine Kd.C_drewN ?_ _) | (with_reducible refine Kd.C_drew ?_) | exact HR1391.out)) | (with_reducible refine Kd.C_alloc ?_ _) | (with_reducible refine Kd.C_drewN ?_ _) | (with_reducible refine Kd.C_drew ?_))); (case aF => exact (fun k_ hk => ⟨Kd.fresh' (Kd.R_lt (tr_x HL1351_0.out)) k_ hk, Kd.fresh' (Kd.R_lt (tr_x HL1372_0.out)) k_ hk, Kd.fresh' (Kd.R_lt (tr_x HL1376_0.out)) k_ hk⟩)); (case aO => exact (tr_x HO1386.out)); (case aS => exact (keep_size (w := w) (g := g) (row := none) (by repeat (first | (with_reducible first | exact HK.out | apply KeepBut.set_ | apply keep_drewN | apply keep_drew | apply keep_alloc) | exact HK.out)))); (case aL => have := LMc43.out; omega); intro v1393 w52 ho hb hg hat; rw [← Ny1392.out] at ho; have n0_ := A_ (Kd.S_after (ok := (fun _ => True)) (ts1_x HO_5.out) hg hat); have n1_ := A_ (IsS100.grown (by repeat (first | (with_reducible first | exact HI0.out | apply IsS100.alloc | apply IsS100.drewN | apply IsS100.drew | apply IsS100.set_1 | apply IsS100.set_2) | exact HI0.out)) hg (IsS100.own_ne HI0.out HO1386.out (by decide))); have n2_ := A_ (Kd.R_after (ok := (fun k_ => some k_ ≠ (.slice (some ad1351) x5_1.length co45 : Value).ownBlock)) (tr_x HL1351_0.out) hg hat); have n3_ := A_ (Kd.R_after (ok := (fun k_ => some k_ ≠ (.slice (some ad1351) x5_1.length co45 : Value).ownBlock)) (tr_x HL1372_0.out) hg hat); have n4_ := A_ (Kd.R_after (ok := (fun k_ => some k_ ≠ (.slice (some ad1351) x5_1.length co45 : Value).ownBlock)) (tr_x HL1376_0.out) hg hat); have n5_ := A_ (Kd.R_after (ok := (fun k_ => some k_ ≠ (.slice (some ad1351) x5_1.length co45 : Value).ownBlock)) (tr_ (h := by exact Kd.R_mono HL1387_0.out om_)) hg hat); have n6_ := A_ (below_weaken (by repeat (first | (with_reducible first | exact HB.out | apply below_alloc | apply pw_below_drewN | apply below_drew1 | refine below_set ?_ (IsS100.ge HI0.out)) | exact HB.out)) HL.out hb); have n7_ := A_ (KeepBut.trans (by repeat (first | (with_reducible first | exact HK.out | apply KeepBut.set_ | apply keep_drewN | apply keep_drew | apply keep_alloc) | exact HK.out)) (KeepBut.of_grown hg g) (Kd.R_base2 HO1386.out)); have n8_ := A_ (ho); clear HO_5; clear HI0; clear HL1351_0; clear HL1372_0; clear HL1376_0; clear HL1387_0; clear HB; clear HK; clear HO1386; have HO_5 := n0_; have HI0 := n1_; have HL1351_0 := n2_; have HL1372_0 := n3_; have HL1376_0 := n4_; have HL1387_0 := n5_; have HB := n6_; have HK := n7_; have HO1394 := n8_; clear n0_ n1_ n2_ n3_ n4_ n5_ n6_ n7_ n8_; clear ho hb hg hat; have p44 : 0 ≤ (t1342 : Int) := od_; have q44 : (t1342 : Int) < ((x5_1.length : Int) : Int) := od_; obtain ⟨go44, co44, eo44, gb44, gl44, cl44, HG44⟩ := Kd.S_form HO_5.out (by omega); (first | cases eo44 | (injection eo44 with ea_ en_ ec_; (first | subst ea_ | (injection ea_ with ea_; subst ea_)); subst ec_; clear en_)); have GB44 := A_ gb44; have GG44 := A_ HG44; clear gb44 gl44 HG44; (first | simp only [add_plain] at hx1351_0 | skip); (first | simp only [add_plain] at hx1372_0 | skip); (first | simp only [add_plain] at hx1376_0 | skip); (first | simp only [add_plain] at hx1387_0 | skip); obtain ⟨_, ce44, hcl44, hM44, hcc44, hfr44, _, _⟩ := Kd.S_elem HO_5.out [] (t1342 : Int) p44 q44; obtain ⟨ve44_0, rfl, ge44_0⟩ := hM44; have hx44_0 := hcc44 0 _ rfl; have hf44_0 := hfr44 0; (try simp only [show ((Kd.slice 3 (Kd.int .i64))).sz = 1 from rfl, Nat.mul_one, Nat.add_zero] at hx44_0); (try simp only [show ((Kd.slice 3 (Kd.int .i64))).sz = 1 from rfl, Nat.mul_one, Nat.add_zero] at hf44_0); (try clear hcl44); (try clear hcc44); (try clear hfr44); (try clear hM44); replace p44 := eq_true p44; replace q44 := eq_true q44; have n_ := A_ (Kd.S_mono (ok' := (fun k_ => some k_ ≠ (v1393 : Value).ownBlock)) HO_5.out (fun k_ hk => hk.2)); clear HO_5; have HO_5 := n_; clear n_; have HX53 := A_ (show Kd.S (Kd.slice 3 (Kd.int .i64)) 22 w52 w.heap.size (fun k_ => ((fun _ => True)) k_ ∧ ¬ ((fun k_ => some k_ = (v1393 : Value).ownBlock)) k_) (.slice (some ⟨go44, 0, none⟩) x5_1.length co45) x5_1 from (ts1_ (h := by exact Kd.S_mono HO_5.out (fun k_ hk => ⟨trivial, fun e_ => hk e_⟩)))); obtain ⟨oki53, ce53, hcl53, hM53, hcc53, hfr53, hoki53, hH53⟩ := Kd.S_elem HX53.out [] (t1342 : Int) (od_) (by have h_ : (t1342 : Int) < ((x5_1.length : Int) : Int) := od_; first | exact h_ | (have e_ := (Kd.S_reads' HO_5.out).1; omega) | simpa using h_); obtain ⟨ve53_0, rfl, ge53_0⟩ := hM53; have HP53 := Kd.S_seg hH53 (od_) (by have h_ : (t1342 : Int) < ((x5_1.length : Int) : Int) := od_; first | exact h_ | (have e_ := (Kd.S_reads' HO_5.out).1; omega) | simpa using h_) (seg := [v1393]) (j := 0) (show 1 ≤ 1 from by decide) (x' := y1392) (Kd.M_row (Kd.R_mono (Kd.R_tight rfl (Kd.R_mono (ok' := fun k_ => ((fun _ => True)) k_ ∧ k_ ≠ go44) (Kd.R_apart' (HO1394.out) (Kd.S_typed HO_5.out) (by decide)) (fun k_ hk => ⟨trivial, fun e_ => (hk.2) (by rw [e_]; rfl)⟩))) (fun _ h_ => Or.inr (h_)))) (fun _ hk => hk) (fun k_ hk_ => ((Kd.R_mono (ok' := fun k_ => ((fun _ => True)) k_ ∧ k_ ≠ go44) (Kd.R_apart' (HO1394.out) (Kd.S_typed HO_5.out) (by decide)) (fun k_ hk => ⟨trivial, fun e_ => (hk.2) (by rw [e_]; rfl)⟩))).1 k_ hk_.symm); have hx53_0 := hcc53 0 _ rfl; (try simp only [show ((Kd.slice 3 (Kd.int .i64))).sz = 1 from rfl, Nat.mul_one, Nat.add_zero] at hx53_0); have hf53_0 := hfr53 0; (try simp only [show ((Kd.slice 3 (Kd.int .i64))).sz = 1 from rfl, Nat.mul_one, Nat.add_zero] at hf53_0); (try clear hcl53); (try clear hcc53); (try clear hfr53); (try clear hM53); (try clear hoki53); (try clear hH53); (try simp only [show ((Kd.slice 3 (Kd.int .i64))).sz = 1 from rfl, Nat.mul_one, Nat.add_zero] at HP53)) | ((with_reducible refine gate_store (t := 22) (p := 68) rfl ?_); refine store_event (t := 22) (p := 68) (v := ?vo_w54) (w1 := (w52.setCell ⟨go44, (t1342 : Int).toNat, none⟩ (v1393))) ?hg ?ho ?hn ?hr ?_; (case ho => rfl); (case hg => rfl); (case hn => rfl); (case hr => first | (go_simp; done) | (go_simp; rfl) | (obtain ⟨_, _, e_⟩ := Kd.R_slice HO1394.out; subst e_; go_simp; done) | (obtain ⟨_, _, e_⟩ := Kd.R_slice HO1394.out; subst e_; go_simp; rfl)); intro w54 hw; have hg : w52.grownBy w54 (some go44) := (by rw [hw]; exact HP53.2); have hp_ : Kd.S (Kd.slice 3 (Kd.int .i64)) 22 w54 w.heap.size (fun _ => True) (.slice (some ⟨go44, 0, none⟩) x5_1.length co45) y1395 := (by rw [hw, Ny1395.out]; exact HP53.1); clear HP53; have n0_ := A_ (hp_); have n1_ := A_ (IsS100.grown (by repeat (first | (with_reducible first | exact HI0.out | apply IsS100.alloc | apply IsS100.drewN | apply IsS100.drew | apply IsS100.set_1 | apply IsS100.set_2) | exact HI0.out)) hg (IsS100.own_neS HI0.out HO_5.out (by decide))); have n2_ := A_ (Kd.R_after (v := (.slice (some ⟨go44, 0, none⟩) x5_1.length co45)) (v1 := (.slice (some ⟨go44, 0, none⟩) x5_1.length co45)) (ok := (fun k_ => some k_ ≠ (v1393 : Value).ownBlock)) (tr_ (h := by exact Kd.R_mono HL1351_0.out om_)) hg (.inl rfl)); have n3_ := A_ (Kd.R_after (v := (.slice (some ⟨go44, 0, none⟩) x5_1.length co45)) (v1 := (.slice (some ⟨go44, 0, none⟩) x5_1.length co45)) (ok := (fun k_ => some k_ ≠ (v1393 : Value).ownBlock)) (tr_ (h := by exact Kd.R_mono HL1372_0.out om_)) hg (.inl rfl)); have n4_ := A_ (Kd.R_after (v := (.slice (some ⟨go44, 0, none⟩) x5_1.length co45)) (v1 := (.slice (some ⟨go44, 0, none⟩) x5_1.length co45)) (ok := (fun k_ => some k_ ≠ (v1393 : Value).ownBlock)) (tr_ (h := by exact Kd.R_mono HL1376_0.out om_)) hg (.inl rfl)); have n5_ := A_ (Kd.R_after (v := (.slice (some ⟨go44, 0, none⟩) x5_1.length co45)) (v1 := (.slice (some ⟨go44, 0, none⟩) x5_1.length co45)) (ok := (fun k_ => some k_ ≠ (v1393 : Value).ownBlock)) (tr_ (h := by exact Kd.R_mono HL1387_0.out om_)) hg (.inl rfl)); have n6_ := A_ ((by rw [hw]; exact below_set (HB.out) (Nat.le_trans HL.out GB44.out) : Below w0.heap.size w0 w54)); have n7_ := A_ (KeepBut.trans (by repeat (first | (with_reducible first | exact HK.out | apply KeepBut.set_ | apply keep_drewN | apply keep_drew | apply keep_alloc) | exact HK.out)) (KeepBut.of_grown hg g) (Kd.S_base2 HO_5.out)); clear HO_5; clear HI0; clear HL1351_0; clear HL1372_0; clear HL1376_0; clear HL1387_0; clear HB; clear HK; clear HO1394; have HO_5 := n0_; have HI0 := n1_; have HL1351_0 := n2_; have HL1372_0 := n3_; have HL1376_0 := n4_; have HL1387_0 := n5_; have HB := n6_; have HK := n7_; clear n0_ n1_ n2_ n3_ n4_ n5_ n6_ n7_; clear hg hw hp_))
            go_roundg k1
            case measure => have := HK1.out; omega
            case rel => exact ⟨(y1395), (wrap64 (x7_1 + 1)), (t1374), (t1375), tf_, H', ⟨by have := HK1.out; omega⟩, ⟨ts1_x HO_5.out⟩, ⟨by repeat (first | (with_reducible first | exact HI0.out | apply IsS100.alloc | apply IsS100.drewN | apply IsS100.drew | apply IsS100.set_1 | apply IsS100.set_2) | exact HI0.out)⟩, ⟨by repeat (first | (with_reducible first | exact HK.out | apply KeepBut.set_ | apply keep_drewN | apply keep_drew | apply keep_alloc) | exact HK.out)⟩, ⟨by repeat (first | (with_reducible first | exact HB.out | apply below_alloc | apply pw_below_drewN | apply below_drew1 | refine below_set ?_ (IsS100.ge HI0.out)) | exact HB.out)⟩⟩
           ·
            rw [if_neg c43] at H
            exact absurd H (by simp)
          ·
           rw [if_neg c40] at H
           exact absurd H (by simp)
         ·
          rw [if_neg c38] at H
          exact absurd H (by simp)
        ·
         rw [if_neg c37] at H
         exact absurd H (by simp)
      ·
       rw [if_neg c16] at H
       exact absurd H (by simp)
     ·
      rw [if_neg c15] at H
      exact absurd H (by simp)
   ·
    rw [if_neg c5] at H
    have c5b0 := decide_eq_false c5
    clear c5
    replace H := Option.bind_eq_some_iff.mp H
    obtain ⟨⟨t1396, t1397, t1398⟩, A550, H⟩ := H
    replace H : (if t1396 = 0 then (if 0 < (x5_1.length : Int) then ((spec_l1Cur_among.f s0_0 t1397 t1398 (([(-1), 0, 1, 6, 4611686018427387904] : List Int))).bind fun bt1403 => (if 0 < ((rd_L1 x5_1 0).length : Int) then (some ((x5_1.set (0 : Int).toNat ((rd_L1 x5_1 0).set (0 : Int).toNat bt1403.1)), bt1403.2.1, bt1403.2.2)) else (none))) else (none)) else (if t1396 = 1 then (if x5_1.length < 5864062014805 then (some ((x5_1 ++ [[]]), t1397, t1398)) else (none)) else (if t1396 = 2 then (if x5_1.length < 5864062014805 then (some ((x5_1 ++ [(([wrap64 ((wrap64 (1 + t1339)) + 1)] : List Int))]), t1397, t1398)) else (none)) else (if t1396 = 3 then (if x5_1.length < 5864062014805 then (some ((x5_1 ++ [(([0, 1, 2, 3, 4, 5] : List Int))]), t1397, t1398)) else (none)) else (some (x5_1, t1397, t1398)))))) = some (r1, r2, r3) := H
    have A55 := A_ A550
    clear A550
    by_cases c56 : t1396 = 0
    ·
     rw [if_pos c56] at H
     have c56b0 : (t1396 == 0) = true := beq_iff_eq.mpr c56
     have c56b1 : (t1396 != 0) = false := bne_eq_false_iff_eq.mpr c56
     clear c56
     by_cases c57 : 0 < (x5_1.length : Int)
     ·
      rw [if_pos c57] at H
      have c57b0 := decide_eq_true c57
      have c57b1 : decide (0 < x5_1.length) = true := decide_eq_true (by omega)
      clear c57
      obtain ⟨y1400, hy1400⟩ : ∃ y_ : List Int, y_ = (([(-1), 0, 1, 6, 4611686018427387904] : List Int)) := ⟨_, rfl⟩
      replace H : ((spec_l1Cur_among.f s0_0 t1397 t1398 y1400).bind fun bt1403 => (if 0 < ((rd_L1 x5_1 0).length : Int) then (some ((x5_1.set (0 : Int).toNat ((rd_L1 x5_1 0).set (0 : Int).toNat bt1403.1)), bt1403.2.1, bt1403.2.2)) else (none))) = some (r1, r2, r3) := ty_ hy1400 H
      have Ny1400 := A_ hy1400
      clear hy1400
      replace H := Option.bind_eq_some_iff.mp H
      obtain ⟨⟨t1403, t1404, t1405⟩, A580, H⟩ := H
      replace H : (if 0 < ((rd_L1 x5_1 0).length : Int) then (some ((x5_1.set (0 : Int).toNat ((rd_L1 x5_1 0).set (0 : Int).toNat t1403)), t1404, t1405)) else (none)) = some (r1, r2, r3) := H
      have A58 := A_ A580
      clear A580
      by_cases c59 : 0 < ((rd_L1 x5_1 0).length : Int)
      ·
       rw [if_pos c59] at H
       have c59b0 := decide_eq_true c59
       have c59b1 : decide (0 < (rd_L1 x5_1 0).length) = true := decide_eq_true (by omega)
       clear c59
       obtain ⟨y1406, hy1406⟩ : ∃ y_ : List Int, y_ = ((rd_L1 x5_1 0).set (0 : Int).toNat t1403) := ⟨_, rfl⟩
       replace H : (some ((x5_1.set (0 : Int).toNat y1406), t1404, t1405)) = some (r1, r2, r3) := ty_ hy1406 H
       have Ny1406 := A_ hy1406
       clear hy1406
       obtain ⟨y1408, hy1408⟩ : ∃ y_ : List (List Int), y_ = (x5_1.set (0 : Int).toNat y1406) := ⟨_, rfl⟩
       replace H : (some (y1408, t1404, t1405)) = some (r1, r2, r3) := ty_ hy1408 H
       have Ny1408 := A_ hy1408
       clear hy1408
       simp only [Option.some.injEq, Prod.mk.injEq] at H
       obtain ⟨rfl, rfl, rfl⟩ := H
       try go_wp2_with (first | (refine gc_ 122 ?_; refine goesT_ (some 70) Try.func122 #[.pointer (some ⟨g, 0, none⟩), .int .i64 16] ?_; (with_reducible refine (spec_l1Cur_pick.calls g s0_0 x1001_1 x1002_1 16 t1396 t1397 t1398 w0 _ ?side1 ?side2 A55.out).mono ?_); (case side1 => repeat (first | (with_reducible first | exact HI0.out | apply IsS100.alloc | apply IsS100.drewN | apply IsS100.drew | apply IsS100.set_1 | apply IsS100.set_2) | exact HI0.out)); (case side2 => repeat (first | (with_reducible first | exact HB.out | apply below_alloc | apply pw_below_drewN | apply below_drew1 | refine below_set ?_ (IsS100.ge HI0.out)) | exact HB.out)); rintro e w61 ⟨rfl, hi, hb, hk⟩; refine ⟨_, rfl, ?_⟩; replace HO_5 := A_ (Kd.S_mono (Kd.S_keep (IsS100.apartS (show IsS100 w0 _ g s0_0 x1001_1 x1002_1 from by repeat (first | (with_reducible first | exact HI0.out | apply IsS100.alloc | apply IsS100.drewN | apply IsS100.drew | apply IsS100.set_1 | apply IsS100.set_2) | exact HI0.out)) (ts1_x HO_5.out) (by decide)) hk (fun _ h => h.2)) (fun _ h => h.1)); replace HK := A_ (KeepBut.trans (by repeat (first | (with_reducible first | exact HK.out | apply KeepBut.set_ | apply keep_drewN | apply keep_drew | apply keep_alloc) | exact HK.out)) hk (.inl rfl)); replace HB := A_ (hb); replace HI0 := A_ (hi); (try clear hb); (try clear hb2); (try clear hk); (try clear hi)))
       have n0_ := A_ (Kd.S_drew HO_5.out)
       have n1_ := A_ (IsS100.drew HI0.out)
       have n2_ := A_ (keep_drew HK.out)
       have n3_ := A_ (below_drew1 HB.out)
       clear HO_5
       clear HI0
       clear HK
       clear HB
       have HO_5 := n0_
       have HI0 := n1_
       have HK := n2_
       have HB := n3_
       clear n0_ n1_ n2_ n3_
       obtain ⟨Ao63, co63, eo63⟩ := Kd.S_slice HO_5.out
       (first | subst eo63 | (injection eo63 with f1_ f2_ f3_; have f4_ := f1_.symm; have f5_ := f3_.symm; clear f1_ f2_ f3_; subst f4_; subst f5_))
       have p1399 : 0 ≤ (0 : Int) := (by omega)
       have q1399 : 0 < (x5_1.length : Int) := od_
       obtain ⟨ad1399, A1399_0, c1399_0, e1399, hx1399_0, hl1399_0, hi1399_0⟩ := at_L1 (Kd.S_reads' HO_5.out).2.2 0 p1399 q1399
       cases e1399
       obtain ⟨ce1399, hce1399, hMe1399, hcc1399⟩ := Kd.S_get HO_5.out [] 0 p1399 (by first | exact q1399 | exact od_ | (have e_ := (Kd.S_reads' HO_5.out).1; omega))
       obtain ⟨ve1399_0, rfl, ge1399_0⟩ := hMe1399
       have hv1399_0 := hcc1399 0 _ rfl
       rw [Nat.add_zero, show ((Kd.slice 3 (Kd.int .i64))).sz = 1 from rfl, Nat.mul_one] at hv1399_0
       replace hv1399_0 := Option.some.inj (hv1399_0.symm.trans hx1399_0)
       rw [hv1399_0] at ge1399_0
       have HL1399_0 := A_ (show Kd.R (Kd.int .i64) 3 _ _ _ _ (rd_L1 x5_1 0) from ge1399_0)
       clear hv1399_0 ge1399_0
       have HX1399_0 := A_ hx1399_0
       clear hcc1399 hce1399
       have qi1399 : (0 < x5_1.length) = True := eq_true (by omega)
       (try rw [show ((0 : Int)).toNat = 0 from rfl] at hx1399_0)
       (try rw [Addr.add_zero'] at hx1399_0)
       have HR1399_0 := A_ hi1399_0
       have HC1399_0 := A_ hl1399_0
       clear hi1399_0 hl1399_0
       replace p1399 := eq_true p1399
       replace q1399 := eq_true q1399
       refine start_ (n := 8) (S := fun w' => w'.cell? ad1399 = some (.slice A1399_0 (rd_L1 x5_1 0).length c1399_0)) (ds := [7]) (Fn.bl 8 0) (by kernel_rfl) rfl rfl (hx1399_0) (fun hHeld => ?_); refine with_tabW spec_l1Cur_blocks.tab16 spec_l1Cur_blocks.bits16 (fun HT_ HW_ => ?_)
       generalize w61.drew = w62 at HO_5 HI0 HK HB HL1399_0 HR1399_0 HX1399_0 hx1399_0 hHeld ⊢
       refine pq_ 0 (some 73) (Fn.bl 8 1) HT_.out ?_
       refine pq_ 1 (some 74) (Fn.bl 8 3) HT_.out ?_
       refine pq_ 3 (some 76) (Fn.bl 8 11) HT_.out ?_
       refine take_ (i := 2) (N := some 75) (v := ?_) (a' := ?_) (Fn.bl 8 15) rfl rfl (take_ofW HT_.out HW_.out (by kernel_rfl)) (fun _ _ _ h => h) (Or.inl ⟨by rfl, ?_⟩) hHeld ?_ ?_
       rotate_left
       ·
        intro w' s0
        go_simp
        with_reducible rfl
       rotate_left
       ·
        simp only [Act.put, List.setIfInBounds_toArray, List.set_cons_zero, List.set_cons_succ, i64_w, i32_w]
        rfl
       refine one_ (i := 4) (N := some 77) (Fn.bl 8 31) rfl rfl (one_of HT_.out (by kernel_rfl)) (by decide) (fun K hK => ?_)
       refine Kd.R_lit_step (Kd.int .i64) _ 3 ?hg (N := 77) ?hd (xs := ([(-1), 0, 1, 6, 4611686018427387904] : List Int)) (inner := [.int .i64 (-1), .int .i64 0, .int .i64 1, .int .i64 6, .int .i64 4611686018427387904]) (ok := fun _ => True) (okp := fun _ => True) ?hr ?hp (fun _ hk => hk) trivial (Below.refl _ _) (Nat.le_refl _) (by simp) ?_; (case hd => rfl); (case hg => rfl); (case hr => first | (go_simp; done) | (go_simp; rfl)); (case hp => exact (Reps.one (show Kd.M (Kd.int .i64) _ _ _ (-1) [.int .i64 (-1)] from rfl) (Reps.one (show Kd.M (Kd.int .i64) _ _ _ 0 [.int .i64 0] from rfl) (Reps.one (show Kd.M (Kd.int .i64) _ _ _ 1 [.int .i64 1] from rfl) (Reps.one (show Kd.M (Kd.int .i64) _ _ _ 6 [.int .i64 6] from rfl) (Reps.one (show Kd.M (Kd.int .i64) _ _ _ 4611686018427387904 [.int .i64 4611686018427387904] from rfl) (Reps.none _ _)))))))
       intro v1401 w64 ho65 hb hg_ hnew_
       have HS0_ := (hb.cell (World.block_lt_of_cell? _ _ (hHeld))).trans (hHeld)
       clear hg_ hnew_
       (first | rw [← Ny1400.out] at ho65 | (simp only [Int.reduceToNat] at ho65; rw [← Ny1400.out] at ho65))
       have n0_ := A_ (Kd.S_elder' (ts1_x HO_5.out) (Kd.R_base ho65) hb)
       have n1_ := A_ (Kd.R_elder' (tr_x HL1399_0.out) (Kd.R_base ho65) hb)
       have n2_ := A_ (Kd.R_lower (Kd.R_new' ho65 (Kd.R_lt (tr_x HL1399_0.out))) (keep_size (w := w) (g := g) (row := none) (by repeat (first | (with_reducible first | exact HK.out | apply KeepBut.set_ | apply keep_drewN | apply keep_drew | apply keep_alloc) | exact HK.out))))
       have n3_ := A_ (IsS100.below (by repeat (first | (with_reducible first | exact HI0.out | apply IsS100.alloc | apply IsS100.drewN | apply IsS100.drew | apply IsS100.set_1 | apply IsS100.set_2) | exact HI0.out)) hb)
       have n4_ := A_ (Kd.C_below (by repeat (first | (with_reducible exact HR1399_0.out) | (with_reducible refine Kd.C_alloc ?_ _) | (with_reducible refine Kd.C_drewN ?_ _) | (with_reducible refine Kd.C_drew ?_) | exact HR1399_0.out)) hb)
       have n5_ := A_ (pw_cell_below hb HX1399_0.out)
       have n6_ := A_ (KeepBut.trans (by repeat (first | (with_reducible first | exact HK.out | apply KeepBut.set_ | apply keep_drewN | apply keep_drew | apply keep_alloc) | exact HK.out)) (KeepBut.of_below hb g none) (.inl rfl))
       have n7_ := A_ (below_step (by repeat (first | (with_reducible first | exact HB.out | apply below_alloc | apply pw_below_drewN | apply below_drew1 | refine below_set ?_ (IsS100.ge HI0.out)) | exact HB.out)) hb)
       clear HO_5
       clear HL1399_0
       clear HI0
       clear HR1399_0
       clear HX1399_0
       clear HK
       clear HB
       have HO_5 := n0_
       have HL1399_0 := n1_
       have HO1402 := n2_
       have HI0 := n3_
       have HR1399_0 := n4_
       have HX1399_0 := n5_
       have HK := n6_
       have HB := n7_
       clear n0_ n1_ n2_ n3_ n4_ n5_ n6_ n7_
       clear hb ho65
       obtain ⟨Ao66, co66, eo66⟩ := Kd.R_slice HO1402.out
       (first | subst eo66 | (injection eo66 with f1_ f2_ f3_; have f4_ := f1_.symm; have f5_ := f3_.symm; clear f1_ f2_ f3_; subst f4_; subst f5_))
       refine hK.out _ _ (HS0_) (fun hHeld => ?_)
       clear hK K
       refine norm_ (a' := ?_) ?_ ?_
       rotate_left
       ·
        show Act.put _ (some 77) _ = _
        simp only [Act.put, List.setIfInBounds_toArray, List.set_cons_zero, List.set_cons_succ, i64_w, i32_w]
        rfl
       refine one_ (i := 5) (N := some 78) (Fn.bl 8 63) rfl rfl (one_of HT_.out (by kernel_rfl)) (by decide) (fun K hK => ?_)
       refine goes_ Try.func118 (by kernel_rfl) rfl #[.pointer (some ⟨g, 0, none⟩), .slice Ao66 y1400.length co66] (by rfl) rfl rfl ta_ ?_
       with_reducible refine (spec_l1Cur_among.calls g s0_0 t1397 t1398 _ _ y1400 t1403 t1404 t1405 w0 _ ?side1 ?side2 ?side3 ?side4 ?side5 A58.out).mono ?_
       (case side1 => repeat (first | (with_reducible first | exact HI0.out | apply IsS100.alloc | apply IsS100.drewN | apply IsS100.drew | apply IsS100.set_1 | apply IsS100.set_2) | exact HI0.out))
       (case side2 => repeat (first | (with_reducible first | exact HB.out | apply below_alloc | apply pw_below_drewN | apply below_drew1 | refine below_set ?_ (IsS100.ge HI0.out)) | exact HB.out))
       (case side3 => exact tc0_ (Kd.R_reads' HO1402.out).2.2)
       (case side4 => exact (Kd.R_reads' HO1402.out).2.1)
       (case side5 => exact far_slice (IsS100.own_ne HI0.out HO1402.out (by decide)))
       rintro e w67 ⟨rfl, hi, hb, hk⟩
       have HS0_ := keep_cell hk (hHeld) (by first | (rw [add_block]; exact Kd.own_blk (IsS100.own_neS HI0.out HO_5.out (by decide))) | (show (Addr.add _ _).block ≠ _; rw [add_block]; exact Kd.own_blk (IsS100.own_neS HI0.out HO_5.out (by decide))) | exact Kd.own_blk (IsS100.own_neS HI0.out HO_5.out (by decide)))
       refine ⟨_, rfl, ?_⟩
       have n0_ := A_ (Kd.S_mono (Kd.S_keep (IsS100.apartS (show IsS100 w0 _ g s0_0 t1397 t1398 from by repeat (first | (with_reducible first | exact HI0.out | apply IsS100.alloc | apply IsS100.drewN | apply IsS100.drew | apply IsS100.set_1 | apply IsS100.set_2) | exact HI0.out)) (ts1_x HO_5.out) (by decide)) hk (fun _ h => h.2)) (fun _ h => h.1))
       have n1_ := A_ (Kd.R_mono (Kd.R_keep (IsS100.apart (show IsS100 w0 _ g s0_0 t1397 t1398 from by repeat (first | (with_reducible first | exact HI0.out | apply IsS100.alloc | apply IsS100.drewN | apply IsS100.drew | apply IsS100.set_1 | apply IsS100.set_2) | exact HI0.out)) (tr_x HL1399_0.out) (by decide)) hk (fun _ h => h.2)) (fun _ h => h.1))
       have n2_ := A_ (keep_cell hk HX1399_0.out (by first | (rw [add_block]; exact Kd.own_blk (IsS100.own_neS HI0.out HO_5.out (by decide))) | (show (Addr.add _ _).block ≠ _; rw [add_block]; exact Kd.own_blk (IsS100.own_neS HI0.out HO_5.out (by decide))) | exact Kd.own_blk (IsS100.own_neS HI0.out HO_5.out (by decide)) | (dsimp only; exact Kd.own_blk (IsS100.own_neS HI0.out HO_5.out (by decide)))))
       have n3_ := A_ (Kd.R_mono (Kd.R_keep (IsS100.apart (show IsS100 w0 _ g s0_0 t1397 t1398 from by repeat (first | (with_reducible first | exact HI0.out | apply IsS100.alloc | apply IsS100.drewN | apply IsS100.drew | apply IsS100.set_1 | apply IsS100.set_2) | exact HI0.out)) (tr_x HO1402.out) (by decide)) hk (fun _ h => h.2)) (fun _ h => h.1))
       have n4_ := A_ (KeepBut.trans (by repeat (first | (with_reducible first | exact HK.out | apply KeepBut.set_ | apply keep_drewN | apply keep_drew | apply keep_alloc) | exact HK.out)) hk (.inl rfl))
       have n5_ := A_ (hb)
       have n6_ := A_ (hi)
       clear HO_5
       clear HL1399_0
       clear HX1399_0
       clear HO1402
       clear HK
       clear HB
       clear HI0
       have HO_5 := n0_
       have HL1399_0 := n1_
       have HX1399_0 := n2_
       have HO1402 := n3_
       have HK := n4_
       have HB := n5_
       have HI0 := n6_
       clear n0_ n1_ n2_ n3_ n4_ n5_ n6_
       (try clear hb)
       (try clear hb2)
       (try clear hk)
       (try clear hi)
       have p60 : 0 ≤ (0 : Int) := (by omega)
       have q60 : (0 : Int) < (((rd_L1 x5_1 0).length : Int) : Int) := od_
       have qi60 : (0 < (rd_L1 x5_1 0).length) = True := eq_true (by omega)
       obtain ⟨go60, co60, eo60, gb60, gl60, cl60, HG60⟩ := Kd.R_form HL1399_0.out (by omega)
       (first | cases eo60 | (injection eo60 with ea_ en_ ec_; (first | subst ea_ | (injection ea_ with ea_; subst ea_)); subst ec_; clear en_))
       have GB60 := A_ gb60
       have GG60 := A_ HG60
       clear gb60 gl60 HG60
       obtain ⟨hx60_0, hf60_0⟩ := Kd.R_celln 0 HL1399_0.out (0 : Int) p60 q60
       (try rw [show ((0 : Int)).toNat = 0 from rfl] at hx60_0)
       (try simp only [Nat.reduceMul, Nat.zero_mul, Nat.zero_add, Nat.reduceAdd] at hx60_0)
       (try rw [show ((0 : Int)).toNat = 0 from rfl] at hf60_0)
       (try simp only [Nat.reduceMul, Nat.zero_mul, Nat.zero_add, Nat.reduceAdd] at hf60_0)
       replace p60 := eq_true p60
       replace q60 := eq_true q60
       have n_ := A_ (Kd.S_mono (ok' := (fun k_ => some k_ ≠ (.slice Ao66 y1400.length co66 : Value).ownBlock)) HO_5.out (fun k_ hk => hk.2))
       clear HO_5
       have HO_5 := n_
       clear n_
       have hq68 : (0 : Int) < (x5_1.length : Int) := (by have h_ : (0 : Int) < ((x5_1.length : Int) : Int) := od_; first | exact h_ | (have e_ := (Kd.S_reads' HO_5.out).1; omega) | simpa only [List.length_set, List.length_set] using h_)
       obtain ⟨oki68, ce68, hcl68, hM68, hcc68, hok68, hbk68⟩ := Kd.S_borrow HO_5.out [] (0 : Int) (by omega) hq68
       obtain ⟨ve68_0, rfl, ge68_0⟩ := hM68
       have hv68 := hcc68 0 _ rfl
       rw [Nat.add_zero, show ((Kd.slice 3 (Kd.int .i64))).sz = 1 from rfl, Nat.mul_one] at hv68
       replace hv68 := Option.some.inj (hv68.symm.trans HX1399_0.out)
       subst hv68
       clear hcc68 hcl68
       replace ge68_0 := (show Kd.R (Kd.int .i64) 3 _ _ _ _ (rd_L1 x5_1 0) from ge68_0)
       have HP68 := Kd.R_putg ge68_0 (0 : Int) t1403
       have HN0_go60 := A_ (show g ≠ go60 from by have h_ := IsS100.own_ne HI0.out HL1399_0.out (by decide); intro e_; exact h_ (by rw [e_]; rfl))
       rw [← Ny1406.out] at HP68
       have HS68 := hbk68 HP68.2 (fun k_ e_ => by injection e_ with e_; subst e_; exact ge68_0.1 _ rfl) (x' := y1406) (Kd.M_row HP68.1)
       rw [← Ny1408.out] at HS68
       have HQ68 := A_ HS68
       clear HP68 HS68 hbk68 hok68
       refine hK.out _ _ (HS0_) (fun hHeld => ?_)
       clear hK K
       refine norm_ (a' := ?_) ?_ ?_
       rotate_left
       ·
        show Act.put _ (some 78) _ = _
        simp only [Act.put, List.setIfInBounds_toArray, List.set_cons_zero, List.set_cons_succ, i64_w, i32_w]
        rfl
       refine pq_ 6 (some 79) (Fn.bl 8 127) HT_.out ?_
       refine last_ (i := 7) (N := none) (Fn.bl 8 255) rfl rfl (one_of HT_.out (by kernel_rfl)) (by decide) (fun K hK => ?_)
       refine skip_ (w1 := ?_) (by rfl) rfl ?_ ?_
       rotate_left
       ·
        go_simp
        rfl
       refine hK.out _ _ ?_
       clear hK K
       refine done_ (done_of HT_.out (by kernel_rfl)) ?_
       try go_wp2
       go_ret
       exact ⟨_, te_, by (with_reducible repeat (first | apply Kd.S_alloc | apply Kd.S_drewN | apply Kd.S_drew)); exact Kd.S_mono HQ68.out (fun _ hk => trivial), by repeat (first | (with_reducible first | exact HI0.out | apply IsS100.alloc | apply IsS100.drewN | apply IsS100.drew | apply IsS100.set_1 | apply IsS100.set_2 | refine IsS100.far ?_ HN0_go60.out _) | exact HI0.out), by repeat (first | (with_reducible first | exact HB.out | apply below_alloc | apply pw_below_drewN | apply below_drew1 | refine below_set ?_ (Nat.le_trans HL.out GB60.out) | refine below_set ?_ (IsS100.ge HI0.out)) | exact HB.out), by repeat (first | (with_reducible first | exact HK.out | apply KeepBut.set_ | apply keep_drewN | apply keep_drew | apply keep_alloc | refine keep_far ?_ GB60.out _) | exact HK.out)⟩
      ·
       rw [if_neg c59] at H
       exact absurd H (by simp)
     ·
      rw [if_neg c57] at H
      exact absurd H (by simp)
    ·
     rw [if_neg c56] at H
     have c56b0 : (t1396 == 0) = false := beq_eq_false_iff_ne.mpr c56
     have c56b1 : (t1396 != 0) = true := bne_iff_ne.mpr c56
     by_cases c70 : t1396 = 1
     ·
      rw [if_pos c70] at H
      have c70b0 : (t1396 == 1) = true := beq_iff_eq.mpr c70
      have c70b1 : (t1396 != 1) = false := bne_eq_false_iff_eq.mpr c70
      clear c70
      by_cases c71 : x5_1.length < 5864062014805
      ·
       rw [if_pos c71] at H
       have LMc71 := A_ c71
       clear c71
       obtain ⟨y1409, hy1409⟩ : ∃ y_ : List (List Int), y_ = (x5_1 ++ [[]]) := ⟨_, rfl⟩
       replace H : (some (y1409, t1397, t1398)) = some (r1, r2, r3) := ty_ hy1409 H
       have Ny1409 := A_ hy1409
       clear hy1409
       simp only [Option.some.injEq, Prod.mk.injEq] at H
       obtain ⟨rfl, rfl, rfl⟩ := H
       go_wp2_with (first | (refine gc_ 122 ?_; refine goesT_ (some 70) Try.func122 #[.pointer (some ⟨g, 0, none⟩), .int .i64 16] ?_; (with_reducible refine (spec_l1Cur_pick.calls g s0_0 x1001_1 x1002_1 16 t1396 t1397 t1398 w0 _ ?side1 ?side2 A55.out).mono ?_); (case side1 => repeat (first | (with_reducible first | exact HI0.out | apply IsS100.alloc | apply IsS100.drewN | apply IsS100.drew | apply IsS100.set_1 | apply IsS100.set_2) | exact HI0.out)); (case side2 => repeat (first | (with_reducible first | exact HB.out | apply below_alloc | apply pw_below_drewN | apply below_drew1 | refine below_set ?_ (IsS100.ge HI0.out)) | exact HB.out)); rintro e w72 ⟨rfl, hi, hb, hk⟩; refine ⟨_, rfl, ?_⟩; replace HO_5 := A_ (Kd.S_mono (Kd.S_keep (IsS100.apartS (show IsS100 w0 _ g s0_0 x1001_1 x1002_1 from by repeat (first | (with_reducible first | exact HI0.out | apply IsS100.alloc | apply IsS100.drewN | apply IsS100.drew | apply IsS100.set_1 | apply IsS100.set_2) | exact HI0.out)) (ts1_x HO_5.out) (by decide)) hk (fun _ h => h.2)) (fun _ h => h.1)); replace HK := A_ (KeepBut.trans (by repeat (first | (with_reducible first | exact HK.out | apply KeepBut.set_ | apply keep_drewN | apply keep_drew | apply keep_alloc) | exact HK.out)) hk (.inl rfl)); replace HB := A_ (hb); replace HI0 := A_ (hi); (try clear hb); (try clear hb2); (try clear hk); (try clear hi)) | ((with_reducible refine gate_builtin (b := .append) (xs := #[.tmp 82, .tmp 83]) rfl ?_); at_builtin; refine Kd.S_append (Kd.slice 3 (Kd.int .i64)) w.heap.size rfl (.tmp 82) (.tmp 83) 41 22 (.slice none 0 0) 24 rfl Try.underlying41 info22 rfl (by decide) (by omega) u5 x5_1 [] [.slice none 0 0] (fun _ => True) (fun _ => False) rfl rfl ?aP (fun _ hk => hk.elim) ?aF ?aO (Below.refl _ _) ?aS ?aL ?_; (case aP => exact ⟨_, rfl, Kd.R_nil _ _ _ _ _⟩); (case aF => exact (fun _ _ => trivial)); (case aO => exact (ts1_ (h := by exact Kd.S_mono HO_5.out (fun k_ hk => ⟨trivial, fun e_ => e_⟩)))); (case aS => exact (keep_size (w := w) (g := g) (row := none) (by repeat (first | (with_reducible first | exact HK.out | apply KeepBut.set_ | apply keep_drewN | apply keep_drew | apply keep_alloc) | exact HK.out)))); (case aL => have := LMc71.out; omega); intro v1410 w73 ho hb hg hat; rw [← Ny1409.out] at ho; have n0_ := A_ (IsS100.grown (by repeat (first | (with_reducible first | exact HI0.out | apply IsS100.alloc | apply IsS100.drewN | apply IsS100.drew | apply IsS100.set_1 | apply IsS100.set_2) | exact HI0.out)) hg (IsS100.own_neS HI0.out HO_5.out (by decide))); have n1_ := A_ (below_weaken (by repeat (first | (with_reducible first | exact HB.out | apply below_alloc | apply pw_below_drewN | apply below_drew1 | refine below_set ?_ (IsS100.ge HI0.out)) | exact HB.out)) HL.out hb); have n2_ := A_ (KeepBut.trans (by repeat (first | (with_reducible first | exact HK.out | apply KeepBut.set_ | apply keep_drewN | apply keep_drew | apply keep_alloc) | exact HK.out)) (KeepBut.of_grown hg g) (Kd.S_base2 HO_5.out)); have n3_ := A_ (ho); clear HI0; clear HB; clear HK; clear HO_5; have HI0 := n0_; have HB := n1_; have HK := n2_; have HO1411 := n3_; clear n0_ n1_ n2_ n3_; clear ho hb hg hat))
       go_ret
       exact ⟨_, te_, by (with_reducible repeat (first | apply Kd.S_alloc | apply Kd.S_drewN | apply Kd.S_drew)); exact HO1411.out, by repeat (first | (with_reducible first | exact HI0.out | apply IsS100.alloc | apply IsS100.drewN | apply IsS100.drew | apply IsS100.set_1 | apply IsS100.set_2) | exact HI0.out), by repeat (first | (with_reducible first | exact HB.out | apply below_alloc | apply pw_below_drewN | apply below_drew1 | refine below_set ?_ (IsS100.ge HI0.out)) | exact HB.out), by repeat (first | (with_reducible first | exact HK.out | apply KeepBut.set_ | apply keep_drewN | apply keep_drew | apply keep_alloc) | exact HK.out)⟩
      ·
       rw [if_neg c71] at H
       exact absurd H (by simp)
     ·
      rw [if_neg c70] at H
      have c70b0 : (t1396 == 1) = false := beq_eq_false_iff_ne.mpr c70
      have c70b1 : (t1396 != 1) = true := bne_iff_ne.mpr c70
      by_cases c74 : t1396 = 2
      ·
       rw [if_pos c74] at H
       have c74b0 : (t1396 == 2) = true := beq_iff_eq.mpr c74
       have c74b1 : (t1396 != 2) = false := bne_eq_false_iff_eq.mpr c74
       clear c74
       obtain ⟨y1412, hy1412⟩ : ∃ y_ : List Int, y_ = (([wrap64 ((wrap64 (1 + t1339)) + 1)] : List Int)) := ⟨_, rfl⟩
       replace H : (if x5_1.length < 5864062014805 then (some ((x5_1 ++ [y1412]), t1397, t1398)) else (none)) = some (r1, r2, r3) := ty_ hy1412 H
       have Ny1412 := A_ hy1412
       clear hy1412
       by_cases c75 : x5_1.length < 5864062014805
       ·
        rw [if_pos c75] at H
        have LMc75 := A_ c75
        clear c75
        obtain ⟨y1415, hy1415⟩ : ∃ y_ : List (List Int), y_ = (x5_1 ++ [y1412]) := ⟨_, rfl⟩
        replace H : (some (y1415, t1397, t1398)) = some (r1, r2, r3) := ty_ hy1415 H
        have Ny1415 := A_ hy1415
        clear hy1415
        simp only [Option.some.injEq, Prod.mk.injEq] at H
        obtain ⟨rfl, rfl, rfl⟩ := H
        go_wp2_with (first | (refine gc_ 122 ?_; refine goesT_ (some 70) Try.func122 #[.pointer (some ⟨g, 0, none⟩), .int .i64 16] ?_; (with_reducible refine (spec_l1Cur_pick.calls g s0_0 x1001_1 x1002_1 16 t1396 t1397 t1398 w0 _ ?side1 ?side2 A55.out).mono ?_); (case side1 => repeat (first | (with_reducible first | exact HI0.out | apply IsS100.alloc | apply IsS100.drewN | apply IsS100.drew | apply IsS100.set_1 | apply IsS100.set_2) | exact HI0.out)); (case side2 => repeat (first | (with_reducible first | exact HB.out | apply below_alloc | apply pw_below_drewN | apply below_drew1 | refine below_set ?_ (IsS100.ge HI0.out)) | exact HB.out)); rintro e w76 ⟨rfl, hi, hb, hk⟩; refine ⟨_, rfl, ?_⟩; replace HO_5 := A_ (Kd.S_mono (Kd.S_keep (IsS100.apartS (show IsS100 w0 _ g s0_0 x1001_1 x1002_1 from by repeat (first | (with_reducible first | exact HI0.out | apply IsS100.alloc | apply IsS100.drewN | apply IsS100.drew | apply IsS100.set_1 | apply IsS100.set_2) | exact HI0.out)) (ts1_x HO_5.out) (by decide)) hk (fun _ h => h.2)) (fun _ h => h.1)); replace HK := A_ (KeepBut.trans (by repeat (first | (with_reducible first | exact HK.out | apply KeepBut.set_ | apply keep_drewN | apply keep_drew | apply keep_alloc) | exact HK.out)) hk (.inl rfl)); replace HB := A_ (hb); replace HI0 := A_ (hi); (try clear hb); (try clear hb2); (try clear hk); (try clear hi)) | (refine gd_ 90 ?_; refine Kd.R_lit (Kd.int .i64) _ 3 ?hg (N := 90) ?hd (xs := ([wrap64 ((wrap64 (1 + t1339)) + 1)] : List Int)) (inner := [.int .i64 (wrap64 ((wrap64 (1 + t1339)) + 1))]) (ok := fun _ => True) (okp := fun _ => True) ?hr ?hp (fun _ hk => hk) trivial (Below.refl _ _) (Nat.le_refl _) (by simp) ?_; (case hd => rfl); (case hg => rfl); (case hr => first | (go_simp; done) | (go_simp; rfl)); (case hp => exact (Reps.one (show Kd.M (Kd.int .i64) _ _ _ (wrap64 ((wrap64 (1 + t1339)) + 1)) [.int .i64 (wrap64 ((wrap64 (1 + t1339)) + 1))] from rfl) (Reps.none _ _))); intro v1413 w77 ho78 hb hg_ hnew_; clear hg_ hnew_; (first | rw [← Ny1412.out] at ho78 | (simp only [Int.reduceToNat] at ho78; rw [← Ny1412.out] at ho78)); replace HO_5 := A_ (Kd.S_elder' (ts1_x HO_5.out) (Kd.R_base ho78) hb); have HO1414 := A_ (Kd.R_lower ho78 (keep_size (w := w) (g := g) (row := none) (by repeat (first | (with_reducible first | exact HK.out | apply KeepBut.set_ | apply keep_drewN | apply keep_drew | apply keep_alloc) | exact HK.out)))); replace HK := A_ (KeepBut.trans (by repeat (first | (with_reducible first | exact HK.out | apply KeepBut.set_ | apply keep_drewN | apply keep_drew | apply keep_alloc) | exact HK.out)) (KeepBut.of_below hb g none) (.inl rfl)); replace HB := A_ (below_step (by repeat (first | (with_reducible first | exact HB.out | apply below_alloc | apply pw_below_drewN | apply below_drew1 | refine below_set ?_ (IsS100.ge HI0.out)) | exact HB.out)) hb); replace HI0 := A_ (IsS100.below (by repeat (first | (with_reducible first | exact HI0.out | apply IsS100.alloc | apply IsS100.drewN | apply IsS100.drew | apply IsS100.set_1 | apply IsS100.set_2) | exact HI0.out)) hb); clear hb ho78; obtain ⟨Ao80, co80, eo80⟩ := Kd.R_slice HO1414.out; subst eo80) | ((with_reducible refine gate_builtin (b := .append) (xs := #[.tmp 87, .tmp 91]) rfl ?_); at_builtin; refine Kd.S_append (Kd.slice 3 (Kd.int .i64)) w.heap.size rfl (.tmp 87) (.tmp 91) 41 22 (.slice none 0 0) 24 rfl Try.underlying41 info22 rfl (by decide) (by omega) u5 x5_1 y1412 [.slice Ao80 y1412.length co80] (fun _ => True) (fun k_ => some k_ = (.slice Ao80 y1412.length co80 : Value).ownBlock) rfl rfl ?aP (fun k_ hk_ => ((Kd.R_mono (ok' := fun k_ => ((fun _ => True)) k_ ∧ some k_ ≠ (u5 : Value).ownBlock) (Kd.R_apart' (HO1414.out) (Kd.S_typed HO_5.out) (by decide)) (fun k_ hk => ⟨trivial, hk.2⟩))).1 k_ hk_.symm) ?aF ?aO (Below.refl _ _) ?aS ?aL ?_; (case aP => exact Kd.M_row (Kd.R_mono (Kd.R_tight rfl (Kd.R_mono (ok' := fun k_ => ((fun _ => True)) k_ ∧ some k_ ≠ (u5 : Value).ownBlock) (Kd.R_apart' (HO1414.out) (Kd.S_typed HO_5.out) (by decide)) (fun k_ hk => ⟨trivial, hk.2⟩))) (fun _ h_ => h_))); (case aF => exact (fun _ _ => trivial)); (case aO => exact (ts1_ (h := by exact Kd.S_mono HO_5.out (fun k_ hk => ⟨trivial, fun e_ => hk.2 e_⟩)))); (case aS => exact (keep_size (w := w) (g := g) (row := none) (by repeat (first | (with_reducible first | exact HK.out | apply KeepBut.set_ | apply keep_drewN | apply keep_drew | apply keep_alloc) | exact HK.out)))); (case aL => have := LMc75.out; omega); intro v1416 w79 ho hb hg hat; rw [← Ny1415.out] at ho; have n0_ := A_ (IsS100.grown (by repeat (first | (with_reducible first | exact HI0.out | apply IsS100.alloc | apply IsS100.drewN | apply IsS100.drew | apply IsS100.set_1 | apply IsS100.set_2) | exact HI0.out)) hg (IsS100.own_neS HI0.out HO_5.out (by decide))); have n1_ := A_ (below_weaken (by repeat (first | (with_reducible first | exact HB.out | apply below_alloc | apply pw_below_drewN | apply below_drew1 | refine below_set ?_ (IsS100.ge HI0.out)) | exact HB.out)) HL.out hb); have n2_ := A_ (KeepBut.trans (by repeat (first | (with_reducible first | exact HK.out | apply KeepBut.set_ | apply keep_drewN | apply keep_drew | apply keep_alloc) | exact HK.out)) (KeepBut.of_grown hg g) (Kd.S_base2 HO_5.out)); have n3_ := A_ (ho); clear HI0; clear HB; clear HK; clear HO_5; clear HO1414; have HI0 := n0_; have HB := n1_; have HK := n2_; have HO1417 := n3_; clear n0_ n1_ n2_ n3_; clear ho hb hg hat))
        go_ret
        exact ⟨_, te_, by (with_reducible repeat (first | apply Kd.S_alloc | apply Kd.S_drewN | apply Kd.S_drew)); exact HO1417.out, by repeat (first | (with_reducible first | exact HI0.out | apply IsS100.alloc | apply IsS100.drewN | apply IsS100.drew | apply IsS100.set_1 | apply IsS100.set_2) | exact HI0.out), by repeat (first | (with_reducible first | exact HB.out | apply below_alloc | apply pw_below_drewN | apply below_drew1 | refine below_set ?_ (IsS100.ge HI0.out)) | exact HB.out), by repeat (first | (with_reducible first | exact HK.out | apply KeepBut.set_ | apply keep_drewN | apply keep_drew | apply keep_alloc) | exact HK.out)⟩
       ·
        rw [if_neg c75] at H
        exact absurd H (by simp)
      ·
       rw [if_neg c74] at H
       have c74b0 : (t1396 == 2) = false := beq_eq_false_iff_ne.mpr c74
       have c74b1 : (t1396 != 2) = true := bne_iff_ne.mpr c74
       by_cases c81 : t1396 = 3
       ·
        rw [if_pos c81] at H
        have c81b0 : (t1396 == 3) = true := beq_iff_eq.mpr c81
        have c81b1 : (t1396 != 3) = false := bne_eq_false_iff_eq.mpr c81
        clear c81
        obtain ⟨y1418, hy1418⟩ : ∃ y_ : List Int, y_ = (([0, 1, 2, 3, 4, 5] : List Int)) := ⟨_, rfl⟩
        replace H : (if x5_1.length < 5864062014805 then (some ((x5_1 ++ [y1418]), t1397, t1398)) else (none)) = some (r1, r2, r3) := ty_ hy1418 H
        have Ny1418 := A_ hy1418
        clear hy1418
        by_cases c82 : x5_1.length < 5864062014805
        ·
         rw [if_pos c82] at H
         have LMc82 := A_ c82
         clear c82
         obtain ⟨y1421, hy1421⟩ : ∃ y_ : List (List Int), y_ = (x5_1 ++ [y1418]) := ⟨_, rfl⟩
         replace H : (some (y1421, t1397, t1398)) = some (r1, r2, r3) := ty_ hy1421 H
         have Ny1421 := A_ hy1421
         clear hy1421
         simp only [Option.some.injEq, Prod.mk.injEq] at H
         obtain ⟨rfl, rfl, rfl⟩ := H
         go_wp2_with (first | (refine gc_ 122 ?_; refine goesT_ (some 70) Try.func122 #[.pointer (some ⟨g, 0, none⟩), .int .i64 16] ?_; (with_reducible refine (spec_l1Cur_pick.calls g s0_0 x1001_1 x1002_1 16 t1396 t1397 t1398 w0 _ ?side1 ?side2 A55.out).mono ?_); (case side1 => repeat (first | (with_reducible first | exact HI0.out | apply IsS100.alloc | apply IsS100.drewN | apply IsS100.drew | apply IsS100.set_1 | apply IsS100.set_2) | exact HI0.out)); (case side2 => repeat (first | (with_reducible first | exact HB.out | apply below_alloc | apply pw_below_drewN | apply below_drew1 | refine below_set ?_ (IsS100.ge HI0.out)) | exact HB.out)); rintro e w83 ⟨rfl, hi, hb, hk⟩; refine ⟨_, rfl, ?_⟩; replace HO_5 := A_ (Kd.S_mono (Kd.S_keep (IsS100.apartS (show IsS100 w0 _ g s0_0 x1001_1 x1002_1 from by repeat (first | (with_reducible first | exact HI0.out | apply IsS100.alloc | apply IsS100.drewN | apply IsS100.drew | apply IsS100.set_1 | apply IsS100.set_2) | exact HI0.out)) (ts1_x HO_5.out) (by decide)) hk (fun _ h => h.2)) (fun _ h => h.1)); replace HK := A_ (KeepBut.trans (by repeat (first | (with_reducible first | exact HK.out | apply KeepBut.set_ | apply keep_drewN | apply keep_drew | apply keep_alloc) | exact HK.out)) hk (.inl rfl)); replace HB := A_ (hb); replace HI0 := A_ (hi); (try clear hb); (try clear hb2); (try clear hk); (try clear hi)) | (refine gd_ 96 ?_; refine Kd.R_lit (Kd.int .i64) _ 3 ?hg (N := 96) ?hd (xs := ([0, 1, 2, 3, 4, 5] : List Int)) (inner := [.int .i64 0, .int .i64 1, .int .i64 2, .int .i64 3, .int .i64 4, .int .i64 5]) (ok := fun _ => True) (okp := fun _ => True) ?hr ?hp (fun _ hk => hk) trivial (Below.refl _ _) (Nat.le_refl _) (by simp) ?_; (case hd => rfl); (case hg => rfl); (case hr => first | (go_simp; done) | (go_simp; rfl)); (case hp => exact (Reps.one (show Kd.M (Kd.int .i64) _ _ _ 0 [.int .i64 0] from rfl) (Reps.one (show Kd.M (Kd.int .i64) _ _ _ 1 [.int .i64 1] from rfl) (Reps.one (show Kd.M (Kd.int .i64) _ _ _ 2 [.int .i64 2] from rfl) (Reps.one (show Kd.M (Kd.int .i64) _ _ _ 3 [.int .i64 3] from rfl) (Reps.one (show Kd.M (Kd.int .i64) _ _ _ 4 [.int .i64 4] from rfl) (Reps.one (show Kd.M (Kd.int .i64) _ _ _ 5 [.int .i64 5] from rfl) (Reps.none _ _)))))))); intro v1419 w84 ho85 hb hg_ hnew_; clear hg_ hnew_; (first | rw [← Ny1418.out] at ho85 | (simp only [Int.reduceToNat] at ho85; rw [← Ny1418.out] at ho85)); replace HO_5 := A_ (Kd.S_elder' (ts1_x HO_5.out) (Kd.R_base ho85) hb); have HO1420 := A_ (Kd.R_lower ho85 (keep_size (w := w) (g := g) (row := none) (by repeat (first | (with_reducible first | exact HK.out | apply KeepBut.set_ | apply keep_drewN | apply keep_drew | apply keep_alloc) | exact HK.out)))); replace HK := A_ (KeepBut.trans (by repeat (first | (with_reducible first | exact HK.out | apply KeepBut.set_ | apply keep_drewN | apply keep_drew | apply keep_alloc) | exact HK.out)) (KeepBut.of_below hb g none) (.inl rfl)); replace HB := A_ (below_step (by repeat (first | (with_reducible first | exact HB.out | apply below_alloc | apply pw_below_drewN | apply below_drew1 | refine below_set ?_ (IsS100.ge HI0.out)) | exact HB.out)) hb); replace HI0 := A_ (IsS100.below (by repeat (first | (with_reducible first | exact HI0.out | apply IsS100.alloc | apply IsS100.drewN | apply IsS100.drew | apply IsS100.set_1 | apply IsS100.set_2) | exact HI0.out)) hb); clear hb ho85; obtain ⟨Ao87, co87, eo87⟩ := Kd.R_slice HO1420.out; subst eo87) | ((with_reducible refine gate_builtin (b := .append) (xs := #[.tmp 95, .tmp 97]) rfl ?_); at_builtin; refine Kd.S_append (Kd.slice 3 (Kd.int .i64)) w.heap.size rfl (.tmp 95) (.tmp 97) 41 22 (.slice none 0 0) 24 rfl Try.underlying41 info22 rfl (by decide) (by omega) u5 x5_1 y1418 [.slice Ao87 y1418.length co87] (fun _ => True) (fun k_ => some k_ = (.slice Ao87 y1418.length co87 : Value).ownBlock) rfl rfl ?aP (fun k_ hk_ => ((Kd.R_mono (ok' := fun k_ => ((fun _ => True)) k_ ∧ some k_ ≠ (u5 : Value).ownBlock) (Kd.R_apart' (HO1420.out) (Kd.S_typed HO_5.out) (by decide)) (fun k_ hk => ⟨trivial, hk.2⟩))).1 k_ hk_.symm) ?aF ?aO (Below.refl _ _) ?aS ?aL ?_; (case aP => exact Kd.M_row (Kd.R_mono (Kd.R_tight rfl (Kd.R_mono (ok' := fun k_ => ((fun _ => True)) k_ ∧ some k_ ≠ (u5 : Value).ownBlock) (Kd.R_apart' (HO1420.out) (Kd.S_typed HO_5.out) (by decide)) (fun k_ hk => ⟨trivial, hk.2⟩))) (fun _ h_ => h_))); (case aF => exact (fun _ _ => trivial)); (case aO => exact (ts1_ (h := by exact Kd.S_mono HO_5.out (fun k_ hk => ⟨trivial, fun e_ => hk.2 e_⟩)))); (case aS => exact (keep_size (w := w) (g := g) (row := none) (by repeat (first | (with_reducible first | exact HK.out | apply KeepBut.set_ | apply keep_drewN | apply keep_drew | apply keep_alloc) | exact HK.out)))); (case aL => have := LMc82.out; omega); intro v1422 w86 ho hb hg hat; rw [← Ny1421.out] at ho; have n0_ := A_ (IsS100.grown (by repeat (first | (with_reducible first | exact HI0.out | apply IsS100.alloc | apply IsS100.drewN | apply IsS100.drew | apply IsS100.set_1 | apply IsS100.set_2) | exact HI0.out)) hg (IsS100.own_neS HI0.out HO_5.out (by decide))); have n1_ := A_ (below_weaken (by repeat (first | (with_reducible first | exact HB.out | apply below_alloc | apply pw_below_drewN | apply below_drew1 | refine below_set ?_ (IsS100.ge HI0.out)) | exact HB.out)) HL.out hb); have n2_ := A_ (KeepBut.trans (by repeat (first | (with_reducible first | exact HK.out | apply KeepBut.set_ | apply keep_drewN | apply keep_drew | apply keep_alloc) | exact HK.out)) (KeepBut.of_grown hg g) (Kd.S_base2 HO_5.out)); have n3_ := A_ (ho); clear HI0; clear HB; clear HK; clear HO_5; clear HO1420; have HI0 := n0_; have HB := n1_; have HK := n2_; have HO1423 := n3_; clear n0_ n1_ n2_ n3_; clear ho hb hg hat))
         go_ret
         exact ⟨_, te_, by (with_reducible repeat (first | apply Kd.S_alloc | apply Kd.S_drewN | apply Kd.S_drew)); exact HO1423.out, by repeat (first | (with_reducible first | exact HI0.out | apply IsS100.alloc | apply IsS100.drewN | apply IsS100.drew | apply IsS100.set_1 | apply IsS100.set_2) | exact HI0.out), by repeat (first | (with_reducible first | exact HB.out | apply below_alloc | apply pw_below_drewN | apply below_drew1 | refine below_set ?_ (IsS100.ge HI0.out)) | exact HB.out), by repeat (first | (with_reducible first | exact HK.out | apply KeepBut.set_ | apply keep_drewN | apply keep_drew | apply keep_alloc) | exact HK.out)⟩
        ·
         rw [if_neg c82] at H
         exact absurd H (by simp)
       ·
        rw [if_neg c81] at H
        have c81b0 : (t1396 == 3) = false := beq_eq_false_iff_ne.mpr c81
        have c81b1 : (t1396 != 3) = true := bne_iff_ne.mpr c81
        simp only [Option.some.injEq, Prod.mk.injEq] at H
        obtain ⟨rfl, rfl, rfl⟩ := H
        go_wp2_with (first | (refine gc_ 122 ?_; refine goesT_ (some 70) Try.func122 #[.pointer (some ⟨g, 0, none⟩), .int .i64 16] ?_; (with_reducible refine (spec_l1Cur_pick.calls g s0_0 x1001_1 x1002_1 16 t1396 t1397 t1398 w0 _ ?side1 ?side2 A55.out).mono ?_); (case side1 => repeat (first | (with_reducible first | exact HI0.out | apply IsS100.alloc | apply IsS100.drewN | apply IsS100.drew | apply IsS100.set_1 | apply IsS100.set_2) | exact HI0.out)); (case side2 => repeat (first | (with_reducible first | exact HB.out | apply below_alloc | apply pw_below_drewN | apply below_drew1 | refine below_set ?_ (IsS100.ge HI0.out)) | exact HB.out)); rintro e w88 ⟨rfl, hi, hb, hk⟩; refine ⟨_, rfl, ?_⟩; replace HO_5 := A_ (Kd.S_mono (Kd.S_keep (IsS100.apartS (show IsS100 w0 _ g s0_0 x1001_1 x1002_1 from by repeat (first | (with_reducible first | exact HI0.out | apply IsS100.alloc | apply IsS100.drewN | apply IsS100.drew | apply IsS100.set_1 | apply IsS100.set_2) | exact HI0.out)) (ts1_x HO_5.out) (by decide)) hk (fun _ h => h.2)) (fun _ h => h.1)); replace HK := A_ (KeepBut.trans (by repeat (first | (with_reducible first | exact HK.out | apply KeepBut.set_ | apply keep_drewN | apply keep_drew | apply keep_alloc) | exact HK.out)) hk (.inl rfl)); replace HB := A_ (hb); replace HI0 := A_ (hi); (try clear hb); (try clear hb2); (try clear hk); (try clear hi)))
        go_ret
        exact ⟨_, te_, by (with_reducible repeat (first | apply Kd.S_alloc | apply Kd.S_drewN | apply Kd.S_drew)); exact HO_5.out, by repeat (first | (with_reducible first | exact HI0.out | apply IsS100.alloc | apply IsS100.drewN | apply IsS100.drew | apply IsS100.set_1 | apply IsS100.set_2) | exact HI0.out), by repeat (first | (with_reducible first | exact HB.out | apply below_alloc | apply pw_below_drewN | apply below_drew1 | refine below_set ?_ (IsS100.ge HI0.out)) | exact HB.out), by repeat (first | (with_reducible first | exact HK.out | apply KeepBut.set_ | apply keep_drewN | apply keep_drew | apply keep_alloc) | exact HK.out)⟩

end
end Go.Proofs.Ythlcaikplebpmaa.P
