-- printed functions (wip/slim.py)
import Derived.Test.YtnpacpdpgngdpaaPx0
import Derived.Test.YtnpacpdpgngdpaaQb3e74b462c
import Derived.Test.YtnpacpdpgngdpaaQ0cbac963b1
import Derived.Test.YtnpacpdpgngdpaaQ9aa0533272
namespace Go.Proofs.Ytnpacpdpgngdpaa.P
noncomputable section
set_option maxHeartbeats 8000000
set_option maxRecDepth 100000
open Go.RowKit Go.Proofs.YtnpacpdpgngdpaaW.PrintWords Go.Proofs.YtnpacpdpgngdpaaW.PrintLast Go.Proofs.YtnpacpdpgngdpaaW.PrintMore
attribute [local go_sem] max2_int min2_int max_two min_two max_three min_three max_four min_four   -- for this text's walks alone
set_option linter.unusedVariables false
set_option linter.unusedSimpArgs false

/-! ### laws_kLess: function 75 -/
def laws_kLess.l0 : Nat → List Int → List Int → Int → Int → Option (Bool)
 | 0, _, _, _, _ => none
 | k + 1, x0, x1, x7, x8 => if x8 < x7 then (if 0 ≤ x8 then (if x8 < (x0.length : Int) then (if x8 < (x1.length : Int) then (if (rd x0 x8) = (rd x1 x8) then (laws_kLess.l0 k x0 x1 x7 (wrap64 (x8 + 1))) else (some (decide ((rd x0 x8) < (rd x1 x8))))) else (none)) else (none)) else (none)) else (some false)
def laws_kLess.f (k : Nat) (l0 : List Int) (l1 : List Int) : Option (Bool) := laws_kLess.l0 k l0 l1 (l0.length : Int) 0
theorem laws_kLess.mono_l : ∀ k, (∀ y0 y1 y2 y3, LeO (laws_kLess.l0 k y0 y1 y2 y3) (laws_kLess.l0 (k + 1) y0 y1 y2 y3))
 | 0 => fun _ _ _ _ r h => by simp [laws_kLess.l0] at h
 | k + 1 => by
  have ih0 := laws_kLess.mono_l k
  ·
   intro y0 y1 y2 y3
   unfold laws_kLess.l0
   repeat' first | (with_reducible first | exact ih0 _ _ _ _ | exact LeO.refl _ | exact LeO.none _ | refine LeO.ite ?_ ?_ | refine LeO.bind ?_ (fun _ => ?_)) | exact ih0 _ _ _ _ | exact LeO.none _ | refine LeO.ite ?_ ?_ | refine LeO.bind ?_ (fun _ => ?_)
theorem laws_kLess.mono : ∀ a0 a1 k, LeO (laws_kLess.f k a0 a1) (laws_kLess.f (k + 1) a0 a1) := by
 intro a0 a1 k
 have ih0 := laws_kLess.mono_l k
 unfold laws_kLess.f
 repeat' first | (with_reducible first | exact ih0 _ _ _ _ | exact LeO.refl _ | exact LeO.none _ | refine LeO.ite ?_ ?_ | refine LeO.bind ?_ (fun _ => ?_)) | exact ih0 _ _ _ _ | exact LeO.none _ | refine LeO.ite ?_ ?_ | refine LeO.bind ?_ (fun _ => ?_)
theorem laws_kLess.calls (k : Nat) (A0 : Option Addr) (c0 : Nat) (l0 : List Int) (A1 : Option Addr) (c1 : Nat) (l1 : List Int) (r : Bool) (w : World) (hr0 : Kd.C (Kd.int .i64) w A0 l0.length l0) (hc0 : l0.length ≤ c0) (hr1 : Kd.C (Kd.int .i64) w A1 l1.length l1) (hc1 : l1.length ≤ c1) (h : laws_kLess.f k l0 l1 = some r) :
  Calls Try.prog 75 #[.slice A0 l0.length c0, .slice A1 l1.length c1] w fun e w' => e = .returned (.bool r) ∧ Drawn0 w w' := by
 have HR0 := A_ hr0
 have HC0 := A_ hc0
 clear hr0 hc0
 have HR1 := A_ hr1
 have HC1 := A_ hc1
 clear hr1 hc1
 have H : (laws_kLess.l0 k l0 l1 (l0.length : Int) 0) = some r := h
 clear h
 have H' := A_ H
 clear H
 go_enter Try.func75, Try.ntmps75
 go_wp2
 repeat (go_quiet (fail); try go_wp2)
 go_loopg [8] k (fun kq v8 w' => ∃ (x8_1 : Int), v8 = .int .i64 x8_1 ∧ Aside0 (laws_kLess.l0 kq l0 l1 (l0.length : Int) x8_1 = some r) ∧ Aside0 (kq ≤ k) ∧ Drawn0 w w')
 case atStart => exact ⟨(0), tf_, H', ⟨Nat.le_refl _⟩, dr_⟩
 case round =>
  clear H'
  try clear c1
  try clear p2
  obtain ⟨x8_1, rfl, HA, HK1, ⟨m1, rfl⟩⟩ := hrel
  cases gk with
  | zero => exact absurd HA.out (by simp [laws_kLess.l0])
  | succ k1 =>
   have H := HA.out
   clear HA
   simp only [laws_kLess.l0] at H
   by_cases c3 : x8_1 < (l0.length : Int)
   ·
    rw [if_pos c3] at H
    have c3b0 := decide_eq_true c3
    clear c3
    by_cases c4 : 0 ≤ x8_1
    ·
     rw [if_pos c4] at H
     have c4b0 := decide_eq_true c4
     clear c4
     by_cases c5 : x8_1 < (l0.length : Int)
     ·
      rw [if_pos c5] at H
      have c5b0 := decide_eq_true c5
      clear c5
      by_cases c6 : x8_1 < (l1.length : Int)
      ·
       rw [if_pos c6] at H
       have c6b0 := decide_eq_true c6
       clear c6
       by_cases c7 : (rd l0 x8_1) = (rd l1 x8_1)
       ·
        rw [if_pos c7] at H
        have c7b0 : ((rd l0 x8_1) == (rd l1 x8_1)) = true := beq_iff_eq.mpr c7
        have c7b1 : ((rd l0 x8_1) != (rd l1 x8_1)) = false := bne_eq_false_iff_eq.mpr c7
        clear c7
        have H' := A_ H
        clear H
        have p1202 : 0 ≤ (x8_1 : Int) := od_
        have q1202 : x8_1 < (l0.length : Int) := od_
        obtain ⟨ad1202, e1202, hx1202_0⟩ := Kd.at_int HR0.out x8_1 p1202 q1202
        cases e1202
        replace p1202 := eq_true p1202
        replace q1202 := eq_true q1202
        have p1203 : 0 ≤ (x8_1 : Int) := od_
        have q1203 : x8_1 < (l1.length : Int) := od_
        obtain ⟨ad1203, e1203, hx1203_0⟩ := Kd.at_int HR1.out x8_1 p1203 q1203
        cases e1203
        replace p1203 := eq_true p1203
        replace q1203 := eq_true q1203
        go_wp2
        repeat (go_quiet (fail); try go_wp2)
        go_roundg k1
        case measure => have := HK1.out; omega
        case rel => exact ⟨(wrap64 (x8_1 + 1)), tf_, H', ⟨by have := HK1.out; omega⟩, dr_⟩
       ·
        rw [if_neg c7] at H
        have c7b0 : ((rd l0 x8_1) == (rd l1 x8_1)) = false := beq_eq_false_iff_ne.mpr c7
        have c7b1 : ((rd l0 x8_1) != (rd l1 x8_1)) = true := bne_iff_ne.mpr c7
        obtain rfl := Option.some.inj H
        have p1202 : 0 ≤ (x8_1 : Int) := od_
        have q1202 : x8_1 < (l0.length : Int) := od_
        obtain ⟨ad1202, e1202, hx1202_0⟩ := Kd.at_int HR0.out x8_1 p1202 q1202
        cases e1202
        replace p1202 := eq_true p1202
        replace q1202 := eq_true q1202
        have p1203 : 0 ≤ (x8_1 : Int) := od_
        have q1203 : x8_1 < (l1.length : Int) := od_
        obtain ⟨ad1203, e1203, hx1203_0⟩ := Kd.at_int HR1.out x8_1 p1203 q1203
        cases e1203
        replace p1203 := eq_true p1203
        replace q1203 := eq_true q1203
        have p1204 : 0 ≤ (x8_1 : Int) := od_
        have q1204 : x8_1 < (l0.length : Int) := od_
        obtain ⟨ad1204, e1204, hx1204_0⟩ := Kd.at_int HR0.out x8_1 p1204 q1204
        obtain rfl : ad1202 = ad1204 := (by injection e1204)
        replace p1204 := eq_true p1204
        replace q1204 := eq_true q1204
        have p1205 : 0 ≤ (x8_1 : Int) := od_
        have q1205 : x8_1 < (l1.length : Int) := od_
        obtain ⟨ad1205, e1205, hx1205_0⟩ := Kd.at_int HR1.out x8_1 p1205 q1205
        obtain rfl : ad1203 = ad1205 := (by injection e1205)
        replace p1205 := eq_true p1205
        replace q1205 := eq_true q1205
        go_wp2
        repeat (go_quiet (fail); try go_wp2)
        go_ret
        exact ⟨tf_, dr_⟩
      ·
       rw [if_neg c6] at H
       exact absurd H (by simp)
     ·
      rw [if_neg c5] at H
      exact absurd H (by simp)
    ·
     rw [if_neg c4] at H
     exact absurd H (by simp)
   ·
    rw [if_neg c3] at H
    have c3b0 := decide_eq_false c3
    clear c3
    obtain rfl := Option.some.inj H
    go_wp2
    repeat (go_quiet (fail); try go_wp2)
    go_ret
    exact ⟨tf_, dr_⟩

/-! ### spec_DrawCountGoingOn: function 76 -/
def spec_DrawCountGoingOn.l0 : Nat → Int → List Int → Int → List Int → Int → Int → Option (Int × List Int)
 | 0, _, _, _, _, _, _ => none
 | k + 1, x5, x6, x7, x1207000, x1207001, x1207002 => if x7 > 0 then ((spec_l1Most.f 1 x5).bind fun t1216 => ((spec_l1Cur_pick.f x1207000 x1207001 x1207002 t1216).bind fun bt1217 => (if x6.length < 17592186044416 then (spec_DrawCountGoingOn.l0 k x5 (x6 ++ [bt1217.1]) (wrap64 (x7 - 1)) x1207000 bt1217.2.1 bt1217.2.2) else (none)))) else ((spec_l1Cur_one.f x1207000 x1207001 x1207002 12).bind fun bt1223 => (if bt1223.1 = true then ((spec_l1Cur_among.f x1207000 bt1223.2.1 bt1223.2.2 (([(-1), x5] : List Int))).bind fun bt1229 => (if x6.length < 17592186044416 then (some (x5, (x6 ++ [bt1229.1]))) else (none))) else (some (x5, x6))))
def spec_DrawCountGoingOn.f (k : Nat) (l0 : List Int) : Option (Int × List Int) := (spec_l1Cur_among.f l0 0 0 (([1, 4, 5, 6, 7, 8, 9, 0] : List Int))).bind fun bt1210 => ((spec_l1Cur_pick.f l0 bt1210.2.1 bt1210.2.2 4).bind fun bt1213 => (spec_DrawCountGoingOn.l0 k bt1210.1 ([] : List Int) bt1213.1 l0 bt1213.2.1 bt1213.2.2))
theorem spec_DrawCountGoingOn.mono_l : ∀ k, (∀ y0 y1 y2 y3 y4 y5, LeO (spec_DrawCountGoingOn.l0 k y0 y1 y2 y3 y4 y5) (spec_DrawCountGoingOn.l0 (k + 1) y0 y1 y2 y3 y4 y5))
 | 0 => fun _ _ _ _ _ _ r h => by simp [spec_DrawCountGoingOn.l0] at h
 | k + 1 => by
  have ih0 := spec_DrawCountGoingOn.mono_l k
  ·
   intro y0 y1 y2 y3 y4 y5
   unfold spec_DrawCountGoingOn.l0
   repeat' first | (with_reducible first | exact ih0 _ _ _ _ _ _ | exact LeO.refl _ | exact LeO.none _ | refine LeO.ite ?_ ?_ | refine LeO.bind ?_ (fun _ => ?_)) | exact ih0 _ _ _ _ _ _ | exact LeO.none _ | refine LeO.ite ?_ ?_ | refine LeO.bind ?_ (fun _ => ?_)
theorem spec_DrawCountGoingOn.mono : ∀ a0 k, LeO (spec_DrawCountGoingOn.f k a0) (spec_DrawCountGoingOn.f (k + 1) a0) := by
 intro a0 k
 have ih0 := spec_DrawCountGoingOn.mono_l k
 unfold spec_DrawCountGoingOn.f
 repeat' first | (with_reducible first | exact ih0 _ _ _ _ _ _ | exact LeO.refl _ | exact LeO.none _ | refine LeO.ite ?_ ?_ | refine LeO.bind ?_ (fun _ => ?_)) | exact ih0 _ _ _ _ _ _ | exact LeO.none _ | refine LeO.ite ?_ ?_ | refine LeO.bind ?_ (fun _ => ?_)
theorem spec_DrawCountGoingOn.calls (k : Nat) (A0 : Option Addr) (c0 : Nat) (l0 : List Int) (r1 : Int) (r2 : List Int) (w : World) (hr0 : Kd.C (Kd.int .u8) w A0 l0.length l0) (hc0 : l0.length ≤ c0) (h : spec_DrawCountGoingOn.f k l0 = some (r1, r2)) :
  Calls Try.prog 76 #[.slice A0 l0.length c0] w fun e w' => ∃ v1_ : Value, e = .returned (.tuple #[.int .i64 r1, v1_]) ∧ Kd.R (Kd.int .i64) 3 w' w.heap.size (fun _ => True) v1_ r2 ∧ Below w.heap.size w w' := by
 have hu122 := Try.underlying122
 have HR0 := A_ hr0
 have HC0 := A_ hc0
 clear hr0 hc0
 have HB := A_ (Below.refl w.heap.size w)
 have H : ((spec_l1Cur_among.f l0 0 0 (([1, 4, 5, 6, 7, 8, 9, 0] : List Int))).bind fun bt1210 => ((spec_l1Cur_pick.f l0 bt1210.2.1 bt1210.2.2 4).bind fun bt1213 => (spec_DrawCountGoingOn.l0 k bt1210.1 ([] : List Int) bt1213.1 l0 bt1213.2.1 bt1213.2.2))) = some (r1, r2) := h
 clear h
 obtain ⟨y1207, hy1207⟩ : ∃ y_ : List Int, y_ = (([1, 4, 5, 6, 7, 8, 9, 0] : List Int)) := ⟨_, rfl⟩
 replace H : ((spec_l1Cur_among.f l0 0 0 y1207).bind fun bt1210 => ((spec_l1Cur_pick.f l0 bt1210.2.1 bt1210.2.2 4).bind fun bt1213 => (spec_DrawCountGoingOn.l0 k bt1210.1 ([] : List Int) bt1213.1 l0 bt1213.2.1 bt1213.2.2))) = some (r1, r2) := ty_ hy1207 H
 have Ny1207 := A_ hy1207
 clear hy1207
 replace H := Option.bind_eq_some_iff.mp H
 obtain ⟨⟨t1210, t1211, t1212⟩, A20, H⟩ := H
 replace H : ((spec_l1Cur_pick.f l0 t1211 t1212 4).bind fun bt1213 => (spec_DrawCountGoingOn.l0 k t1210 ([] : List Int) bt1213.1 l0 bt1213.2.1 bt1213.2.2)) = some (r1, r2) := H
 have A2 := A_ A20
 clear A20
 replace H := Option.bind_eq_some_iff.mp H
 obtain ⟨⟨t1213, t1214, t1215⟩, A30, H⟩ := H
 replace H : (spec_DrawCountGoingOn.l0 k t1210 ([] : List Int) t1213 l0 t1214 t1215) = some (r1, r2) := H
 have A3 := A_ A30
 clear A30
 have H' := A_ H
 clear H
 go_enter Try.func76, Try.ntmps76
 go_wp2_with (first | (refine gd_ 10 ?_; refine bx_ 10 #[.slice A0 l0.length c0, .int .i64 0, .int .u64 0] 122 ?_; intro gb1206 hg w4 hbox hb; have HI1206 := A_ ((⟨_, _, hbox, (by rw [hg]; exact (below_size tb_)), HR0.out⟩ : IsS122 w w4 gb1206 l0 0 0)); replace HB := A_ (below_step tb_ hb); clear hb hbox hg) | (refine gd_ 12 ?_; refine Kd.R_lit (Kd.int .i64) _ 3 ?hg (N := 12) ?hd (xs := ([1, 4, 5, 6, 7, 8, 9, 0] : List Int)) (inner := [.int .i64 1, .int .i64 4, .int .i64 5, .int .i64 6, .int .i64 7, .int .i64 8, .int .i64 9, .int .i64 0]) (ok := fun _ => True) (okp := fun _ => True) ?hr ?hp (fun _ hk => hk) trivial (Below.refl _ _) (Nat.le_refl _) (by simp) ?_; (case hd => rfl); (case hg => rfl); (case hr => first | (go_simp; done) | (go_simp; rfl)); (case hp => exact (Reps.one (show Kd.M (Kd.int .i64) _ _ _ 1 [.int .i64 1] from rfl) (Reps.one (show Kd.M (Kd.int .i64) _ _ _ 4 [.int .i64 4] from rfl) (Reps.one (show Kd.M (Kd.int .i64) _ _ _ 5 [.int .i64 5] from rfl) (Reps.one (show Kd.M (Kd.int .i64) _ _ _ 6 [.int .i64 6] from rfl) (Reps.one (show Kd.M (Kd.int .i64) _ _ _ 7 [.int .i64 7] from rfl) (Reps.one (show Kd.M (Kd.int .i64) _ _ _ 8 [.int .i64 8] from rfl) (Reps.one (show Kd.M (Kd.int .i64) _ _ _ 9 [.int .i64 9] from rfl) (Reps.one (show Kd.M (Kd.int .i64) _ _ _ 0 [.int .i64 0] from rfl) (Reps.none _ _)))))))))); intro v1208 w5 ho6 hb hg_ hnew_; clear hg_ hnew_; (first | rw [← Ny1207.out] at ho6 | (simp only [Int.reduceToNat] at ho6; rw [← Ny1207.out] at ho6)); have HO1209 := A_ (Kd.R_lower ho6 (below_size (by repeat (first | (with_reducible first | exact HB.out | apply below_alloc | apply pw_below_drewN | apply below_drew1 | refine below_set ?_ (IsS122.ge HI1206.out)) | exact HB.out)))); replace HB := A_ (below_step (by repeat (first | (with_reducible first | exact HB.out | apply below_alloc | apply pw_below_drewN | apply below_drew1 | refine below_set ?_ (IsS122.ge HI1206.out)) | exact HB.out)) hb); replace HI1206 := A_ (IsS122.below (by repeat (first | (with_reducible first | exact HI1206.out | apply IsS122.alloc | apply IsS122.drewN | apply IsS122.drew | apply IsS122.set_1 | apply IsS122.set_2) | exact HI1206.out)) hb); clear hb ho6; obtain ⟨Ao7, co7, eo7⟩ := Kd.R_slice HO1209.out; subst eo7) | (refine gc_ 160 ?_; refine goesT_ (some 13) Try.func160 #[.pointer (some ⟨gb1206, 0, none⟩), .slice Ao7 y1207.length co7] ?_; (with_reducible refine (spec_l1Cur_among.calls gb1206 l0 0 0 _ _ y1207 t1210 t1211 t1212 w _ ?side1 ?side2 ?side3 ?side4 ?side5 A2.out).mono ?_); (case side1 => repeat (first | (with_reducible first | exact HI1206.out | apply IsS122.alloc | apply IsS122.drewN | apply IsS122.drew | apply IsS122.set_1 | apply IsS122.set_2) | exact HI1206.out)); (case side2 => repeat (first | (with_reducible first | exact HB.out | apply below_alloc | apply pw_below_drewN | apply below_drew1 | refine below_set ?_ (IsS122.ge HI1206.out)) | exact HB.out)); (case side3 => exact tc0_ (Kd.R_reads' HO1209.out).2.2); (case side4 => exact (Kd.R_reads' HO1209.out).2.1); (case side5 => exact far_slice (IsS122.own_ne HI1206.out HO1209.out (by decide))); rintro e w8 ⟨rfl, hi, hb, hk⟩; refine ⟨_, rfl, ?_⟩; replace HO1209 := A_ (Kd.R_mono (Kd.R_keep (IsS122.apart (show IsS122 w _ gb1206 l0 0 0 from by repeat (first | (with_reducible first | exact HI1206.out | apply IsS122.alloc | apply IsS122.drewN | apply IsS122.drew | apply IsS122.set_1 | apply IsS122.set_2) | exact HI1206.out)) (tr_x HO1209.out) (by decide)) hk (fun _ h => h.2)) (fun _ h => h.1)); replace HB := A_ (hb); replace HI1206 := A_ (hi); (try clear hb); (try clear hb2); (try clear hk); (try clear hi)) | (refine gc_ 164 ?_; refine goesT_ (some 15) Try.func164 #[.pointer (some ⟨gb1206, 0, none⟩), .int .i64 4] ?_; (with_reducible refine (spec_l1Cur_pick.calls gb1206 l0 t1211 t1212 4 t1213 t1214 t1215 w _ ?side1 ?side2 A3.out).mono ?_); (case side1 => repeat (first | (with_reducible first | exact HI1206.out | apply IsS122.alloc | apply IsS122.drewN | apply IsS122.drew | apply IsS122.set_1 | apply IsS122.set_2) | exact HI1206.out)); (case side2 => repeat (first | (with_reducible first | exact HB.out | apply below_alloc | apply pw_below_drewN | apply below_drew1 | refine below_set ?_ (IsS122.ge HI1206.out)) | exact HB.out)); rintro e w9 ⟨rfl, hi, hb, hk⟩; refine ⟨_, rfl, ?_⟩; replace HO1209 := A_ (Kd.R_mono (Kd.R_keep (IsS122.apart (show IsS122 w _ gb1206 l0 t1211 t1212 from by repeat (first | (with_reducible first | exact HI1206.out | apply IsS122.alloc | apply IsS122.drewN | apply IsS122.drew | apply IsS122.set_1 | apply IsS122.set_2) | exact HI1206.out)) (tr_x HO1209.out) (by decide)) hk (fun _ h => h.2)) (fun _ h => h.1)); replace HB := A_ (hb); replace HI1206 := A_ (hi); (try clear hb); (try clear hb2); (try clear hk); (try clear hi)))
 go_loopg [6, 7] k (fun kq v6 v7 w' => ∃ (x6_1 : List Int) (x7_1 : Int) (x1207001_1 : Int) (x1207002_1 : Int), v7 = .int .i64 x7_1 ∧ Aside0 (spec_DrawCountGoingOn.l0 kq t1210 x6_1 x7_1 l0 x1207001_1 x1207002_1 = some (r1, r2)) ∧ Aside0 (kq ≤ k) ∧ Aside0 (Kd.R (Kd.int .i64) 3 w' w.heap.size (fun _ => True) v6 x6_1) ∧ Aside0 (IsS122 w w' gb1206 l0 x1207001_1 x1207002_1) ∧ Aside0 (Below w.heap.size w w'))
 case atStart => exact ⟨(([] : List Int)), (t1213), (t1214), (t1215), tf_, H', ⟨Nat.le_refl _⟩, ⟨by first | exact Kd.R_nil _ _ _ _ _ | exact Kd.N_nil _ _ _ _ _ | exact Kd.V_nil _ _ _ _ _ | exact Kd.Q_nil _ _ _ _ _ | exact Kd.S_nil _ _ _ _ _⟩, ⟨by repeat (first | (with_reducible first | exact HI1206.out | apply IsS122.alloc | apply IsS122.drewN | apply IsS122.drew | apply IsS122.set_1 | apply IsS122.set_2) | exact HI1206.out)⟩, ⟨by repeat (first | (with_reducible first | exact HB.out | apply below_alloc | apply pw_below_drewN | apply below_drew1 | refine below_set ?_ (IsS122.ge HI1206.out)) | exact HB.out)⟩⟩
 case round =>
  clear H'
  try clear c1
  try clear p2
  try clear c7
  obtain ⟨x6_1, x7_1, x1207001_1, x1207002_1, rfl, HA, HK1, HO_6, HI1206, HB⟩ := hrel
  cases gk with
  | zero => exact absurd HA.out (by simp [spec_DrawCountGoingOn.l0])
  | succ k1 =>
   have H := HA.out
   clear HA
   simp only [spec_DrawCountGoingOn.l0] at H
   by_cases c10 : x7_1 > 0
   ·
    rw [if_pos c10] at H
    have c10b0 := decide_eq_true c10
    clear c10
    replace H := Option.bind_eq_some_iff.mp H
    obtain ⟨t1216, A110, H⟩ := H
    replace H : ((spec_l1Cur_pick.f l0 x1207001_1 x1207002_1 t1216).bind fun bt1217 => (if x6_1.length < 17592186044416 then (spec_DrawCountGoingOn.l0 k1 t1210 (x6_1 ++ [bt1217.1]) (wrap64 (x7_1 - 1)) l0 bt1217.2.1 bt1217.2.2) else (none))) = some (r1, r2) := H
    have A11 := A_ A110
    clear A110
    replace H := Option.bind_eq_some_iff.mp H
    obtain ⟨⟨t1217, t1218, t1219⟩, A120, H⟩ := H
    replace H : (if x6_1.length < 17592186044416 then (spec_DrawCountGoingOn.l0 k1 t1210 (x6_1 ++ [t1217]) (wrap64 (x7_1 - 1)) l0 t1218 t1219) else (none)) = some (r1, r2) := H
    have A12 := A_ A120
    clear A120
    by_cases c13 : x6_1.length < 17592186044416
    ·
     rw [if_pos c13] at H
     have LMc13 := A_ c13
     clear c13
     obtain ⟨y1220, hy1220⟩ : ∃ y_ : List Int, y_ = (x6_1 ++ [t1217]) := ⟨_, rfl⟩
     replace H : (spec_DrawCountGoingOn.l0 k1 t1210 y1220 (wrap64 (x7_1 - 1)) l0 t1218 t1219) = some (r1, r2) := ty_ hy1220 H
     have Ny1220 := A_ hy1220
     clear hy1220
     have H' := A_ H
     clear H
     go_wp2_with (first | (refine gc_ 183 ?_; refine goesT_ (some 23) Try.func183 #[.int .i64 1, .int .i64 t1210] ?_; (with_reducible refine (spec_l1Most.calls 1 t1210 t1216 _ A11.out).mono ?_); rintro e w' ⟨rfl, ⟨nd, rfl⟩⟩; refine ⟨_, rfl, ?_⟩) | (refine gc_ 164 ?_; refine goesT_ (some 24) Try.func164 #[.pointer (some ⟨gb1206, 0, none⟩), .int .i64 t1216] ?_; (with_reducible refine (spec_l1Cur_pick.calls gb1206 l0 x1207001_1 x1207002_1 t1216 t1217 t1218 t1219 w _ ?side1 ?side2 A12.out).mono ?_); (case side1 => repeat (first | (with_reducible first | exact HI1206.out | apply IsS122.alloc | apply IsS122.drewN | apply IsS122.drew | apply IsS122.set_1 | apply IsS122.set_2) | exact HI1206.out)); (case side2 => repeat (first | (with_reducible first | exact HB.out | apply below_alloc | apply pw_below_drewN | apply below_drew1 | refine below_set ?_ (IsS122.ge HI1206.out)) | exact HB.out)); rintro e w14 ⟨rfl, hi, hb, hk⟩; refine ⟨_, rfl, ?_⟩; replace HO_6 := A_ (Kd.R_mono (Kd.R_keep (IsS122.apart (show IsS122 w _ gb1206 l0 x1207001_1 x1207002_1 from by repeat (first | (with_reducible first | exact HI1206.out | apply IsS122.alloc | apply IsS122.drewN | apply IsS122.drew | apply IsS122.set_1 | apply IsS122.set_2) | exact HI1206.out)) (tr_x HO_6.out) (by decide)) hk (fun _ h => h.2)) (fun _ h => h.1)); replace HB := A_ (hb); replace HI1206 := A_ (hi); (try clear hb); (try clear hb2); (try clear hk); (try clear hi)) | ((with_reducible refine gate_builtin (b := .append) (xs := #[.tmp 20, .tmp 25]) rfl ?_); at_builtin; refine Kd.R_append (Kd.int .i64) (w0 := w) w.heap.size rfl (.tmp 20) (.tmp 25) 22 3 (.int .i64 0) 8 rfl Try.underlying22 info3 rfl (by decide) (by omega) u6 x6_1 t1217 [.int .i64 t1217] (fun _ => True) (fun _ => False) rfl rfl ?aP (fun _ hk => hk.elim) ?aF ?aO ?aB ?aS ?aL ?_; (case aP => exact rfl); (case aB => exact (by repeat (first | (with_reducible first | exact HB.out | apply below_alloc | apply pw_below_drewN | apply below_drew1 | refine below_set ?_ (IsS122.ge HI1206.out)) | exact HB.out))); (case aF => exact (fun _ _ => trivial)); (case aO => exact (tr_x HO_6.out)); (case aS => exact (below_size (by repeat (first | (with_reducible first | exact HB.out | apply below_alloc | apply pw_below_drewN | apply below_drew1 | refine below_set ?_ (IsS122.ge HI1206.out)) | exact HB.out)))); (case aL => have := LMc13.out; omega); intro v1221 w15 ho hb hg hat; rw [← Ny1220.out] at ho; have n0_ := A_ (IsS122.grown (by repeat (first | (with_reducible first | exact HI1206.out | apply IsS122.alloc | apply IsS122.drewN | apply IsS122.drew | apply IsS122.set_1 | apply IsS122.set_2) | exact HI1206.out)) hg (IsS122.own_ne HI1206.out HO_6.out (by decide))); have n1_ := A_ (hb); have n2_ := A_ (ho); clear HI1206; clear HB; clear HO_6; have HI1206 := n0_; have HB := n1_; have HO1222 := n2_; clear n0_ n1_ n2_; clear ho hb hg hat))
     go_roundg k1
     case measure => have := HK1.out; omega
     case rel => exact ⟨(y1220), (wrap64 (x7_1 - 1)), (t1218), (t1219), tf_, H', ⟨by have := HK1.out; omega⟩, ⟨tr_x HO1222.out⟩, ⟨by repeat (first | (with_reducible first | exact HI1206.out | apply IsS122.alloc | apply IsS122.drewN | apply IsS122.drew | apply IsS122.set_1 | apply IsS122.set_2) | exact HI1206.out)⟩, ⟨by repeat (first | (with_reducible first | exact HB.out | apply below_alloc | apply pw_below_drewN | apply below_drew1 | refine below_set ?_ (IsS122.ge HI1206.out)) | exact HB.out)⟩⟩
    ·
     rw [if_neg c13] at H
     exact absurd H (by simp)
   ·
    rw [if_neg c10] at H
    have c10b0 := decide_eq_false c10
    clear c10
    replace H := Option.bind_eq_some_iff.mp H
    obtain ⟨⟨t1223, t1224, t1225⟩, A160, H⟩ := H
    replace H : (if t1223 = true then ((spec_l1Cur_among.f l0 t1224 t1225 (([(-1), t1210] : List Int))).bind fun bt1229 => (if x6_1.length < 17592186044416 then (some (t1210, (x6_1 ++ [bt1229.1]))) else (none))) else (some (t1210, x6_1))) = some (r1, r2) := H
    have A16 := A_ A160
    clear A160
    by_cases c17 : t1223 = true
    ·
     subst c17
     have H1 : ((spec_l1Cur_among.f l0 t1224 t1225 (([(-1), t1210] : List Int))).bind fun bt1229 => (if x6_1.length < 17592186044416 then (some (t1210, (x6_1 ++ [bt1229.1]))) else (none))) = some (r1, r2) := by rw [if_pos rfl] at H; exact H
     clear H
     have H := H1
     clear H1
     obtain ⟨y1226, hy1226⟩ : ∃ y_ : List Int, y_ = (([(-1), t1210] : List Int)) := ⟨_, rfl⟩
     replace H : ((spec_l1Cur_among.f l0 t1224 t1225 y1226).bind fun bt1229 => (if x6_1.length < 17592186044416 then (some (t1210, (x6_1 ++ [bt1229.1]))) else (none))) = some (r1, r2) := ty_ hy1226 H
     have Ny1226 := A_ hy1226
     clear hy1226
     replace H := Option.bind_eq_some_iff.mp H
     obtain ⟨⟨t1229, t1230, t1231⟩, A180, H⟩ := H
     replace H : (if x6_1.length < 17592186044416 then (some (t1210, (x6_1 ++ [t1229]))) else (none)) = some (r1, r2) := H
     have A18 := A_ A180
     clear A180
     by_cases c19 : x6_1.length < 17592186044416
     ·
      rw [if_pos c19] at H
      have LMc19 := A_ c19
      clear c19
      obtain ⟨y1232, hy1232⟩ : ∃ y_ : List Int, y_ = (x6_1 ++ [t1229]) := ⟨_, rfl⟩
      replace H : (some (t1210, y1232)) = some (r1, r2) := ty_ hy1232 H
      have Ny1232 := A_ hy1232
      clear hy1232
      simp only [Option.some.injEq, Prod.mk.injEq] at H
      obtain ⟨rfl, rfl⟩ := H
      go_wp2_with (first | (refine gc_ 166 ?_; refine goesT_ (some 28) Try.func166 #[.pointer (some ⟨gb1206, 0, none⟩), .int .i64 12] ?_; (with_reducible refine (spec_l1Cur_one.calls gb1206 l0 x1207001_1 x1207002_1 12 true t1224 t1225 w _ ?side1 ?side2 A16.out).mono ?_); (case side1 => repeat (first | (with_reducible first | exact HI1206.out | apply IsS122.alloc | apply IsS122.drewN | apply IsS122.drew | apply IsS122.set_1 | apply IsS122.set_2) | exact HI1206.out)); (case side2 => repeat (first | (with_reducible first | exact HB.out | apply below_alloc | apply pw_below_drewN | apply below_drew1 | refine below_set ?_ (IsS122.ge HI1206.out)) | exact HB.out)); rintro e w20 ⟨rfl, hi, hb, hk⟩; refine ⟨_, rfl, ?_⟩; replace HO_6 := A_ (Kd.R_mono (Kd.R_keep (IsS122.apart (show IsS122 w _ gb1206 l0 x1207001_1 x1207002_1 from by repeat (first | (with_reducible first | exact HI1206.out | apply IsS122.alloc | apply IsS122.drewN | apply IsS122.drew | apply IsS122.set_1 | apply IsS122.set_2) | exact HI1206.out)) (tr_x HO_6.out) (by decide)) hk (fun _ h => h.2)) (fun _ h => h.1)); replace HB := A_ (hb); replace HI1206 := A_ (hi); (try clear hb); (try clear hb2); (try clear hk); (try clear hi)) | (refine gd_ 32 ?_; refine Kd.R_lit (Kd.int .i64) _ 3 ?hg (N := 32) ?hd (xs := ([(-1), t1210] : List Int)) (inner := [.int .i64 (-1), .int .i64 t1210]) (ok := fun _ => True) (okp := fun _ => True) ?hr ?hp (fun _ hk => hk) trivial (Below.refl _ _) (Nat.le_refl _) (by simp) ?_; (case hd => rfl); (case hg => rfl); (case hr => first | (go_simp; done) | (go_simp; rfl)); (case hp => exact (Reps.one (show Kd.M (Kd.int .i64) _ _ _ (-1) [.int .i64 (-1)] from rfl) (Reps.one (show Kd.M (Kd.int .i64) _ _ _ t1210 [.int .i64 t1210] from rfl) (Reps.none _ _)))); intro v1227 w21 ho22 hb hg_ hnew_; clear hg_ hnew_; (first | rw [← Ny1226.out] at ho22 | (simp only [Int.reduceToNat] at ho22; rw [← Ny1226.out] at ho22)); have HO1228 := A_ (Kd.R_lower (Kd.R_new' ho22 (Kd.R_lt (tr_x HO_6.out))) (below_size (by repeat (first | (with_reducible first | exact HB.out | apply below_alloc | apply pw_below_drewN | apply below_drew1 | refine below_set ?_ (IsS122.ge HI1206.out)) | exact HB.out)))); replace HO_6 := A_ (Kd.R_elder' (tr_x HO_6.out) (Kd.R_base ho22) hb); replace HB := A_ (below_step (by repeat (first | (with_reducible first | exact HB.out | apply below_alloc | apply pw_below_drewN | apply below_drew1 | refine below_set ?_ (IsS122.ge HI1206.out)) | exact HB.out)) hb); replace HI1206 := A_ (IsS122.below (by repeat (first | (with_reducible first | exact HI1206.out | apply IsS122.alloc | apply IsS122.drewN | apply IsS122.drew | apply IsS122.set_1 | apply IsS122.set_2) | exact HI1206.out)) hb); clear hb ho22; obtain ⟨Ao23, co23, eo23⟩ := Kd.R_slice HO1228.out; subst eo23) | (refine gc_ 160 ?_; refine goesT_ (some 33) Try.func160 #[.pointer (some ⟨gb1206, 0, none⟩), .slice Ao23 y1226.length co23] ?_; (with_reducible refine (spec_l1Cur_among.calls gb1206 l0 t1224 t1225 _ _ y1226 t1229 t1230 t1231 w _ ?side1 ?side2 ?side3 ?side4 ?side5 A18.out).mono ?_); (case side1 => repeat (first | (with_reducible first | exact HI1206.out | apply IsS122.alloc | apply IsS122.drewN | apply IsS122.drew | apply IsS122.set_1 | apply IsS122.set_2) | exact HI1206.out)); (case side2 => repeat (first | (with_reducible first | exact HB.out | apply below_alloc | apply pw_below_drewN | apply below_drew1 | refine below_set ?_ (IsS122.ge HI1206.out)) | exact HB.out)); (case side3 => exact tc0_ (Kd.R_reads' HO1228.out).2.2); (case side4 => exact (Kd.R_reads' HO1228.out).2.1); (case side5 => exact far_slice (IsS122.own_ne HI1206.out HO1228.out (by decide))); rintro e w24 ⟨rfl, hi, hb, hk⟩; refine ⟨_, rfl, ?_⟩; replace HO_6 := A_ (Kd.R_mono (Kd.R_keep (IsS122.apart (show IsS122 w _ gb1206 l0 t1224 t1225 from by repeat (first | (with_reducible first | exact HI1206.out | apply IsS122.alloc | apply IsS122.drewN | apply IsS122.drew | apply IsS122.set_1 | apply IsS122.set_2) | exact HI1206.out)) (tr_x HO_6.out) (by decide)) hk (fun _ h => h.2)) (fun _ h => h.1)); replace HO1228 := A_ (Kd.R_mono (Kd.R_keep (IsS122.apart (show IsS122 w _ gb1206 l0 t1224 t1225 from by repeat (first | (with_reducible first | exact HI1206.out | apply IsS122.alloc | apply IsS122.drewN | apply IsS122.drew | apply IsS122.set_1 | apply IsS122.set_2) | exact HI1206.out)) (tr_x HO1228.out) (by decide)) hk (fun _ h => h.2)) (fun _ h => h.1)); replace HB := A_ (hb); replace HI1206 := A_ (hi); (try clear hb); (try clear hb2); (try clear hk); (try clear hi)) | ((with_reducible refine gate_builtin (b := .append) (xs := #[.tmp 29, .tmp 34]) rfl ?_); at_builtin; refine Kd.R_append (Kd.int .i64) (w0 := w) w.heap.size rfl (.tmp 29) (.tmp 34) 22 3 (.int .i64 0) 8 rfl Try.underlying22 info3 rfl (by decide) (by omega) u6 x6_1 t1229 [.int .i64 t1229] (fun k_ => some k_ ≠ (.slice Ao23 y1226.length co23 : Value).ownBlock) (fun _ => False) rfl rfl ?aP (fun _ hk => hk.elim) ?aF ?aO ?aB ?aS ?aL ?_; (case aP => exact rfl); (case aB => exact (by repeat (first | (with_reducible first | exact HB.out | apply below_alloc | apply pw_below_drewN | apply below_drew1 | refine below_set ?_ (IsS122.ge HI1206.out)) | exact HB.out))); (case aF => exact (fun k_ hk => Kd.fresh' (Kd.R_lt (tr_x HO1228.out)) k_ hk)); (case aO => exact (tr_ (h := by exact Kd.R_mono HO_6.out (fun _ hk => hk.2)))); (case aS => exact (below_size (by repeat (first | (with_reducible first | exact HB.out | apply below_alloc | apply pw_below_drewN | apply below_drew1 | refine below_set ?_ (IsS122.ge HI1206.out)) | exact HB.out)))); (case aL => have := LMc19.out; omega); intro v1233 w25 ho hb hg hat; rw [← Ny1232.out] at ho; have n0_ := A_ (IsS122.grown (by repeat (first | (with_reducible first | exact HI1206.out | apply IsS122.alloc | apply IsS122.drewN | apply IsS122.drew | apply IsS122.set_1 | apply IsS122.set_2) | exact HI1206.out)) hg (IsS122.own_ne HI1206.out HO_6.out (by decide))); have n1_ := A_ (Kd.R_after (ok := (fun _ => True)) (tr_x HO1228.out) hg hat); have n2_ := A_ (hb); have n3_ := A_ (ho); clear HI1206; clear HO1228; clear HB; clear HO_6; have HI1206 := n0_; have HO1228 := n1_; have HB := n2_; have HO1234 := n3_; clear n0_ n1_ n2_ n3_; clear ho hb hg hat))
      go_ret2
      exact ⟨_, te_, by (with_reducible repeat (first | apply Kd.R_alloc | apply Kd.R_drewN | apply Kd.R_drew)); exact Kd.R_mono HO1234.out (fun _ hk => trivial), by repeat (first | (with_reducible first | exact HB.out | apply below_alloc | apply pw_below_drewN | apply below_drew1 | refine below_set ?_ (IsS122.ge HI1206.out)) | exact HB.out)⟩
     ·
      rw [if_neg c19] at H
      exact absurd H (by simp)
    ·
     replace c17 := Bool.eq_false_iff.mpr c17
     subst c17
     have H1 : (some (t1210, x6_1)) = some (r1, r2) := by rw [if_neg (show ¬ (false = true) by decide)] at H; exact H
     clear H
     have H := H1
     clear H1
     simp only [Option.some.injEq, Prod.mk.injEq] at H
     obtain ⟨rfl, rfl⟩ := H
     go_wp2_with (first | (refine gc_ 166 ?_; refine goesT_ (some 28) Try.func166 #[.pointer (some ⟨gb1206, 0, none⟩), .int .i64 12] ?_; (with_reducible refine (spec_l1Cur_one.calls gb1206 l0 x1207001_1 x1207002_1 12 false t1224 t1225 w _ ?side1 ?side2 A16.out).mono ?_); (case side1 => repeat (first | (with_reducible first | exact HI1206.out | apply IsS122.alloc | apply IsS122.drewN | apply IsS122.drew | apply IsS122.set_1 | apply IsS122.set_2) | exact HI1206.out)); (case side2 => repeat (first | (with_reducible first | exact HB.out | apply below_alloc | apply pw_below_drewN | apply below_drew1 | refine below_set ?_ (IsS122.ge HI1206.out)) | exact HB.out)); rintro e w26 ⟨rfl, hi, hb, hk⟩; refine ⟨_, rfl, ?_⟩; replace HO_6 := A_ (Kd.R_mono (Kd.R_keep (IsS122.apart (show IsS122 w _ gb1206 l0 x1207001_1 x1207002_1 from by repeat (first | (with_reducible first | exact HI1206.out | apply IsS122.alloc | apply IsS122.drewN | apply IsS122.drew | apply IsS122.set_1 | apply IsS122.set_2) | exact HI1206.out)) (tr_x HO_6.out) (by decide)) hk (fun _ h => h.2)) (fun _ h => h.1)); replace HB := A_ (hb); replace HI1206 := A_ (hi); (try clear hb); (try clear hb2); (try clear hk); (try clear hi)))
     go_ret2
     exact ⟨_, te_, tr_x HO_6.out, by repeat (first | (with_reducible first | exact HB.out | apply below_alloc | apply pw_below_drewN | apply below_drew1 | refine below_set ?_ (IsS122.ge HI1206.out)) | exact HB.out)⟩

/-! ### spec_quAttacks: function 185 -/
mutual
def spec_quAttacks.l0 : Nat → List Int → List (List Int) → List Int → Int → Int → Option ((List (List Int)))
 | 0, _, _, _, _, _ => none
 | k + 1, x0, x3, x7, x8, x9 => if x9 < x8 then (if 0 ≤ x9 then (if x9 < (x7.length : Int) then (spec_quAttacks.l1 k x0 x3 x9 (rd x7 x9) (wrap64 (x9 + 1)) x7 x8 x9) else (none)) else (none)) else (some x3)
def spec_quAttacks.l1 : Nat → List Int → List (List Int) → Int → Int → Int → List Int → Int → Int → Option ((List (List Int)))
 | 0, _, _, _, _, _, _, _, _ => none
 | k + 1, x0, x3, x4, x5, x6, x7, x8, x9 => if x6 < (x0.length : Int) then (if 0 ≤ x6 then ((spec_l1Abs.f (wrap64 (x5 - (rd x0 x6)))).bind fun t1237 => (if t1237 = (wrap64 (x6 - x4)) then (if x3.length < 5864062014805 then (spec_quAttacks.l1 k x0 (x3 ++ [(([x4, x6] : List Int))]) x4 x5 (wrap64 (x6 + 1)) x7 x8 x9) else (none)) else (spec_quAttacks.l1 k x0 x3 x4 x5 (wrap64 (x6 + 1)) x7 x8 x9))) else (none)) else (spec_quAttacks.l0 k x0 x3 x7 x8 (wrap64 (x9 + 1)))
end
def spec_quAttacks.f (k : Nat) (l0 : List Int) : Option ((List (List Int))) := spec_quAttacks.l0 k l0 ([] : List (List Int)) l0 (l0.length : Int) 0
theorem spec_quAttacks.mono_l : ∀ k, (∀ y0 y1 y2 y3 y4, LeO (spec_quAttacks.l0 k y0 y1 y2 y3 y4) (spec_quAttacks.l0 (k + 1) y0 y1 y2 y3 y4)) ∧ (∀ y0 y1 y2 y3 y4 y5 y6 y7, LeO (spec_quAttacks.l1 k y0 y1 y2 y3 y4 y5 y6 y7) (spec_quAttacks.l1 (k + 1) y0 y1 y2 y3 y4 y5 y6 y7))
 | 0 => ⟨fun _ _ _ _ _ r h => by simp [spec_quAttacks.l0] at h, fun _ _ _ _ _ _ _ _ r h => by simp [spec_quAttacks.l1] at h⟩
 | k + 1 => by
  obtain ⟨ih0, ih1⟩ := spec_quAttacks.mono_l k
  refine ⟨?_, ?_⟩
  ·
   intro y0 y1 y2 y3 y4
   unfold spec_quAttacks.l0
   repeat' first | (with_reducible first | exact ih0 _ _ _ _ _ | exact ih1 _ _ _ _ _ _ _ _ | exact LeO.refl _ | exact LeO.none _ | refine LeO.ite ?_ ?_ | refine LeO.bind ?_ (fun _ => ?_)) | exact ih0 _ _ _ _ _ | exact ih1 _ _ _ _ _ _ _ _ | exact LeO.none _ | refine LeO.ite ?_ ?_ | refine LeO.bind ?_ (fun _ => ?_)
  ·
   intro y0 y1 y2 y3 y4 y5 y6 y7
   unfold spec_quAttacks.l1
   repeat' first | (with_reducible first | exact ih0 _ _ _ _ _ | exact ih1 _ _ _ _ _ _ _ _ | exact LeO.refl _ | exact LeO.none _ | refine LeO.ite ?_ ?_ | refine LeO.bind ?_ (fun _ => ?_)) | exact ih0 _ _ _ _ _ | exact ih1 _ _ _ _ _ _ _ _ | exact LeO.none _ | refine LeO.ite ?_ ?_ | refine LeO.bind ?_ (fun _ => ?_)
theorem spec_quAttacks.mono : ∀ a0 k, LeO (spec_quAttacks.f k a0) (spec_quAttacks.f (k + 1) a0) := by
 intro a0 k
 obtain ⟨ih0, ih1⟩ := spec_quAttacks.mono_l k
 unfold spec_quAttacks.f
 repeat' first | (with_reducible first | exact ih0 _ _ _ _ _ | exact ih1 _ _ _ _ _ _ _ _ | exact LeO.refl _ | exact LeO.none _ | refine LeO.ite ?_ ?_ | refine LeO.bind ?_ (fun _ => ?_)) | exact ih0 _ _ _ _ _ | exact ih1 _ _ _ _ _ _ _ _ | exact LeO.none _ | refine LeO.ite ?_ ?_ | refine LeO.bind ?_ (fun _ => ?_)
theorem spec_quAttacks.calls (k : Nat) (A0 : Option Addr) (c0 : Nat) (l0 : List Int) (r : List (List Int)) (w : World) (hr0 : Kd.C (Kd.int .i64) w A0 l0.length l0) (hc0 : l0.length ≤ c0) (h : spec_quAttacks.f k l0 = some r) :
  Calls Try.prog 185 #[.slice A0 l0.length c0] w fun e w' => ∃ v0_ : Value, e = .returned (v0_) ∧ Kd.S (Kd.slice 3 (Kd.int .i64)) 22 w' w.heap.size (fun _ => True) v0_ r ∧ Below w.heap.size w w' := by
 have HR0 := A_ hr0
 have HC0 := A_ hc0
 clear hr0 hc0
 have HB := A_ (Below.refl w.heap.size w)
 have H : (spec_quAttacks.l0 k l0 ([] : List (List Int)) l0 (l0.length : Int) 0) = some r := h
 clear h
 have H' := A_ H
 clear H
 go_enter Try.func185, Try.ntmps185
 go_wp2
 go_loopg [3, 9] k (fun kq v3 v9 w' => ∃ (x3_1 : List (List Int)) (x9_1 : Int), v9 = .int .i64 x9_1 ∧ Aside0 (spec_quAttacks.l0 kq l0 x3_1 l0 (l0.length : Int) x9_1 = some r) ∧ Aside0 (kq ≤ k) ∧ Aside0 (Kd.S (Kd.slice 3 (Kd.int .i64)) 22 w' w.heap.size (fun _ => True) v3 x3_1) ∧ Aside0 (Below w.heap.size w w'))
 case atStart => exact ⟨(([] : List (List Int))), (0), tf_, H', ⟨Nat.le_refl _⟩, ⟨by first | exact Kd.S_nil _ _ _ _ _ | exact Kd.N_nil _ _ _ _ _ | exact Kd.V_nil _ _ _ _ _ | exact Kd.Q_nil _ _ _ _ _ | exact Kd.R_nil _ _ _ _ _⟩, ⟨tb_⟩⟩
 case round =>
  clear H'
  try clear c1
  obtain ⟨x3_1, x9_1, rfl, HA, HK1, HO_3, HB⟩ := hrel
  cases gk with
  | zero => exact absurd HA.out (by simp [spec_quAttacks.l0])
  | succ k1 =>
   have H := HA.out
   clear HA
   simp only [spec_quAttacks.l0] at H
   by_cases c2 : x9_1 < (l0.length : Int)
   ·
    rw [if_pos c2] at H
    have c2b0 := decide_eq_true c2
    clear c2
    by_cases c3 : 0 ≤ x9_1
    ·
     rw [if_pos c3] at H
     have c3b0 := decide_eq_true c3
     clear c3
     by_cases c4 : x9_1 < (l0.length : Int)
     ·
      rw [if_pos c4] at H
      have c4b0 := decide_eq_true c4
      clear c4
      have H' := A_ H
      clear H
      have p1235 : 0 ≤ (x9_1 : Int) := od_
      have q1235 : x9_1 < (l0.length : Int) := od_
      obtain ⟨ad1235, e1235, hx1235_0⟩ := Kd.at_int HR0.out x9_1 p1235 q1235
      cases e1235
      (try replace hx1235_0 := (HB.out.cell (World.block_lt_of_cell? w _ hx1235_0)).trans hx1235_0)
      replace p1235 := eq_true p1235
      replace q1235 := eq_true q1235
      go_wp2
      go_loopg [3, 6] k1 (fun kq v3 v6 w' => ∃ (x3_2 : List (List Int)) (x6_2 : Int), v6 = .int .i64 x6_2 ∧ Aside0 (spec_quAttacks.l1 kq l0 x3_2 x9_1 (rd l0 x9_1) x6_2 l0 (l0.length : Int) x9_1 = some r) ∧ Aside0 (kq ≤ k1) ∧ Aside0 (Kd.S (Kd.slice 3 (Kd.int .i64)) 22 w' w.heap.size (fun _ => True) v3 x3_2) ∧ Aside0 (Below w.heap.size w w'))
      case atStart => exact ⟨(x3_1), (wrap64 (x9_1 + 1)), tf_, H', ⟨Nat.le_refl _⟩, ⟨ts1_x HO_3.out⟩, ⟨tb_⟩⟩
      case round =>
       clear H'
       try clear c1
       try clear p1
       try clear q1
       try clear hx1
       try clear c2
       try clear c2b0
       try clear p2
       try clear c3
       try clear c3b0
       try clear c4
       try clear c4b0
       try clear hx1235_0
       try clear p1235
       try clear q1235
       obtain ⟨x3_2, x6_2, rfl, HA, HK2, HO_3, HB⟩ := hrel
       cases gk with
       | zero => exact absurd HA.out (by simp [spec_quAttacks.l1])
       | succ k2 =>
        have H := HA.out
        clear HA
        simp only [spec_quAttacks.l1] at H
        by_cases c5 : x6_2 < (l0.length : Int)
        ·
         rw [if_pos c5] at H
         have c5b0 := decide_eq_true c5
         clear c5
         by_cases c6 : 0 ≤ x6_2
         ·
          rw [if_pos c6] at H
          have c6b0 := decide_eq_true c6
          clear c6
          replace H := Option.bind_eq_some_iff.mp H
          obtain ⟨t1237, A70, H⟩ := H
          replace H : (if t1237 = (wrap64 (x6_2 - x9_1)) then (if x3_2.length < 5864062014805 then (spec_quAttacks.l1 k2 l0 (x3_2 ++ [(([x9_1, x6_2] : List Int))]) x9_1 (rd l0 x9_1) (wrap64 (x6_2 + 1)) l0 (l0.length : Int) x9_1) else (none)) else (spec_quAttacks.l1 k2 l0 x3_2 x9_1 (rd l0 x9_1) (wrap64 (x6_2 + 1)) l0 (l0.length : Int) x9_1)) = some r := H
          have A7 := A_ A70
          clear A70
          by_cases c8 : t1237 = (wrap64 (x6_2 - x9_1))
          ·
           rw [if_pos c8] at H
           have c8b0 : (t1237 == (wrap64 (x6_2 - x9_1))) = true := beq_iff_eq.mpr c8
           have c8b1 : (t1237 != (wrap64 (x6_2 - x9_1))) = false := bne_eq_false_iff_eq.mpr c8
           clear c8
           obtain ⟨y1238, hy1238⟩ : ∃ y_ : List Int, y_ = (([x9_1, x6_2] : List Int)) := ⟨_, rfl⟩
           replace H : (if x3_2.length < 5864062014805 then (spec_quAttacks.l1 k2 l0 (x3_2 ++ [y1238]) x9_1 (rd l0 x9_1) (wrap64 (x6_2 + 1)) l0 (l0.length : Int) x9_1) else (none)) = some r := ty_ hy1238 H
           have Ny1238 := A_ hy1238
           clear hy1238
           by_cases c9 : x3_2.length < 5864062014805
           ·
            rw [if_pos c9] at H
            have LMc9 := A_ c9
            clear c9
            obtain ⟨y1241, hy1241⟩ : ∃ y_ : List (List Int), y_ = (x3_2 ++ [y1238]) := ⟨_, rfl⟩
            replace H : (spec_quAttacks.l1 k2 l0 y1241 x9_1 (rd l0 x9_1) (wrap64 (x6_2 + 1)) l0 (l0.length : Int) x9_1) = some r := ty_ hy1241 H
            have Ny1241 := A_ hy1241
            clear hy1241
            have H' := A_ H
            clear H
            have p1236 : 0 ≤ (x6_2 : Int) := od_
            have q1236 : x6_2 < (l0.length : Int) := od_
            obtain ⟨ad1236, e1236, hx1236_0⟩ := Kd.at_int HR0.out x6_2 p1236 q1236
            obtain rfl : ad1235 = ad1236 := (by injection e1236)
            (try replace hx1236_0 := (HB.out.cell (World.block_lt_of_cell? w _ hx1236_0)).trans hx1236_0)
            replace p1236 := eq_true p1236
            replace q1236 := eq_true q1236
            go_wp2_with (first | (refine gc_ 242 ?_; refine goesT_ (some 28) Try.func242 #[.int .i64 (wrap64 ((rd l0 x9_1) - (rd l0 x6_2)))] ?_; (with_reducible refine (spec_l1Abs.calls (wrap64 ((rd l0 x9_1) - (rd l0 x6_2))) t1237 _ A7.out).mono ?_); rintro e w' ⟨rfl, ⟨nd, rfl⟩⟩; refine ⟨_, rfl, ?_⟩) | (refine gd_ 36 ?_; refine Kd.R_lit (Kd.int .i64) _ 3 ?hg (N := 36) ?hd (xs := ([x9_1, x6_2] : List Int)) (inner := [.int .i64 x9_1, .int .i64 x6_2]) (ok := fun _ => True) (okp := fun _ => True) ?hr ?hp (fun _ hk => hk) trivial (Below.refl _ _) (Nat.le_refl _) (by simp) ?_; (case hd => rfl); (case hg => rfl); (case hr => first | (go_simp; done) | (go_simp; rfl)); (case hp => exact (Reps.one (show Kd.M (Kd.int .i64) _ _ _ x9_1 [.int .i64 x9_1] from rfl) (Reps.one (show Kd.M (Kd.int .i64) _ _ _ x6_2 [.int .i64 x6_2] from rfl) (Reps.none _ _)))); intro v1239 w10 ho11 hb hg_ hnew_; clear hg_ hnew_; (first | rw [← Ny1238.out] at ho11 | (simp only [Int.reduceToNat] at ho11; rw [← Ny1238.out] at ho11)); replace HO_3 := A_ (Kd.S_elder' (ts1_x HO_3.out) (Kd.R_base ho11) hb); have HO1240 := A_ (Kd.R_lower ho11 (below_size tb_)); replace HB := A_ (below_step tb_ hb); clear hb ho11; obtain ⟨Ao13, co13, eo13⟩ := Kd.R_slice HO1240.out; subst eo13) | ((with_reducible refine gate_builtin (b := .append) (xs := #[.tmp 33, .tmp 37]) rfl ?_); at_builtin; refine Kd.S_append (Kd.slice 3 (Kd.int .i64)) (w0 := w) w.heap.size rfl (.tmp 33) (.tmp 37) 38 22 (.slice none 0 0) 24 rfl Try.underlying38 info22 rfl (by decide) (by omega) u3 x3_2 y1238 [.slice Ao13 y1238.length co13] (fun _ => True) (fun k_ => some k_ = (.slice Ao13 y1238.length co13 : Value).ownBlock) rfl rfl ?aP (fun k_ hk_ => ((Kd.R_mono (ok' := fun k_ => ((fun _ => True)) k_ ∧ some k_ ≠ (u3 : Value).ownBlock) (Kd.R_apart' (HO1240.out) (Kd.S_typed HO_3.out) (by decide)) (fun k_ hk => ⟨trivial, hk.2⟩))).1 k_ hk_.symm) ?aF ?aO ?aB ?aS ?aL ?_; (case aP => exact Kd.M_row (Kd.R_mono (Kd.R_tight rfl (Kd.R_mono (ok' := fun k_ => ((fun _ => True)) k_ ∧ some k_ ≠ (u3 : Value).ownBlock) (Kd.R_apart' (HO1240.out) (Kd.S_typed HO_3.out) (by decide)) (fun k_ hk => ⟨trivial, hk.2⟩))) (fun _ h_ => h_))); (case aB => exact tb_); (case aF => exact (fun _ _ => trivial)); (case aO => exact (ts1_ (h := by exact Kd.S_mono HO_3.out (fun k_ hk => ⟨trivial, fun e_ => hk.2 e_⟩)))); (case aS => exact (below_size tb_)); (case aL => have := LMc9.out; omega); intro v1242 w12 ho hb hg hat; rw [← Ny1241.out] at ho; have n0_ := A_ (hb); have n1_ := A_ (ho); clear HB; clear HO_3; clear HO1240; have HB := n0_; have HO1243 := n1_; clear n0_ n1_; clear ho hb hg hat))
            go_roundg k2
            case measure => have := HK1.out; have := HK2.out; omega
            case rel => exact ⟨(y1241), (wrap64 (x6_2 + 1)), tf_, H', ⟨by have := HK1.out; have := HK2.out; omega⟩, ⟨ts1_x HO1243.out⟩, ⟨tb_⟩⟩
           ·
            rw [if_neg c9] at H
            exact absurd H (by simp)
          ·
           rw [if_neg c8] at H
           have c8b0 : (t1237 == (wrap64 (x6_2 - x9_1))) = false := beq_eq_false_iff_ne.mpr c8
           have c8b1 : (t1237 != (wrap64 (x6_2 - x9_1))) = true := bne_iff_ne.mpr c8
           have H' := A_ H
           clear H
           have p1236 : 0 ≤ (x6_2 : Int) := od_
           have q1236 : x6_2 < (l0.length : Int) := od_
           obtain ⟨ad1236, e1236, hx1236_0⟩ := Kd.at_int HR0.out x6_2 p1236 q1236
           obtain rfl : ad1235 = ad1236 := (by injection e1236)
           (try replace hx1236_0 := (HB.out.cell (World.block_lt_of_cell? w _ hx1236_0)).trans hx1236_0)
           replace p1236 := eq_true p1236
           replace q1236 := eq_true q1236
           go_wp2_with (first | (refine gc_ 242 ?_; refine goesT_ (some 28) Try.func242 #[.int .i64 (wrap64 ((rd l0 x9_1) - (rd l0 x6_2)))] ?_; (with_reducible refine (spec_l1Abs.calls (wrap64 ((rd l0 x9_1) - (rd l0 x6_2))) t1237 _ A7.out).mono ?_); rintro e w' ⟨rfl, ⟨nd, rfl⟩⟩; refine ⟨_, rfl, ?_⟩))
           go_roundg k2
           case measure => have := HK1.out; have := HK2.out; omega
           case rel => exact ⟨(x3_2), (wrap64 (x6_2 + 1)), tf_, H', ⟨by have := HK1.out; have := HK2.out; omega⟩, ⟨ts1_x HO_3.out⟩, ⟨tb_⟩⟩
         ·
          rw [if_neg c6] at H
          exact absurd H (by simp)
        ·
         rw [if_neg c5] at H
         have c5b0 := decide_eq_false c5
         clear c5
         have H' := A_ H
         clear H
         go_wp2
         go_roundg k2
         case measure => have := HK1.out; have := HK2.out; omega
         case rel => exact ⟨(x3_2), (wrap64 (x9_1 + 1)), tf_, H', ⟨by have := HK1.out; have := HK2.out; omega⟩, ⟨ts1_x HO_3.out⟩, ⟨tb_⟩⟩
     ·
      rw [if_neg c4] at H
      exact absurd H (by simp)
    ·
     rw [if_neg c3] at H
     exact absurd H (by simp)
   ·
    rw [if_neg c2] at H
    have c2b0 := decide_eq_false c2
    clear c2
    obtain rfl := Option.some.inj H
    go_wp2
    go_ret
    exact ⟨_, te_, by (with_reducible repeat (first | apply Kd.S_alloc | apply Kd.S_drewN | apply Kd.S_drew)); exact HO_3.out, tb_⟩

/-! ### spec_CountGoingOn: function 77 -/
mutual
def spec_CountGoingOn.j0 : Nat → Int → List Int → Bool → Option (Int × Bool)
 | 0, _, _, _ => none
 | k + 1, x0, x1, x23 => if x23 = true then (some (0, false)) else (spec_CountGoingOn.l0 k x0 x1 x1 (x1.length : Int) 0)
def spec_CountGoingOn.l0 : Nat → Int → List Int → List Int → Int → Int → Option (Int × Bool)
 | 0, _, _, _, _, _ => none
 | k + 1, x0, x1, x24, x25, x26 => if x26 < x25 then (if 0 ≤ x26 then (if x26 < (x24.length : Int) then (if x26 ≤ (x1.length : Int) then ((spec_l1Has.f k (x1.take (x26 : Int).toNat) (rd x24 x26)).bind fun t1251 => (if t1251 = true then (some (0, false)) else (spec_CountGoingOn.l0 k x0 x1 x24 x25 (wrap64 (x26 + 1))))) else (none)) else (none)) else (none)) else ((spec_quAttacks.f k x1).bind fun t1252 => (if (t1252.length : Int) > 0 then (some (0, true)) else ((spec_quAll.f k x0 x1).bind fun t1255 => (some ((t1255.length : Int), true)))))
end
def spec_CountGoingOn.f (k : Nat) (a0 : Int) (l1 : List Int) : Option (Int × Bool) := (spec_quSide.f a0).bind fun t1244 => (if t1244 = true then (if (l1.length : Int) > a0 then (spec_CountGoingOn.j0 k a0 l1 true) else ((spec_l1All.f k l1 0 (wrap64 (a0 - 1))).bind fun t1245 => (spec_CountGoingOn.j0 k a0 l1 (!t1245)))) else (spec_CountGoingOn.j0 k a0 l1 true))
theorem spec_CountGoingOn.mono_l : ∀ k, (∀ y0 y1 y2, LeO (spec_CountGoingOn.j0 k y0 y1 y2) (spec_CountGoingOn.j0 (k + 1) y0 y1 y2)) ∧ (∀ y0 y1 y2 y3 y4, LeO (spec_CountGoingOn.l0 k y0 y1 y2 y3 y4) (spec_CountGoingOn.l0 (k + 1) y0 y1 y2 y3 y4))
 | 0 => ⟨fun _ _ _ r h => by simp [spec_CountGoingOn.j0] at h, fun _ _ _ _ _ r h => by simp [spec_CountGoingOn.l0] at h⟩
 | k + 1 => by
  obtain ⟨ih0, ih1⟩ := spec_CountGoingOn.mono_l k
  refine ⟨?_, ?_⟩
  ·
   intro y0 y1 y2
   unfold spec_CountGoingOn.j0
   repeat' first | (with_reducible first | exact ih0 _ _ _ | exact ih1 _ _ _ _ _ | exact spec_l1All.mono _ _ _ _ | exact spec_l1Has.mono _ _ _ | exact spec_quAll.mono _ _ _ | exact spec_quAttacks.mono _ _ | exact LeO.refl _ | exact LeO.none _ | refine LeO.ite ?_ ?_ | refine LeO.bind ?_ (fun _ => ?_)) | exact ih0 _ _ _ | exact ih1 _ _ _ _ _ | exact spec_l1All.mono _ _ _ _ | exact spec_l1Has.mono _ _ _ | exact spec_quAll.mono _ _ _ | exact spec_quAttacks.mono _ _ | exact LeO.none _ | refine LeO.ite ?_ ?_ | refine LeO.bind ?_ (fun _ => ?_)
  ·
   intro y0 y1 y2 y3 y4
   unfold spec_CountGoingOn.l0
   repeat' first | (with_reducible first | exact ih0 _ _ _ | exact ih1 _ _ _ _ _ | exact spec_l1All.mono _ _ _ _ | exact spec_l1Has.mono _ _ _ | exact spec_quAll.mono _ _ _ | exact spec_quAttacks.mono _ _ | exact LeO.refl _ | exact LeO.none _ | refine LeO.ite ?_ ?_ | refine LeO.bind ?_ (fun _ => ?_)) | exact ih0 _ _ _ | exact ih1 _ _ _ _ _ | exact spec_l1All.mono _ _ _ _ | exact spec_l1Has.mono _ _ _ | exact spec_quAll.mono _ _ _ | exact spec_quAttacks.mono _ _ | exact LeO.none _ | refine LeO.ite ?_ ?_ | refine LeO.bind ?_ (fun _ => ?_)
theorem spec_CountGoingOn.mono : ∀ a0 a1 k, LeO (spec_CountGoingOn.f k a0 a1) (spec_CountGoingOn.f (k + 1) a0 a1) := by
 intro a0 a1 k
 obtain ⟨ih0, ih1⟩ := spec_CountGoingOn.mono_l k
 unfold spec_CountGoingOn.f
 repeat' first | (with_reducible first | exact ih0 _ _ _ | exact ih1 _ _ _ _ _ | exact spec_l1All.mono _ _ _ _ | exact spec_l1Has.mono _ _ _ | exact spec_quAll.mono _ _ _ | exact spec_quAttacks.mono _ _ | exact LeO.refl _ | exact LeO.none _ | refine LeO.ite ?_ ?_ | refine LeO.bind ?_ (fun _ => ?_)) | exact ih0 _ _ _ | exact ih1 _ _ _ _ _ | exact spec_l1All.mono _ _ _ _ | exact spec_l1Has.mono _ _ _ | exact spec_quAll.mono _ _ _ | exact spec_quAttacks.mono _ _ | exact LeO.none _ | refine LeO.ite ?_ ?_ | refine LeO.bind ?_ (fun _ => ?_)
theorem spec_CountGoingOn.calls (k : Nat) (a0 : Int) (A1 : Option Addr) (c1 : Nat) (l1 : List Int) (r1 : Int) (r2 : Bool) (w : World) (hr1 : Kd.C (Kd.int .i64) w A1 l1.length l1) (hc1 : l1.length ≤ c1) (h : spec_CountGoingOn.f k a0 l1 = some (r1, r2)) :
  Calls Try.prog 77 #[.int .i64 a0, .slice A1 l1.length c1] w fun e w' => e = .returned (.tuple #[.int .i64 r1, .bool r2]) ∧ Below w.heap.size w w' := by
 have HR1 := A_ hr1
 have HC1 := A_ hc1
 clear hr1 hc1
 have HB := A_ (Below.refl w.heap.size w)
 have H : ((spec_quSide.f a0).bind fun t1244 => (if t1244 = true then (if (l1.length : Int) > a0 then (spec_CountGoingOn.j0 k a0 l1 true) else ((spec_l1All.f k l1 0 (wrap64 (a0 - 1))).bind fun t1245 => (spec_CountGoingOn.j0 k a0 l1 (!t1245)))) else (spec_CountGoingOn.j0 k a0 l1 true))) = some (r1, r2) := h
 clear h
 have HC3 := A_ H
 clear H
 go_enter Try.func77, Try.ntmps77
 go_upto_region 1 with (fail)
 go_cut [23] (fun v23 wc => ∃ (kq : Nat) (x23_2 : Bool), v23 = .bool x23_2 ∧ Aside0 (spec_CountGoingOn.j0 kq a0 l1 x23_2 = some (r1, r2)) ∧ Aside0 (kq ≤ k) ∧ Aside0 (Below w.heap.size w wc))
 case first =>
  have H := HC3.out
  clear HC3
  replace H := Option.bind_eq_some_iff.mp H
  obtain ⟨t1244, A40, H⟩ := H
  replace H : (if t1244 = true then (if (l1.length : Int) > a0 then (spec_CountGoingOn.j0 k a0 l1 true) else ((spec_l1All.f k l1 0 (wrap64 (a0 - 1))).bind fun t1245 => (spec_CountGoingOn.j0 k a0 l1 (!t1245)))) else (spec_CountGoingOn.j0 k a0 l1 true)) = some (r1, r2) := H
  have A4 := A_ A40
  clear A40
  by_cases c5 : t1244 = true
  ·
   subst c5
   have H1 : (if (l1.length : Int) > a0 then (spec_CountGoingOn.j0 k a0 l1 true) else ((spec_l1All.f k l1 0 (wrap64 (a0 - 1))).bind fun t1245 => (spec_CountGoingOn.j0 k a0 l1 (!t1245)))) = some (r1, r2) := by rw [if_pos rfl] at H; exact H
   clear H
   have H := H1
   clear H1
   by_cases c6 : (l1.length : Int) > a0
   ·
    rw [if_pos c6] at H
    have c6b0 := decide_eq_true c6
    clear c6
    (first | rw [c6b0] | (simp only [i64_w, i32_w]; rw [c6b0]) | skip)
    have H' := A_ H
    clear H
    go_wp2_with (first | (refine gc_ 167 ?_; refine goesT_ (some 9) Try.func167 #[.int .i64 a0] ?_; (with_reducible refine (spec_quSide.calls a0 true _ A4.out).mono ?_); rintro e w' ⟨rfl, ⟨nd, rfl⟩⟩; refine ⟨_, rfl, ?_⟩))
    go_meet
    case rel => exact ⟨_, (true), tf_, H', ⟨by first | omega | exact Nat.le_refl _⟩, ⟨tb_⟩⟩
   ·
    rw [if_neg c6] at H
    have c6b0 := decide_eq_false c6
    clear c6
    (first | rw [c6b0] | (simp only [i64_w, i32_w]; rw [c6b0]) | skip)
    replace H := Option.bind_eq_some_iff.mp H
    obtain ⟨t1245, A70, H⟩ := H
    replace H : (spec_CountGoingOn.j0 k a0 l1 (!t1245)) = some (r1, r2) := H
    have A7 := A_ A70
    clear A70
    have H' := A_ H
    clear H
    go_wp2_with (first | (refine gc_ 167 ?_; refine goesT_ (some 9) Try.func167 #[.int .i64 a0] ?_; (with_reducible refine (spec_quSide.calls a0 true _ A4.out).mono ?_); rintro e w' ⟨rfl, ⟨nd, rfl⟩⟩; refine ⟨_, rfl, ?_⟩) | (go_at_call 168; (with_reducible refine (spec_l1All.calls k _ _ l1 0 (wrap64 (a0 - 1)) t1245 _ ?side1 ?side2 A7.out).mono ?_); (case side1 => repeat (first | exact (Kd.C_below HR1.out tb_) | (with_reducible refine Kd.C_alloc ?_ _) | (with_reducible refine Kd.C_drewN ?_ _) | (with_reducible refine Kd.C_drew ?_))); (case side2 => exact HC1.out); rintro e w' ⟨rfl, ⟨nd, rfl⟩⟩))
    go_meet
    case rel => exact ⟨_, (!t1245), tf_, H', ⟨by first | omega | exact Nat.le_refl _⟩, ⟨tb_⟩⟩
  ·
   replace c5 := Bool.eq_false_iff.mpr c5
   subst c5
   have H1 : (spec_CountGoingOn.j0 k a0 l1 true) = some (r1, r2) := by rw [if_neg (show ¬ (false = true) by decide)] at H; exact H
   clear H
   have H := H1
   clear H1
   have H' := A_ H
   clear H
   go_wp2_with (first | (refine gc_ 167 ?_; refine goesT_ (some 9) Try.func167 #[.int .i64 a0] ?_; (with_reducible refine (spec_quSide.calls a0 false _ A4.out).mono ?_); rintro e w' ⟨rfl, ⟨nd, rfl⟩⟩; refine ⟨_, rfl, ?_⟩))
   go_meet
   case rel => exact ⟨_, (true), tf_, H', ⟨by first | omega | exact Nat.le_refl _⟩, ⟨tb_⟩⟩
 case rest =>
  clear HC3
  try clear c1
  try clear p2
  try clear c5
  try clear c6
  try clear c6b0
  try clear p6
  try clear c7
  obtain ⟨kq, x23_2, rfl, HA, HJ2, HB⟩ := hcut
  cases kq with
  | zero => exact absurd HA.out (by simp [spec_CountGoingOn.j0])
  | succ kj2 =>
   have H := HA.out
   clear HA
   simp only [spec_CountGoingOn.j0] at H
   by_cases c8 : x23_2 = true
   ·
    subst c8
    have H1 : (some (0, false)) = some (r1, r2) := by rw [if_pos rfl] at H; exact H
    clear H
    have H := H1
    clear H1
    simp only [Option.some.injEq, Prod.mk.injEq] at H
    obtain ⟨rfl, rfl⟩ := H
    go_wp2
    go_ret2
    exact ⟨te_, tb_⟩
   ·
    replace c8 := Bool.eq_false_iff.mpr c8
    subst c8
    have H1 : (spec_CountGoingOn.l0 kj2 a0 l1 l1 (l1.length : Int) 0) = some (r1, r2) := by rw [if_neg (show ¬ (false = true) by decide)] at H; exact H
    clear H
    have H := H1
    clear H1
    have H' := A_ H
    clear H
    go_wp2
    go_loopg [26] kj2 (fun kq v26 w' => ∃ (x26_2 : Int), v26 = .int .i64 x26_2 ∧ Aside0 (spec_CountGoingOn.l0 kq a0 l1 l1 (l1.length : Int) x26_2 = some (r1, r2)) ∧ Aside0 (kq ≤ kj2) ∧ Aside0 (Below w.heap.size w w'))
    case atStart => exact ⟨(0), tf_, H', ⟨Nat.le_refl _⟩, ⟨tb_⟩⟩
    case round =>
     clear H'
     try clear c1
     try clear p2
     try clear c5
     try clear c6
     try clear c6b0
     try clear p6
     try clear c7
     try clear c8
     try clear p2
     try clear p6
     obtain ⟨x26_2, rfl, HA, HK2, HB⟩ := hrel
     cases gk with
     | zero => exact absurd HA.out (by simp [spec_CountGoingOn.l0])
     | succ k2 =>
      have H := HA.out
      clear HA
      simp only [spec_CountGoingOn.l0] at H
      by_cases c9 : x26_2 < (l1.length : Int)
      ·
       rw [if_pos c9] at H
       have c9b0 := decide_eq_true c9
       clear c9
       by_cases c10 : 0 ≤ x26_2
       ·
        rw [if_pos c10] at H
        have c10b0 := decide_eq_true c10
        clear c10
        by_cases c11 : x26_2 < (l1.length : Int)
        ·
         rw [if_pos c11] at H
         have c11b0 := decide_eq_true c11
         clear c11
         have c12b0 := eq_true (od_ : 0 ≤ x26_2)
         by_cases c13 : x26_2 ≤ (l1.length : Int)
         ·
          rw [if_pos c13] at H
          have c13b0 := eq_true c13
          have c13b1 := decide_eq_true c13
          clear c13
          obtain ⟨y1247, hy1247⟩ : ∃ y_ : List Int, y_ = (l1.take (x26_2 : Int).toNat) := ⟨_, rfl⟩
          replace H : ((spec_l1Has.f k2 y1247 (rd l1 x26_2)).bind fun t1251 => (if t1251 = true then (some (0, false)) else (spec_CountGoingOn.l0 k2 a0 l1 l1 (l1.length : Int) (wrap64 (x26_2 + 1))))) = some (r1, r2) := ty_ hy1247 H
          have Ny1247 := A_ hy1247
          clear hy1247
          replace H := Option.bind_eq_some_iff.mp H
          obtain ⟨t1251, A140, H⟩ := H
          replace H : (if t1251 = true then (some (0, false)) else (spec_CountGoingOn.l0 k2 a0 l1 l1 (l1.length : Int) (wrap64 (x26_2 + 1)))) = some (r1, r2) := H
          have A14 := A_ A140
          clear A140
          by_cases c15 : t1251 = true
          ·
           subst c15
           have H1 : (some (0, false)) = some (r1, r2) := by rw [if_pos rfl] at H; exact H
           clear H
           have H := H1
           clear H1
           simp only [Option.some.injEq, Prod.mk.injEq] at H
           obtain ⟨rfl, rfl⟩ := H
           have p1246 : 0 ≤ (x26_2 : Int) := od_
           have q1246 : x26_2 < (l1.length : Int) := od_
           obtain ⟨ad1246, e1246, hx1246_0⟩ := Kd.at_int HR1.out x26_2 p1246 q1246
           cases e1246
           (try replace hx1246_0 := (HB.out.cell (World.block_lt_of_cell? w _ hx1246_0)).trans hx1246_0)
           replace p1246 := eq_true p1246
           replace q1246 := eq_true q1246
           have q16 : (x26_2 : Int) ≤ ((l1.length : Int) : Int) := od_
           obtain ⟨i016, hi016, _, hsz16, _⟩ := info_parts info3
           have hroom16 : l1.length ≤ c1 := HC1.out
           have hC16 : Kd.C (Kd.int .i64) _ (some ad1246) l1.length l1 := HR1.out
           have hcut16 := cut_to (P := Try.prog) 22 3 .i64 Try.underlying22 hi016 (some ad1246) l1.length c1 x26_2 (od_) q16 hroom16
           have hr16 := Kd.C_take (m := (x26_2 : Int).toNat) hC16 (by omega)
           have hy16 : y1247.length = (x26_2 : Int).toNat := (by rw [Ny1247.out, List.length_take]; omega)
           rw [← Ny1247.out] at hr16
           rw [← hy16] at hcut16
           have HR1250 := A_ hr16
           have HC1250 := A_ (show y1247.length ≤ c1 from by omega)
           clear hr16 hC16 hroom16 hi016 hsz16
           have KY16 := A_ hy16
           clear hy16
           replace q16 := eq_true q16
           go_wp2_with (first | (refine gc_ 184 ?_; refine goesT_ (some 35) Try.func184 #[.slice (some ad1246) y1247.length c1, .int .i64 (rd l1 x26_2)] ?_; (with_reducible refine (spec_l1Has.calls k2 _ _ y1247 (rd l1 x26_2) true _ ?side1 ?side2 A14.out).mono ?_); (case side1 => exact tc_ HR1250.out); (case side2 => exact HC1250.out); rintro e w' ⟨rfl, ⟨nd, rfl⟩⟩; refine ⟨_, rfl, ?_⟩))
           go_ret2
           exact ⟨te_, tb_⟩
          ·
           replace c15 := Bool.eq_false_iff.mpr c15
           subst c15
           have H1 : (spec_CountGoingOn.l0 k2 a0 l1 l1 (l1.length : Int) (wrap64 (x26_2 + 1))) = some (r1, r2) := by rw [if_neg (show ¬ (false = true) by decide)] at H; exact H
           clear H
           have H := H1
           clear H1
           have H' := A_ H
           clear H
           have p1246 : 0 ≤ (x26_2 : Int) := od_
           have q1246 : x26_2 < (l1.length : Int) := od_
           obtain ⟨ad1246, e1246, hx1246_0⟩ := Kd.at_int HR1.out x26_2 p1246 q1246
           cases e1246
           (try replace hx1246_0 := (HB.out.cell (World.block_lt_of_cell? w _ hx1246_0)).trans hx1246_0)
           replace p1246 := eq_true p1246
           replace q1246 := eq_true q1246
           have q17 : (x26_2 : Int) ≤ ((l1.length : Int) : Int) := od_
           obtain ⟨i017, hi017, _, hsz17, _⟩ := info_parts info3
           have hroom17 : l1.length ≤ c1 := HC1.out
           have hC17 : Kd.C (Kd.int .i64) _ (some ad1246) l1.length l1 := HR1.out
           have hcut17 := cut_to (P := Try.prog) 22 3 .i64 Try.underlying22 hi017 (some ad1246) l1.length c1 x26_2 (od_) q17 hroom17
           have hr17 := Kd.C_take (m := (x26_2 : Int).toNat) hC17 (by omega)
           have hy17 : y1247.length = (x26_2 : Int).toNat := (by rw [Ny1247.out, List.length_take]; omega)
           rw [← Ny1247.out] at hr17
           rw [← hy17] at hcut17
           have HR1250 := A_ hr17
           have HC1250 := A_ (show y1247.length ≤ c1 from by omega)
           clear hr17 hC17 hroom17 hi017 hsz17
           have KY17 := A_ hy17
           clear hy17
           replace q17 := eq_true q17
           go_wp2_with (first | (refine gc_ 184 ?_; refine goesT_ (some 35) Try.func184 #[.slice (some ad1246) y1247.length c1, .int .i64 (rd l1 x26_2)] ?_; (with_reducible refine (spec_l1Has.calls k2 _ _ y1247 (rd l1 x26_2) false _ ?side1 ?side2 A14.out).mono ?_); (case side1 => exact tc_ HR1250.out); (case side2 => exact HC1250.out); rintro e w' ⟨rfl, ⟨nd, rfl⟩⟩; refine ⟨_, rfl, ?_⟩))
           go_roundg k2
           case measure => have := HJ2.out; have := HK2.out; omega
           case rel => exact ⟨(wrap64 (x26_2 + 1)), tf_, H', ⟨by have := HJ2.out; have := HK2.out; omega⟩, ⟨tb_⟩⟩
         ·
          rw [if_neg c13] at H
          exact absurd H (by simp)
        ·
         rw [if_neg c11] at H
         exact absurd H (by simp)
       ·
        rw [if_neg c10] at H
        exact absurd H (by simp)
      ·
       rw [if_neg c9] at H
       have c9b0 := decide_eq_false c9
       clear c9
       replace H := Option.bind_eq_some_iff.mp H
       obtain ⟨t1252, A180, H⟩ := H
       replace H : (if (t1252.length : Int) > 0 then (some (0, true)) else ((spec_quAll.f k2 a0 l1).bind fun t1255 => (some ((t1255.length : Int), true)))) = some (r1, r2) := H
       have A18 := A_ A180
       clear A180
       by_cases c19 : (t1252.length : Int) > 0
       ·
        rw [if_pos c19] at H
        have c19b0 := decide_eq_true c19
        have c19b1 : decide (0 < t1252.length) = true := decide_eq_true (by omega)
        clear c19
        simp only [Option.some.injEq, Prod.mk.injEq] at H
        obtain ⟨rfl, rfl⟩ := H
        go_wp2_with (first | (refine gc_ 185 ?_; refine goesT_ (some 38) Try.func185 #[.slice A1 l1.length c1] ?_; (with_reducible refine (spec_quAttacks.calls k2 _ _ l1 t1252 _ ?side1 ?side2 A18.out).mono ?_); (case side1 => exact tc_ HR1.out); (case side2 => exact HC1.out); rintro e w20 ⟨v1253, rfl, ho0, hb⟩; refine ⟨_, rfl, ?_⟩; have HO1254 := A_ (Kd.N_lower (Kd.N_mono (ok' := fun k_ => True) (Kd.S_N (Kd.S_bound ho0)) (fun k_ hk_ => trivial)) (below_size tb_)); replace HB := A_ (below_step tb_ hb); (try clear hb); (try clear ho0); obtain ⟨Ao21, co21, eo21⟩ := Kd.N_slice HO1254.out; subst eo21))
        go_ret2
        exact ⟨te_, tb_⟩
       ·
        rw [if_neg c19] at H
        have c19b0 := decide_eq_false c19
        have c19b1 : decide (0 < t1252.length) = false := decide_eq_false (by omega)
        clear c19
        replace H := Option.bind_eq_some_iff.mp H
        obtain ⟨t1255, A220, H⟩ := H
        replace H : (some ((t1255.length : Int), true)) = some (r1, r2) := H
        have A22 := A_ A220
        clear A220
        simp only [Option.some.injEq, Prod.mk.injEq] at H
        obtain ⟨rfl, rfl⟩ := H
        go_wp2_with (first | (refine gc_ 185 ?_; refine goesT_ (some 38) Try.func185 #[.slice A1 l1.length c1] ?_; (with_reducible refine (spec_quAttacks.calls k2 _ _ l1 t1252 _ ?side1 ?side2 A18.out).mono ?_); (case side1 => exact tc_ HR1.out); (case side2 => exact HC1.out); rintro e w23 ⟨v1253, rfl, ho0, hb⟩; refine ⟨_, rfl, ?_⟩; have HO1254 := A_ (Kd.N_lower (Kd.N_mono (ok' := fun k_ => True) (Kd.S_N (Kd.S_bound ho0)) (fun k_ hk_ => trivial)) (below_size tb_)); replace HB := A_ (below_step tb_ hb); (try clear hb); (try clear ho0); obtain ⟨Ao24, co24, eo24⟩ := Kd.N_slice HO1254.out; subst eo24) | (refine gc_ 178 ?_; refine goesT_ (some 43) Try.func178 #[.int .i64 a0, .slice A1 l1.length c1] ?_; (with_reducible refine (spec_quAll.calls k2 a0 _ _ l1 t1255 _ ?side1 ?side2 A22.out).mono ?_); (case side1 => exact tc_ HR1.out); (case side2 => exact HC1.out); rintro e w25 ⟨v1256, rfl, ho0, hb⟩; refine ⟨_, rfl, ?_⟩; have HO1257 := A_ (Kd.N_lower (Kd.N_mono (ok' := fun k_ => some k_ ≠ (.slice Ao24 t1252.length co24 : Value).ownBlock) ho0 (fun k_ hk_ => (Kd.fresh' (Kd.N_lt (by (with_reducible repeat (first | apply Kd.N_alloc | apply Kd.N_drewN | apply Kd.N_drew)); exact HO1254.out)) k_ hk_))) (below_size tb_)); replace HO1254 := A_ (Kd.N_elder' (by (with_reducible repeat (first | apply Kd.N_alloc | apply Kd.N_drewN | apply Kd.N_drew)); exact HO1254.out) (by first | exact Kd.N_base ho0 | exact Kd.S_base ho0) hb); replace HB := A_ (below_step tb_ hb); (try clear hb); (try clear ho0); obtain ⟨Ao26, co26, eo26⟩ := Kd.N_slice HO1257.out; subst eo26))
        go_ret2
        exact ⟨te_, tb_⟩

/-! ### spec_DrawAreQueens: function 186 -/
def spec_DrawAreQueens.f (k : Nat) (l0 : List Int) : Option (List Int) := (spec_l1Cur_queens.f k l0 0 0).bind fun bt1259 => (some bt1259.1)
theorem spec_DrawAreQueens.mono : ∀ a0 k, LeO (spec_DrawAreQueens.f k a0) (spec_DrawAreQueens.f (k + 1) a0) := by
 intro a0 k
 unfold spec_DrawAreQueens.f
 repeat' first | (with_reducible first | exact spec_l1Cur_queens.mono _ _ _ _ | exact LeO.refl _ | exact LeO.none _ | refine LeO.ite ?_ ?_ | refine LeO.bind ?_ (fun _ => ?_)) | exact spec_l1Cur_queens.mono _ _ _ _ | exact LeO.none _ | refine LeO.ite ?_ ?_ | refine LeO.bind ?_ (fun _ => ?_)
theorem spec_DrawAreQueens.calls (k : Nat) (A0 : Option Addr) (c0 : Nat) (l0 : List Int) (r : List Int) (w : World) (hr0 : Kd.C (Kd.int .u8) w A0 l0.length l0) (hc0 : l0.length ≤ c0) (h : spec_DrawAreQueens.f k l0 = some r) :
  Calls Try.prog 186 #[.slice A0 l0.length c0] w fun e w' => ∃ v0_ : Value, e = .returned (v0_) ∧ Kd.R (Kd.int .i64) 3 w' w.heap.size (fun _ => True) v0_ r ∧ Below w.heap.size w w' := by
 have hu122 := Try.underlying122
 have HR0 := A_ hr0
 have HC0 := A_ hc0
 clear hr0 hc0
 have HB := A_ (Below.refl w.heap.size w)
 have H : ((spec_l1Cur_queens.f k l0 0 0).bind fun bt1259 => (some bt1259.1)) = some r := h
 clear h
 replace H := Option.bind_eq_some_iff.mp H
 obtain ⟨⟨t1259, t1262, t1263⟩, A20, H⟩ := H
 replace H : (some t1259) = some r := H
 have A2 := A_ A20
 clear A20
 obtain rfl := Option.some.inj H
 go_enter Try.func186, Try.ntmps186
 go_wp2_with (first | (refine gd_ 6 ?_; refine bx_ 6 #[.slice A0 l0.length c0, .int .i64 0, .int .u64 0] 122 ?_; intro gb1258 hg w3 hbox hb; have HI1258 := A_ ((⟨_, _, hbox, (by rw [hg]; exact (below_size tb_)), HR0.out⟩ : IsS122 w w3 gb1258 l0 0 0)); replace HB := A_ (below_step tb_ hb); clear hb hbox hg) | (refine gc_ 181 ?_; refine goesT_ (some 8) Try.func181 #[.pointer (some ⟨gb1258, 0, none⟩)] ?_; (with_reducible refine (spec_l1Cur_queens.calls k gb1258 l0 0 0 t1259 t1262 t1263 w _ ?side1 ?side2 A2.out).mono ?_); (case side1 => repeat (first | (with_reducible first | exact HI1258.out | apply IsS122.alloc | apply IsS122.drewN | apply IsS122.drew | apply IsS122.set_1 | apply IsS122.set_2) | exact HI1258.out)); (case side2 => repeat (first | (with_reducible first | exact HB.out | apply below_alloc | apply pw_below_drewN | apply below_drew1 | refine below_set ?_ (IsS122.ge HI1258.out)) | exact HB.out)); rintro e w4 ⟨v1260, rfl, ho0, hi, hb, hk⟩; refine ⟨_, rfl, ?_⟩; have HO1261 := A_ (Kd.R_lower ho0 (below_size (by repeat (first | (with_reducible first | exact HB.out | apply below_alloc | apply pw_below_drewN | apply below_drew1 | refine below_set ?_ (IsS122.ge HI1258.out)) | exact HB.out)))); replace HB := A_ (hb); replace HI1258 := A_ (hi); (try clear hb); (try clear hb2); (try clear hk); (try clear hi); (try clear ho0)))
 go_ret
 exact ⟨_, te_, tr_x HO1261.out, by repeat (first | (with_reducible first | exact HB.out | apply below_alloc | apply pw_below_drewN | apply below_drew1 | refine below_set ?_ (IsS122.ge HI1258.out)) | exact HB.out)⟩

/-! ### spec_DrawAttacksOf: function 78 -/
def spec_DrawAttacksOf.f (k : Nat) (l0 : List Int) : Option (List Int) := (spec_DrawAreQueens.f k l0).bind fun t1264 => (some t1264)
theorem spec_DrawAttacksOf.mono : ∀ a0 k, LeO (spec_DrawAttacksOf.f k a0) (spec_DrawAttacksOf.f (k + 1) a0) := by
 intro a0 k
 unfold spec_DrawAttacksOf.f
 repeat' first | (with_reducible first | exact spec_DrawAreQueens.mono _ _ | exact LeO.refl _ | exact LeO.none _ | refine LeO.ite ?_ ?_ | refine LeO.bind ?_ (fun _ => ?_)) | exact spec_DrawAreQueens.mono _ _ | exact LeO.none _ | refine LeO.ite ?_ ?_ | refine LeO.bind ?_ (fun _ => ?_)
theorem spec_DrawAttacksOf.calls (k : Nat) (A0 : Option Addr) (c0 : Nat) (l0 : List Int) (r : List Int) (w : World) (hr0 : Kd.C (Kd.int .u8) w A0 l0.length l0) (hc0 : l0.length ≤ c0) (h : spec_DrawAttacksOf.f k l0 = some r) :
  Calls Try.prog 78 #[.slice A0 l0.length c0] w fun e w' => ∃ v0_ : Value, e = .returned (v0_) ∧ Kd.R (Kd.int .i64) 3 w' w.heap.size (fun _ => True) v0_ r ∧ Below w.heap.size w w' := by
 have HR0 := A_ hr0
 have HC0 := A_ hc0
 clear hr0 hc0
 have HB := A_ (Below.refl w.heap.size w)
 have H : ((spec_DrawAreQueens.f k l0).bind fun t1264 => (some t1264)) = some r := h
 clear h
 replace H := Option.bind_eq_some_iff.mp H
 obtain ⟨t1264, A20, H⟩ := H
 replace H : (some t1264) = some r := H
 have A2 := A_ A20
 clear A20
 obtain rfl := Option.some.inj H
 go_enter Try.func78, Try.ntmps78
 go_wp2_with (first | (refine gc_ 186 ?_; refine goesT_ (some 4) Try.func186 #[.slice A0 l0.length c0] ?_; (with_reducible refine (spec_DrawAreQueens.calls k _ _ l0 t1264 _ ?side1 ?side2 A2.out).mono ?_); (case side1 => exact tc0_ HR0.out); (case side2 => exact HC0.out); rintro e w3 ⟨v1265, rfl, ho0, hb⟩; refine ⟨_, rfl, ?_⟩; have HO1266 := A_ (Kd.R_lower ho0 (below_size tb_)); replace HB := A_ (below_step tb_ hb); (try clear hb); (try clear ho0)))
 go_ret
 exact ⟨_, te_, tr_x HO1266.out, tb_⟩

/-! ### impl_AttacksOf: function 79 -/
mutual
def impl_AttacksOf.l0 : Nat → List Int → List (List Int) → List Int → Int → Int → Option ((List (List Int)) × Bool)
 | 0, _, _, _, _, _ => none
 | k + 1, x0, x4, x12, x13, x14 => if x14 < x13 then (if 0 ≤ x14 then (if x14 < (x12.length : Int) then (impl_AttacksOf.l1 k x0 x4 x14 (rd x12 x14) (wrap64 (x14 + 1)) x12 x13 x14) else (none)) else (none)) else (some (x4, true))
def impl_AttacksOf.l1 : Nat → List Int → List (List Int) → Int → Int → Int → List Int → Int → Int → Option ((List (List Int)) × Bool)
 | 0, _, _, _, _, _, _, _, _ => none
 | k + 1, x0, x4, x5, x6, x7, x12, x13, x14 => if x7 < (x0.length : Int) then (if 0 ≤ x7 then ((impl_attacked.f x5 x6 x7 (rd x0 x7)).bind fun t1273 => (if t1273 = true then (if x4.length < 5864062014805 then (impl_AttacksOf.l1 k x0 (x4 ++ [(([x5, x7] : List Int))]) x5 x6 (wrap64 (x7 + 1)) x12 x13 x14) else (none)) else (impl_AttacksOf.l1 k x0 x4 x5 x6 (wrap64 (x7 + 1)) x12 x13 x14))) else (none)) else (impl_AttacksOf.l0 k x0 x4 x12 x13 (wrap64 (x14 + 1)))
end
def impl_AttacksOf.f (k : Nat) (l0 : List Int) : Option ((List (List Int)) × Bool) := (impl_isList.f k l0).bind fun t1267 => (if t1267 = true then (impl_AttacksOf.l0 k l0 (([] : List (List Int))) l0 (l0.length : Int) 0) else (some (([] : List (List Int)), false)))
theorem impl_AttacksOf.mono_l : ∀ k, (∀ y0 y1 y2 y3 y4, LeO (impl_AttacksOf.l0 k y0 y1 y2 y3 y4) (impl_AttacksOf.l0 (k + 1) y0 y1 y2 y3 y4)) ∧ (∀ y0 y1 y2 y3 y4 y5 y6 y7, LeO (impl_AttacksOf.l1 k y0 y1 y2 y3 y4 y5 y6 y7) (impl_AttacksOf.l1 (k + 1) y0 y1 y2 y3 y4 y5 y6 y7))
 | 0 => ⟨fun _ _ _ _ _ r h => by simp [impl_AttacksOf.l0] at h, fun _ _ _ _ _ _ _ _ r h => by simp [impl_AttacksOf.l1] at h⟩
 | k + 1 => by
  obtain ⟨ih0, ih1⟩ := impl_AttacksOf.mono_l k
  refine ⟨?_, ?_⟩
  ·
   intro y0 y1 y2 y3 y4
   unfold impl_AttacksOf.l0
   repeat' first | (with_reducible first | exact ih0 _ _ _ _ _ | exact ih1 _ _ _ _ _ _ _ _ | exact impl_isList.mono _ _ | exact LeO.refl _ | exact LeO.none _ | refine LeO.ite ?_ ?_ | refine LeO.bind ?_ (fun _ => ?_)) | exact ih0 _ _ _ _ _ | exact ih1 _ _ _ _ _ _ _ _ | exact impl_isList.mono _ _ | exact LeO.none _ | refine LeO.ite ?_ ?_ | refine LeO.bind ?_ (fun _ => ?_)
  ·
   intro y0 y1 y2 y3 y4 y5 y6 y7
   unfold impl_AttacksOf.l1
   repeat' first | (with_reducible first | exact ih0 _ _ _ _ _ | exact ih1 _ _ _ _ _ _ _ _ | exact impl_isList.mono _ _ | exact LeO.refl _ | exact LeO.none _ | refine LeO.ite ?_ ?_ | refine LeO.bind ?_ (fun _ => ?_)) | exact ih0 _ _ _ _ _ | exact ih1 _ _ _ _ _ _ _ _ | exact impl_isList.mono _ _ | exact LeO.none _ | refine LeO.ite ?_ ?_ | refine LeO.bind ?_ (fun _ => ?_)
theorem impl_AttacksOf.mono : ∀ a0 k, LeO (impl_AttacksOf.f k a0) (impl_AttacksOf.f (k + 1) a0) := by
 intro a0 k
 obtain ⟨ih0, ih1⟩ := impl_AttacksOf.mono_l k
 unfold impl_AttacksOf.f
 repeat' first | (with_reducible first | exact ih0 _ _ _ _ _ | exact ih1 _ _ _ _ _ _ _ _ | exact impl_isList.mono _ _ | exact LeO.refl _ | exact LeO.none _ | refine LeO.ite ?_ ?_ | refine LeO.bind ?_ (fun _ => ?_)) | exact ih0 _ _ _ _ _ | exact ih1 _ _ _ _ _ _ _ _ | exact impl_isList.mono _ _ | exact LeO.none _ | refine LeO.ite ?_ ?_ | refine LeO.bind ?_ (fun _ => ?_)
theorem impl_AttacksOf.calls (k : Nat) (A0 : Option Addr) (c0 : Nat) (l0 : List Int) (r1 : List (List Int)) (r2 : Bool) (w : World) (hr0 : Kd.C (Kd.int .i64) w A0 l0.length l0) (hc0 : l0.length ≤ c0) (h : impl_AttacksOf.f k l0 = some (r1, r2)) :
  Calls Try.prog 79 #[.slice A0 l0.length c0] w fun e w' => ∃ v0_ : Value, e = .returned (.tuple #[v0_, .bool r2]) ∧ Kd.S (Kd.slice 3 (Kd.int .i64)) 22 w' w.heap.size (fun _ => True) v0_ r1 ∧ Below w.heap.size w w' := by
 have HR0 := A_ hr0
 have HC0 := A_ hc0
 clear hr0 hc0
 have HB := A_ (Below.refl w.heap.size w)
 have H : ((impl_isList.f k l0).bind fun t1267 => (if t1267 = true then (impl_AttacksOf.l0 k l0 (([] : List (List Int))) l0 (l0.length : Int) 0) else (some (([] : List (List Int)), false)))) = some (r1, r2) := h
 clear h
 replace H := Option.bind_eq_some_iff.mp H
 obtain ⟨t1267, A20, H⟩ := H
 replace H : (if t1267 = true then (impl_AttacksOf.l0 k l0 (([] : List (List Int))) l0 (l0.length : Int) 0) else (some (([] : List (List Int)), false))) = some (r1, r2) := H
 have A2 := A_ A20
 clear A20
 by_cases c3 : t1267 = true
 ·
  subst c3
  have H1 : (impl_AttacksOf.l0 k l0 (([] : List (List Int))) l0 (l0.length : Int) 0) = some (r1, r2) := by rw [if_pos rfl] at H; exact H
  clear H
  have H := H1
  clear H1
  obtain ⟨y1268, hy1268⟩ : ∃ y_ : List (List Int), y_ = (([] : List (List Int))) := ⟨_, rfl⟩
  replace H : (impl_AttacksOf.l0 k l0 y1268 l0 (l0.length : Int) 0) = some (r1, r2) := ty_ hy1268 H
  have Ny1268 := A_ hy1268
  clear hy1268
  have H' := A_ H
  clear H
  go_enter Try.func79, Try.ntmps79
  go_wp2_with (first | (refine gc_ 170 ?_; refine goesT_ (some 9) Try.func170 #[.slice A0 l0.length c0] ?_; (with_reducible refine (impl_isList.calls k _ _ l0 true _ ?side1 ?side2 A2.out).mono ?_); (case side1 => exact tc0_ HR0.out); (case side2 => exact HC0.out); rintro e w' ⟨rfl, ⟨nd, rfl⟩⟩; refine ⟨_, rfl, ?_⟩) | (refine gd_ 11 ?_; refine Kd.S_lit (Kd.slice 3 (Kd.int .i64)) _ 22 ?hg (N := 11) ?hd (xs := ([] : List (List Int))) (inner := []) (ok := fun _ => True) (okp := fun _ => True) ?hr ?hp (fun _ hk => hk) trivial (Below.refl _ _) (Nat.le_refl _) (by simp) ?_; (case hd => rfl); (case hg => rfl); (case hr => first | (go_simp; done) | (go_simp; rfl)); (case hp => exact (Reps.none _ _)); intro v1269 w4 ho5 hb hg_ hnew_; clear hg_ hnew_; (first | rw [← Ny1268.out] at ho5 | (simp only [Int.reduceToNat] at ho5; rw [← Ny1268.out] at ho5)); have HO1270 := A_ (Kd.S_lower ho5 (below_size tb_)); replace HB := A_ (below_step tb_ hb); clear hb ho5))
  go_loopg [4, 14] k (fun kq v4 v14 w' => ∃ (x4_1 : List (List Int)) (x14_1 : Int), v14 = .int .i64 x14_1 ∧ Aside0 (impl_AttacksOf.l0 kq l0 x4_1 l0 (l0.length : Int) x14_1 = some (r1, r2)) ∧ Aside0 (kq ≤ k) ∧ Aside0 (Kd.S (Kd.slice 3 (Kd.int .i64)) 22 w' w.heap.size (fun _ => True) v4 x4_1) ∧ Aside0 (Below w.heap.size w w'))
  case atStart => exact ⟨(y1268), (0), tf_, H', ⟨Nat.le_refl _⟩, ⟨ts1_x HO1270.out⟩, ⟨tb_⟩⟩
  case round =>
   clear H'
   try clear c1
   try clear p2
   try clear c3
   obtain ⟨x4_1, x14_1, rfl, HA, HK1, HO_4, HB⟩ := hrel
   cases gk with
   | zero => exact absurd HA.out (by simp [impl_AttacksOf.l0])
   | succ k1 =>
    have H := HA.out
    clear HA
    simp only [impl_AttacksOf.l0] at H
    by_cases c6 : x14_1 < (l0.length : Int)
    ·
     rw [if_pos c6] at H
     have c6b0 := decide_eq_true c6
     clear c6
     by_cases c7 : 0 ≤ x14_1
     ·
      rw [if_pos c7] at H
      have c7b0 := decide_eq_true c7
      clear c7
      by_cases c8 : x14_1 < (l0.length : Int)
      ·
       rw [if_pos c8] at H
       have c8b0 := decide_eq_true c8
       clear c8
       have H' := A_ H
       clear H
       have p1271 : 0 ≤ (x14_1 : Int) := od_
       have q1271 : x14_1 < (l0.length : Int) := od_
       obtain ⟨ad1271, e1271, hx1271_0⟩ := Kd.at_int HR0.out x14_1 p1271 q1271
       cases e1271
       (try replace hx1271_0 := (HB.out.cell (World.block_lt_of_cell? w _ hx1271_0)).trans hx1271_0)
       replace p1271 := eq_true p1271
       replace q1271 := eq_true q1271
       go_wp2
       go_loopg [4, 7] k1 (fun kq v4 v7 w' => ∃ (x4_2 : List (List Int)) (x7_2 : Int), v7 = .int .i64 x7_2 ∧ Aside0 (impl_AttacksOf.l1 kq l0 x4_2 x14_1 (rd l0 x14_1) x7_2 l0 (l0.length : Int) x14_1 = some (r1, r2)) ∧ Aside0 (kq ≤ k1) ∧ Aside0 (Kd.S (Kd.slice 3 (Kd.int .i64)) 22 w' w.heap.size (fun _ => True) v4 x4_2) ∧ Aside0 (Below w.heap.size w w'))
       case atStart => exact ⟨(x4_1), (wrap64 (x14_1 + 1)), tf_, H', ⟨Nat.le_refl _⟩, ⟨ts1_x HO_4.out⟩, ⟨tb_⟩⟩
       case round =>
        clear H'
        try clear c1
        try clear p1
        try clear q1
        try clear hx1
        try clear p2
        try clear c3
        try clear c6
        try clear c6b0
        try clear p6
        try clear c7
        try clear c7b0
        try clear c8
        try clear c8b0
        try clear hx1271_0
        try clear p1271
        try clear p2
        try clear q1271
        obtain ⟨x4_2, x7_2, rfl, HA, HK2, HO_4, HB⟩ := hrel
        cases gk with
        | zero => exact absurd HA.out (by simp [impl_AttacksOf.l1])
        | succ k2 =>
         have H := HA.out
         clear HA
         simp only [impl_AttacksOf.l1] at H
         by_cases c9 : x7_2 < (l0.length : Int)
         ·
          rw [if_pos c9] at H
          have c9b0 := decide_eq_true c9
          clear c9
          by_cases c10 : 0 ≤ x7_2
          ·
           rw [if_pos c10] at H
           have c10b0 := decide_eq_true c10
           clear c10
           replace H := Option.bind_eq_some_iff.mp H
           obtain ⟨t1273, A110, H⟩ := H
           replace H : (if t1273 = true then (if x4_2.length < 5864062014805 then (impl_AttacksOf.l1 k2 l0 (x4_2 ++ [(([x14_1, x7_2] : List Int))]) x14_1 (rd l0 x14_1) (wrap64 (x7_2 + 1)) l0 (l0.length : Int) x14_1) else (none)) else (impl_AttacksOf.l1 k2 l0 x4_2 x14_1 (rd l0 x14_1) (wrap64 (x7_2 + 1)) l0 (l0.length : Int) x14_1)) = some (r1, r2) := H
           have A11 := A_ A110
           clear A110
           by_cases c12 : t1273 = true
           ·
            subst c12
            have H1 : (if x4_2.length < 5864062014805 then (impl_AttacksOf.l1 k2 l0 (x4_2 ++ [(([x14_1, x7_2] : List Int))]) x14_1 (rd l0 x14_1) (wrap64 (x7_2 + 1)) l0 (l0.length : Int) x14_1) else (none)) = some (r1, r2) := by rw [if_pos rfl] at H; exact H
            clear H
            have H := H1
            clear H1
            obtain ⟨y1274, hy1274⟩ : ∃ y_ : List Int, y_ = (([x14_1, x7_2] : List Int)) := ⟨_, rfl⟩
            replace H : (if x4_2.length < 5864062014805 then (impl_AttacksOf.l1 k2 l0 (x4_2 ++ [y1274]) x14_1 (rd l0 x14_1) (wrap64 (x7_2 + 1)) l0 (l0.length : Int) x14_1) else (none)) = some (r1, r2) := ty_ hy1274 H
            have Ny1274 := A_ hy1274
            clear hy1274
            by_cases c13 : x4_2.length < 5864062014805
            ·
             rw [if_pos c13] at H
             have LMc13 := A_ c13
             clear c13
             obtain ⟨y1277, hy1277⟩ : ∃ y_ : List (List Int), y_ = (x4_2 ++ [y1274]) := ⟨_, rfl⟩
             replace H : (impl_AttacksOf.l1 k2 l0 y1277 x14_1 (rd l0 x14_1) (wrap64 (x7_2 + 1)) l0 (l0.length : Int) x14_1) = some (r1, r2) := ty_ hy1277 H
             have Ny1277 := A_ hy1277
             clear hy1277
             have H' := A_ H
             clear H
             have p1272 : 0 ≤ (x7_2 : Int) := od_
             have q1272 : x7_2 < (l0.length : Int) := od_
             obtain ⟨ad1272, e1272, hx1272_0⟩ := Kd.at_int HR0.out x7_2 p1272 q1272
             obtain rfl : ad1271 = ad1272 := (by injection e1272)
             (try replace hx1272_0 := (HB.out.cell (World.block_lt_of_cell? w _ hx1272_0)).trans hx1272_0)
             replace p1272 := eq_true p1272
             replace q1272 := eq_true q1272
             go_wp2_with (first | (refine gc_ 187 ?_; refine goesT_ (some 34) Try.func187 #[.int .i64 x14_1, .int .i64 (rd l0 x14_1), .int .i64 x7_2, .int .i64 (rd l0 x7_2)] ?_; (with_reducible refine (impl_attacked.calls x14_1 (rd l0 x14_1) x7_2 (rd l0 x7_2) true _ A11.out).mono ?_); rintro e w14 ⟨rfl, hb⟩; refine ⟨_, rfl, ?_⟩; replace HO_4 := A_ (Kd.S_below (ts1_x HO_4.out) hb); replace HB := A_ (below_step tb_ hb); (try clear hb)) | (refine gd_ 38 ?_; refine Kd.R_lit (Kd.int .i64) _ 3 ?hg (N := 38) ?hd (xs := ([x14_1, x7_2] : List Int)) (inner := [.int .i64 x14_1, .int .i64 x7_2]) (ok := fun _ => True) (okp := fun _ => True) ?hr ?hp (fun _ hk => hk) trivial (Below.refl _ _) (Nat.le_refl _) (by simp) ?_; (case hd => rfl); (case hg => rfl); (case hr => first | (go_simp; done) | (go_simp; rfl)); (case hp => exact (Reps.one (show Kd.M (Kd.int .i64) _ _ _ x14_1 [.int .i64 x14_1] from rfl) (Reps.one (show Kd.M (Kd.int .i64) _ _ _ x7_2 [.int .i64 x7_2] from rfl) (Reps.none _ _)))); intro v1275 w15 ho16 hb hg_ hnew_; clear hg_ hnew_; (first | rw [← Ny1274.out] at ho16 | (simp only [Int.reduceToNat] at ho16; rw [← Ny1274.out] at ho16)); replace HO_4 := A_ (Kd.S_elder' (ts1_x HO_4.out) (Kd.R_base ho16) hb); have HO1276 := A_ (Kd.R_lower ho16 (below_size tb_)); replace HB := A_ (below_step tb_ hb); clear hb ho16; obtain ⟨Ao18, co18, eo18⟩ := Kd.R_slice HO1276.out; subst eo18) | ((with_reducible refine gate_builtin (b := .append) (xs := #[.tmp 35, .tmp 39]) rfl ?_); at_builtin; refine Kd.S_append (Kd.slice 3 (Kd.int .i64)) (w0 := w) w.heap.size rfl (.tmp 35) (.tmp 39) 38 22 (.slice none 0 0) 24 rfl Try.underlying38 info22 rfl (by decide) (by omega) u4 x4_2 y1274 [.slice Ao18 y1274.length co18] (fun _ => True) (fun k_ => some k_ = (.slice Ao18 y1274.length co18 : Value).ownBlock) rfl rfl ?aP (fun k_ hk_ => ((Kd.R_mono (ok' := fun k_ => ((fun _ => True)) k_ ∧ some k_ ≠ (u4 : Value).ownBlock) (Kd.R_apart' (HO1276.out) (Kd.S_typed HO_4.out) (by decide)) (fun k_ hk => ⟨trivial, hk.2⟩))).1 k_ hk_.symm) ?aF ?aO ?aB ?aS ?aL ?_; (case aP => exact Kd.M_row (Kd.R_mono (Kd.R_tight rfl (Kd.R_mono (ok' := fun k_ => ((fun _ => True)) k_ ∧ some k_ ≠ (u4 : Value).ownBlock) (Kd.R_apart' (HO1276.out) (Kd.S_typed HO_4.out) (by decide)) (fun k_ hk => ⟨trivial, hk.2⟩))) (fun _ h_ => h_))); (case aB => exact tb_); (case aF => exact (fun _ _ => trivial)); (case aO => exact (ts1_ (h := by exact Kd.S_mono HO_4.out (fun k_ hk => ⟨trivial, fun e_ => hk.2 e_⟩)))); (case aS => exact (below_size tb_)); (case aL => have := LMc13.out; omega); intro v1278 w17 ho hb hg hat; rw [← Ny1277.out] at ho; have n0_ := A_ (hb); have n1_ := A_ (ho); clear HB; clear HO_4; clear HO1276; have HB := n0_; have HO1279 := n1_; clear n0_ n1_; clear ho hb hg hat))
             go_roundg k2
             case measure => have := HK1.out; have := HK2.out; omega
             case rel => exact ⟨(y1277), (wrap64 (x7_2 + 1)), tf_, H', ⟨by have := HK1.out; have := HK2.out; omega⟩, ⟨ts1_x HO1279.out⟩, ⟨tb_⟩⟩
            ·
             rw [if_neg c13] at H
             exact absurd H (by simp)
           ·
            replace c12 := Bool.eq_false_iff.mpr c12
            subst c12
            have H1 : (impl_AttacksOf.l1 k2 l0 x4_2 x14_1 (rd l0 x14_1) (wrap64 (x7_2 + 1)) l0 (l0.length : Int) x14_1) = some (r1, r2) := by rw [if_neg (show ¬ (false = true) by decide)] at H; exact H
            clear H
            have H := H1
            clear H1
            have H' := A_ H
            clear H
            have p1272 : 0 ≤ (x7_2 : Int) := od_
            have q1272 : x7_2 < (l0.length : Int) := od_
            obtain ⟨ad1272, e1272, hx1272_0⟩ := Kd.at_int HR0.out x7_2 p1272 q1272
            obtain rfl : ad1271 = ad1272 := (by injection e1272)
            (try replace hx1272_0 := (HB.out.cell (World.block_lt_of_cell? w _ hx1272_0)).trans hx1272_0)
            replace p1272 := eq_true p1272
            replace q1272 := eq_true q1272
            go_wp2_with (first | (refine gc_ 187 ?_; refine goesT_ (some 34) Try.func187 #[.int .i64 x14_1, .int .i64 (rd l0 x14_1), .int .i64 x7_2, .int .i64 (rd l0 x7_2)] ?_; (with_reducible refine (impl_attacked.calls x14_1 (rd l0 x14_1) x7_2 (rd l0 x7_2) false _ A11.out).mono ?_); rintro e w19 ⟨rfl, hb⟩; refine ⟨_, rfl, ?_⟩; replace HO_4 := A_ (Kd.S_below (ts1_x HO_4.out) hb); replace HB := A_ (below_step tb_ hb); (try clear hb)))
            go_roundg k2
            case measure => have := HK1.out; have := HK2.out; omega
            case rel => exact ⟨(x4_2), (wrap64 (x7_2 + 1)), tf_, H', ⟨by have := HK1.out; have := HK2.out; omega⟩, ⟨ts1_x HO_4.out⟩, ⟨tb_⟩⟩
          ·
           rw [if_neg c10] at H
           exact absurd H (by simp)
         ·
          rw [if_neg c9] at H
          have c9b0 := decide_eq_false c9
          clear c9
          have H' := A_ H
          clear H
          go_wp2
          go_roundg k2
          case measure => have := HK1.out; have := HK2.out; omega
          case rel => exact ⟨(x4_2), (wrap64 (x14_1 + 1)), tf_, H', ⟨by have := HK1.out; have := HK2.out; omega⟩, ⟨ts1_x HO_4.out⟩, ⟨tb_⟩⟩
      ·
       rw [if_neg c8] at H
       exact absurd H (by simp)
     ·
      rw [if_neg c7] at H
      exact absurd H (by simp)
    ·
     rw [if_neg c6] at H
     have c6b0 := decide_eq_false c6
     clear c6
     simp only [Option.some.injEq, Prod.mk.injEq] at H
     obtain ⟨rfl, rfl⟩ := H
     go_wp2
     go_ret2
     exact ⟨_, te_, by (with_reducible repeat (first | apply Kd.S_alloc | apply Kd.S_drewN | apply Kd.S_drew)); exact HO_4.out, tb_⟩
 ·
  replace c3 := Bool.eq_false_iff.mpr c3
  subst c3
  have H1 : (some (([] : List (List Int)), false)) = some (r1, r2) := by rw [if_neg (show ¬ (false = true) by decide)] at H; exact H
  clear H
  have H := H1
  clear H1
  simp only [Option.some.injEq, Prod.mk.injEq] at H
  obtain ⟨rfl, rfl⟩ := H
  go_enter Try.func79, Try.ntmps79
  go_wp2_with (first | (refine gc_ 170 ?_; refine goesT_ (some 9) Try.func170 #[.slice A0 l0.length c0] ?_; (with_reducible refine (impl_isList.calls k _ _ l0 false _ ?side1 ?side2 A2.out).mono ?_); (case side1 => exact tc0_ HR0.out); (case side2 => exact HC0.out); rintro e w' ⟨rfl, ⟨nd, rfl⟩⟩; refine ⟨_, rfl, ?_⟩))
  go_ret2
  exact ⟨_, te_, by first | exact Kd.S_nil _ _ _ _ _ | exact Kd.N_nil _ _ _ _ _ | exact Kd.V_nil _ _ _ _ _ | exact Kd.Q_nil _ _ _ _ _ | exact Kd.R_nil _ _ _ _ _, tb_⟩

/-! ### spec_AttacksOf: function 80 -/
def spec_AttacksOf.f (k : Nat) (l0 : List Int) : Option ((List (List Int)) × Bool) := (spec_quGood.f k l0).bind fun t1280 => (if t1280 = true then ((spec_quAttacks.f k l0).bind fun t1281 => (some (t1281, true))) else (some (([] : List (List Int)), false)))
theorem spec_AttacksOf.mono : ∀ a0 k, LeO (spec_AttacksOf.f k a0) (spec_AttacksOf.f (k + 1) a0) := by
 intro a0 k
 unfold spec_AttacksOf.f
 repeat' first | (with_reducible first | exact spec_quAttacks.mono _ _ | exact spec_quGood.mono _ _ | exact LeO.refl _ | exact LeO.none _ | refine LeO.ite ?_ ?_ | refine LeO.bind ?_ (fun _ => ?_)) | exact spec_quAttacks.mono _ _ | exact spec_quGood.mono _ _ | exact LeO.none _ | refine LeO.ite ?_ ?_ | refine LeO.bind ?_ (fun _ => ?_)
theorem spec_AttacksOf.calls (k : Nat) (A0 : Option Addr) (c0 : Nat) (l0 : List Int) (r1 : List (List Int)) (r2 : Bool) (w : World) (hr0 : Kd.C (Kd.int .i64) w A0 l0.length l0) (hc0 : l0.length ≤ c0) (h : spec_AttacksOf.f k l0 = some (r1, r2)) :
  Calls Try.prog 80 #[.slice A0 l0.length c0] w fun e w' => ∃ v0_ : Value, e = .returned (.tuple #[v0_, .bool r2]) ∧ Kd.S (Kd.slice 3 (Kd.int .i64)) 22 w' w.heap.size (fun _ => True) v0_ r1 ∧ Below w.heap.size w w' := by
 have HR0 := A_ hr0
 have HC0 := A_ hc0
 clear hr0 hc0
 have HB := A_ (Below.refl w.heap.size w)
 have H : ((spec_quGood.f k l0).bind fun t1280 => (if t1280 = true then ((spec_quAttacks.f k l0).bind fun t1281 => (some (t1281, true))) else (some (([] : List (List Int)), false)))) = some (r1, r2) := h
 clear h
 replace H := Option.bind_eq_some_iff.mp H
 obtain ⟨t1280, A20, H⟩ := H
 replace H : (if t1280 = true then ((spec_quAttacks.f k l0).bind fun t1281 => (some (t1281, true))) else (some (([] : List (List Int)), false))) = some (r1, r2) := H
 have A2 := A_ A20
 clear A20
 by_cases c3 : t1280 = true
 ·
  subst c3
  have H1 : ((spec_quAttacks.f k l0).bind fun t1281 => (some (t1281, true))) = some (r1, r2) := by rw [if_pos rfl] at H; exact H
  clear H
  have H := H1
  clear H1
  replace H := Option.bind_eq_some_iff.mp H
  obtain ⟨t1281, A40, H⟩ := H
  replace H : (some (t1281, true)) = some (r1, r2) := H
  have A4 := A_ A40
  clear A40
  simp only [Option.some.injEq, Prod.mk.injEq] at H
  obtain ⟨rfl, rfl⟩ := H
  go_enter Try.func80, Try.ntmps80
  go_wp2_with (first | (refine gc_ 172 ?_; refine goesT_ (some 5) Try.func172 #[.slice A0 l0.length c0] ?_; (with_reducible refine (spec_quGood.calls k _ _ l0 true _ ?side1 ?side2 A2.out).mono ?_); (case side1 => exact tc0_ HR0.out); (case side2 => exact HC0.out); rintro e w' ⟨rfl, ⟨nd, rfl⟩⟩; refine ⟨_, rfl, ?_⟩) | (refine gc_ 185 ?_; refine goesT_ (some 8) Try.func185 #[.slice A0 l0.length c0] ?_; (with_reducible refine (spec_quAttacks.calls k _ _ l0 t1281 _ ?side1 ?side2 A4.out).mono ?_); (case side1 => exact tc0_ HR0.out); (case side2 => exact HC0.out); rintro e w5 ⟨v1282, rfl, ho0, hb⟩; refine ⟨_, rfl, ?_⟩; have HO1283 := A_ (Kd.S_lower ho0 (below_size tb_)); replace HB := A_ (below_step tb_ hb); (try clear hb); (try clear ho0)))
  go_ret2
  exact ⟨_, te_, by (with_reducible repeat (first | apply Kd.S_alloc | apply Kd.S_drewN | apply Kd.S_drew)); exact HO1283.out, tb_⟩
 ·
  replace c3 := Bool.eq_false_iff.mpr c3
  subst c3
  have H1 : (some (([] : List (List Int)), false)) = some (r1, r2) := by rw [if_neg (show ¬ (false = true) by decide)] at H; exact H
  clear H
  have H := H1
  clear H1
  simp only [Option.some.injEq, Prod.mk.injEq] at H
  obtain ⟨rfl, rfl⟩ := H
  go_enter Try.func80, Try.ntmps80
  go_wp2_with (first | (refine gc_ 172 ?_; refine goesT_ (some 5) Try.func172 #[.slice A0 l0.length c0] ?_; (with_reducible refine (spec_quGood.calls k _ _ l0 false _ ?side1 ?side2 A2.out).mono ?_); (case side1 => exact tc0_ HR0.out); (case side2 => exact HC0.out); rintro e w' ⟨rfl, ⟨nd, rfl⟩⟩; refine ⟨_, rfl, ?_⟩))
  go_ret2
  exact ⟨_, te_, by first | exact Kd.S_nil _ _ _ _ _ | exact Kd.N_nil _ _ _ _ _ | exact Kd.V_nil _ _ _ _ _ | exact Kd.Q_nil _ _ _ _ _ | exact Kd.R_nil _ _ _ _ _, tb_⟩

end
end Go.Proofs.Ytnpacpdpgngdpaa.P
