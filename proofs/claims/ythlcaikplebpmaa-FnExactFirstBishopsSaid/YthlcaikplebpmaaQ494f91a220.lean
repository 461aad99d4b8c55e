-- printed functions (wip/slim.py)
import Derived.Test.YthlcaikplebpmaaPx0
import Derived.Test.YthlcaikplebpmaaQb269d509c4
namespace Go.Proofs.Ythlcaikplebpmaa.P
noncomputable section
set_option maxHeartbeats 8000000
set_option maxRecDepth 100000
open Go.RowKit Go.Proofs.YthlcaikplebpmaaW.PrintWords Go.Proofs.YthlcaikplebpmaaW.PrintLast Go.Proofs.YthlcaikplebpmaaW.PrintMore
attribute [local go_sem] max2_int min2_int max_two min_two max_three min_three max_four min_four   -- for this text's walks alone
set_option linter.unusedVariables false
set_option linter.unusedSimpArgs false

/-! ### laws_markIntS: function 29 -/
def laws_markIntS.l0 : Nat → List Int → Int → Int → Option (Int × List Int)
 | 0, _, _, _ => none
 | k + 1, x0, x1, x5 => if x5 < (x0.length : Int) then (if 0 ≤ x5 then (laws_markIntS.l0 k (x0.set (x5 : Int).toNat x1) (wrap64 (x1 + 1)) (wrap64 (x5 + 1))) else (none)) else (some (x1, x0))
def laws_markIntS.f (k : Nat) (l0 : List Int) (a1 : Int) : Option (Int × List Int) := laws_markIntS.l0 k l0 a1 0
theorem laws_markIntS.mono_l : ∀ k, (∀ y0 y1 y2, LeO (laws_markIntS.l0 k y0 y1 y2) (laws_markIntS.l0 (k + 1) y0 y1 y2))
 | 0 => fun _ _ _ r h => by simp [laws_markIntS.l0] at h
 | k + 1 => by
  have ih0 := laws_markIntS.mono_l k
  ·
   intro y0 y1 y2
   unfold laws_markIntS.l0
   repeat' first | (with_reducible first | exact ih0 _ _ _ | exact LeO.refl _ | exact LeO.none _ | refine LeO.ite ?_ ?_ | refine LeO.bind ?_ (fun _ => ?_)) | exact ih0 _ _ _ | exact LeO.none _ | refine LeO.ite ?_ ?_ | refine LeO.bind ?_ (fun _ => ?_)
theorem laws_markIntS.mono : ∀ a0 a1 k, LeO (laws_markIntS.f k a0 a1) (laws_markIntS.f (k + 1) a0 a1) := by
 intro a0 a1 k
 have ih0 := laws_markIntS.mono_l k
 unfold laws_markIntS.f
 repeat' first | (with_reducible first | exact ih0 _ _ _ | exact LeO.refl _ | exact LeO.none _ | refine LeO.ite ?_ ?_ | refine LeO.bind ?_ (fun _ => ?_)) | exact ih0 _ _ _ | exact LeO.none _ | refine LeO.ite ?_ ?_ | refine LeO.bind ?_ (fun _ => ?_)
theorem laws_markIntS.calls (k : Nat) (P0_ : Nat → Prop) (u9000_ : Value) (l0 : List Int) (a1 : Int) (r1 : Int) (r2 : List Int) (w0 w : World) (hB : Below w0.heap.size w0 w) (ho0 : Kd.R (Kd.int .i64) 3 w w0.heap.size P0_ u9000_ l0) (h : laws_markIntS.f k l0 a1 = some (r1, r2)) :
  Calls Try.prog 29 #[u9000_, .int .i64 a1] w fun e w' => e = .returned (.int .i64 r1) ∧ Kd.R (Kd.int .i64) 3 w' w0.heap.size (fun k_ => (P0_ k_ ∨ w.heap.size ≤ k_)) u9000_ r2 ∧ Below w0.heap.size w0 w' ∧ Kept w w' (fun k_ => P0_ k_) := by
 have HO0 := A_ (show Kd.R (Kd.int .i64) 3 w w0.heap.size (fun k_ => (P0_ k_ ∨ w.heap.size ≤ k_)) u9000_ l0 from Kd.R_mono ho0 (fun k_ hk => (.inl hk)))
 have HK := A_ (Kept.refl w (fun k_ => P0_ k_))
 have HW0 := A_ hB.size
 have HB := A_ hB
 clear hB
 have H : (laws_markIntS.l0 k l0 a1 0) = some (r1, r2) := h
 clear h
 have H' := A_ H
 clear H
 go_enter Try.func29, Try.ntmps29
 go_wp2
 go_loopg [1, 5] k (fun kq v1 v5 w' => ∃ (x0_1 : List Int) (x1_1 : Int) (x5_1 : Int), v1 = .int .i64 x1_1 ∧ v5 = .int .i64 x5_1 ∧ Aside0 (laws_markIntS.l0 kq x0_1 x1_1 x5_1 = some (r1, r2)) ∧ Aside0 (kq ≤ k) ∧ Aside0 (Kd.R (Kd.int .i64) 3 w' w0.heap.size (fun k_ => (P0_ k_ ∨ w.heap.size ≤ k_)) u9000_ x0_1) ∧ Aside0 (Kept w w' (fun k_ => P0_ k_)) ∧ Aside0 (Below w0.heap.size w0 w'))
 case atStart => exact ⟨(l0), (a1), (0), tf_, tf_, H', ⟨Nat.le_refl _⟩, ⟨tr_x HO0.out⟩, ⟨by repeat (first | (with_reducible first | exact HK.out | apply Kept.alloc | apply Kept.drewN | apply Kept.drew) | exact HK.out)⟩, ⟨tb_⟩⟩
 case round =>
  clear H'
  try clear c2
  try clear p2
  obtain ⟨x0_1, x1_1, x5_1, rfl, rfl, HA, HK1, HO_0, HK, HB⟩ := hrel
  cases gk with
  | zero => exact absurd HA.out (by simp [laws_markIntS.l0])
  | succ k1 =>
   have H := HA.out
   clear HA
   simp only [laws_markIntS.l0] at H
   by_cases c3 : x5_1 < (x0_1.length : Int)
   ·
    rw [if_pos c3] at H
    have c3b0 := decide_eq_true c3
    clear c3
    by_cases c4 : 0 ≤ x5_1
    ·
     rw [if_pos c4] at H
     have c4b0 := decide_eq_true c4
     clear c4
     obtain ⟨y435, hy435⟩ : ∃ y_ : List Int, y_ = (x0_1.set (x5_1 : Int).toNat x1_1) := ⟨_, rfl⟩
     replace H : (laws_markIntS.l0 k1 y435 (wrap64 (x1_1 + 1)) (wrap64 (x5_1 + 1))) = some (r1, r2) := ty_ hy435 H
     have Ny435 := A_ hy435
     clear hy435
     have H' := A_ H
     clear H
     obtain ⟨Ao6, co6, eo6⟩ := Kd.R_slice HO_0.out
     subst eo6
     have p5 : 0 ≤ (x5_1 : Int) := od_
     have q5 : (x5_1 : Int) < ((x0_1.length : Int) : Int) := od_
     obtain ⟨go5, co5, eo5, gb5, gl5, cl5, HG5⟩ := Kd.R_form HO_0.out (by omega)
     (first | cases eo5 | (injection eo5 with ea_ en_ ec_; (first | subst ea_ | (injection ea_ with ea_; subst ea_)); subst ec_; clear en_))
     have GB5 := A_ gb5
     have GG5 := A_ HG5
     clear gb5 gl5 HG5
     have HMgo5 := A_ (show (P0_ go5 ∨ w.heap.size ≤ go5) from (HO_0.out.1 _ rfl))
     obtain ⟨hx5_0, hf5_0⟩ := Kd.R_celln 0 HO_0.out (x5_1 : Int) p5 q5
     replace p5 := eq_true p5
     replace q5 := eq_true q5
     have HP7 := Kd.R_putg HO_0.out (x5_1 : Int) x1_1
     go_wp2_with (first | ((with_reducible refine gate_store (t := 3) (p := 15) rfl ?_); refine store_event (t := 3) (p := 15) (v := ?vo_w8) (w1 := (wr.setCell ⟨go5, (x5_1 : Int).toNat, none⟩ (.int .i64 x1_1))) ?hg ?ho ?hn ?hr ?_; (case ho => rfl); (case hg => rfl); (case hn => rfl); (case hr => first | (go_simp; done) | (go_simp; rfl)); intro w8 hw; have hg : wr.grownBy w8 (some go5) := (by rw [hw]; exact HP7.2); have hp_ : Kd.R (Kd.int .i64) 3 w8 w0.heap.size (fun k_ => (P0_ k_ ∨ w.heap.size ≤ k_)) (.slice (some ⟨go5, 0, none⟩) x0_1.length co6) y435 := (by rw [hw, Ny435.out]; exact HP7.1); clear HP7; replace HB := A_ ((by rw [hw]; exact below_set (HB.out) GB5.out : Below w0.heap.size w0 w8)); replace HK := A_ (Kept.of_grown (S := (fun k_ => P0_ k_)) hg (by repeat (first | (with_reducible first | exact HK.out | apply Kept.alloc | apply Kept.drewN | apply Kept.drew) | exact HK.out)) (fun k_ e_ => (HO_0.out.1 k_ e_))); replace HO_0 := A_ (hp_); clear hg hw hp_))
     go_roundg k1
     case measure => have := HK1.out; omega
     case rel => exact ⟨(y435), (wrap64 (x1_1 + 1)), (wrap64 (x5_1 + 1)), tf_, tf_, H', ⟨by have := HK1.out; omega⟩, ⟨tr_x HO_0.out⟩, ⟨by repeat (first | (with_reducible first | exact HK.out | apply Kept.alloc | apply Kept.drewN | apply Kept.drew) | exact HK.out)⟩, ⟨tb_⟩⟩
    ·
     rw [if_neg c4] at H
     exact absurd H (by simp)
   ·
    rw [if_neg c3] at H
    have c3b0 := decide_eq_false c3
    clear c3
    simp only [Option.some.injEq, Prod.mk.injEq] at H
    obtain ⟨rfl, rfl⟩ := H
    obtain ⟨Ao9, co9, eo9⟩ := Kd.R_slice HO_0.out
    subst eo9
    go_wp2
    go_ret
    exact ⟨te_, tr_x HO_0.out, tb_, by repeat (first | (with_reducible first | exact HK.out | apply Kept.alloc | apply Kept.drewN | apply Kept.drew) | exact HK.out)⟩

/-! ### laws_markBoard: function 22 -/
def laws_markBoard.f (k : Nat) (a0_0 : Int) (a0_1 : Int) (l0_2 : List Int) (a1 : Int) : Option (Int × List Int) := (laws_markIntS.f k l0_2 a1).bind fun bt437 => (some (bt437.1, bt437.2))
theorem laws_markBoard.mono : ∀ a0 a1 a2 a3 k, LeO (laws_markBoard.f k a0 a1 a2 a3) (laws_markBoard.f (k + 1) a0 a1 a2 a3) := by
 intro a0 a1 a2 a3 k
 unfold laws_markBoard.f
 repeat' first | (with_reducible first | exact laws_markIntS.mono _ _ _ | exact LeO.refl _ | exact LeO.none _ | refine LeO.ite ?_ ?_ | refine LeO.bind ?_ (fun _ => ?_)) | exact laws_markIntS.mono _ _ _ | exact LeO.none _ | refine LeO.ite ?_ ?_ | refine LeO.bind ?_ (fun _ => ?_)
theorem laws_markBoard.calls (k : Nat) (a0_0 : Int) (a0_1 : Int) (P0_2_ : Nat → Prop) (u9000_ : Value) (l0_2 : List Int) (a1 : Int) (r1 : Int) (r2 : List Int) (w0 w : World) (hB : Below w0.heap.size w0 w) (ho0_2 : Kd.R (Kd.int .i64) 3 w w0.heap.size P0_2_ u9000_ l0_2) (h : laws_markBoard.f k a0_0 a0_1 l0_2 a1 = some (r1, r2)) :
  Calls Try.prog 22 #[.agg #[.int .i64 a0_0, .int .i64 a0_1, u9000_], .int .i64 a1] w fun e w' => e = .returned (.int .i64 r1) ∧ Kd.R (Kd.int .i64) 3 w' w0.heap.size (fun k_ => (P0_2_ k_ ∨ w.heap.size ≤ k_)) u9000_ r2 ∧ Below w0.heap.size w0 w' ∧ Kept w w' (fun k_ => P0_2_ k_) := by
 have hu26 := Try.underlying26
 have HO0_2 := A_ (show Kd.R (Kd.int .i64) 3 w w0.heap.size (fun k_ => (P0_2_ k_ ∨ w.heap.size ≤ k_)) u9000_ l0_2 from Kd.R_mono ho0_2 (fun k_ hk => (.inl hk)))
 have HK := A_ (Kept.refl w (fun k_ => P0_2_ k_))
 have HW0 := A_ hB.size
 have HB := A_ hB
 clear hB
 have H : ((laws_markIntS.f k l0_2 a1).bind fun bt437 => (some (bt437.1, bt437.2))) = some (r1, r2) := h
 clear h
 replace H := Option.bind_eq_some_iff.mp H
 obtain ⟨⟨t437, t438⟩, A30, H⟩ := H
 replace H : (some (t437, t438)) = some (r1, r2) := H
 have A3 := A_ A30
 clear A30
 simp only [Option.some.injEq, Prod.mk.injEq] at H
 obtain ⟨rfl, rfl⟩ := H
 obtain ⟨Ao4, co4, eo4⟩ := Kd.R_slice HO0_2.out
 subst eo4
 go_enter Try.func22, Try.ntmps22
 go_wp2_with (first | (refine gd_ 2 ?_; refine bx_ 2 #[.int .i64 a0_0, .int .i64 a0_1, .slice Ao4 l0_2.length co4] 26 ?_; intro gb436 hg w5 hbox hb; replace HO0_2 := A_ (Kd.R_below (tr_x HO0_2.out) hb); have BK436 := A_ (hbox); have GW436 := A_ ((by rw [hg]; exact (by first | exact HK.out.1 | exact (show Kept w _ (fun k_ => P0_2_ k_) from by repeat (first | (with_reducible first | exact HK.out | apply Kept.alloc | apply Kept.drewN | apply Kept.drew) | exact HK.out)).1) : w.heap.size ≤ gb436)); replace HK := A_ (Kept.below (S := (fun k_ => P0_2_ k_)) (by repeat (first | (with_reducible first | exact HK.out | apply Kept.alloc | apply Kept.drewN | apply Kept.drew) | exact HK.out)) hb); have GE436 := A_ ((ts_ hg : w0.heap.size ≤ gb436)); replace HB := A_ (below_step tb_ hb); clear hb hbox hg; obtain ⟨hcz6_0, hcz6_1, hcz6_2, hfz6_0, hfz6_1, hfz6_2⟩ := cf3_ BK436.out) | (refine gc_ 29 ?_; refine goesT_ (some 8) Try.func29 #[.slice Ao4 l0_2.length co4, .int .i64 a1] ?_; (with_reducible refine (laws_markIntS.calls k (fun k_ => some k_ = (.slice Ao4 l0_2.length co4 : Value).ownBlock) (.slice Ao4 l0_2.length co4) l0_2 a1 t437 t438 w0 _ ?side1 ?side2 A3.out).mono ?_); (case side1 => repeat (first | (with_reducible first | exact HB.out | apply below_alloc | apply pw_below_drewN | apply below_drew1 | refine below_set ?_ GE436.out) | exact HB.out)); (case side2 => exact Kd.R_tight rfl HO0_2.out); rintro e w7 ⟨rfl, hy0, hb, hkp⟩; refine ⟨_, rfl, ?_⟩; replace BK436 := A_ (blk_kept (tk_ BK436) hkp (fun hs_ => (fun e_ => (Kd.R_ne HO0_2.out BK436.out (by decide)) e_) hs_)); replace HK := A_ (Kept.then_ (S := (fun k_ => P0_2_ k_)) (by repeat (first | (with_reducible first | exact HK.out | apply Kept.alloc | apply Kept.drewN | apply Kept.drew | refine Kept.setCell ?_ (.inr GW436.out) _) | exact HK.out)) hkp (fun k_ hs_ => (fun e_ => (HO0_2.out.1 k_ e_.symm)) hs_)); replace HO0_2 := A_ (Kd.R_reok rfl hy0 (fun k_ e_ => HO0_2.out.1 k_ e_)); replace HB := A_ (hb); (try clear hb); (try clear hkp); (try clear hy0)))
 go_ret
 exact ⟨te_, tr_x HO0_2.out, tb_, by repeat (first | (with_reducible first | exact HK.out | apply Kept.alloc | apply Kept.drewN | apply Kept.drew | refine Kept.setCell ?_ (.inr GW436.out) _) | exact HK.out)⟩

/-! ### laws_heldIntS: function 30 -/
def laws_heldIntS.l0 : Nat → List Int → Int → Int → Option (Int)
 | 0, _, _, _ => none
 | k + 1, x0, x1, x5 => if x5 < (x0.length : Int) then (if 0 ≤ x5 then (if (rd x0 x5) = x1 then (laws_heldIntS.l0 k x0 (wrap64 (x1 + 1)) (wrap64 (x5 + 1))) else (some (-1))) else (none)) else (some x1)
def laws_heldIntS.f (k : Nat) (l0 : List Int) (a1 : Int) : Option (Int) := laws_heldIntS.l0 k l0 a1 0
theorem laws_heldIntS.mono_l : ∀ k, (∀ y0 y1 y2, LeO (laws_heldIntS.l0 k y0 y1 y2) (laws_heldIntS.l0 (k + 1) y0 y1 y2))
 | 0 => fun _ _ _ r h => by simp [laws_heldIntS.l0] at h
 | k + 1 => by
  have ih0 := laws_heldIntS.mono_l k
  ·
   intro y0 y1 y2
   unfold laws_heldIntS.l0
   repeat' first | (with_reducible first | exact ih0 _ _ _ | exact LeO.refl _ | exact LeO.none _ | refine LeO.ite ?_ ?_ | refine LeO.bind ?_ (fun _ => ?_)) | exact ih0 _ _ _ | exact LeO.none _ | refine LeO.ite ?_ ?_ | refine LeO.bind ?_ (fun _ => ?_)
theorem laws_heldIntS.mono : ∀ a0 a1 k, LeO (laws_heldIntS.f k a0 a1) (laws_heldIntS.f (k + 1) a0 a1) := by
 intro a0 a1 k
 have ih0 := laws_heldIntS.mono_l k
 unfold laws_heldIntS.f
 repeat' first | (with_reducible first | exact ih0 _ _ _ | exact LeO.refl _ | exact LeO.none _ | refine LeO.ite ?_ ?_ | refine LeO.bind ?_ (fun _ => ?_)) | exact ih0 _ _ _ | exact LeO.none _ | refine LeO.ite ?_ ?_ | refine LeO.bind ?_ (fun _ => ?_)
theorem laws_heldIntS.calls (k : Nat) (A0 : Option Addr) (c0 : Nat) (l0 : List Int) (a1 : Int) (r : Int) (w : World) (hr0 : Kd.C (Kd.int .i64) w A0 l0.length l0) (hc0 : l0.length ≤ c0) (h : laws_heldIntS.f k l0 a1 = some r) :
  Calls Try.prog 30 #[.slice A0 l0.length c0, .int .i64 a1] w fun e w' => e = .returned (.int .i64 r) ∧ Drawn0 w w' := by
 have HR0 := A_ hr0
 have HC0 := A_ hc0
 clear hr0 hc0
 have H : (laws_heldIntS.l0 k l0 a1 0) = some r := h
 clear h
 have H' := A_ H
 clear H
 go_enter Try.func30, Try.ntmps30
 go_wp2
 go_loopg [1, 5] k (fun kq v1 v5 w' => ∃ (x1_1 : Int) (x5_1 : Int), v1 = .int .i64 x1_1 ∧ v5 = .int .i64 x5_1 ∧ Aside0 (laws_heldIntS.l0 kq l0 x1_1 x5_1 = some r) ∧ Aside0 (kq ≤ k) ∧ Drawn0 w w')
 case atStart => exact ⟨(a1), (0), tf_, tf_, H', ⟨Nat.le_refl _⟩, dr_⟩
 case round =>
  clear H'
  try clear p2
  obtain ⟨x1_1, x5_1, rfl, rfl, HA, HK1, ⟨m1, rfl⟩⟩ := hrel
  cases gk with
  | zero => exact absurd HA.out (by simp [laws_heldIntS.l0])
  | succ k1 =>
   have H := HA.out
   clear HA
   simp only [laws_heldIntS.l0] at H
   by_cases c3 : x5_1 < (l0.length : Int)
   ·
    rw [if_pos c3] at H
    have c3b0 := decide_eq_true c3
    clear c3
    by_cases c4 : 0 ≤ x5_1
    ·
     rw [if_pos c4] at H
     have c4b0 := decide_eq_true c4
     clear c4
     by_cases c5 : (rd l0 x5_1) = x1_1
     ·
      rw [if_pos c5] at H
      have c5b0 : ((rd l0 x5_1) == x1_1) = true := beq_iff_eq.mpr c5
      have c5b1 : ((rd l0 x5_1) != x1_1) = false := bne_eq_false_iff_eq.mpr c5
      clear c5
      have H' := A_ H
      clear H
      have p439 : 0 ≤ (x5_1 : Int) := od_
      have q439 : x5_1 < (l0.length : Int) := od_
      obtain ⟨ad439, e439, hx439_0⟩ := Kd.at_int HR0.out x5_1 p439 q439
      cases e439
      replace p439 := eq_true p439
      replace q439 := eq_true q439
      go_wp2
      go_roundg k1
      case measure => have := HK1.out; omega
      case rel => exact ⟨(wrap64 (x1_1 + 1)), (wrap64 (x5_1 + 1)), tf_, tf_, H', ⟨by have := HK1.out; omega⟩, dr_⟩
     ·
      rw [if_neg c5] at H
      have c5b0 : ((rd l0 x5_1) == x1_1) = false := beq_eq_false_iff_ne.mpr c5
      have c5b1 : ((rd l0 x5_1) != x1_1) = true := bne_iff_ne.mpr c5
      obtain rfl := Option.some.inj H
      have p439 : 0 ≤ (x5_1 : Int) := od_
      have q439 : x5_1 < (l0.length : Int) := od_
      obtain ⟨ad439, e439, hx439_0⟩ := Kd.at_int HR0.out x5_1 p439 q439
      cases e439
      replace p439 := eq_true p439
      replace q439 := eq_true q439
      go_wp2
      go_ret
      exact ⟨tf_, dr_⟩
    ·
     rw [if_neg c4] at H
     exact absurd H (by simp)
   ·
    rw [if_neg c3] at H
    have c3b0 := decide_eq_false c3
    clear c3
    obtain rfl := Option.some.inj H
    go_wp2
    go_ret
    exact ⟨tf_, dr_⟩

/-! ### spec_roShort: function 176 -/
def spec_roShort.l0 : Nat → List Int → Int → Option (List Int)
 | 0, _, _ => none
 | k + 1, x0, x3 => if x3 > 0 then (if 0 ≤ (wrap64 (x3 - 1)) then (if (wrap64 (x3 - 1)) < (x0.length : Int) then (if (rd x0 (wrap64 (x3 - 1))) = 0 then (spec_roShort.l0 k x0 (wrap64 (x3 - 1))) else (if 0 ≤ x3 then (if x3 ≤ (x0.length : Int) then (some (x0.take (x3 : Int).toNat)) else (none)) else (none))) else (none)) else (none)) else (if 0 ≤ x3 then (if x3 ≤ (x0.length : Int) then (some (x0.take (x3 : Int).toNat)) else (none)) else (none))
def spec_roShort.f (k : Nat) (l0 : List Int) : Option (List Int) := spec_roShort.l0 k l0 (l0.length : Int)
theorem spec_roShort.mono_l : ∀ k, (∀ y0 y1, LeO (spec_roShort.l0 k y0 y1) (spec_roShort.l0 (k + 1) y0 y1))
 | 0 => fun _ _ r h => by simp [spec_roShort.l0] at h
 | k + 1 => by
  have ih0 := spec_roShort.mono_l k
  ·
   intro y0 y1
   unfold spec_roShort.l0
   repeat' first | (with_reducible first | exact ih0 _ _ | exact LeO.refl _ | exact LeO.none _ | refine LeO.ite ?_ ?_ | refine LeO.bind ?_ (fun _ => ?_)) | exact ih0 _ _ | exact LeO.none _ | refine LeO.ite ?_ ?_ | refine LeO.bind ?_ (fun _ => ?_)
theorem spec_roShort.mono : ∀ a0 k, LeO (spec_roShort.f k a0) (spec_roShort.f (k + 1) a0) := by
 intro a0 k
 have ih0 := spec_roShort.mono_l k
 unfold spec_roShort.f
 repeat' first | (with_reducible first | exact ih0 _ _ | exact LeO.refl _ | exact LeO.none _ | refine LeO.ite ?_ ?_ | refine LeO.bind ?_ (fun _ => ?_)) | exact ih0 _ _ | exact LeO.none _ | refine LeO.ite ?_ ?_ | refine LeO.bind ?_ (fun _ => ?_)
theorem spec_roShort.calls (k : Nat) (P0_ : Nat → Prop) (u9000_ : Value) (l0 : List Int) (r : List Int) (w0 w : World) (hB : Below w0.heap.size w0 w) (ho0 : Kd.R (Kd.int .i64) 3 w w0.heap.size P0_ u9000_ l0) (h : spec_roShort.f k l0 = some r) :
  Calls Try.prog 176 #[u9000_] w fun e w' => ∃ v0_ : Value, e = .returned (v0_) ∧ Kd.R (Kd.int .i64) 3 w' w0.heap.size (fun k_ => (P0_ k_ ∨ w.heap.size ≤ k_)) v0_ r ∧ Below w0.heap.size w0 w' ∧ Kept w w' (fun k_ => P0_ k_) := by
 have HO0 := A_ (show Kd.R (Kd.int .i64) 3 w w0.heap.size (fun k_ => (P0_ k_ ∨ w.heap.size ≤ k_)) u9000_ l0 from Kd.R_mono ho0 (fun k_ hk => (.inl hk)))
 have HK := A_ (Kept.refl w (fun k_ => P0_ k_))
 have HW0 := A_ hB.size
 have HB := A_ hB
 clear hB
 have H : (spec_roShort.l0 k l0 (l0.length : Int)) = some r := h
 clear h
 have H' := A_ H
 clear H
 obtain ⟨Ao2, co2, eo2⟩ := Kd.R_slice HO0.out
 subst eo2
 go_enter Try.func176, Try.ntmps176
 go_wp2
 go_loopg [3] k (fun kq v3 w' => ∃ (x3_1 : Int), v3 = .int .i64 x3_1 ∧ Aside0 (spec_roShort.l0 kq l0 x3_1 = some r) ∧ Aside0 (kq ≤ k) ∧ Aside0 (Kd.R (Kd.int .i64) 3 w' w0.heap.size (fun k_ => (P0_ k_ ∨ w.heap.size ≤ k_)) (.slice Ao2 l0.length co2) l0) ∧ Aside0 (Kept w w' (fun k_ => P0_ k_)) ∧ Aside0 (Below w0.heap.size w0 w'))
 case atStart => exact ⟨((l0.length : Int)), tf_, H', ⟨Nat.le_refl _⟩, ⟨tr_x HO0.out⟩, ⟨by repeat (first | (with_reducible first | exact HK.out | apply Kept.alloc | apply Kept.drewN | apply Kept.drew) | exact HK.out)⟩, ⟨tb_⟩⟩
 case round =>
  clear H'
  try clear c1
  try clear p2
  obtain ⟨x3_1, rfl, HA, HK1, HO_0, HK, HB⟩ := hrel
  cases gk with
  | zero => exact absurd HA.out (by simp [spec_roShort.l0])
  | succ k1 =>
   have H := HA.out
   clear HA
   simp only [spec_roShort.l0] at H
   by_cases c3 : x3_1 > 0
   ·
    rw [if_pos c3] at H
    have c3b0 := decide_eq_true c3
    clear c3
    obtain ⟨ji4, hji4⟩ : ∃ j_ : Int, (wrap64 (x3_1 - 1)) = j_ := ⟨_, rfl⟩
    replace H : (if 0 ≤ (ji4) then (if (ji4) < (l0.length : Int) then (if (rd l0 (ji4)) = 0 then (spec_roShort.l0 k1 l0 ji4) else (if 0 ≤ x3_1 then (if x3_1 ≤ (l0.length : Int) then (some (l0.take (x3_1 : Int).toNat)) else (none)) else (none))) else (none)) else (none)) = some r := by first | (rw [hji4] at H; exact H) | (simp only [hji4] at H ⊢; exact H)
    have hji4w : (IntKind.i64.wrap (x3_1 - 1)) = ji4 := (i64_w _).trans hji4
    by_cases c5 : 0 ≤ (ji4)
    ·
     rw [if_pos c5] at H
     have c5b0 := decide_eq_true c5
     clear c5
     by_cases c6 : (ji4) < (l0.length : Int)
     ·
      rw [if_pos c6] at H
      have c6b0 := decide_eq_true c6
      clear c6
      by_cases c7 : (rd l0 (ji4)) = 0
      ·
       rw [if_pos c7] at H
       have c7b0 : ((rd l0 (ji4)) == 0) = true := beq_iff_eq.mpr c7
       have c7b1 : ((rd l0 (ji4)) != 0) = false := bne_eq_false_iff_eq.mpr c7
       clear c7
       have H' := A_ H
       clear H
       have p496 : 0 ≤ ((ji4) : Int) := od_
       have q496 : (ji4) < (l0.length : Int) := od_
       obtain ⟨ad496, e496, hx496_0⟩ := Kd.at_int (Kd.R_reads' HO_0.out).2.2 (ji4) p496 q496
       cases e496
       replace p496 := eq_true p496
       replace q496 := eq_true q496
       go_wp2
       go_roundg k1
       case measure => have := HK1.out; omega
       case rel => exact ⟨(ji4), (by first | rfl | (simp; done) | (simp only [← hji4] <;> (first | rfl | simp)) | (simp [*]; done)), H', ⟨by have := HK1.out; omega⟩, ⟨tr_x HO_0.out⟩, ⟨by repeat (first | (with_reducible first | exact HK.out | apply Kept.alloc | apply Kept.drewN | apply Kept.drew) | exact HK.out)⟩, ⟨tb_⟩⟩
      ·
       rw [if_neg c7] at H
       have c7b0 : ((rd l0 (ji4)) == 0) = false := beq_eq_false_iff_ne.mpr c7
       have c7b1 : ((rd l0 (ji4)) != 0) = true := bne_iff_ne.mpr c7
       by_cases c8 : 0 ≤ x3_1
       ·
        rw [if_pos c8] at H
        have c8b0 := eq_true c8
        have c8b1 := decide_eq_true c8
        clear c8
        by_cases c9 : x3_1 ≤ (l0.length : Int)
        ·
         rw [if_pos c9] at H
         have c9b0 := eq_true c9
         have c9b1 := decide_eq_true c9
         clear c9
         obtain ⟨y497, hy497⟩ : ∃ y_ : List Int, y_ = (l0.take (x3_1 : Int).toNat) := ⟨_, rfl⟩
         replace H : (some y497) = some r := ty_ hy497 H
         have Ny497 := A_ hy497
         clear hy497
         obtain rfl := Option.some.inj H
         have p496 : 0 ≤ ((ji4) : Int) := od_
         have q496 : (ji4) < (l0.length : Int) := od_
         obtain ⟨ad496, e496, hx496_0⟩ := Kd.at_int (Kd.R_reads' HO_0.out).2.2 (ji4) p496 q496
         cases e496
         replace p496 := eq_true p496
         replace q496 := eq_true q496
         have q10 : (x3_1 : Int) ≤ ((l0.length : Int) : Int) := od_
         obtain ⟨i010, hi010, _, hsz10, _⟩ := info_parts info3
         have hcut10 := cut_to (P := Try.prog) 22 3 .i64 Try.underlying22 hi010 (some ad496) l0.length co2 x3_1 (od_) q10 (Kd.R_reads' HO_0.out).2.1
         have hr10 := Kd.R_take (m := (x3_1 : Int).toNat) HO_0.out (by omega)
         have hy10 : y497.length = (x3_1 : Int).toNat := (by rw [Ny497.out, List.length_take]; omega)
         rw [← Ny497.out] at hr10
         rw [← hy10] at hr10 hcut10
         clear hy10 hi010 hsz10 HO_0
         have HO499 := A_ hr10
         clear hr10
         replace q10 := eq_true q10
         go_wp2
         go_ret
         exact ⟨_, by first | rfl | (simp [errW_none, errW_some] <;> rfl) | (simp only [← hji4]; first | rfl | (simp [errW_none, errW_some] <;> rfl)) | (simp [*, errW_none, errW_some] <;> rfl), tr_x HO499.out, tb_, by repeat (first | (with_reducible first | exact HK.out | apply Kept.alloc | apply Kept.drewN | apply Kept.drew) | exact HK.out)⟩
        ·
         rw [if_neg c9] at H
         exact absurd H (by simp)
       ·
        rw [if_neg c8] at H
        exact absurd H (by simp)
     ·
      rw [if_neg c6] at H
      exact absurd H (by simp)
    ·
     rw [if_neg c5] at H
     exact absurd H (by simp)
   ·
    rw [if_neg c3] at H
    have c3b0 := decide_eq_false c3
    clear c3
    by_cases c11 : 0 ≤ x3_1
    ·
     rw [if_pos c11] at H
     have c11b0 := eq_true c11
     have c11b1 := decide_eq_true c11
     clear c11
     by_cases c12 : x3_1 ≤ (l0.length : Int)
     ·
      rw [if_pos c12] at H
      have c12b0 := eq_true c12
      have c12b1 := decide_eq_true c12
      clear c12
      obtain ⟨y500, hy500⟩ : ∃ y_ : List Int, y_ = (l0.take (x3_1 : Int).toNat) := ⟨_, rfl⟩
      replace H : (some y500) = some r := ty_ hy500 H
      have Ny500 := A_ hy500
      clear hy500
      obtain rfl := Option.some.inj H
      have q13 : (x3_1 : Int) ≤ ((l0.length : Int) : Int) := od_
      obtain ⟨i013, hi013, _, hsz13, _⟩ := info_parts info3
      have hcut13 := cut_to (P := Try.prog) 22 3 .i64 Try.underlying22 hi013 Ao2 l0.length co2 x3_1 (od_) q13 (Kd.R_reads' HO_0.out).2.1
      have hr13 := Kd.R_take (m := (x3_1 : Int).toNat) HO_0.out (by omega)
      have hy13 : y500.length = (x3_1 : Int).toNat := (by rw [Ny500.out, List.length_take]; omega)
      rw [← Ny500.out] at hr13
      rw [← hy13] at hr13 hcut13
      clear hy13 hi013 hsz13 HO_0
      have HO502 := A_ hr13
      clear hr13
      replace q13 := eq_true q13
      go_wp2
      go_ret
      exact ⟨_, te_, tr_x HO502.out, tb_, by repeat (first | (with_reducible first | exact HK.out | apply Kept.alloc | apply Kept.drewN | apply Kept.drew) | exact HK.out)⟩
     ·
      rw [if_neg c12] at H
      exact absurd H (by simp)
    ·
     rw [if_neg c11] at H
     exact absurd H (by simp)

/-! ### spec_roTimes: function 177 -/
mutual
def spec_roTimes.l0 : Nat → List Int → List Int → List Int → Int → Int → Option (List Int)
 | 0, _, _, _, _, _ => none
 | k + 1, x1, x5, x17, x18, x19 => if x19 < x18 then (if 0 ≤ x19 then (if x19 < (x17.length : Int) then (spec_roTimes.l1 k x1 x5 x19 (rd x17 x19) x17 x18 x19 x1 (x1.length : Int) 0) else (none)) else (none)) else (some x5)
def spec_roTimes.l1 : Nat → List Int → List Int → Int → Int → List Int → Int → Int → List Int → Int → Int → Option (List Int)
 | 0, _, _, _, _, _, _, _, _, _, _ => none
 | k + 1, x1, x5, x6, x7, x17, x18, x19, x24, x25, x26 => if x26 < x25 then (if 0 ≤ x26 then (if x26 < (x24.length : Int) then (if 0 ≤ (wrap64 (x6 + x26)) then (if (wrap64 (x6 + x26)) < (x5.length : Int) then (spec_roTimes.l1 k x1 (x5.set ((wrap64 (x6 + x26)) : Int).toNat (wrap64 ((rd x5 (wrap64 (x6 + x26))) + (wrap64 (x7 * (rd x24 x26)))))) x6 x7 x17 x18 x19 x24 x25 (wrap64 (x26 + 1))) else (none)) else (none)) else (none)) else (none)) else (spec_roTimes.l0 k x1 x5 x17 x18 (wrap64 (x19 + 1)))
end
def spec_roTimes.f (k : Nat) (l0 : List Int) (l1 : List Int) : Option (List Int) := if 0 ≤ (wrap64 ((wrap64 ((l0.length : Int) + (l1.length : Int))) - 1)) then (if (wrap64 ((wrap64 ((l0.length : Int) + (l1.length : Int))) - 1) : Int).toNat ≤ 35184372088832 then (spec_roTimes.l0 k l1 (List.replicate (wrap64 ((wrap64 ((l0.length : Int) + (l1.length : Int))) - 1) : Int).toNat 0) l0 (l0.length : Int) 0) else (none)) else (none)
theorem spec_roTimes.mono_l : ∀ k, (∀ y0 y1 y2 y3 y4, LeO (spec_roTimes.l0 k y0 y1 y2 y3 y4) (spec_roTimes.l0 (k + 1) y0 y1 y2 y3 y4)) ∧ (∀ y0 y1 y2 y3 y4 y5 y6 y7 y8 y9, LeO (spec_roTimes.l1 k y0 y1 y2 y3 y4 y5 y6 y7 y8 y9) (spec_roTimes.l1 (k + 1) y0 y1 y2 y3 y4 y5 y6 y7 y8 y9))
 | 0 => ⟨fun _ _ _ _ _ r h => by simp [spec_roTimes.l0] at h, fun _ _ _ _ _ _ _ _ _ _ r h => by simp [spec_roTimes.l1] at h⟩
 | k + 1 => by
  obtain ⟨ih0, ih1⟩ := spec_roTimes.mono_l k
  refine ⟨?_, ?_⟩
  ·
   intro y0 y1 y2 y3 y4
   unfold spec_roTimes.l0
   repeat' first | (with_reducible first | exact ih0 _ _ _ _ _ | exact ih1 _ _ _ _ _ _ _ _ _ _ | exact LeO.refl _ | exact LeO.none _ | refine LeO.ite ?_ ?_ | refine LeO.bind ?_ (fun _ => ?_)) | exact ih0 _ _ _ _ _ | exact ih1 _ _ _ _ _ _ _ _ _ _ | exact LeO.none _ | refine LeO.ite ?_ ?_ | refine LeO.bind ?_ (fun _ => ?_)
  ·
   intro y0 y1 y2 y3 y4 y5 y6 y7 y8 y9
   unfold spec_roTimes.l1
   repeat' first | (with_reducible first | exact ih0 _ _ _ _ _ | exact ih1 _ _ _ _ _ _ _ _ _ _ | exact LeO.refl _ | exact LeO.none _ | refine LeO.ite ?_ ?_ | refine LeO.bind ?_ (fun _ => ?_)) | exact ih0 _ _ _ _ _ | exact ih1 _ _ _ _ _ _ _ _ _ _ | exact LeO.none _ | refine LeO.ite ?_ ?_ | refine LeO.bind ?_ (fun _ => ?_)
theorem spec_roTimes.mono : ∀ a0 a1 k, LeO (spec_roTimes.f k a0 a1) (spec_roTimes.f (k + 1) a0 a1) := by
 intro a0 a1 k
 obtain ⟨ih0, ih1⟩ := spec_roTimes.mono_l k
 unfold spec_roTimes.f
 repeat' first | (with_reducible first | exact ih0 _ _ _ _ _ | exact ih1 _ _ _ _ _ _ _ _ _ _ | exact LeO.refl _ | exact LeO.none _ | refine LeO.ite ?_ ?_ | refine LeO.bind ?_ (fun _ => ?_)) | exact ih0 _ _ _ _ _ | exact ih1 _ _ _ _ _ _ _ _ _ _ | exact LeO.none _ | refine LeO.ite ?_ ?_ | refine LeO.bind ?_ (fun _ => ?_)
theorem spec_roTimes.calls (k : Nat) (A0 : Option Addr) (c0 : Nat) (l0 : List Int) (A1 : Option Addr) (c1 : Nat) (l1 : List Int) (r : List Int) (w : World) (hr0 : Kd.C (Kd.int .i64) w A0 l0.length l0) (hc0 : l0.length ≤ c0) (hr1 : Kd.C (Kd.int .i64) w A1 l1.length l1) (hc1 : l1.length ≤ c1) (h : spec_roTimes.f k l0 l1 = some r) :
  Calls Try.prog 177 #[.slice A0 l0.length c0, .slice A1 l1.length c1] w fun e w' => ∃ v0_ : Value, e = .returned (v0_) ∧ Kd.R (Kd.int .i64) 3 w' w.heap.size (fun _ => True) v0_ r ∧ Below w.heap.size w w' := by
 have HR0 := A_ hr0
 have HC0 := A_ hc0
 clear hr0 hc0
 have HR1 := A_ hr1
 have HC1 := A_ hc1
 clear hr1 hc1
 have HB := A_ (Below.refl w.heap.size w)
 have H : (if 0 ≤ (wrap64 ((wrap64 ((l0.length : Int) + (l1.length : Int))) - 1)) then (if (wrap64 ((wrap64 ((l0.length : Int) + (l1.length : Int))) - 1) : Int).toNat ≤ 35184372088832 then (spec_roTimes.l0 k l1 (List.replicate (wrap64 ((wrap64 ((l0.length : Int) + (l1.length : Int))) - 1) : Int).toNat 0) l0 (l0.length : Int) 0) else (none)) else (none)) = some r := h
 clear h
 obtain ⟨ji3, hji3⟩ : ∃ j_ : Int, (wrap64 ((wrap64 ((l0.length : Int) + (l1.length : Int))) - 1)) = j_ := ⟨_, rfl⟩
 replace H : (if 0 ≤ (ji3) then (if (ji3 : Int).toNat ≤ 35184372088832 then (spec_roTimes.l0 k l1 (List.replicate (ji3 : Int).toNat 0) l0 (l0.length : Int) 0) else (none)) else (none)) = some r := by first | (rw [hji3] at H; exact H) | (simp only [hji3] at H ⊢; exact H)
 have hji3w : (IntKind.i64.wrap ((wrap64 ((l0.length : Int) + (l1.length : Int))) - 1)) = ji3 := (i64_w _).trans hji3
 by_cases c4 : 0 ≤ (ji3)
 ·
  rw [if_pos c4] at H
  have c4b0 := eq_true c4
  have c4b1 := decide_eq_true c4
  clear c4
  by_cases c5 : (ji3 : Int).toNat ≤ 35184372088832
  ·
   rw [if_pos c5] at H
   have c5b0 := eq_true c5
   have c5b1 := decide_eq_true c5
   clear c5
   obtain ⟨y503, hy503⟩ : ∃ y_ : List Int, y_ = (List.replicate (ji3 : Int).toNat 0) := ⟨_, rfl⟩
   replace H : (spec_roTimes.l0 k l1 y503 l0 (l0.length : Int) 0) = some r := ty_ hy503 H
   have Ny503 := A_ hy503
   clear hy503
   have H' := A_ H
   clear H
   go_enter Try.func177, Try.ntmps177
   go_wp2_with (first | (refine gd_ 16 ?_; refine Kd.R_make (Kd.int .i64) _ 3 rfl (N := 16) rfl 22 _ _ rfl ji3 rfl rfl Try.underlying22 (.int .i64 0) 8 info3 rfl (by decide) (by omega) 0 (ok := fun _ => True) (okp := fun _ => True) rfl (fun _ hk => hk) trivial (od_) (Nat.le_trans (Nat.mul_le_mul_right _ (od_ : ji3.toNat ≤ 35184372088832)) (by omega)) (Below.refl _ _) (Nat.le_refl _) ?_; intro v504 w6 ho7 hb hg_ hnew_; clear hg_ hnew_; (first | rw [← Ny503.out] at ho7 | (simp only [Int.reduceToNat] at ho7; rw [← Ny503.out] at ho7)); have HO505 := A_ (Kd.R_lower ho7 (below_size tb_)); replace HB := A_ (below_step tb_ hb); clear hb ho7))
   go_loopg [19] k (fun kq v19 w' => ∃ (x5_1 : List Int) (x19_1 : Int), v19 = .int .i64 x19_1 ∧ Aside0 (spec_roTimes.l0 kq l1 x5_1 l0 (l0.length : Int) x19_1 = some r) ∧ Aside0 (kq ≤ k) ∧ Aside0 (Kd.R (Kd.int .i64) 3 w' w.heap.size (fun _ => True) v504 x5_1) ∧ Aside0 (Below w.heap.size w w'))
   case atStart => exact ⟨(y503), (0), tf_, H', ⟨Nat.le_refl _⟩, ⟨tr_x HO505.out⟩, ⟨tb_⟩⟩
   case round =>
    clear H'
    try clear c1
    try clear p2
    try clear c4
    try clear c4b0
    try clear c4b1
    try clear c5
    try clear c5b0
    try clear c5b1
    try clear p6
    obtain ⟨x5_1, x19_1, rfl, HA, HK1, HO_5, HB⟩ := hrel
    cases gk with
    | zero => exact absurd HA.out (by simp [spec_roTimes.l0])
    | succ k1 =>
     have H := HA.out
     clear HA
     simp only [spec_roTimes.l0] at H
     by_cases c8 : x19_1 < (l0.length : Int)
     ·
      rw [if_pos c8] at H
      have c8b0 := decide_eq_true c8
      clear c8
      by_cases c9 : 0 ≤ x19_1
      ·
       rw [if_pos c9] at H
       have c9b0 := decide_eq_true c9
       clear c9
       by_cases c10 : x19_1 < (l0.length : Int)
       ·
        rw [if_pos c10] at H
        have c10b0 := decide_eq_true c10
        clear c10
        have H' := A_ H
        clear H
        have p506 : 0 ≤ (x19_1 : Int) := od_
        have q506 : x19_1 < (l0.length : Int) := od_
        obtain ⟨ad506, e506, hx506_0⟩ := Kd.at_int HR0.out x19_1 p506 q506
        cases e506
        (try replace hx506_0 := (HB.out.cell (World.block_lt_of_cell? w _ hx506_0)).trans hx506_0)
        replace p506 := eq_true p506
        replace q506 := eq_true q506
        go_wp2
        go_loopg [26] k1 (fun kq v26 w' => ∃ (x5_2 : List Int) (x26_2 : Int), v26 = .int .i64 x26_2 ∧ Aside0 (spec_roTimes.l1 kq l1 x5_2 x19_1 (rd l0 x19_1) l0 (l0.length : Int) x19_1 l1 (l1.length : Int) x26_2 = some r) ∧ Aside0 (kq ≤ k1) ∧ Aside0 (Kd.R (Kd.int .i64) 3 w' w.heap.size (fun _ => True) v504 x5_2) ∧ Aside0 (Below w.heap.size w w'))
        case atStart => exact ⟨(x5_1), (0), tf_, H', ⟨Nat.le_refl _⟩, ⟨tr_x HO_5.out⟩, ⟨tb_⟩⟩
        case round =>
         clear H'
         try clear c1
         try clear p2
         try clear c4
         try clear c4b0
         try clear c4b1
         try clear c5
         try clear c5b0
         try clear c5b1
         try clear p5
         try clear q5
         try clear hx5
         try clear p6
         try clear c8
         try clear c8b0
         try clear c9
         try clear c9b0
         try clear c10
         try clear c10b0
         try clear hx506_0
         try clear p2
         try clear p506
         try clear p6
         try clear q506
         obtain ⟨x5_2, x26_2, rfl, HA, HK2, HO_5, HB⟩ := hrel
         cases gk with
         | zero => exact absurd HA.out (by simp [spec_roTimes.l1])
         | succ k2 =>
          have H := HA.out
          clear HA
          simp only [spec_roTimes.l1] at H
          by_cases c11 : x26_2 < (l1.length : Int)
          ·
           rw [if_pos c11] at H
           have c11b0 := decide_eq_true c11
           clear c11
           by_cases c12 : 0 ≤ x26_2
           ·
            rw [if_pos c12] at H
            have c12b0 := decide_eq_true c12
            clear c12
            by_cases c13 : x26_2 < (l1.length : Int)
            ·
             rw [if_pos c13] at H
             have c13b0 := decide_eq_true c13
             clear c13
             obtain ⟨ji14, hji14⟩ : ∃ j_ : Int, (wrap64 (x19_1 + x26_2)) = j_ := ⟨_, rfl⟩
             replace H : (if 0 ≤ (ji14) then (if (ji14) < (x5_2.length : Int) then (spec_roTimes.l1 k2 l1 (x5_2.set ((ji14) : Int).toNat (wrap64 ((rd x5_2 (ji14)) + (wrap64 ((rd l0 x19_1) * (rd l1 x26_2)))))) x19_1 (rd l0 x19_1) l0 (l0.length : Int) x19_1 l1 (l1.length : Int) (wrap64 (x26_2 + 1))) else (none)) else (none)) = some r := by first | (rw [hji14] at H; exact H) | (simp only [hji14] at H ⊢; exact H)
             have hji14w : (IntKind.i64.wrap (x19_1 + x26_2)) = ji14 := (i64_w _).trans hji14
             by_cases c15 : 0 ≤ (ji14)
             ·
              rw [if_pos c15] at H
              have c15b0 := decide_eq_true c15
              clear c15
              by_cases c16 : (ji14) < (x5_2.length : Int)
              ·
               rw [if_pos c16] at H
               have c16b0 := decide_eq_true c16
               clear c16
               obtain ⟨y509, hy509⟩ : ∃ y_ : List Int, y_ = (x5_2.set ((ji14) : Int).toNat (wrap64 ((rd x5_2 (ji14)) + (wrap64 ((rd l0 x19_1) * (rd l1 x26_2)))))) := ⟨_, rfl⟩
               replace H : (spec_roTimes.l1 k2 l1 y509 x19_1 (rd l0 x19_1) l0 (l0.length : Int) x19_1 l1 (l1.length : Int) (wrap64 (x26_2 + 1))) = some r := ty_ hy509 H
               have Ny509 := A_ hy509
               clear hy509
               have H' := A_ H
               clear H
               have p507 : 0 ≤ (x26_2 : Int) := od_
               have q507 : x26_2 < (l1.length : Int) := od_
               obtain ⟨ad507, e507, hx507_0⟩ := Kd.at_int HR1.out x26_2 p507 q507
               cases e507
               (try replace hx507_0 := (HB.out.cell (World.block_lt_of_cell? w _ hx507_0)).trans hx507_0)
               replace p507 := eq_true p507
               replace q507 := eq_true q507
               obtain ⟨Ao18, co18, eo18⟩ := Kd.R_slice HO_5.out
               subst eo18
               have p508 : 0 ≤ ((ji14) : Int) := od_
               have q508 : (ji14) < (x5_2.length : Int) := od_
               obtain ⟨ad508, e508, hx508_0⟩ := Kd.at_int (Kd.R_reads' HO_5.out).2.2 (ji14) p508 q508
               cases e508
               replace p508 := eq_true p508
               replace q508 := eq_true q508
               have p17 : 0 ≤ ((ji14) : Int) := od_
               have q17 : ((ji14) : Int) < ((x5_2.length : Int) : Int) := od_
               obtain ⟨go17, co17, eo17, gb17, gl17, cl17, HG17⟩ := Kd.R_form HO_5.out (by omega)
               (first | cases eo17 | (injection eo17 with ea_ en_ ec_; (first | subst ea_ | (injection ea_ with ea_; subst ea_)); subst ec_; clear en_))
               have GB17 := A_ gb17
               have GG17 := A_ HG17
               clear gb17 gl17 HG17
               (first | simp only [add_plain] at hx508_0 | skip)
               obtain ⟨hx17_0, hf17_0⟩ := Kd.R_celln 0 HO_5.out ((ji14) : Int) p17 q17
               replace p17 := eq_true p17
               replace q17 := eq_true q17
               have HP19 := Kd.R_putg HO_5.out ((ji14) : Int) (wrap64 ((rd x5_2 (ji14)) + (wrap64 ((rd l0 x19_1) * (rd l1 x26_2)))))
               go_wp2_with (first | ((with_reducible refine gate_store (t := 3) (p := 41) rfl ?_); refine store_event (t := 3) (p := 41) (v := ?vo_w20) (w1 := (wr.setCell ⟨go17, ((ji14) : Int).toNat, none⟩ (.int .i64 (wrap64 ((rd x5_2 (ji14)) + (wrap64 ((rd l0 x19_1) * (rd l1 x26_2)))))))) ?hg ?ho ?hn ?hr ?_; (case ho => rfl); (case hg => rfl); (case hn => rfl); (case hr => first | (go_simp; done) | (go_simp; rfl)); intro w20 hw; have hg : wr.grownBy w20 (some go17) := (by rw [hw]; exact HP19.2); have hp_ : Kd.R (Kd.int .i64) 3 w20 w.heap.size (fun _ => True) (.slice (some ⟨go17, 0, none⟩) x5_2.length co18) y509 := (by rw [hw, Ny509.out]; exact HP19.1); clear HP19; replace HO_5 := A_ (hp_); replace HB := A_ ((by rw [hw]; exact below_set (HB.out) GB17.out : Below w.heap.size w w20)); clear hg hw hp_))
               go_roundg k2
               case measure => have := HK1.out; have := HK2.out; omega
               case rel => exact ⟨(y509), (wrap64 (x26_2 + 1)), tf_, H', ⟨by have := HK1.out; have := HK2.out; omega⟩, ⟨tr_x HO_5.out⟩, ⟨tb_⟩⟩
              ·
               rw [if_neg c16] at H
               exact absurd H (by simp)
             ·
              rw [if_neg c15] at H
              exact absurd H (by simp)
            ·
             rw [if_neg c13] at H
             exact absurd H (by simp)
           ·
            rw [if_neg c12] at H
            exact absurd H (by simp)
          ·
           rw [if_neg c11] at H
           have c11b0 := decide_eq_false c11
           clear c11
           have H' := A_ H
           clear H
           go_wp2
           go_roundg k2
           case measure => have := HK1.out; have := HK2.out; omega
           case rel => exact ⟨(x5_2), (wrap64 (x19_1 + 1)), tf_, H', ⟨by have := HK1.out; have := HK2.out; omega⟩, ⟨tr_x HO_5.out⟩, ⟨tb_⟩⟩
       ·
        rw [if_neg c10] at H
        exact absurd H (by simp)
      ·
       rw [if_neg c9] at H
       exact absurd H (by simp)
     ·
      rw [if_neg c8] at H
      have c8b0 := decide_eq_false c8
      clear c8
      obtain rfl := Option.some.inj H
      go_wp2
      go_ret
      exact ⟨_, by first | rfl | (simp [errW_none, errW_some] <;> rfl) | (simp only [← hji3]; first | rfl | (simp [errW_none, errW_some] <;> rfl)) | (simp [*, errW_none, errW_some] <;> rfl), tr_x HO_5.out, tb_⟩
  ·
   rw [if_neg c5] at H
   exact absurd H (by simp)
 ·
  rw [if_neg c4] at H
  exact absurd H (by simp)

/-! ### spec_l1Least: function 123 -/
def spec_l1Least.f (a0 : Int) (a1 : Int) : Option (Int) := if a0 < a1 then (some a0) else (some a1)
theorem spec_l1Least.calls (a0 : Int) (a1 : Int) (r : Int) (w : World) (h : spec_l1Least.f a0 a1 = some r) :
  Calls Try.prog 123 #[.int .i64 a0, .int .i64 a1] w fun e w' => e = .returned (.int .i64 r) ∧ Drawn0 w w' := by
 have H : (if a0 < a1 then (some a0) else (some a1)) = some r := h
 clear h
 by_cases c3 : a0 < a1
 ·
  rw [if_pos c3] at H
  have c3b0 := decide_eq_true c3
  clear c3
  obtain rfl := Option.some.inj H
  go_enter Try.func123, Try.ntmps123
  go_wp2
  go_ret
  exact ⟨tf_, dr_⟩
 ·
  rw [if_neg c3] at H
  have c3b0 := decide_eq_false c3
  clear c3
  obtain rfl := Option.some.inj H
  go_enter Try.func123, Try.ntmps123
  go_wp2
  go_ret
  exact ⟨tf_, dr_⟩

/-! ### spec_roWays: function 211 -/
mutual
def spec_roWays.l0 : Nat → Int → Int → List Int → List Int → Int → Int → Int → Int → List Int → Option (List Int)
 | 0, _, _, _, _, _, _, _, _, _ => none
 | k + 1, x1, x2, x7, x31, x32, x33, x511000, x511001, x511002 => if x33 < x32 then (if 0 ≤ x33 then (if x33 < (x31.length : Int) then (if x33 < (x7.length : Int) then (spec_roWays.l0 k x1 x2 (x7.set (x33 : Int).toNat (wrap64 ((rd x7 x33) + (rd x31 x33)))) x31 x32 (wrap64 (x33 + 1)) x511000 x511001 x511002) else (none)) else (none)) else (none)) else (spec_roWays.l1 k x1 x2 x7 0 x511000 x511001 x511002)
def spec_roWays.l1 : Nat → Int → Int → List Int → Int → Int → Int → List Int → Option (List Int)
 | 0, _, _, _, _, _, _, _ => none
 | k + 1, x1, x2, x7, x10, x511000, x511001, x511002 => if x10 < x511001 then ((spec_boHas.f x511000 x511001 x511002 x1 x10).bind fun t522 => (if t522 = true then (if 0 ≤ x10 then (spec_roWays.j2 k x1 x2 x7 x10 ((Int.tmod (shr .i64 x2 x10) 2) == 1) x511000 x511001 x511002) else (none)) else (spec_roWays.j2 k x1 x2 x7 x10 true x511000 x511001 x511002))) else (some x7)
def spec_roWays.j2 : Nat → Int → Int → List Int → Int → Bool → Int → Int → List Int → Option (List Int)
 | 0, _, _, _, _, _, _, _, _ => none
 | k + 1, x1, x2, x7, x10, x63, x511000, x511001, x511002 => if x63 = true then (spec_roWays.l1 k x1 x2 x7 (wrap64 (x10 + 1)) x511000 x511001 x511002) else (if 0 ≤ x10 then ((spec_roWays.f k x511000 x511001 x511002 (wrap64 (x1 + 1)) (Go.bits .or .i64 x2 (shl .i64 1 x10))).bind fun t523 => (spec_roWays.l2 k x1 x2 x7 x10 t523 (t523.length : Int) 0 x511000 x511001 x511002)) else (none))
def spec_roWays.l2 : Nat → Int → Int → List Int → Int → List Int → Int → Int → Int → Int → List Int → Option (List Int)
 | 0, _, _, _, _, _, _, _, _, _, _ => none
 | k + 1, x1, x2, x7, x10, x71, x72, x73, x511000, x511001, x511002 => if x73 < x72 then (if 0 ≤ x73 then (if x73 < (x71.length : Int) then (if (rd x71 x73) > 0 then (if 0 ≤ (wrap64 (x73 + 1)) then (if (wrap64 (x73 + 1)) < (x7.length : Int) then (spec_roWays.l2 k x1 x2 (x7.set ((wrap64 (x73 + 1)) : Int).toNat (wrap64 ((rd x7 (wrap64 (x73 + 1))) + (rd x71 x73)))) x10 x71 x72 (wrap64 (x73 + 1)) x511000 x511001 x511002) else (none)) else (none)) else (spec_roWays.l2 k x1 x2 x7 x10 x71 x72 (wrap64 (x73 + 1)) x511000 x511001 x511002)) else (none)) else (none)) else (spec_roWays.l1 k x1 x2 x7 (wrap64 (x10 + 1)) x511000 x511001 x511002)
def spec_roWays.f : Nat → Int → Int → List Int → Int → Int → Option (List Int)
 | 0, _, _, _, _, _ => none
 | k + 1, a0_0, a0_1, l0_2, a1, a2 => (spec_l1Least.f a0_0 a0_1).bind fun t511 => (if 0 ≤ (wrap64 (t511 + 1)) then (if (wrap64 (t511 + 1) : Int).toNat ≤ 35184372088832 then ((some (List.replicate (wrap64 (t511 + 1) : Int).toNat 0 : List Int)).bind fun y512 => (if a1 = a0_0 then (if 0 < (y512.length : Int) then (some (y512.set (0 : Int).toNat 1)) else (none)) else ((spec_roWays.f k a0_0 a0_1 l0_2 (wrap64 (a1 + 1)) a2).bind fun t516 => (spec_roWays.l0 k a1 a2 y512 t516 (t516.length : Int) 0 a0_0 a0_1 l0_2)))) else (none)) else (none))
end
theorem spec_roWays.mono_l : ∀ k, (∀ y0 y1 y2 y3 y4, LeO (spec_roWays.f k y0 y1 y2 y3 y4) (spec_roWays.f (k + 1) y0 y1 y2 y3 y4)) ∧ (∀ y0 y1 y2 y3 y4 y5 y6 y7 y8, LeO (spec_roWays.l0 k y0 y1 y2 y3 y4 y5 y6 y7 y8) (spec_roWays.l0 (k + 1) y0 y1 y2 y3 y4 y5 y6 y7 y8)) ∧ (∀ y0 y1 y2 y3 y4 y5 y6, LeO (spec_roWays.l1 k y0 y1 y2 y3 y4 y5 y6) (spec_roWays.l1 (k + 1) y0 y1 y2 y3 y4 y5 y6)) ∧ (∀ y0 y1 y2 y3 y4 y5 y6 y7, LeO (spec_roWays.j2 k y0 y1 y2 y3 y4 y5 y6 y7) (spec_roWays.j2 (k + 1) y0 y1 y2 y3 y4 y5 y6 y7)) ∧ (∀ y0 y1 y2 y3 y4 y5 y6 y7 y8 y9, LeO (spec_roWays.l2 k y0 y1 y2 y3 y4 y5 y6 y7 y8 y9) (spec_roWays.l2 (k + 1) y0 y1 y2 y3 y4 y5 y6 y7 y8 y9))
 | 0 => ⟨fun _ _ _ _ _ r h => by simp [spec_roWays.f] at h, fun _ _ _ _ _ _ _ _ _ r h => by simp [spec_roWays.l0] at h, fun _ _ _ _ _ _ _ r h => by simp [spec_roWays.l1] at h, fun _ _ _ _ _ _ _ _ r h => by simp [spec_roWays.j2] at h, fun _ _ _ _ _ _ _ _ _ _ r h => by simp [spec_roWays.l2] at h⟩
 | k + 1 => by
  obtain ⟨ih0, ih1, ih2, ih3, ih4⟩ := spec_roWays.mono_l k
  refine ⟨?_, ?_, ?_, ?_, ?_⟩
  ·
   intro y0 y1 y2 y3 y4
   unfold spec_roWays.f
   repeat' first | (with_reducible first | exact ih0 _ _ _ _ _ | exact ih1 _ _ _ _ _ _ _ _ _ | exact ih2 _ _ _ _ _ _ _ | exact ih3 _ _ _ _ _ _ _ _ | exact ih4 _ _ _ _ _ _ _ _ _ _ | exact LeO.refl _ | exact LeO.none _ | refine LeO.ite ?_ ?_ | refine LeO.bind ?_ (fun _ => ?_)) | exact ih0 _ _ _ _ _ | exact ih1 _ _ _ _ _ _ _ _ _ | exact ih2 _ _ _ _ _ _ _ | exact ih3 _ _ _ _ _ _ _ _ | exact ih4 _ _ _ _ _ _ _ _ _ _ | exact LeO.none _ | refine LeO.ite ?_ ?_ | refine LeO.bind ?_ (fun _ => ?_)
  ·
   intro y0 y1 y2 y3 y4 y5 y6 y7 y8
   unfold spec_roWays.l0
   repeat' first | (with_reducible first | exact ih0 _ _ _ _ _ | exact ih1 _ _ _ _ _ _ _ _ _ | exact ih2 _ _ _ _ _ _ _ | exact ih3 _ _ _ _ _ _ _ _ | exact ih4 _ _ _ _ _ _ _ _ _ _ | exact LeO.refl _ | exact LeO.none _ | refine LeO.ite ?_ ?_ | refine LeO.bind ?_ (fun _ => ?_)) | exact ih0 _ _ _ _ _ | exact ih1 _ _ _ _ _ _ _ _ _ | exact ih2 _ _ _ _ _ _ _ | exact ih3 _ _ _ _ _ _ _ _ | exact ih4 _ _ _ _ _ _ _ _ _ _ | exact LeO.none _ | refine LeO.ite ?_ ?_ | refine LeO.bind ?_ (fun _ => ?_)
  ·
   intro y0 y1 y2 y3 y4 y5 y6
   unfold spec_roWays.l1
   repeat' first | (with_reducible first | exact ih0 _ _ _ _ _ | exact ih1 _ _ _ _ _ _ _ _ _ | exact ih2 _ _ _ _ _ _ _ | exact ih3 _ _ _ _ _ _ _ _ | exact ih4 _ _ _ _ _ _ _ _ _ _ | exact LeO.refl _ | exact LeO.none _ | refine LeO.ite ?_ ?_ | refine LeO.bind ?_ (fun _ => ?_)) | exact ih0 _ _ _ _ _ | exact ih1 _ _ _ _ _ _ _ _ _ | exact ih2 _ _ _ _ _ _ _ | exact ih3 _ _ _ _ _ _ _ _ | exact ih4 _ _ _ _ _ _ _ _ _ _ | exact LeO.none _ | refine LeO.ite ?_ ?_ | refine LeO.bind ?_ (fun _ => ?_)
  ·
   intro y0 y1 y2 y3 y4 y5 y6 y7
   unfold spec_roWays.j2
   repeat' first | (with_reducible first | exact ih0 _ _ _ _ _ | exact ih1 _ _ _ _ _ _ _ _ _ | exact ih2 _ _ _ _ _ _ _ | exact ih3 _ _ _ _ _ _ _ _ | exact ih4 _ _ _ _ _ _ _ _ _ _ | exact LeO.refl _ | exact LeO.none _ | refine LeO.ite ?_ ?_ | refine LeO.bind ?_ (fun _ => ?_)) | exact ih0 _ _ _ _ _ | exact ih1 _ _ _ _ _ _ _ _ _ | exact ih2 _ _ _ _ _ _ _ | exact ih3 _ _ _ _ _ _ _ _ | exact ih4 _ _ _ _ _ _ _ _ _ _ | exact LeO.none _ | refine LeO.ite ?_ ?_ | refine LeO.bind ?_ (fun _ => ?_)
  ·
   intro y0 y1 y2 y3 y4 y5 y6 y7 y8 y9
   unfold spec_roWays.l2
   repeat' first | (with_reducible first | exact ih0 _ _ _ _ _ | exact ih1 _ _ _ _ _ _ _ _ _ | exact ih2 _ _ _ _ _ _ _ | exact ih3 _ _ _ _ _ _ _ _ | exact ih4 _ _ _ _ _ _ _ _ _ _ | exact LeO.refl _ | exact LeO.none _ | refine LeO.ite ?_ ?_ | refine LeO.bind ?_ (fun _ => ?_)) | exact ih0 _ _ _ _ _ | exact ih1 _ _ _ _ _ _ _ _ _ | exact ih2 _ _ _ _ _ _ _ | exact ih3 _ _ _ _ _ _ _ _ | exact ih4 _ _ _ _ _ _ _ _ _ _ | exact LeO.none _ | refine LeO.ite ?_ ?_ | refine LeO.bind ?_ (fun _ => ?_)
theorem spec_roWays.mono : ∀ a0 a1 a2 a3 a4 k, LeO (spec_roWays.f k a0 a1 a2 a3 a4) (spec_roWays.f (k + 1) a0 a1 a2 a3 a4) := by
 intro a0 a1 a2 a3 a4 k
 obtain ⟨ih0, ih1, ih2, ih3, ih4⟩ := spec_roWays.mono_l k
 exact ih0 a0 a1 a2 a3 a4
def spec_roWays.T14 : Bool × List (List Nat × List Nat) := (true, [([], []), ([], []), ([1], [1]), ([], []), ([], []), ([4], [4]), ([3, 5], [3, 5]), ([0, 2, 6], [0, 2, 6]), ([7], [7]), ([], [])])
def spec_roWays.B14 : List Nat := [0, 0, 2, 0, 0, 16, 56, 127, 255, 0]
theorem spec_roWays.tab14 : rtab .any (opsOf Try.f211 14) = spec_roWays.T14 := by kernel_rfl
theorem spec_roWays.bits14 : waitsOk spec_roWays.T14.2 spec_roWays.B14 = true := by kernel_rfl
theorem spec_roWays.calls (k : Nat) : ∀ (a0_0 : Int) (a0_1 : Int) (A0_2 : Option Addr) (c0_2 : Nat) (l0_2 : List Int) (a1 : Int) (a2 : Int) (r : List Int) (w : World) (hr0_2 : Kd.C (Kd.int .i64) w A0_2 l0_2.length l0_2) (hc0_2 : l0_2.length ≤ c0_2) (h : spec_roWays.f k a0_0 a0_1 l0_2 a1 a2 = some r),
  Calls Try.prog 211 #[.agg #[.int .i64 a0_0, .int .i64 a0_1, .slice A0_2 l0_2.length c0_2], .int .i64 a1, .int .i64 a2] w fun e w' => ∃ v0_ : Value, e = .returned (v0_) ∧ Kd.R (Kd.int .i64) 3 w' w.heap.size (fun _ => True) v0_ r ∧ Below w.heap.size w w' := by
 induction k using Nat.strongRecOn with
 | _ k ih =>
 intro a0_0 a0_1 A0_2 c0_2 l0_2 a1 a2 r w hr0_2 hc0_2 h
 cases k with
 | zero => exact absurd h (by simp [spec_roWays.f])
 | succ k =>
 simp only [spec_roWays.f] at h
 have hu26 := Try.underlying26
 have HR0_2 := A_ hr0_2
 have HC0_2 := A_ hc0_2
 clear hr0_2 hc0_2
 have HB := A_ (Below.refl w.heap.size w)
 have H : ((spec_l1Least.f a0_0 a0_1).bind fun t511 => (if 0 ≤ (wrap64 (t511 + 1)) then (if (wrap64 (t511 + 1) : Int).toNat ≤ 35184372088832 then ((some (List.replicate (wrap64 (t511 + 1) : Int).toNat 0 : List Int)).bind fun y512 => (if a1 = a0_0 then (if 0 < (y512.length : Int) then (some (y512.set (0 : Int).toNat 1)) else (none)) else ((spec_roWays.f k a0_0 a0_1 l0_2 (wrap64 (a1 + 1)) a2).bind fun t516 => (spec_roWays.l0 k a1 a2 y512 t516 (t516.length : Int) 0 a0_0 a0_1 l0_2)))) else (none)) else (none))) = some r := h
 clear h
 replace H := Option.bind_eq_some_iff.mp H
 obtain ⟨t511, A40, H⟩ := H
 replace H : (if 0 ≤ (wrap64 (t511 + 1)) then (if (wrap64 (t511 + 1) : Int).toNat ≤ 35184372088832 then ((some (List.replicate (wrap64 (t511 + 1) : Int).toNat 0 : List Int)).bind fun y512 => (if a1 = a0_0 then (if 0 < (y512.length : Int) then (some (y512.set (0 : Int).toNat 1)) else (none)) else ((spec_roWays.f k a0_0 a0_1 l0_2 (wrap64 (a1 + 1)) a2).bind fun t516 => (spec_roWays.l0 k a1 a2 y512 t516 (t516.length : Int) 0 a0_0 a0_1 l0_2)))) else (none)) else (none)) = some r := H
 have A4 := A_ A40
 clear A40
 obtain ⟨ji5, hji5⟩ : ∃ j_ : Int, (wrap64 (t511 + 1)) = j_ := ⟨_, rfl⟩
 replace H : (if 0 ≤ (ji5) then (if (ji5 : Int).toNat ≤ 35184372088832 then ((some (List.replicate (ji5 : Int).toNat 0 : List Int)).bind fun y512 => (if a1 = a0_0 then (if 0 < (y512.length : Int) then (some (y512.set (0 : Int).toNat 1)) else (none)) else ((spec_roWays.f k a0_0 a0_1 l0_2 (wrap64 (a1 + 1)) a2).bind fun t516 => (spec_roWays.l0 k a1 a2 y512 t516 (t516.length : Int) 0 a0_0 a0_1 l0_2)))) else (none)) else (none)) = some r := by first | (rw [hji5] at H; exact H) | (simp only [hji5] at H ⊢; exact H)
 (try rw [hji5] at A4)
 have hji5w : (IntKind.i64.wrap (t511 + 1)) = ji5 := (i64_w _).trans hji5
 by_cases c6 : 0 ≤ (ji5)
 ·
  rw [if_pos c6] at H
  have c6b0 := eq_true c6
  have c6b1 := decide_eq_true c6
  clear c6
  by_cases c7 : (ji5 : Int).toNat ≤ 35184372088832
  ·
   rw [if_pos c7] at H
   have c7b0 := eq_true c7
   have c7b1 := decide_eq_true c7
   clear c7
   obtain ⟨y512, hy512⟩ : ∃ y_ : List Int, y_ = (List.replicate (ji5 : Int).toNat 0) := ⟨_, rfl⟩
   replace H : (if a1 = a0_0 then (if 0 < (y512.length : Int) then (some (y512.set (0 : Int).toNat 1)) else (none)) else ((spec_roWays.f k a0_0 a0_1 l0_2 (wrap64 (a1 + 1)) a2).bind fun t516 => (spec_roWays.l0 k a1 a2 y512 t516 (t516.length : Int) 0 a0_0 a0_1 l0_2))) = some r := ty_ hy512 H
   have Ny512 := A_ hy512
   clear hy512
   by_cases c8 : a1 = a0_0
   ·
    rw [if_pos c8] at H
    have c8b0 : (a1 == a0_0) = true := beq_iff_eq.mpr c8
    have c8b1 : (a1 != a0_0) = false := bne_eq_false_iff_eq.mpr c8
    clear c8
    by_cases c9 : 0 < (y512.length : Int)
    ·
     rw [if_pos c9] at H
     have c9b0 := decide_eq_true c9
     have c9b1 : decide (0 < y512.length) = true := decide_eq_true (by omega)
     clear c9
     obtain ⟨y515, hy515⟩ : ∃ y_ : List Int, y_ = (y512.set (0 : Int).toNat 1) := ⟨_, rfl⟩
     replace H : (some y515) = some r := ty_ hy515 H
     have Ny515 := A_ hy515
     clear hy515
     obtain rfl := Option.some.inj H
     go_enter Try.func211, Try.ntmps211
     go_wp2_with (first | (refine gd_ 3 ?_; refine bx_ 3 #[.int .i64 a0_0, .int .i64 a0_1, .slice A0_2 l0_2.length c0_2] 26 ?_; intro gb510 hg w11 hbox hb; have BK510 := A_ (hbox); have GW510 := A_ ((ts_ hg : w.heap.size ≤ gb510)); have GE510 := A_ ((ts_ hg : w.heap.size ≤ gb510)); replace HB := A_ (below_step tb_ hb); clear hb hbox hg; obtain ⟨hcz12_0, hcz12_1, hcz12_2, hfz12_0, hfz12_1, hfz12_2⟩ := cf3_ BK510.out) | (refine gc_ 123 ?_; refine goesT_ (some 17) Try.func123 #[.int .i64 a0_0, .int .i64 a0_1] ?_; (with_reducible refine (spec_l1Least.calls a0_0 a0_1 t511 _ A4.out).mono ?_); rintro e w' ⟨rfl, ⟨nd, rfl⟩⟩; refine ⟨_, rfl, ?_⟩; (try (rw [drewN_self w11]; generalize hq_ : World.drewN w11 _ = w11; have n0_ : Aside0 (w11.heap[gb510]? = some (.cells #[.int .i64 a0_0, .int .i64 a0_1, .slice A0_2 l0_2.length c0_2] 26 (0, 0))) := ⟨by rw [← hq_]; exact (tk_ BK510)⟩; have n1_ : Aside0 (Below w.heap.size w w11) := ⟨by rw [← hq_]; exact tb_⟩; clear BK510 HB hq_; have BK510 := n0_; have HB := n1_; clear n0_ n1_))) | (refine gd_ 19 ?_; refine Kd.R_make (Kd.int .i64) _ 3 rfl (N := 19) rfl 22 _ _ rfl ji5 rfl rfl Try.underlying22 (.int .i64 0) 8 info3 rfl (by decide) (by omega) 0 (ok := fun _ => True) (okp := fun _ => True) rfl (fun _ hk => hk) trivial (od_) (Nat.le_trans (Nat.mul_le_mul_right _ (od_ : ji5.toNat ≤ 35184372088832)) (by omega)) (Below.refl _ _) (Nat.le_refl _) ?_; intro v513 w13 ho14 hb hg_ hnew_; clear hg_ hnew_; (first | rw [← Ny512.out] at ho14 | (simp only [Int.reduceToNat] at ho14; rw [← Ny512.out] at ho14)); have HO514 := A_ (Kd.R_lower ho14 (below_size tb_)); replace BK510 := A_ (blk_below (g := gb510) (o := .cells #[.int .i64 a0_0, .int .i64 a0_1, .slice A0_2 l0_2.length c0_2] 26 (0, 0)) (tk_ BK510) hb); replace HB := A_ (below_step tb_ hb); clear hb ho14; obtain ⟨hcz15_0, hcz15_1, hcz15_2, hfz15_0, hfz15_1, hfz15_2⟩ := cf3_ BK510.out; have p10 : 0 ≤ (0 : Int) := (by omega); have q10 : (0 : Int) < ((y512.length : Int) : Int) := od_; have qi10 : (0 < y512.length) = True := eq_true (by omega); obtain ⟨go10, co10, eo10, gb10, gl10, cl10, HG10⟩ := Kd.R_form HO514.out (by omega); (first | cases eo10 | (injection eo10 with ea_ en_ ec_; (first | subst ea_ | (injection ea_ with ea_; subst ea_)); subst ec_; clear en_)); have GB10 := A_ gb10; have GG10 := A_ HG10; clear gb10 gl10 HG10; obtain ⟨hx10_0, hf10_0⟩ := Kd.R_celln 0 HO514.out (0 : Int) p10 q10; (try rw [show ((0 : Int)).toNat = 0 from rfl] at hx10_0); (try simp only [Nat.reduceMul, Nat.zero_mul, Nat.zero_add, Nat.reduceAdd] at hx10_0); (try rw [show ((0 : Int)).toNat = 0 from rfl] at hf10_0); (try simp only [Nat.reduceMul, Nat.zero_mul, Nat.zero_add, Nat.reduceAdd] at hf10_0); replace p10 := eq_true p10; replace q10 := eq_true q10; obtain ⟨hy16_, hz16_⟩ := Kd.R_celln 0 HO514.out (0 : Int) (by omega) (od_); (try simp only [Int.reduceToNat, Int.toNat_zero, Int.toNat_ofNat, Nat.reduceMul, Nat.zero_mul, Nat.zero_add] at hy16_ hz16_); (try rw [show ((0 : Int)).toNat = 0 from rfl] at hy16_); (try rw [show ((0 : Int)).toNat = 0 from rfl] at hz16_); have HP16 := Kd.R_putg HO514.out (0 : Int) 1) | ((with_reducible refine gate_store (t := 3) (p := 25) rfl ?_); refine store_event (t := 3) (p := 25) (v := ?vo_w17) (w1 := (w13.setCell ⟨go10, (0 : Int).toNat, none⟩ (.int .i64 1))) ?hg ?ho ?hn ?hr ?_; (case ho => rfl); (case hg => rfl); (case hn => rfl); (case hr => first | (go_simp; done) | (go_simp; rfl)); intro w17 hw; have hg : w13.grownBy w17 (some go10) := (by rw [hw]; exact HP16.2); have hp_ : Kd.R (Kd.int .i64) 3 w17 w.heap.size (fun _ => True) (.slice (some ⟨go10, 0, none⟩) y512.length co10) y515 := (by rw [hw, Ny515.out]; exact HP16.1); clear HP16; replace BK510 := A_ (blk_grown (g := gb510) (o := .cells #[.int .i64 a0_0, .int .i64 a0_1, .slice A0_2 l0_2.length c0_2] 26 (0, 0)) (tk_ BK510) hg (Kd.R_ne HO514.out BK510.out (by decide))); replace HO514 := A_ (hp_); replace HB := A_ ((by rw [hw]; exact below_set (HB.out) GB10.out : Below w.heap.size w w17)); clear hg hw hp_))
     go_ret
     exact ⟨_, by first | rfl | (simp [errW_none, errW_some] <;> rfl) | (simp only [← hji5]; first | rfl | (simp [errW_none, errW_some] <;> rfl)) | (simp [*, errW_none, errW_some] <;> rfl), tr_x HO514.out, tb_⟩
    ·
     rw [if_neg c9] at H
     exact absurd H (by simp)
   ·
    rw [if_neg c8] at H
    have c8b0 : (a1 == a0_0) = false := beq_eq_false_iff_ne.mpr c8
    have c8b1 : (a1 != a0_0) = true := bne_iff_ne.mpr c8
    replace H := Option.bind_eq_some_iff.mp H
    obtain ⟨t516, A180, H⟩ := H
    replace H : (spec_roWays.l0 k a1 a2 y512 t516 (t516.length : Int) 0 a0_0 a0_1 l0_2) = some r := H
    have A18 := A_ A180
    clear A180
    have H' := A_ H
    clear H
    go_enter Try.func211, Try.ntmps211
    go_wp2_with (first | (refine gd_ 3 ?_; refine bx_ 3 #[.int .i64 a0_0, .int .i64 a0_1, .slice A0_2 l0_2.length c0_2] 26 ?_; intro gb510 hg w19 hbox hb; have BK510 := A_ (hbox); have GW510 := A_ ((ts_ hg : w.heap.size ≤ gb510)); have GE510 := A_ ((ts_ hg : w.heap.size ≤ gb510)); replace HB := A_ (below_step tb_ hb); clear hb hbox hg; obtain ⟨hcz20_0, hcz20_1, hcz20_2, hfz20_0, hfz20_1, hfz20_2⟩ := cf3_ BK510.out) | (refine gc_ 123 ?_; refine goesT_ (some 17) Try.func123 #[.int .i64 a0_0, .int .i64 a0_1] ?_; (with_reducible refine (spec_l1Least.calls a0_0 a0_1 t511 _ A4.out).mono ?_); rintro e w' ⟨rfl, ⟨nd, rfl⟩⟩; refine ⟨_, rfl, ?_⟩) | (refine gd_ 19 ?_; refine Kd.R_make (Kd.int .i64) _ 3 rfl (N := 19) rfl 22 _ _ rfl ji5 rfl rfl Try.underlying22 (.int .i64 0) 8 info3 rfl (by decide) (by omega) 0 (ok := fun _ => True) (okp := fun _ => True) rfl (fun _ hk => hk) trivial (od_) (Nat.le_trans (Nat.mul_le_mul_right _ (od_ : ji5.toNat ≤ 35184372088832)) (by omega)) (Below.refl _ _) (Nat.le_refl _) ?_; intro v513 w21 ho22 hb hg_ hnew_; clear hg_ hnew_; (first | rw [← Ny512.out] at ho22 | (simp only [Int.reduceToNat] at ho22; rw [← Ny512.out] at ho22)); have HO514 := A_ (Kd.R_lower ho22 (below_size tb_)); replace BK510 := A_ (blk_below (g := gb510) (o := .cells #[.int .i64 a0_0, .int .i64 a0_1, .slice A0_2 l0_2.length c0_2] 26 (0, 0)) (tk_ BK510) hb); replace HB := A_ (below_step tb_ hb); clear hb ho22; obtain ⟨hcz23_0, hcz23_1, hcz23_2, hfz23_0, hfz23_1, hfz23_2⟩ := cf3_ BK510.out) | (refine gc_ 211 ?_; refine goesT_ (some 31) Try.func211 #[.agg #[.int .i64 a0_0, .int .i64 a0_1, .slice A0_2 l0_2.length c0_2], .int .i64 (wrap64 (a1 + 1)), .int .i64 a2] ?_; (with_reducible refine (ih k (by omega) a0_0 a0_1 _ _ l0_2 (wrap64 (a1 + 1)) a2 t516 _ ?side1 ?side2 A18.out).mono ?_); (case side1 => exact tc_ HR0_2.out); (case side2 => exact HC0_2.out); rintro e w24 ⟨v517, rfl, ho0, hb⟩; refine ⟨_, rfl, ?_⟩; have HO518 := A_ (Kd.R_lower (Kd.R_new' ho0 (Kd.R_lt (tr_x HO514.out))) (below_size tb_)); replace HO514 := A_ (Kd.R_elder' (tr_x HO514.out) (Kd.R_base ho0) hb); replace BK510 := A_ (blk_below (g := gb510) (o := .cells #[.int .i64 a0_0, .int .i64 a0_1, .slice A0_2 l0_2.length c0_2] 26 (0, 0)) (tk_ BK510) hb); replace HB := A_ (below_step tb_ hb); (try clear hb); (try clear ho0); obtain ⟨Ao25, co25, eo25⟩ := Kd.R_slice HO518.out; subst eo25))
    go_loopg [33] k (fun kq v33 w' => ∃ (x7_1 : List Int) (x33_1 : Int), v33 = .int .i64 x33_1 ∧ Aside0 (spec_roWays.l0 kq a1 a2 x7_1 t516 (t516.length : Int) x33_1 a0_0 a0_1 l0_2 = some r) ∧ Aside0 (kq ≤ k) ∧ Aside0 (Kd.R (Kd.int .i64) 3 w' w.heap.size (fun k_ => some k_ ≠ ((.slice Ao25 t516.length co25) : Value).ownBlock) v513 x7_1) ∧ Aside0 (Kd.R (Kd.int .i64) 3 w' w.heap.size (fun k_ => some k_ ≠ (v513 : Value).ownBlock) (.slice Ao25 t516.length co25) t516) ∧ Aside0 (w'.heap[gb510]? = some (.cells #[.int .i64 a0_0, .int .i64 a0_1, (.slice A0_2 l0_2.length c0_2)] 26 (0, 0))) ∧ Aside0 (Below w.heap.size w w'))
    case atStart => exact ⟨(y512), (0), tf_, H', ⟨Nat.le_refl _⟩, ⟨by (with_reducible repeat (first | apply Kd.R_alloc | apply Kd.R_drewN | apply Kd.R_drew)); exact Kd.R_mono HO514.out (fun _ hk => hk.2)⟩, ⟨by (with_reducible repeat (first | apply Kd.R_alloc | apply Kd.R_drewN | apply Kd.R_drew)); exact Kd.R_mono HO518.out (fun _ hk => hk.2)⟩, ⟨tk_ BK510⟩, ⟨tb_⟩⟩
    case round =>
     clear H'
     try clear c1
     try clear p1
     try clear q1
     try clear hx1
     try clear qi1
     try clear c2
     try clear p2
     try clear c6
     try clear c6b0
     try clear c6b1
     try clear p6
     try clear c7
     try clear c7b0
     try clear c7b1
     try clear c8
     try clear c8b0
     try clear c8b1
     try clear c9
     try clear c9b0
     try clear c9b1
     try clear p10
     try clear q10
     try clear hx10
     try clear qi10
     try clear hf10
     try clear c12
     try clear c21
     try clear hcz12_0
     try clear hcz12_1
     try clear hcz12_2
     try clear hcz15_0
     try clear hcz15_1
     try clear hcz15_2
     try clear hcz20_0
     try clear hcz20_1
     try clear hcz20_2
     try clear hcz23_0
     try clear hcz23_1
     try clear hcz23_2
     try clear hfz12_0
     try clear hfz12_1
     try clear hfz12_2
     try clear hfz15_0
     try clear hfz15_1
     try clear hfz15_2
     try clear hfz20_0
     try clear hfz20_1
     try clear hfz20_2
     try clear hfz23_0
     try clear hfz23_1
     try clear hfz23_2
     try clear hx10_0
     try clear p10
     try clear q10
     obtain ⟨x7_1, x33_1, rfl, HA, HK1, HO_7, HO_31, BK510, HB⟩ := hrel
     cases gk with
     | zero => exact absurd HA.out (by simp [spec_roWays.l0])
     | succ k1 =>
      have H := HA.out
      clear HA
      simp only [spec_roWays.l0] at H
      by_cases c26 : x33_1 < (t516.length : Int)
      ·
       rw [if_pos c26] at H
       have c26b0 := decide_eq_true c26
       clear c26
       by_cases c27 : 0 ≤ x33_1
       ·
        rw [if_pos c27] at H
        have c27b0 := decide_eq_true c27
        clear c27
        by_cases c28 : x33_1 < (t516.length : Int)
        ·
         rw [if_pos c28] at H
         have c28b0 := decide_eq_true c28
         clear c28
         by_cases c29 : x33_1 < (x7_1.length : Int)
         ·
          rw [if_pos c29] at H
          have c29b0 := decide_eq_true c29
          clear c29
          obtain ⟨y521, hy521⟩ : ∃ y_ : List Int, y_ = (x7_1.set (x33_1 : Int).toNat (wrap64 ((rd x7_1 x33_1) + (rd t516 x33_1)))) := ⟨_, rfl⟩
          replace H : (spec_roWays.l0 k1 a1 a2 y521 t516 (t516.length : Int) (wrap64 (x33_1 + 1)) a0_0 a0_1 l0_2) = some r := ty_ hy521 H
          have Ny521 := A_ hy521
          clear hy521
          have H' := A_ H
          clear H
          have p519 : 0 ≤ (x33_1 : Int) := od_
          have q519 : x33_1 < (t516.length : Int) := od_
          obtain ⟨ad519, e519, hx519_0⟩ := Kd.at_int (Kd.R_reads' HO_31.out).2.2 x33_1 p519 q519
          cases e519
          replace p519 := eq_true p519
          replace q519 := eq_true q519
          obtain ⟨Ao31, co31, eo31⟩ := Kd.R_slice HO_7.out
          subst eo31
          have p520 : 0 ≤ (x33_1 : Int) := od_
          have q520 : x33_1 < (x7_1.length : Int) := od_
          obtain ⟨ad520, e520, hx520_0⟩ := Kd.at_int (Kd.R_reads' HO_7.out).2.2 x33_1 p520 q520
          cases e520
          replace p520 := eq_true p520
          replace q520 := eq_true q520
          have p30 : 0 ≤ (x33_1 : Int) := od_
          have q30 : (x33_1 : Int) < ((x7_1.length : Int) : Int) := od_
          obtain ⟨go30, co30, eo30, gb30, gl30, cl30, HG30⟩ := Kd.R_form HO_7.out (by omega)
          (first | cases eo30 | (injection eo30 with ea_ en_ ec_; (first | subst ea_ | (injection ea_ with ea_; subst ea_)); subst ec_; clear en_))
          have GB30 := A_ gb30
          have GG30 := A_ HG30
          clear gb30 gl30 HG30
          (first | simp only [add_plain] at hx520_0 | skip)
          obtain ⟨hx30_0, hf30_0⟩ := Kd.R_celln 0 HO_7.out (x33_1 : Int) p30 q30
          replace p30 := eq_true p30
          replace q30 := eq_true q30
          have HP32 := Kd.R_putg HO_7.out (x33_1 : Int) (wrap64 ((rd x7_1 x33_1) + (rd t516 x33_1)))
          go_wp2_with (first | ((with_reducible refine gate_store (t := 3) (p := 44) rfl ?_); refine store_event (t := 3) (p := 44) (v := ?vo_w33) (w1 := (wr.setCell ⟨go30, (x33_1 : Int).toNat, none⟩ (.int .i64 (wrap64 ((rd x7_1 x33_1) + (rd t516 x33_1)))))) ?hg ?ho ?hn ?hr ?_; (case ho => rfl); (case hg => rfl); (case hn => rfl); (case hr => first | (go_simp; done) | (go_simp; rfl)); intro w33 hw; have hg : wr.grownBy w33 (some go30) := (by rw [hw]; exact HP32.2); have hp_ : Kd.R (Kd.int .i64) 3 w33 w.heap.size (fun k_ => some k_ ≠ (.slice (some ad519) t516.length co25 : Value).ownBlock) (.slice (some ⟨go30, 0, none⟩) x7_1.length co31) y521 := (by rw [hw, Ny521.out]; exact HP32.1); clear HP32; replace HO_31 := A_ (Kd.R_after (v := (.slice (some ⟨go30, 0, none⟩) x7_1.length co31)) (v1 := (.slice (some ⟨go30, 0, none⟩) x7_1.length co31)) (ok := (fun _ => True)) (tr_ (h := by exact Kd.R_mono HO_31.out om_)) hg (.inl rfl)); replace BK510 := A_ (blk_grown (g := gb510) (o := .cells #[.int .i64 a0_0, .int .i64 a0_1, .slice A0_2 l0_2.length c0_2] 26 (0, 0)) (tk_ BK510) hg (Kd.R_ne HO_7.out BK510.out (by decide))); replace HO_7 := A_ (hp_); replace HB := A_ ((by rw [hw]; exact below_set (HB.out) GB30.out : Below w.heap.size w w33)); clear hg hw hp_))
          go_roundg k1
          case measure => have := HK1.out; omega
          case rel => exact ⟨(y521), (wrap64 (x33_1 + 1)), tf_, H', ⟨by have := HK1.out; omega⟩, ⟨tr_x HO_7.out⟩, ⟨by (with_reducible repeat (first | apply Kd.R_alloc | apply Kd.R_drewN | apply Kd.R_drew)); exact Kd.R_mono HO_31.out (fun _ hk => hk.2)⟩, ⟨tk_ BK510⟩, ⟨tb_⟩⟩
         ·
          rw [if_neg c29] at H
          exact absurd H (by simp)
        ·
         rw [if_neg c28] at H
         exact absurd H (by simp)
       ·
        rw [if_neg c27] at H
        exact absurd H (by simp)
      ·
       rw [if_neg c26] at H
       have c26b0 := decide_eq_false c26
       clear c26
       have H' := A_ H
       clear H
       go_wp2
       go_loopg [10] k1 (fun kq v10 w' => ∃ (x7_2 : List Int) (x10_2 : Int), v10 = .int .i64 x10_2 ∧ Aside0 (spec_roWays.l1 kq a1 a2 x7_2 x10_2 a0_0 a0_1 l0_2 = some r) ∧ Aside0 (kq ≤ k1) ∧ Aside0 (Kd.R (Kd.int .i64) 3 w' w.heap.size (fun _ => True) v513 x7_2) ∧ Aside0 (w'.heap[gb510]? = some (.cells #[.int .i64 a0_0, .int .i64 a0_1, (.slice A0_2 l0_2.length c0_2)] 26 (0, 0))) ∧ Aside0 (Below w.heap.size w w'))
       case atStart => exact ⟨(x7_1), (0), tf_, H', ⟨Nat.le_refl _⟩, ⟨by (with_reducible repeat (first | apply Kd.R_alloc | apply Kd.R_drewN | apply Kd.R_drew)); exact Kd.R_mono HO_7.out (fun _ hk => trivial)⟩, ⟨tk_ BK510⟩, ⟨tb_⟩⟩
       case round =>
        clear H'
        try clear c1
        try clear p1
        try clear q1
        try clear hx1
        try clear qi1
        try clear c2
        try clear p2
        try clear p3
        try clear q3
        try clear hx3
        try clear hf3
        try clear p5
        try clear q5
        try clear hx5
        try clear c6
        try clear c6b0
        try clear c6b1
        try clear p6
        try clear c7
        try clear c7b0
        try clear c7b1
        try clear c8
        try clear c8b0
        try clear c8b1
        try clear c9
        try clear c9b0
        try clear c9b1
        try clear p10
        try clear q10
        try clear hx10
        try clear qi10
        try clear hf10
        try clear c12
        try clear c21
        try clear c26
        try clear c26b0
        try clear c27
        try clear c27b0
        try clear c28
        try clear c28b0
        try clear c29
        try clear c29b0
        try clear p30
        try clear q30
        try clear hx30
        try clear hf30
        try clear hcz12_0
        try clear hcz12_1
        try clear hcz12_2
        try clear hcz15_0
        try clear hcz15_1
        try clear hcz15_2
        try clear hcz20_0
        try clear hcz20_1
        try clear hcz20_2
        try clear hcz23_0
        try clear hcz23_1
        try clear hcz23_2
        try clear hfz12_0
        try clear hfz12_1
        try clear hfz12_2
        try clear hfz15_0
        try clear hfz15_1
        try clear hfz15_2
        try clear hfz20_0
        try clear hfz20_1
        try clear hfz20_2
        try clear hfz23_0
        try clear hfz23_1
        try clear hfz23_2
        try clear hx10_0
        try clear hx30_0
        try clear hx519_0
        try clear hx520_0
        try clear p1
        try clear p10
        try clear p2
        try clear p30
        try clear p519
        try clear p520
        try clear p6
        try clear q1
        try clear q10
        try clear q30
        try clear q519
        try clear q520
        obtain ⟨x7_2, x10_2, rfl, HA, HK2, HO_7, BK510, HB⟩ := hrel
        cases gk with
        | zero => exact absurd HA.out (by simp [spec_roWays.l1])
        | succ k2 =>
         have H := HA.out
         clear HA
         simp only [spec_roWays.l1] at H
         by_cases c34 : x10_2 < a0_1
         ·
          rw [if_pos c34] at H
          have c34b0 := decide_eq_true c34
          clear c34
          have HC35 := A_ H
          clear H
          obtain ⟨hcz36_0, hcz36_1, hcz36_2, hfz36_0, hfz36_1, hfz36_2⟩ := cf3_ BK510.out
          go_upto_region 13 with (fail)
          go_cut [63] (fun v63 wc => ∃ (kq : Nat) (x63_34 : Bool), v63 = .bool x63_34 ∧ Aside0 (spec_roWays.j2 kq a1 a2 x7_2 x10_2 x63_34 a0_0 a0_1 l0_2 = some r) ∧ Aside0 (kq ≤ k2) ∧ Aside0 (Kd.R (Kd.int .i64) 3 wc w.heap.size (fun _ => True) v513 x7_2) ∧ Aside0 (wc.heap[gb510]? = some (.cells #[.int .i64 a0_0, .int .i64 a0_1, (.slice A0_2 l0_2.length c0_2)] 26 (0, 0))) ∧ Aside0 (Below w.heap.size w wc))
          case first =>
           have H := HC35.out
           clear HC35
           replace H := Option.bind_eq_some_iff.mp H
           obtain ⟨t522, A370, H⟩ := H
           replace H : (if t522 = true then (if 0 ≤ x10_2 then (spec_roWays.j2 k2 a1 a2 x7_2 x10_2 ((Int.tmod (shr .i64 a2 x10_2) 2) == 1) a0_0 a0_1 l0_2) else (none)) else (spec_roWays.j2 k2 a1 a2 x7_2 x10_2 true a0_0 a0_1 l0_2)) = some r := H
           have A37 := A_ A370
           clear A370
           by_cases c38 : t522 = true
           ·
            subst c38
            have H1 : (if 0 ≤ x10_2 then (spec_roWays.j2 k2 a1 a2 x7_2 x10_2 ((Int.tmod (shr .i64 a2 x10_2) 2) == 1) a0_0 a0_1 l0_2) else (none)) = some r := by rw [if_pos rfl] at H; exact H
            clear H
            have H := H1
            clear H1
            by_cases c39 : 0 ≤ x10_2
            ·
             rw [if_pos c39] at H
             have c39b0 := eq_true c39
             have c39b1 := decide_eq_true c39
             clear c39
             obtain ⟨ji40, hji40⟩ : ∃ j_ : Int, (shr .i64 a2 x10_2) = j_ := ⟨_, rfl⟩
             replace H : (spec_roWays.j2 k2 a1 a2 x7_2 x10_2 ((Int.tmod (ji40) 2) == 1) a0_0 a0_1 l0_2) = some r := by first | (rw [hji40] at H; exact H) | (simp only [hji40] at H ⊢; exact H)
             (try rw [hji40] at A37)
             have hji40_ : (a2 / 2 ^ min x10_2.toNat 64) = ji40 := hji40
             have hji40z : x10_2 ≤ 64 → (a2 / 2 ^ x10_2.toNat) = ji40 := shr_small hji40
             have H' := A_ H
             clear H
             obtain ⟨hcz41_0, hcz41_1, hcz41_2, hfz41_0, hfz41_1, hfz41_2⟩ := cf3_ BK510.out
             go_wp2_with (first | (refine gc_ 182 ?_; refine goesT_ (some 55) Try.func182 #[.agg #[.int .i64 a0_0, .int .i64 a0_1, .slice A0_2 l0_2.length c0_2], .int .i64 a1, .int .i64 x10_2] ?_; (with_reducible refine (spec_boHas.calls a0_0 a0_1 _ _ l0_2 a1 x10_2 true _ ?side1 ?side2 A37.out).mono ?_); (case side1 => exact tc_ HR0_2.out); (case side2 => exact HC0_2.out); rintro e w42 ⟨rfl, hb⟩; refine ⟨_, rfl, ?_⟩; replace HO_7 := A_ (Kd.R_below (tr_x HO_7.out) hb); replace BK510 := A_ (blk_below (g := gb510) (o := .cells #[.int .i64 a0_0, .int .i64 a0_1, .slice A0_2 l0_2.length c0_2] 26 (0, 0)) (tk_ BK510) hb); replace HB := A_ (below_step tb_ hb); (try clear hb)))
             go_meet
             case rel => exact ⟨_, (((Int.tmod (ji40) 2) == 1)), (by first | rfl | (simp; done) | (simp only [← hji40] <;> (first | rfl | simp)) | (simp [*]; done)), H', ⟨by have := HK1.out; have := HK2.out; first | omega | exact Nat.le_refl _⟩, ⟨tr_x HO_7.out⟩, ⟨tk_ BK510⟩, ⟨tb_⟩⟩
            ·
             rw [if_neg c39] at H
             exact absurd H (by simp)
           ·
            replace c38 := Bool.eq_false_iff.mpr c38
            subst c38
            have H1 : (spec_roWays.j2 k2 a1 a2 x7_2 x10_2 true a0_0 a0_1 l0_2) = some r := by rw [if_neg (show ¬ (false = true) by decide)] at H; exact H
            clear H
            have H := H1
            clear H1
            have H' := A_ H
            clear H
            obtain ⟨hcz43_0, hcz43_1, hcz43_2, hfz43_0, hfz43_1, hfz43_2⟩ := cf3_ BK510.out
            go_wp2_with (first | (refine gc_ 182 ?_; refine goesT_ (some 55) Try.func182 #[.agg #[.int .i64 a0_0, .int .i64 a0_1, .slice A0_2 l0_2.length c0_2], .int .i64 a1, .int .i64 x10_2] ?_; (with_reducible refine (spec_boHas.calls a0_0 a0_1 _ _ l0_2 a1 x10_2 false _ ?side1 ?side2 A37.out).mono ?_); (case side1 => exact tc_ HR0_2.out); (case side2 => exact HC0_2.out); rintro e w44 ⟨rfl, hb⟩; refine ⟨_, rfl, ?_⟩; replace HO_7 := A_ (Kd.R_below (tr_x HO_7.out) hb); replace BK510 := A_ (blk_below (g := gb510) (o := .cells #[.int .i64 a0_0, .int .i64 a0_1, .slice A0_2 l0_2.length c0_2] 26 (0, 0)) (tk_ BK510) hb); replace HB := A_ (below_step tb_ hb); (try clear hb)))
            go_meet
            case rel => exact ⟨_, (true), tf_, H', ⟨by have := HK1.out; have := HK2.out; first | omega | exact Nat.le_refl _⟩, ⟨tr_x HO_7.out⟩, ⟨tk_ BK510⟩, ⟨tb_⟩⟩
          case rest =>
           clear HC35
           try clear c1
           try clear p1
           try clear q1
           try clear hx1
           try clear qi1
           try clear c2
           try clear p2
           try clear c3
           try clear p3
           try clear q3
           try clear hx3
           try clear hf3
           try clear p5
           try clear q5
           try clear hx5
           try clear c6
           try clear c6b0
           try clear c6b1
           try clear p6
           try clear c7
           try clear c7b0
           try clear c7b1
           try clear c8
           try clear c8b0
           try clear c8b1
           try clear c9
           try clear c9b0
           try clear c9b1
           try clear p10
           try clear q10
           try clear hx10
           try clear qi10
           try clear hf10
           try clear c12
           try clear c18
           try clear c21
           try clear c26
           try clear c26b0
           try clear c27
           try clear c27b0
           try clear c28
           try clear c28b0
           try clear c29
           try clear c29b0
           try clear p30
           try clear q30
           try clear hx30
           try clear hf30
           try clear c34
           try clear c34b0
           try clear c38
           try clear c39
           try clear c39b0
           try clear c39b1
           try clear hcz12_0
           try clear hcz12_1
           try clear hcz12_2
           try clear hcz15_0
           try clear hcz15_1
           try clear hcz15_2
           try clear hcz20_0
           try clear hcz20_1
           try clear hcz20_2
           try clear hcz23_0
           try clear hcz23_1
           try clear hcz23_2
           try clear hcz36_0
           try clear hcz36_1
           try clear hcz36_2
           try clear hcz41_0
           try clear hcz41_1
           try clear hcz41_2
           try clear hcz43_0
           try clear hcz43_1
           try clear hcz43_2
           try clear hfz12_0
           try clear hfz12_1
           try clear hfz12_2
           try clear hfz15_0
           try clear hfz15_1
           try clear hfz15_2
           try clear hfz20_0
           try clear hfz20_1
           try clear hfz20_2
           try clear hfz23_0
           try clear hfz23_1
           try clear hfz23_2
           try clear hfz36_0
           try clear hfz36_1
           try clear hfz36_2
           try clear hfz41_0
           try clear hfz41_1
           try clear hfz41_2
           try clear hfz43_0
           try clear hfz43_1
           try clear hfz43_2
           try clear hx10_0
           try clear hx30_0
           try clear hx519_0
           try clear hx520_0
           try clear p1
           try clear p10
           try clear p2
           try clear p3
           try clear p30
           try clear p5
           try clear p519
           try clear p520
           try clear p6
           try clear q1
           try clear q10
           try clear q3
           try clear q30
           try clear q5
           try clear q519
           try clear q520
           obtain ⟨kq, x63_34, rfl, HA, HJ34, HO_7, BK510, HB⟩ := hcut
           cases kq with
           | zero => exact absurd HA.out (by simp [spec_roWays.j2])
           | succ kj34 =>
            have H := HA.out
            clear HA
            simp only [spec_roWays.j2] at H
            by_cases c45 : x63_34 = true
            ·
             subst c45
             have H1 : (spec_roWays.l1 kj34 a1 a2 x7_2 (wrap64 (x10_2 + 1)) a0_0 a0_1 l0_2) = some r := by rw [if_pos rfl] at H; exact H
             clear H
             have H := H1
             clear H1
             have H' := A_ H
             clear H
             go_wp2
             go_roundg kj34
             case measure => have := HK1.out; have := HK2.out; have := HJ34.out; omega
             case rel => exact ⟨(x7_2), (wrap64 (x10_2 + 1)), tf_, H', ⟨by have := HK1.out; have := HK2.out; have := HJ34.out; omega⟩, ⟨tr_x HO_7.out⟩, ⟨tk_ BK510⟩, ⟨tb_⟩⟩
            ·
             replace c45 := Bool.eq_false_iff.mpr c45
             subst c45
             have H1 : (if 0 ≤ x10_2 then ((spec_roWays.f kj34 a0_0 a0_1 l0_2 (wrap64 (a1 + 1)) (Go.bits .or .i64 a2 (shl .i64 1 x10_2))).bind fun t523 => (spec_roWays.l2 kj34 a1 a2 x7_2 x10_2 t523 (t523.length : Int) 0 a0_0 a0_1 l0_2)) else (none)) = some r := by rw [if_neg (show ¬ (false = true) by decide)] at H; exact H
             clear H
             have H := H1
             clear H1
             by_cases c46 : 0 ≤ x10_2
             ·
              rw [if_pos c46] at H
              have c46b0 := eq_true c46
              have c46b1 := decide_eq_true c46
              clear c46
              obtain ⟨ji47, hji47⟩ : ∃ j_ : Int, (shl .i64 1 x10_2) = j_ := ⟨_, rfl⟩
              replace H : ((spec_roWays.f kj34 a0_0 a0_1 l0_2 (wrap64 (a1 + 1)) (Go.bits .or .i64 a2 (ji47))).bind fun t523 => (spec_roWays.l2 kj34 a1 a2 x7_2 x10_2 t523 (t523.length : Int) 0 a0_0 a0_1 l0_2)) = some r := by first | (rw [hji47] at H; exact H) | (simp only [hji47] at H ⊢; exact H)
              have hji47_ : (IntKind.i64.wrap (1 * 2 ^ min x10_2.toNat 64)) = ji47 := hji47
              have hji47z : x10_2 ≤ 64 → (IntKind.i64.wrap (1 * 2 ^ x10_2.toNat)) = ji47 := shl_small hji47
              have hji47u : (IntKind.i64.wrap (2 ^ min x10_2.toNat 64)) = ji47 := by have h_ := hji47_; rw [Int.one_mul] at h_; exact h_
              have hji47v : x10_2 ≤ 64 → (IntKind.i64.wrap (2 ^ x10_2.toNat)) = ji47 := fun hle_ => by have h_ := hji47z hle_; rw [Int.one_mul] at h_; exact h_
              have hji47y : (wrap64 (1 * 2 ^ min x10_2.toNat 64)) = ji47 := (i64_w _).symm.trans hji47_
              have hji47x : x10_2 ≤ 64 → (wrap64 (1 * 2 ^ x10_2.toNat)) = ji47 := fun h_ => (i64_w _).symm.trans (hji47z h_)
              replace H := Option.bind_eq_some_iff.mp H
              obtain ⟨t523, A480, H⟩ := H
              replace H : (spec_roWays.l2 kj34 a1 a2 x7_2 x10_2 t523 (t523.length : Int) 0 a0_0 a0_1 l0_2) = some r := H
              have A48 := A_ A480
              clear A480
              have H' := A_ H
              clear H
              try go_wp2
              have n0_ := A_ (Kd.R_drew HO_7.out)
              have n1_ := A_ (blk_drew BK510.out)
              have n2_ := A_ (below_drew1 HB.out)
              clear HO_7
              clear BK510
              clear HB
              have HO_7 := n0_
              have BK510 := n1_
              have HB := n2_
              clear n0_ n1_ n2_
              refine start_ (n := 10) (S := fun w' => w'.cell? ⟨gb510, 0, none⟩ = some (.int .i64 a0_0) ∧ w'.cell? ⟨gb510, 1, none⟩ = some (.int .i64 a0_1) ∧ w'.cell? ⟨gb510, 2, none⟩ = some (.slice A0_2 l0_2.length c0_2)) (ds := []) (Fn.bl 10 0) (by kernel_rfl) rfl rfl ⟨(blk_cell BK510.out 0).trans rfl, (blk_cell BK510.out 1).trans rfl, (blk_cell BK510.out 2).trans rfl⟩ (fun hHeld => ?_); refine with_tabW spec_roWays.tab14 spec_roWays.bits14 (fun HT_ HW_ => ?_)
              generalize wc.drew = w49 at HO_7 BK510 HB hHeld ⊢
              refine pq_ 1 (some 65) (Fn.bl 10 2) HT_.out ?_
              refine pq_ 2 (some 66) (Fn.bl 10 6) HT_.out ?_
              refine pq_ 3 (some 67) (Fn.bl 10 14) HT_.out ?_
              refine pq_ 4 (some 68) (Fn.bl 10 30) HT_.out ?_
              refine pq_ 5 (some 69) (Fn.bl 10 62) HT_.out ?_
              refine pq_ 6 (some 70) (Fn.bl 10 126) HT_.out ?_
              refine pq_ 9 (some 73) (Fn.bl 10 638) HT_.out ?_
              refine tq_ 0 (some 64) (Fn.bl 10 639) HT_.out HW_.out hHeld ?_ (hy0 := by rintro w' ⟨s0, s1, s2⟩; go_simp; with_reducible rfl)
              refine one_ (i := 7) (N := some 71) (Fn.bl 10 767) rfl rfl (one_of HT_.out (by kernel_rfl)) (by decide) (fun K hK => ?_)
              refine goes_ Try.func211 (by kernel_rfl) rfl #[.agg #[.int .i64 a0_0, .int .i64 a0_1, .slice A0_2 l0_2.length c0_2], .int .i64 (wrap64 (a1 + 1)), .int .i64 (Go.bits .or .i64 a2 (ji47))] (by rfl) rfl rfl (by (try simp only [List.map_toArray, List.map_cons, List.map_nil]); first | done | (simp only [hji47]; rfl) | rfl | (simp only [List.length_drop, List.length_take]; rfl)) ?_
              with_reducible refine (ih kj34 (by have := HK1.out; have := HK2.out; have := HJ34.out; omega) a0_0 a0_1 _ _ l0_2 (wrap64 (a1 + 1)) (Go.bits .or .i64 a2 (ji47)) t523 _ ?side1 ?side2 A48.out).mono ?_
              (case side1 => exact tc_ HR0_2.out)
              (case side2 => exact HC0_2.out)
              rintro e w50 ⟨v524, rfl, ho0, hb⟩
              refine ⟨_, rfl, ?_⟩
              have n0_ := A_ (Kd.R_elder' (tr_x HO_7.out) (Kd.R_base ho0) hb)
              have n1_ := A_ (Kd.R_lower (Kd.R_new' ho0 (Kd.R_lt (tr_x HO_7.out))) (below_size tb_))
              have n2_ := A_ (blk_below (g := gb510) (o := .cells #[.int .i64 a0_0, .int .i64 a0_1, .slice A0_2 l0_2.length c0_2] 26 (0, 0)) (tk_ BK510) hb)
              have n3_ := A_ (below_step tb_ hb)
              clear HO_7
              clear BK510
              clear HB
              have HO_7 := n0_
              have HO525 := n1_
              have BK510 := n2_
              have HB := n3_
              clear n0_ n1_ n2_ n3_
              (try clear hb)
              (try clear hb2)
              (try clear hk)
              (try clear hi)
              (try clear ho0)
              obtain ⟨Ao51, co51, eo51⟩ := Kd.R_slice HO525.out
              (first | subst eo51 | (injection eo51 with f1_ f2_ f3_; have f4_ := f1_.symm; have f5_ := f3_.symm; clear f1_ f2_ f3_; subst f4_; subst f5_))
              refine hK.out _ _ ⟨(blk_cell BK510.out 0).trans rfl, (blk_cell BK510.out 1).trans rfl, (blk_cell BK510.out 2).trans rfl⟩ (fun hHeld => ?_)
              clear hK K
              refine norm_ (a' := ?_) ?_ ?_
              rotate_left
              ·
               show Act.put _ (some 71) _ = _
               simp only [Act.put, List.setIfInBounds_toArray, List.set_cons_zero, List.set_cons_succ, i64_w, i32_w]
               rfl
              refine pq_ 8 (some 72) (Fn.bl 10 1023) HT_.out ?_
              refine done_ (done_of HT_.out (by kernel_rfl)) ?_
              try go_wp2
              go_loopg [73] kj34 (fun kq v73 w' => ∃ (x7_4 : List Int) (x73_4 : Int), v73 = .int .i64 x73_4 ∧ Aside0 (spec_roWays.l2 kq a1 a2 x7_4 x10_2 t523 (t523.length : Int) x73_4 a0_0 a0_1 l0_2 = some r) ∧ Aside0 (kq ≤ kj34) ∧ Aside0 (Kd.R (Kd.int .i64) 3 w' w.heap.size (fun k_ => some k_ ≠ ((.slice Ao51 t523.length co51) : Value).ownBlock) v513 x7_4) ∧ Aside0 (Kd.R (Kd.int .i64) 3 w' w.heap.size (fun k_ => some k_ ≠ (v513 : Value).ownBlock) (.slice Ao51 t523.length co51) t523) ∧ Aside0 (w'.heap[gb510]? = some (.cells #[.int .i64 a0_0, .int .i64 a0_1, (.slice A0_2 l0_2.length c0_2)] 26 (0, 0))) ∧ Aside0 (Below w.heap.size w w'))
              case atStart => exact ⟨(x7_2), (0), tf_, H', ⟨Nat.le_refl _⟩, ⟨by (with_reducible repeat (first | apply Kd.R_alloc | apply Kd.R_drewN | apply Kd.R_drew)); exact Kd.R_mono HO_7.out (fun _ hk => hk.2)⟩, ⟨by (with_reducible repeat (first | apply Kd.R_alloc | apply Kd.R_drewN | apply Kd.R_drew)); exact Kd.R_mono HO525.out (fun _ hk => hk.2)⟩, ⟨tk_ BK510⟩, ⟨tb_⟩⟩
              case round =>
               clear H'
               try clear c1
               try clear p1
               try clear q1
               try clear hx1
               try clear qi1
               try clear c2
               try clear p2
               try clear c3
               try clear p3
               try clear q3
               try clear hx3
               try clear hf3
               try clear c4
               try clear p5
               try clear q5
               try clear hx5
               try clear c6
               try clear c6b0
               try clear c6b1
               try clear p6
               try clear c7
               try clear c7b0
               try clear c7b1
               try clear c8
               try clear c8b0
               try clear c8b1
               try clear c9
               try clear c9b0
               try clear c9b1
               try clear p10
               try clear q10
               try clear hx10
               try clear qi10
               try clear hf10
               try clear c12
               try clear c18
               try clear c21
               try clear c26
               try clear c26b0
               try clear c27
               try clear c27b0
               try clear c28
               try clear c28b0
               try clear c29
               try clear c29b0
               try clear p30
               try clear q30
               try clear hx30
               try clear hf30
               try clear c34
               try clear c34b0
               try clear c38
               try clear c39
               try clear c39b0
               try clear c39b1
               try clear c45
               try clear c46
               try clear c46b0
               try clear c46b1
               try clear p51
               try clear q51
               try clear hx51
               try clear hcz12_0
               try clear hcz12_1
               try clear hcz12_2
               try clear hcz15_0
               try clear hcz15_1
               try clear hcz15_2
               try clear hcz20_0
               try clear hcz20_1
               try clear hcz20_2
               try clear hcz23_0
               try clear hcz23_1
               try clear hcz23_2
               try clear hcz36_0
               try clear hcz36_1
               try clear hcz36_2
               try clear hcz41_0
               try clear hcz41_1
               try clear hcz41_2
               try clear hcz43_0
               try clear hcz43_1
               try clear hcz43_2
               try clear hfz12_0
               try clear hfz12_1
               try clear hfz12_2
               try clear hfz15_0
               try clear hfz15_1
               try clear hfz15_2
               try clear hfz20_0
               try clear hfz20_1
               try clear hfz20_2
               try clear hfz23_0
               try clear hfz23_1
               try clear hfz23_2
               try clear hfz36_0
               try clear hfz36_1
               try clear hfz36_2
               try clear hfz41_0
               try clear hfz41_1
               try clear hfz41_2
               try clear hfz43_0
               try clear hfz43_1
               try clear hfz43_2
               try clear hx10_0
               try clear hx30_0
               try clear hx519_0
               try clear hx520_0
               try clear p1
               try clear p10
               try clear p2
               try clear p3
               try clear p30
               try clear p5
               try clear p519
               try clear p520
               try clear p6
               try clear q1
               try clear q10
               try clear q3
               try clear q30
               try clear q5
               try clear q519
               try clear q520
               obtain ⟨x7_4, x73_4, rfl, HA, HK4, HO_7, HO_71, BK510, HB⟩ := hrel
               cases gk with
               | zero => exact absurd HA.out (by simp [spec_roWays.l2])
               | succ k4 =>
                have H := HA.out
                clear HA
                simp only [spec_roWays.l2] at H
                by_cases c52 : x73_4 < (t523.length : Int)
                ·
                 rw [if_pos c52] at H
                 have c52b0 := decide_eq_true c52
                 clear c52
                 by_cases c53 : 0 ≤ x73_4
                 ·
                  rw [if_pos c53] at H
                  have c53b0 := decide_eq_true c53
                  clear c53
                  by_cases c54 : x73_4 < (t523.length : Int)
                  ·
                   rw [if_pos c54] at H
                   have c54b0 := decide_eq_true c54
                   clear c54
                   by_cases c55 : (rd t523 x73_4) > 0
                   ·
                    rw [if_pos c55] at H
                    have c55b0 := decide_eq_true c55
                    clear c55
                    obtain ⟨ji56, hji56⟩ : ∃ j_ : Int, (wrap64 (x73_4 + 1)) = j_ := ⟨_, rfl⟩
                    replace H : (if 0 ≤ (ji56) then (if (ji56) < (x7_4.length : Int) then (spec_roWays.l2 k4 a1 a2 (x7_4.set ((ji56) : Int).toNat (wrap64 ((rd x7_4 (ji56)) + (rd t523 x73_4)))) x10_2 t523 (t523.length : Int) ji56 a0_0 a0_1 l0_2) else (none)) else (none)) = some r := by first | (rw [hji56] at H; exact H) | (simp only [hji56] at H ⊢; exact H)
                    have hji56w : (IntKind.i64.wrap (x73_4 + 1)) = ji56 := (i64_w _).trans hji56
                    by_cases c57 : 0 ≤ (ji56)
                    ·
                     rw [if_pos c57] at H
                     have c57b0 := decide_eq_true c57
                     clear c57
                     by_cases c58 : (ji56) < (x7_4.length : Int)
                     ·
                      rw [if_pos c58] at H
                      have c58b0 := decide_eq_true c58
                      clear c58
                      obtain ⟨y528, hy528⟩ : ∃ y_ : List Int, y_ = (x7_4.set ((ji56) : Int).toNat (wrap64 ((rd x7_4 (ji56)) + (rd t523 x73_4)))) := ⟨_, rfl⟩
                      replace H : (spec_roWays.l2 k4 a1 a2 y528 x10_2 t523 (t523.length : Int) ji56 a0_0 a0_1 l0_2) = some r := ty_ hy528 H
                      have Ny528 := A_ hy528
                      clear hy528
                      have H' := A_ H
                      clear H
                      have p526 : 0 ≤ (x73_4 : Int) := od_
                      have q526 : x73_4 < (t523.length : Int) := od_
                      obtain ⟨ad526, e526, hx526_0⟩ := Kd.at_int (Kd.R_reads' HO_71.out).2.2 x73_4 p526 q526
                      cases e526
                      replace p526 := eq_true p526
                      replace q526 := eq_true q526
                      obtain ⟨Ao60, co60, eo60⟩ := Kd.R_slice HO_7.out
                      subst eo60
                      have p527 : 0 ≤ ((ji56) : Int) := od_
                      have q527 : (ji56) < (x7_4.length : Int) := od_
                      obtain ⟨ad527, e527, hx527_0⟩ := Kd.at_int (Kd.R_reads' HO_7.out).2.2 (ji56) p527 q527
                      cases e527
                      replace p527 := eq_true p527
                      replace q527 := eq_true q527
                      have p59 : 0 ≤ ((ji56) : Int) := od_
                      have q59 : ((ji56) : Int) < ((x7_4.length : Int) : Int) := od_
                      obtain ⟨go59, co59, eo59, gb59, gl59, cl59, HG59⟩ := Kd.R_form HO_7.out (by omega)
                      (first | cases eo59 | (injection eo59 with ea_ en_ ec_; (first | subst ea_ | (injection ea_ with ea_; subst ea_)); subst ec_; clear en_))
                      have GB59 := A_ gb59
                      have GG59 := A_ HG59
                      clear gb59 gl59 HG59
                      (first | simp only [add_plain] at hx527_0 | skip)
                      obtain ⟨hx59_0, hf59_0⟩ := Kd.R_celln 0 HO_7.out ((ji56) : Int) p59 q59
                      replace p59 := eq_true p59
                      replace q59 := eq_true q59
                      have HP61 := Kd.R_putg HO_7.out ((ji56) : Int) (wrap64 ((rd x7_4 (ji56)) + (rd t523 x73_4)))
                      go_wp2_with (first | ((with_reducible refine gate_store (t := 3) (p := 87) rfl ?_); refine store_event (t := 3) (p := 87) (v := ?vo_w62) (w1 := (wr.setCell ⟨go59, ((ji56) : Int).toNat, none⟩ (.int .i64 (wrap64 ((rd x7_4 (ji56)) + (rd t523 x73_4)))))) ?hg ?ho ?hn ?hr ?_; (case ho => rfl); (case hg => rfl); (case hn => rfl); (case hr => first | (go_simp; done) | (go_simp; rfl)); intro w62 hw; have hg : wr.grownBy w62 (some go59) := (by rw [hw]; exact HP61.2); have hp_ : Kd.R (Kd.int .i64) 3 w62 w.heap.size (fun k_ => some k_ ≠ (.slice (some ad526) t523.length co51 : Value).ownBlock) (.slice (some ⟨go59, 0, none⟩) x7_4.length co60) y528 := (by rw [hw, Ny528.out]; exact HP61.1); clear HP61; replace HO_71 := A_ (Kd.R_after (v := (.slice (some ⟨go59, 0, none⟩) x7_4.length co60)) (v1 := (.slice (some ⟨go59, 0, none⟩) x7_4.length co60)) (ok := (fun _ => True)) (tr_ (h := by exact Kd.R_mono HO_71.out om_)) hg (.inl rfl)); replace BK510 := A_ (blk_grown (g := gb510) (o := .cells #[.int .i64 a0_0, .int .i64 a0_1, .slice A0_2 l0_2.length c0_2] 26 (0, 0)) (tk_ BK510) hg (Kd.R_ne HO_7.out BK510.out (by decide))); replace HO_7 := A_ (hp_); replace HB := A_ ((by rw [hw]; exact below_set (HB.out) GB59.out : Below w.heap.size w w62)); clear hg hw hp_))
                      go_roundg k4
                      case measure => have := HK1.out; have := HK2.out; have := HJ34.out; have := HK4.out; omega
                      case rel => exact ⟨(y528), (ji56), (by first | rfl | (simp; done) | (simp only [← hji56] <;> (first | rfl | simp)) | (simp [*]; done)), H', ⟨by have := HK1.out; have := HK2.out; have := HJ34.out; have := HK4.out; omega⟩, ⟨tr_x HO_7.out⟩, ⟨by (with_reducible repeat (first | apply Kd.R_alloc | apply Kd.R_drewN | apply Kd.R_drew)); exact Kd.R_mono HO_71.out (fun _ hk => hk.2)⟩, ⟨tk_ BK510⟩, ⟨tb_⟩⟩
                     ·
                      rw [if_neg c58] at H
                      exact absurd H (by simp)
                    ·
                     rw [if_neg c57] at H
                     exact absurd H (by simp)
                   ·
                    rw [if_neg c55] at H
                    have c55b0 := decide_eq_false c55
                    clear c55
                    have H' := A_ H
                    clear H
                    have p526 : 0 ≤ (x73_4 : Int) := od_
                    have q526 : x73_4 < (t523.length : Int) := od_
                    obtain ⟨ad526, e526, hx526_0⟩ := Kd.at_int (Kd.R_reads' HO_71.out).2.2 x73_4 p526 q526
                    cases e526
                    replace p526 := eq_true p526
                    replace q526 := eq_true q526
                    go_wp2
                    go_roundg k4
                    case measure => have := HK1.out; have := HK2.out; have := HJ34.out; have := HK4.out; omega
                    case rel => exact ⟨(x7_4), (wrap64 (x73_4 + 1)), tf_, H', ⟨by have := HK1.out; have := HK2.out; have := HJ34.out; have := HK4.out; omega⟩, ⟨tr_x HO_7.out⟩, ⟨tr_x HO_71.out⟩, ⟨tk_ BK510⟩, ⟨tb_⟩⟩
                  ·
                   rw [if_neg c54] at H
                   exact absurd H (by simp)
                 ·
                  rw [if_neg c53] at H
                  exact absurd H (by simp)
                ·
                 rw [if_neg c52] at H
                 have c52b0 := decide_eq_false c52
                 clear c52
                 have H' := A_ H
                 clear H
                 go_wp2
                 go_roundg k4
                 case measure => have := HK1.out; have := HK2.out; have := HJ34.out; have := HK4.out; omega
                 case rel => exact ⟨(x7_4), (wrap64 (x10_2 + 1)), tf_, H', ⟨by have := HK1.out; have := HK2.out; have := HJ34.out; have := HK4.out; omega⟩, ⟨by (with_reducible repeat (first | apply Kd.R_alloc | apply Kd.R_drewN | apply Kd.R_drew)); exact Kd.R_mono HO_7.out (fun _ hk => trivial)⟩, ⟨tk_ BK510⟩, ⟨tb_⟩⟩
             ·
              rw [if_neg c46] at H
              exact absurd H (by simp)
         ·
          rw [if_neg c34] at H
          have c34b0 := decide_eq_false c34
          clear c34
          obtain rfl := Option.some.inj H
          obtain ⟨hcz63_0, hcz63_1, hcz63_2, hfz63_0, hfz63_1, hfz63_2⟩ := cf3_ BK510.out
          go_wp2
          go_ret
          exact ⟨_, by first | rfl | (simp [errW_none, errW_some] <;> rfl) | (simp only [← hji5]; first | rfl | (simp [errW_none, errW_some] <;> rfl)) | (simp [*, errW_none, errW_some] <;> rfl), tr_x HO_7.out, tb_⟩
  ·
   rw [if_neg c7] at H
   exact absurd H (by simp)
 ·
  rw [if_neg c6] at H
  exact absurd H (by simp)

/-! ### spec_roNumbers: function 178 -/
def spec_roNumbers.f (k : Nat) (a0_0 : Int) (a0_1 : Int) (l0_2 : List Int) : Option (List Int) := (spec_roWays.f k a0_0 a0_1 l0_2 0 0).bind fun t530 => (some t530)
theorem spec_roNumbers.mono : ∀ a0 a1 a2 k, LeO (spec_roNumbers.f k a0 a1 a2) (spec_roNumbers.f (k + 1) a0 a1 a2) := by
 intro a0 a1 a2 k
 unfold spec_roNumbers.f
 repeat' first | (with_reducible first | exact spec_roWays.mono _ _ _ _ _ _ | exact LeO.refl _ | exact LeO.none _ | refine LeO.ite ?_ ?_ | refine LeO.bind ?_ (fun _ => ?_)) | exact spec_roWays.mono _ _ _ _ _ _ | exact LeO.none _ | refine LeO.ite ?_ ?_ | refine LeO.bind ?_ (fun _ => ?_)
theorem spec_roNumbers.calls (k : Nat) (a0_0 : Int) (a0_1 : Int) (A0_2 : Option Addr) (c0_2 : Nat) (l0_2 : List Int) (r : List Int) (w : World) (hr0_2 : Kd.C (Kd.int .i64) w A0_2 l0_2.length l0_2) (hc0_2 : l0_2.length ≤ c0_2) (h : spec_roNumbers.f k a0_0 a0_1 l0_2 = some r) :
  Calls Try.prog 178 #[.agg #[.int .i64 a0_0, .int .i64 a0_1, .slice A0_2 l0_2.length c0_2]] w fun e w' => ∃ v0_ : Value, e = .returned (v0_) ∧ Kd.R (Kd.int .i64) 3 w' w.heap.size (fun _ => True) v0_ r ∧ Below w.heap.size w w' := by
 have hu26 := Try.underlying26
 have HR0_2 := A_ hr0_2
 have HC0_2 := A_ hc0_2
 clear hr0_2 hc0_2
 have HB := A_ (Below.refl w.heap.size w)
 have H : ((spec_roWays.f k a0_0 a0_1 l0_2 0 0).bind fun t530 => (some t530)) = some r := h
 clear h
 replace H := Option.bind_eq_some_iff.mp H
 obtain ⟨t530, A20, H⟩ := H
 replace H : (some t530) = some r := H
 have A2 := A_ A20
 clear A20
 obtain rfl := Option.some.inj H
 go_enter Try.func178, Try.ntmps178
 go_wp2_with (first | (refine gd_ 1 ?_; refine bx_ 1 #[.int .i64 a0_0, .int .i64 a0_1, .slice A0_2 l0_2.length c0_2] 26 ?_; intro gb529 hg w3 hbox hb; have BK529 := A_ (hbox); have GW529 := A_ ((ts_ hg : w.heap.size ≤ gb529)); have GE529 := A_ ((ts_ hg : w.heap.size ≤ gb529)); replace HB := A_ (below_step tb_ hb); clear hb hbox hg; obtain ⟨hcz4_0, hcz4_1, hcz4_2, hfz4_0, hfz4_1, hfz4_2⟩ := cf3_ BK529.out) | (refine gc_ 211 ?_; refine goesT_ (some 4) Try.func211 #[.agg #[.int .i64 a0_0, .int .i64 a0_1, .slice A0_2 l0_2.length c0_2], .int .i64 0, .int .i64 0] ?_; (with_reducible refine (spec_roWays.calls k a0_0 a0_1 _ _ l0_2 0 0 t530 _ ?side1 ?side2 A2.out).mono ?_); (case side1 => exact tc_ HR0_2.out); (case side2 => exact HC0_2.out); rintro e w5 ⟨v531, rfl, ho0, hb⟩; refine ⟨_, rfl, ?_⟩; have HO532 := A_ (Kd.R_lower ho0 (below_size tb_)); replace BK529 := A_ (blk_below (g := gb529) (o := .cells #[.int .i64 a0_0, .int .i64 a0_1, .slice A0_2 l0_2.length c0_2] 26 (0, 0)) (tk_ BK529) hb); replace HB := A_ (below_step tb_ hb); (try clear hb); (try clear ho0)))
 go_ret
 exact ⟨_, te_, tr_x HO532.out, tb_⟩

end
end Go.Proofs.Ythlcaikplebpmaa.P
