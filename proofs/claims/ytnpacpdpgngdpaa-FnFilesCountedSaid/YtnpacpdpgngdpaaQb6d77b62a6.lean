-- printed functions (wip/slim.py)
import Derived.Test.YtnpacpdpgngdpaaPx0
import Derived.Test.YtnpacpdpgngdpaaQbaabd2c2bc
import Derived.Test.YtnpacpdpgngdpaaQ5e49eec671
import Derived.Test.YtnpacpdpgngdpaaQ34a903f869
namespace Go.Proofs.Ytnpacpdpgngdpaa.P
noncomputable section
set_option maxHeartbeats 8000000
set_option maxRecDepth 100000
open Go.RowKit Go.Proofs.YtnpacpdpgngdpaaW.PrintWords Go.Proofs.YtnpacpdpgngdpaaW.PrintLast Go.Proofs.YtnpacpdpgngdpaaW.PrintMore
attribute [local go_sem] max2_int min2_int max_two min_two max_three min_three max_four min_four   -- for this text's walks alone
set_option linter.unusedVariables false
set_option linter.unusedSimpArgs false

/-! ### impl_made: function 255 -/
mutual
def impl_made.l0 : Nat → Int → FnT100 → Int → Int → Int → Int → List Int → Option (Int × Int × List Int)
 | 0, _, _, _, _, _, _, _ => none
 | k + 1, x0, x1, x11, x12, x583000, x583001, x583002 => if x12 < x11 then (impl_made.l1 k x0 x1 x12 x11 x12 x0 0 x583000 x583001 x583002) else (some (x583000, x583001, x583002))
def impl_made.l1 : Nat → Int → FnT100 → Int → Int → Int → Int → Int → Int → Int → List Int → Option (Int × Int × List Int)
 | 0, _, _, _, _, _, _, _, _, _, _ => none
 | k + 1, x0, x1, x6, x11, x12, x15, x16, x583000, x583001, x583002 => if x16 < x15 then ((FnCall100.f x6 x16 x1).bind fun t583 => (if t583 = true then (if 0 ≤ x6 then (if x6 < (x583002.length : Int) then (if 0 ≤ x16 then (impl_made.l1 k x0 x1 x6 x11 x12 x15 (wrap64 (x16 + 1)) x583000 x583001 (x583002.set (x6 : Int).toNat (Go.bits .or .i64 (rd x583002 x6) (shl .i64 1 x16)))) else (none)) else (none)) else (none)) else (impl_made.l1 k x0 x1 x6 x11 x12 x15 (wrap64 (x16 + 1)) x583000 x583001 x583002))) else (impl_made.l0 k x0 x1 x11 (wrap64 (x12 + 1)) x583000 x583001 x583002)
end
def impl_made.f (k : Nat) (a0 : Int) (a1 : FnT100) : Option (Int × Int × List Int) := (impl_newBoard.f a0 a0).bind fun bt577 => (impl_made.l0 k a0 a1 a0 0 bt577.1 bt577.2.1 bt577.2.2)
theorem impl_made.mono_l : ∀ k, (∀ y0 y1 y2 y3 y4 y5 y6, LeO (impl_made.l0 k y0 y1 y2 y3 y4 y5 y6) (impl_made.l0 (k + 1) y0 y1 y2 y3 y4 y5 y6)) ∧ (∀ y0 y1 y2 y3 y4 y5 y6 y7 y8 y9, LeO (impl_made.l1 k y0 y1 y2 y3 y4 y5 y6 y7 y8 y9) (impl_made.l1 (k + 1) y0 y1 y2 y3 y4 y5 y6 y7 y8 y9))
 | 0 => ⟨fun _ _ _ _ _ _ _ r h => by simp [impl_made.l0] at h, fun _ _ _ _ _ _ _ _ _ _ r h => by simp [impl_made.l1] at h⟩
 | k + 1 => by
  obtain ⟨ih0, ih1⟩ := impl_made.mono_l k
  refine ⟨?_, ?_⟩
  ·
   intro y0 y1 y2 y3 y4 y5 y6
   unfold impl_made.l0
   repeat' first | (with_reducible first | exact ih0 _ _ _ _ _ _ _ | exact ih1 _ _ _ _ _ _ _ _ _ _ | exact LeO.refl _ | exact LeO.none _ | refine LeO.ite ?_ ?_ | refine LeO.bind ?_ (fun _ => ?_)) | exact ih0 _ _ _ _ _ _ _ | exact ih1 _ _ _ _ _ _ _ _ _ _ | exact LeO.none _ | refine LeO.ite ?_ ?_ | refine LeO.bind ?_ (fun _ => ?_)
  ·
   intro y0 y1 y2 y3 y4 y5 y6 y7 y8 y9
   unfold impl_made.l1
   repeat' first | (with_reducible first | exact ih0 _ _ _ _ _ _ _ | exact ih1 _ _ _ _ _ _ _ _ _ _ | exact LeO.refl _ | exact LeO.none _ | refine LeO.ite ?_ ?_ | refine LeO.bind ?_ (fun _ => ?_)) | exact ih0 _ _ _ _ _ _ _ | exact ih1 _ _ _ _ _ _ _ _ _ _ | exact LeO.none _ | refine LeO.ite ?_ ?_ | refine LeO.bind ?_ (fun _ => ?_)
theorem impl_made.mono : ∀ a0 a1 k, LeO (impl_made.f k a0 a1) (impl_made.f (k + 1) a0 a1) := by
 intro a0 a1 k
 obtain ⟨ih0, ih1⟩ := impl_made.mono_l k
 unfold impl_made.f
 repeat' first | (with_reducible first | exact ih0 _ _ _ _ _ _ _ | exact ih1 _ _ _ _ _ _ _ _ _ _ | exact LeO.refl _ | exact LeO.none _ | refine LeO.ite ?_ ?_ | refine LeO.bind ?_ (fun _ => ?_)) | exact ih0 _ _ _ _ _ _ _ | exact ih1 _ _ _ _ _ _ _ _ _ _ | exact LeO.none _ | refine LeO.ite ?_ ?_ | refine LeO.bind ?_ (fun _ => ?_)
def impl_made.T9 : Bool × List (List Nat × List Nat) := (true, [([], []), ([0], [0]), ([], []), ([1, 2], [1, 2]), ([3], [3]), ([], []), ([5], [5]), ([4, 6], [4, 6]), ([1, 2, 0, 1, 2, 3, 4, 5, 6, 7], [1, 2]), ([8, 7, 0, 1, 2, 3, 4, 5, 6, 7], [7, 8])])
def impl_made.B9 : List Nat := [0, 1, 0, 7, 15, 0, 32, 127, 255, 511]
theorem impl_made.tab9 : rtab .any (opsOf Try.f255 9) = impl_made.T9 := by kernel_rfl
theorem impl_made.bits9 : waitsOk impl_made.T9.2 impl_made.B9 = true := by kernel_rfl
theorem impl_made.calls (k : Nat) (a0 : Int) (v1 : Value) (a1 : FnT100) (r1 : Int) (r2 : Int) (r3 : List Int) (w : World) (hF1 : FnOk100 w v1 a1) (h : impl_made.f k a0 a1 = some (r1, r2, r3)) :
  Calls Try.prog 255 #[.int .i64 a0, v1] w fun e w' => ∃ v2_ : Value, e = .returned (.agg #[.int .i64 r1, .int .i64 r2, v2_]) ∧ Kd.R (Kd.int .i64) 3 w' w.heap.size (fun _ => True) v2_ r3 ∧ Below w.heap.size w w' := by
 have hu28 := Try.underlying28
 have HF1 := A_ hF1
 clear hF1
 have HB := A_ (Below.refl w.heap.size w)
 have H : ((impl_newBoard.f a0 a0).bind fun bt577 => (impl_made.l0 k a0 a1 a0 0 bt577.1 bt577.2.1 bt577.2.2)) = some (r1, r2, r3) := h
 clear h
 replace H := Option.bind_eq_some_iff.mp H
 obtain ⟨⟨t577, t578, t579⟩, A30, H⟩ := H
 replace H : (impl_made.l0 k a0 a1 a0 0 t577 t578 t579) = some (r1, r2, r3) := H
 have A3 := A_ A30
 clear A30
 have H' := A_ H
 clear H
 go_enter Try.func255, Try.ntmps255
 go_wp2_with (first | (refine gd_ 4 ?_; refine bx_ 4 #[.int .i64 0, .int .i64 0, .slice none 0 0] 28 ?_; intro gb576 hg w4 hbox hb; have BK576 := A_ (hbox); have GW576 := A_ ((ts_ hg : w.heap.size ≤ gb576)); have GE576 := A_ ((ts_ hg : w.heap.size ≤ gb576)); replace HB := A_ (below_step tb_ hb); clear hb hbox hg) | (refine gc_ 228 ?_; refine goesT_ (some 10) Try.func228 #[.int .i64 a0, .int .i64 a0] ?_; (with_reducible refine (impl_newBoard.calls a0 a0 t577 t578 t579 _ A3.out).mono ?_); rintro e w5 ⟨v580, rfl, ho0, hb⟩; refine ⟨_, rfl, ?_⟩; have HO581 := A_ (Kd.R_lower ho0 (below_size tb_)); replace BK576 := A_ (blk_below (g := gb576) (o := .cells #[.int .i64 0, .int .i64 0, .slice none 0 0] 28 (0, 0)) (tk_ BK576) hb); replace HB := A_ (below_step tb_ hb); (try clear hb); (try clear ho0)) | (refine gd_ 5 ?_; refine bx_ 5 #[.int .i64 0, .int .i64 0, .slice none 0 0] 28 ?_; intro gb582 hg w6 hbox hb; replace HO581 := A_ (Kd.R_below (tr_x HO581.out) hb); have BK582 := A_ (hbox); have GW582 := A_ ((ts_ hg : w.heap.size ≤ gb582)); have GE582 := A_ ((ts_ hg : w.heap.size ≤ gb582)); replace HB := A_ (below_step tb_ hb); have NB576_582 := A_ ((by rw [hg]; exact Nat.ne_of_lt (blk_lt (g := gb576) (o := .cells #[.int .i64 0, .int .i64 0, .slice none 0 0] 28 (0, 0)) (tk_ BK576)) : gb576 ≠ gb582)); have NB582_576 := A_ ((by rw [hg]; exact Nat.ne_of_gt (blk_lt (g := gb576) (o := .cells #[.int .i64 0, .int .i64 0, .slice none 0 0] 28 (0, 0)) (tk_ BK576)) : gb582 ≠ gb576)); replace BK576 := A_ (blk_below (g := gb576) (o := .cells #[.int .i64 0, .int .i64 0, .slice none 0 0] 28 (0, 0)) (tk_ BK576) hb); clear hb hbox hg; have hnb7 := NB582_576.out; have hnc7 := NB576_582.out; obtain ⟨hcz8_0, hcz8_1, hcz8_2, hfz8_0, hfz8_1, hfz8_2⟩ := cf3_ BK582.out; obtain ⟨Ao9, co9, eo9⟩ := Kd.R_slice HO581.out; subst eo9))
 go_loopg [12] k (fun kq v12 w' => ∃ (x12_1 : Int) (x583002_1 : List Int) (u583002 : Value), v12 = .int .i64 x12_1 ∧ Aside0 (impl_made.l0 kq a0 a1 a0 x12_1 t577 t578 x583002_1 = some (r1, r2, r3)) ∧ Aside0 (kq ≤ k) ∧ Aside0 (Kd.R (Kd.int .i64) 3 w' w.heap.size (fun _ => True) u583002 x583002_1) ∧ Aside0 (w'.heap[gb576]? = some (.cells #[.int .i64 0, .int .i64 0, (.slice none 0 0)] 28 (0, 0))) ∧ Aside0 (w'.heap[gb582]? = some (.cells #[.int .i64 t577, .int .i64 t578, u583002] 28 (0, 0))) ∧ Aside0 (Below w.heap.size w w'))
 case atStart => exact ⟨(0), (t579), (.slice Ao9 t579.length co9), tf_, H', ⟨Nat.le_refl _⟩, ⟨by (with_reducible repeat (first | apply Kd.R_alloc | apply Kd.R_drewN | apply Kd.R_drew)); exact Kd.R_mono (Kd.R_far (p := ⟨gb582, 2, none⟩) (Kd.R_far (p := ⟨gb582, 1, none⟩) (Kd.R_far (p := ⟨gb582, 0, none⟩) (Kd.R_types HO581.out BK582.out (by decide)) (fun _ hk => hk.2) (.int .i64 t577)) (fun _ hk => hk.2) (.int .i64 t578)) (fun _ hk => hk.2) (.slice Ao9 t579.length co9)) (fun _ hk => trivial)⟩, ⟨tk_ BK576⟩, ⟨by (with_reducible repeat (first | refine blk_drewN ?_ _ | refine blk_drew ?_ | refine blk_alloc ?_ _)); refine blk_put (cs := #[.int .i64 t577, .int .i64 t578, .slice none 0 0]) ?_ 2 _ rfl; (with_reducible repeat (first | refine blk_drewN ?_ _ | refine blk_drew ?_ | refine blk_alloc ?_ _)); refine blk_put (cs := #[.int .i64 t577, .int .i64 0, .slice none 0 0]) ?_ 1 _ rfl; (with_reducible repeat (first | refine blk_drewN ?_ _ | refine blk_drew ?_ | refine blk_alloc ?_ _)); refine blk_put (cs := #[.int .i64 0, .int .i64 0, .slice none 0 0]) ?_ 0 _ rfl; (with_reducible repeat (first | refine blk_drewN ?_ _ | refine blk_drew ?_ | refine blk_alloc ?_ _)); exact BK582.out⟩, ⟨tb_⟩⟩
 case round =>
  clear H'
  try clear c2
  try clear p2
  try clear c7
  try clear hcz8_0
  try clear hcz8_1
  try clear hcz8_2
  try clear hfz8_0
  try clear hfz8_1
  try clear hfz8_2
  obtain ⟨x12_1, x583002_1, u583002, rfl, HA, HK1, HO_583002, BK576, BK582, HB⟩ := hrel
  cases gk with
  | zero => exact absurd HA.out (by simp [impl_made.l0])
  | succ k1 =>
   have H := HA.out
   clear HA
   simp only [impl_made.l0] at H
   by_cases c10 : x12_1 < a0
   ·
    rw [if_pos c10] at H
    have c10b0 := decide_eq_true c10
    clear c10
    have H' := A_ H
    clear H
    go_wp2
    go_loopg [16] k1 (fun kq v16 w' => ∃ (x16_2 : Int) (x583002_2 : List Int) (u583002 : Value), v16 = .int .i64 x16_2 ∧ Aside0 (impl_made.l1 kq a0 a1 x12_1 a0 x12_1 a0 x16_2 t577 t578 x583002_2 = some (r1, r2, r3)) ∧ Aside0 (kq ≤ k1) ∧ Aside0 (Kd.R (Kd.int .i64) 3 w' w.heap.size (fun _ => True) u583002 x583002_2) ∧ Aside0 (w'.heap[gb576]? = some (.cells #[.int .i64 0, .int .i64 0, (.slice none 0 0)] 28 (0, 0))) ∧ Aside0 (w'.heap[gb582]? = some (.cells #[.int .i64 t577, .int .i64 t578, u583002] 28 (0, 0))) ∧ Aside0 (Below w.heap.size w w'))
    case atStart => exact ⟨(0), (x583002_1), (u583002), tf_, H', ⟨Nat.le_refl _⟩, ⟨tr_x HO_583002.out⟩, ⟨tk_ BK576⟩, ⟨tk_ BK582⟩, ⟨tb_⟩⟩
    case round =>
     clear H'
     try clear c1
     try clear c2
     try clear p2
     try clear c7
     try clear c10
     try clear c10b0
     try clear hcz8_0
     try clear hcz8_1
     try clear hcz8_2
     try clear hfz8_0
     try clear hfz8_1
     try clear hfz8_2
     try clear p2
     obtain ⟨x16_2, x583002_2, u583002, rfl, HA, HK2, HO_583002, BK576, BK582, HB⟩ := hrel
     cases gk with
     | zero => exact absurd HA.out (by simp [impl_made.l1])
     | succ k2 =>
      have H := HA.out
      clear HA
      simp only [impl_made.l1] at H
      by_cases c11 : x16_2 < a0
      ·
       rw [if_pos c11] at H
       have c11b0 := decide_eq_true c11
       clear c11
       replace H := Option.bind_eq_some_iff.mp H
       obtain ⟨t583, A120, H⟩ := H
       replace H : (if t583 = true then (if 0 ≤ x12_1 then (if x12_1 < (x583002_2.length : Int) then (if 0 ≤ x16_2 then (impl_made.l1 k2 a0 a1 x12_1 a0 x12_1 a0 (wrap64 (x16_2 + 1)) t577 t578 (x583002_2.set (x12_1 : Int).toNat (Go.bits .or .i64 (rd x583002_2 x12_1) (shl .i64 1 x16_2)))) else (none)) else (none)) else (none)) else (impl_made.l1 k2 a0 a1 x12_1 a0 x12_1 a0 (wrap64 (x16_2 + 1)) t577 t578 x583002_2)) = some (r1, r2, r3) := H
       have A12 := A_ A120
       clear A120
       by_cases c13 : t583 = true
       ·
        subst c13
        have H1 : (if 0 ≤ x12_1 then (if x12_1 < (x583002_2.length : Int) then (if 0 ≤ x16_2 then (impl_made.l1 k2 a0 a1 x12_1 a0 x12_1 a0 (wrap64 (x16_2 + 1)) t577 t578 (x583002_2.set (x12_1 : Int).toNat (Go.bits .or .i64 (rd x583002_2 x12_1) (shl .i64 1 x16_2)))) else (none)) else (none)) else (none)) = some (r1, r2, r3) := by rw [if_pos rfl] at H; exact H
        clear H
        have H := H1
        clear H1
        by_cases c14 : 0 ≤ x12_1
        ·
         rw [if_pos c14] at H
         have c14b0 := decide_eq_true c14
         clear c14
         by_cases c15 : x12_1 < (x583002_2.length : Int)
         ·
          rw [if_pos c15] at H
          have c15b0 := decide_eq_true c15
          clear c15
          by_cases c16 : 0 ≤ x16_2
          ·
           rw [if_pos c16] at H
           have c16b0 := eq_true c16
           have c16b1 := decide_eq_true c16
           clear c16
           obtain ⟨ji17, hji17⟩ : ∃ j_ : Int, (shl .i64 1 x16_2) = j_ := ⟨_, rfl⟩
           replace H : (impl_made.l1 k2 a0 a1 x12_1 a0 x12_1 a0 (wrap64 (x16_2 + 1)) t577 t578 (x583002_2.set (x12_1 : Int).toNat (Go.bits .or .i64 (rd x583002_2 x12_1) (ji17)))) = some (r1, r2, r3) := by first | (rw [hji17] at H; exact H) | (simp only [hji17] at H ⊢; exact H)
           (try rw [hji17] at A12)
           have hji17_ : (IntKind.i64.wrap (1 * 2 ^ min x16_2.toNat 64)) = ji17 := hji17
           have hji17z : x16_2 ≤ 64 → (IntKind.i64.wrap (1 * 2 ^ x16_2.toNat)) = ji17 := shl_small hji17
           have hji17u : (IntKind.i64.wrap (2 ^ min x16_2.toNat 64)) = ji17 := by have h_ := hji17_; rw [Int.one_mul] at h_; exact h_
           have hji17v : x16_2 ≤ 64 → (IntKind.i64.wrap (2 ^ x16_2.toNat)) = ji17 := fun hle_ => by have h_ := hji17z hle_; rw [Int.one_mul] at h_; exact h_
           have hji17y : (wrap64 (1 * 2 ^ min x16_2.toNat 64)) = ji17 := (i64_w _).symm.trans hji17_
           have hji17x : x16_2 ≤ 64 → (wrap64 (1 * 2 ^ x16_2.toNat)) = ji17 := fun h_ => (i64_w _).symm.trans (hji17z h_)
           obtain ⟨y585, hy585⟩ : ∃ y_ : List Int, y_ = (x583002_2.set (x12_1 : Int).toNat (Go.bits .or .i64 (rd x583002_2 x12_1) (ji17))) := ⟨_, rfl⟩
           replace H : (impl_made.l1 k2 a0 a1 x12_1 a0 x12_1 a0 (wrap64 (x16_2 + 1)) t577 t578 y585) = some (r1, r2, r3) := ty_ hy585 H
           have Ny585 := A_ hy585
           clear hy585
           have H' := A_ H
           clear H
           try go_wp2_with (first | ((with_reducible refine Fn.gate_value rfl ?_); refine Fn.goesVw_ (some 22) rfl (by first | rfl | (simp [Region.wanted, yielded]; done)) v1 rfl #[.int .i64 x12_1, .int .i64 x16_2] rfl ta_ ?_; (with_reducible refine (FnCall100.calls x12_1 x16_2 v1 a1 true _ ?side1 A12.out).mono ?_); (case side1 => exact FnOk100.mono HF1.out tb_); rintro e w19 ⟨rfl, hb⟩; refine ⟨_, rfl, ?_⟩; replace HO_583002 := A_ (Kd.R_below (tr_x HO_583002.out) hb); replace BK576 := A_ (blk_below (g := gb576) (o := .cells #[.int .i64 0, .int .i64 0, .slice none 0 0] 28 (0, 0)) (tk_ BK576) hb); replace BK582 := A_ (blk_below (g := gb582) (o := .cells #[.int .i64 t577, .int .i64 t578, u583002] 28 (0, 0)) (tk_ BK582) hb); replace HB := A_ (below_step tb_ hb); (try clear hb)))
           have n0_ := A_ (Kd.R_drew HO_583002.out)
           have n1_ := A_ (blk_drew BK576.out)
           have n2_ := A_ (blk_drew BK582.out)
           have n3_ := A_ (below_drew1 HB.out)
           clear HO_583002
           clear BK576
           clear BK582
           clear HB
           have HO_583002 := n0_
           have BK576 := n1_
           have BK582 := n2_
           have HB := n3_
           clear n0_ n1_ n2_ n3_
           obtain ⟨Ao21, co21, eo21⟩ := Kd.R_slice HO_583002.out
           (first | subst eo21 | (injection eo21 with f1_ f2_ f3_; have f4_ := f1_.symm; have f5_ := f3_.symm; clear f1_ f2_ f3_; subst f4_; subst f5_))
           have p584 : 0 ≤ (x12_1 : Int) := od_
           have q584 : x12_1 < (x583002_2.length : Int) := od_
           obtain ⟨ad584, e584, hx584_0⟩ := Kd.at_int (Kd.R_reads' HO_583002.out).2.2 x12_1 p584 q584
           cases e584
           replace p584 := eq_true p584
           replace q584 := eq_true q584
           have p18 : 0 ≤ (x12_1 : Int) := od_
           have q18 : (x12_1 : Int) < ((x583002_2.length : Int) : Int) := od_
           obtain ⟨go18, co18, eo18, gb18, gl18, cl18, HG18⟩ := Kd.R_form HO_583002.out (by omega)
           (first | cases eo18 | (injection eo18 with ea_ en_ ec_; (first | subst ea_ | (injection ea_ with ea_; subst ea_)); subst ec_; clear en_))
           have GB18 := A_ gb18
           have GG18 := A_ HG18
           clear gb18 gl18 HG18
           (first | simp only [add_plain] at hx584_0 | skip)
           obtain ⟨hx18_0, hf18_0⟩ := Kd.R_celln 0 HO_583002.out (x12_1 : Int) p18 q18
           replace p18 := eq_true p18
           replace q18 := eq_true q18
           have HP22 := Kd.R_putn HO_583002.out (x12_1 : Int) (Go.bits .or .i64 (rd x583002_2 x12_1) (ji17))
           rw [← Ny585.out] at HP22
           have HQ22 := A_ HP22
           clear HP22
           refine start_ (n := 10) (S := fun w' => w'.cell? ⟨gb582, 0, none⟩ = some (.int .i64 t577) ∧ w'.cell? ⟨gb582, 1, none⟩ = some (.int .i64 t578) ∧ w'.cell? ⟨gb582, 2, none⟩ = some (.slice (some ⟨go18, 0, none⟩) x583002_2.length co21) ∧ w'.cell? ⟨go18, (x12_1).toNat, none⟩ = some (.int .i64 (rd x583002_2 x12_1))) (ds := [9]) (Fn.bl 10 0) (by kernel_rfl) rfl rfl ⟨(blk_cell BK582.out 0).trans rfl, (blk_cell BK582.out 1).trans rfl, (blk_cell BK582.out 2).trans rfl, hx584_0⟩ (fun hHeld => ?_); refine with_tabW impl_made.tab9 impl_made.bits9 (fun HT_ HW_ => ?_)
           generalize w19.drew = w20 at HO_583002 BK576 BK582 HB GG18 HQ22 hf18_0 hx18_0 hx584_0 hHeld ⊢
           refine pq_ 0 (some 23) (Fn.bl 10 1) HT_.out ?_
           refine pq_ 2 (some 25) (Fn.bl 10 5) HT_.out ?_
           refine pq_ 5 (some 28) (Fn.bl 10 37) HT_.out ?_
           refine pq_ 6 (some 29) (Fn.bl 10 101) HT_.out ?_
           refine tq_ 1 (some 24) (Fn.bl 10 103) HT_.out HW_.out hHeld ?_ (hy0 := by rintro w' ⟨s0, s1, s2, s3⟩; go_simp; with_reducible rfl)
           refine pq_ 3 (some 26) (Fn.bl 10 111) HT_.out ?_
           refine tq_ 4 (some 27) (Fn.bl 10 127) HT_.out HW_.out hHeld ?_ (hy0 := by rintro w' ⟨s0, s1, s2, s3⟩; go_simp; with_reducible rfl)
           refine pq_ 7 (some 30) (Fn.bl 10 255) HT_.out ?_
           refine pq_ 8 (some 31) (Fn.bl 10 511) HT_.out ?_
           refine last_ (i := 9) (N := none) (Fn.bl 10 1023) rfl rfl (one_of HT_.out (by kernel_rfl)) (by decide) (fun K hK => ?_)
           refine skip_ (w1 := ?_) (by rfl) rfl ?_ ?_
           rotate_left
           ·
            go_simp
            rfl
           refine hK.out _ _ ?_
           clear hK K
           refine done_ (done_of HT_.out (by kernel_rfl)) ?_
           try go_wp2
           go_roundg k2
           case measure => have := HK1.out; have := HK2.out; omega
           case rel => exact ⟨(wrap64 (x16_2 + 1)), (y585), (.slice (some ⟨go18, 0, none⟩) x583002_2.length co21), tf_, H', ⟨by have := HK1.out; have := HK2.out; omega⟩, ⟨tr_x HQ22.out⟩, ⟨by (with_reducible repeat (first | refine blk_drewN ?_ _ | refine blk_drew ?_ | refine blk_alloc ?_ _)); refine blk_far ?_ (by have h_ := Kd.R_ne HO_583002.out BK576.out (by decide); intro e_; exact h_ (by rw [e_]; rfl)) _; (with_reducible repeat (first | refine blk_drewN ?_ _ | refine blk_drew ?_ | refine blk_alloc ?_ _)); exact BK576.out⟩, ⟨by (with_reducible repeat (first | refine blk_drewN ?_ _ | refine blk_drew ?_ | refine blk_alloc ?_ _)); refine blk_far ?_ (by have h_ := Kd.R_ne HO_583002.out BK582.out (by decide); intro e_; exact h_ (by rw [e_]; rfl)) _; (with_reducible repeat (first | refine blk_drewN ?_ _ | refine blk_drew ?_ | refine blk_alloc ?_ _)); exact BK582.out⟩, ⟨tb_⟩⟩
          ·
           rw [if_neg c16] at H
           exact absurd H (by simp)
         ·
          rw [if_neg c15] at H
          exact absurd H (by simp)
        ·
         rw [if_neg c14] at H
         exact absurd H (by simp)
       ·
        replace c13 := Bool.eq_false_iff.mpr c13
        subst c13
        have H1 : (impl_made.l1 k2 a0 a1 x12_1 a0 x12_1 a0 (wrap64 (x16_2 + 1)) t577 t578 x583002_2) = some (r1, r2, r3) := by rw [if_neg (show ¬ (false = true) by decide)] at H; exact H
        clear H
        have H := H1
        clear H1
        have H' := A_ H
        clear H
        go_wp2_with (first | ((with_reducible refine Fn.gate_value rfl ?_); refine Fn.goesVw_ (some 22) rfl (by first | rfl | (simp [Region.wanted, yielded]; done)) v1 rfl #[.int .i64 x12_1, .int .i64 x16_2] rfl ta_ ?_; (with_reducible refine (FnCall100.calls x12_1 x16_2 v1 a1 false _ ?side1 A12.out).mono ?_); (case side1 => exact FnOk100.mono HF1.out tb_); rintro e w23 ⟨rfl, hb⟩; refine ⟨_, rfl, ?_⟩; replace HO_583002 := A_ (Kd.R_below (tr_x HO_583002.out) hb); replace BK576 := A_ (blk_below (g := gb576) (o := .cells #[.int .i64 0, .int .i64 0, .slice none 0 0] 28 (0, 0)) (tk_ BK576) hb); replace BK582 := A_ (blk_below (g := gb582) (o := .cells #[.int .i64 t577, .int .i64 t578, u583002] 28 (0, 0)) (tk_ BK582) hb); replace HB := A_ (below_step tb_ hb); (try clear hb)))
        go_roundg k2
        case measure => have := HK1.out; have := HK2.out; omega
        case rel => exact ⟨(wrap64 (x16_2 + 1)), (x583002_2), (u583002), tf_, H', ⟨by have := HK1.out; have := HK2.out; omega⟩, ⟨tr_x HO_583002.out⟩, ⟨tk_ BK576⟩, ⟨tk_ BK582⟩, ⟨tb_⟩⟩
      ·
       rw [if_neg c11] at H
       have c11b0 := decide_eq_false c11
       clear c11
       have H' := A_ H
       clear H
       go_wp2
       go_roundg k2
       case measure => have := HK1.out; have := HK2.out; omega
       case rel => exact ⟨(wrap64 (x12_1 + 1)), (x583002_2), (u583002), tf_, H', ⟨by have := HK1.out; have := HK2.out; omega⟩, ⟨tr_x HO_583002.out⟩, ⟨tk_ BK576⟩, ⟨tk_ BK582⟩, ⟨tb_⟩⟩
   ·
    rw [if_neg c10] at H
    have c10b0 := decide_eq_false c10
    clear c10
    simp only [Option.some.injEq, Prod.mk.injEq] at H
    obtain ⟨rfl, rfl, rfl⟩ := H
    have hnb24 := NB582_576.out
    have hnc24 := NB576_582.out
    obtain ⟨hcz25_0, hcz25_1, hcz25_2, hfz25_0, hfz25_1, hfz25_2⟩ := cf3_ BK582.out
    obtain ⟨hcz26_0, hcz26_1, hcz26_2, hfz26_0, hfz26_1, hfz26_2⟩ := cf3_ BK576.out
    obtain ⟨Ao27, co27, eo27⟩ := Kd.R_slice HO_583002.out
    subst eo27
    go_wp2
    refine bodyPost_ret (results_cell_row rfl _ _ gb576 28 #[.int .i64 t577, .int .i64 t578, .slice Ao27 x583002_1.length co27] (0, 0) _ rfl (by (with_reducible repeat (first | refine blk_drewN ?_ _ | refine blk_drew ?_ | refine blk_alloc ?_ _)); refine blk_put (cs := #[.int .i64 t577, .int .i64 t578, .slice none 0 0]) ?_ 2 _ rfl; (with_reducible repeat (first | refine blk_drewN ?_ _ | refine blk_drew ?_ | refine blk_alloc ?_ _)); refine blk_put (cs := #[.int .i64 t577, .int .i64 0, .slice none 0 0]) ?_ 1 _ rfl; (with_reducible repeat (first | refine blk_drewN ?_ _ | refine blk_drew ?_ | refine blk_alloc ?_ _)); refine blk_put (cs := #[.int .i64 0, .int .i64 0, .slice none 0 0]) ?_ 0 _ rfl; (with_reducible repeat (first | refine blk_drewN ?_ _ | refine blk_drew ?_ | refine blk_alloc ?_ _)); exact BK576.out) Try.underlying28 rfl (by kernel_rfl)) rfl ?_
    exact ⟨_, te_, by (with_reducible repeat (first | apply Kd.R_alloc | apply Kd.R_drewN | apply Kd.R_drew)); exact Kd.R_mono (Kd.R_far (p := ⟨gb576, 2, none⟩) (Kd.R_far (p := ⟨gb576, 1, none⟩) (Kd.R_far (p := ⟨gb576, 0, none⟩) (Kd.R_types HO_583002.out BK576.out (by decide)) (fun _ hk => hk.2) (.int .i64 t577)) (fun _ hk => hk.2) (.int .i64 t578)) (fun _ hk => hk.2) (.slice Ao27 x583002_1.length co27)) (fun _ hk => trivial), tb_⟩

/-! ### impl_AboveBoard_1: function 256 -/
def impl_AboveBoard_1.f (a0 : Int) (a1 : Int) : Option (Bool) := some (decide (a1 > a0))
theorem impl_AboveBoard_1.calls (a0 : Int) (a1 : Int) (r : Bool) (w : World) (h : impl_AboveBoard_1.f a0 a1 = some r) :
  Calls Try.prog 256 #[.int .i64 a0, .int .i64 a1] w fun e w' => e = .returned (.bool r) ∧ Drawn0 w w' := by
 have H : (some (decide (a1 > a0))) = some r := h
 clear h
 obtain rfl := Option.some.inj H
 go_enter Try.func256, Try.ntmps256
 go_wp2
 go_ret
 exact ⟨tf_, dr_⟩

def impl_AboveBoard_1.fn : FnT100 := fun a0 a1 => impl_AboveBoard_1.f a0 a1
theorem impl_AboveBoard_1.fnok (w : World) : FnOk100 w (.func (.func 256) #[] #[]) impl_AboveBoard_1.fn := fun a0 a1 r W h _ => ⟨256, #[], _, rfl, Try.func256, by kernel_rfl, rfl, by simpa using (impl_AboveBoard_1.calls a0 a1 r W h).mono fun e w' ⟨he, hd⟩ => ⟨he, hd.below⟩⟩

/-! ### impl_AboveBoard: function 214 -/
def impl_AboveBoard.f (k : Nat) (a0 : Int) : Option (Int × Int × List Int × Bool) := (impl_isSide.f a0).bind fun t587 => (if t587 = true then ((impl_made.f k a0 impl_AboveBoard_1.fn).bind fun bt588 => (some (bt588.1, bt588.2.1, bt588.2.2, true))) else (some (0, 0, ([] : List Int), false)))
theorem impl_AboveBoard.mono : ∀ a0 k, LeO (impl_AboveBoard.f k a0) (impl_AboveBoard.f (k + 1) a0) := by
 intro a0 k
 unfold impl_AboveBoard.f
 repeat' first | (with_reducible first | exact impl_made.mono _ _ _ | exact LeO.refl _ | exact LeO.none _ | refine LeO.ite ?_ ?_ | refine LeO.bind ?_ (fun _ => ?_)) | exact impl_made.mono _ _ _ | exact LeO.none _ | refine LeO.ite ?_ ?_ | refine LeO.bind ?_ (fun _ => ?_)
theorem impl_AboveBoard.calls (k : Nat) (a0 : Int) (r1 : Int) (r2 : Int) (r3 : List Int) (r4 : Bool) (w : World) (h : impl_AboveBoard.f k a0 = some (r1, r2, r3, r4)) :
  Calls Try.prog 214 #[.int .i64 a0] w fun e w' => ∃ v2_ : Value, e = .returned (.tuple #[.agg #[.int .i64 r1, .int .i64 r2, v2_], .bool r4]) ∧ Kd.R (Kd.int .i64) 3 w' w.heap.size (fun _ => True) v2_ r3 ∧ Below w.heap.size w w' := by
 have hu28 := Try.underlying28
 have HB := A_ (Below.refl w.heap.size w)
 have H : ((impl_isSide.f a0).bind fun t587 => (if t587 = true then ((impl_made.f k a0 impl_AboveBoard_1.fn).bind fun bt588 => (some (bt588.1, bt588.2.1, bt588.2.2, true))) else (some (0, 0, ([] : List Int), false)))) = some (r1, r2, r3, r4) := h
 clear h
 replace H := Option.bind_eq_some_iff.mp H
 obtain ⟨t587, A20, H⟩ := H
 replace H : (if t587 = true then ((impl_made.f k a0 impl_AboveBoard_1.fn).bind fun bt588 => (some (bt588.1, bt588.2.1, bt588.2.2, true))) else (some (0, 0, ([] : List Int), false))) = some (r1, r2, r3, r4) := H
 have A2 := A_ A20
 clear A20
 by_cases c3 : t587 = true
 ·
  subst c3
  have H1 : ((impl_made.f k a0 impl_AboveBoard_1.fn).bind fun bt588 => (some (bt588.1, bt588.2.1, bt588.2.2, true))) = some (r1, r2, r3, r4) := by rw [if_pos rfl] at H; exact H
  clear H
  have H := H1
  clear H1
  replace H := Option.bind_eq_some_iff.mp H
  obtain ⟨⟨t588, t589, t590⟩, A40, H⟩ := H
  replace H : (some (t588, t589, t590, true)) = some (r1, r2, r3, r4) := H
  have A4 := A_ A40
  clear A40
  simp only [Option.some.injEq, Prod.mk.injEq] at H
  obtain ⟨rfl, rfl, rfl, rfl⟩ := H
  go_enter Try.func214, Try.ntmps214
  go_wp2_with (first | (refine gd_ 2 ?_; refine bx_ 2 #[.int .i64 0, .int .i64 0, .slice none 0 0] 28 ?_; intro gb586 hg w5 hbox hb; have BK586 := A_ (hbox); have GW586 := A_ ((ts_ hg : w.heap.size ≤ gb586)); have GE586 := A_ ((ts_ hg : w.heap.size ≤ gb586)); replace HB := A_ (below_step tb_ hb); clear hb hbox hg) | (refine gc_ 218 ?_; refine goesT_ (some 5) Try.func218 #[.int .i64 a0] ?_; (with_reducible refine (impl_isSide.calls a0 true _ A2.out).mono ?_); rintro e w' ⟨rfl, ⟨nd, rfl⟩⟩; refine ⟨_, rfl, ?_⟩; (try (rw [drewN_self w5]; generalize hq_ : World.drewN w5 _ = w5; have n0_ : Aside0 (w5.heap[gb586]? = some (.cells #[.int .i64 0, .int .i64 0, .slice none 0 0] 28 (0, 0))) := ⟨by rw [← hq_]; exact (tk_ BK586)⟩; have n1_ : Aside0 (Below w.heap.size w w5) := ⟨by rw [← hq_]; exact tb_⟩; clear BK586 HB hq_; have BK586 := n0_; have HB := n1_; clear n0_ n1_))) | (refine gc_ 255 ?_; refine goesT_ (some 9) Try.func255 #[.int .i64 a0, .func (.func 256) #[] #[]] ?_; (with_reducible refine (impl_made.calls k a0 (.func (.func 256) #[] #[]) impl_AboveBoard_1.fn t588 t589 t590 _ ?side1 A4.out).mono ?_); (case side1 => exact impl_AboveBoard_1.fnok _); rintro e w6 ⟨v591, rfl, ho0, hb⟩; refine ⟨_, rfl, ?_⟩; have HO592 := A_ (Kd.R_lower ho0 (below_size tb_)); replace BK586 := A_ (blk_below (g := gb586) (o := .cells #[.int .i64 0, .int .i64 0, .slice none 0 0] 28 (0, 0)) (tk_ BK586) hb); replace HB := A_ (below_step tb_ hb); (try clear hb); (try clear ho0); obtain ⟨hcz7_0, hcz7_1, hcz7_2, hfz7_0, hfz7_1, hfz7_2⟩ := cf3_ BK586.out; obtain ⟨Ao8, co8, eo8⟩ := Kd.R_slice HO592.out; subst eo8))
  refine bodyPost_ret (results_ct rfl _ _ gb586 28 #[.int .i64 t588, .int .i64 t589, .slice Ao8 t590.length co8] (0, 0) _ rfl (by (with_reducible repeat (first | refine blk_drewN ?_ _ | refine blk_drew ?_ | refine blk_alloc ?_ _)); refine blk_put (cs := #[.int .i64 t588, .int .i64 t589, .slice none 0 0]) ?_ 2 _ rfl; (with_reducible repeat (first | refine blk_drewN ?_ _ | refine blk_drew ?_ | refine blk_alloc ?_ _)); refine blk_put (cs := #[.int .i64 t588, .int .i64 0, .slice none 0 0]) ?_ 1 _ rfl; (with_reducible repeat (first | refine blk_drewN ?_ _ | refine blk_drew ?_ | refine blk_alloc ?_ _)); refine blk_put (cs := #[.int .i64 0, .int .i64 0, .slice none 0 0]) ?_ 0 _ rfl; (with_reducible repeat (first | refine blk_drewN ?_ _ | refine blk_drew ?_ | refine blk_alloc ?_ _)); exact BK586.out) Try.underlying28 rfl (by kernel_rfl)) rfl ?_
  exact ⟨_, te_, by (with_reducible repeat (first | apply Kd.R_alloc | apply Kd.R_drewN | apply Kd.R_drew)); exact Kd.R_mono (Kd.R_far (p := ⟨gb586, 2, none⟩) (Kd.R_far (p := ⟨gb586, 1, none⟩) (Kd.R_far (p := ⟨gb586, 0, none⟩) (Kd.R_types HO592.out BK586.out (by decide)) (fun _ hk => hk.2) (.int .i64 t588)) (fun _ hk => hk.2) (.int .i64 t589)) (fun _ hk => hk.2) (.slice Ao8 t590.length co8)) (fun _ hk => trivial), tb_⟩
 ·
  replace c3 := Bool.eq_false_iff.mpr c3
  subst c3
  have H1 : (some (0, 0, ([] : List Int), false)) = some (r1, r2, r3, r4) := by rw [if_neg (show ¬ (false = true) by decide)] at H; exact H
  clear H
  have H := H1
  clear H1
  simp only [Option.some.injEq, Prod.mk.injEq] at H
  obtain ⟨rfl, rfl, rfl, rfl⟩ := H
  go_enter Try.func214, Try.ntmps214
  go_wp2_with (first | (refine gd_ 2 ?_; refine bx_ 2 #[.int .i64 0, .int .i64 0, .slice none 0 0] 28 ?_; intro gb586 hg w9 hbox hb; have BK586 := A_ (hbox); have GW586 := A_ ((ts_ hg : w.heap.size ≤ gb586)); have GE586 := A_ ((ts_ hg : w.heap.size ≤ gb586)); replace HB := A_ (below_step tb_ hb); clear hb hbox hg) | (refine gc_ 218 ?_; refine goesT_ (some 5) Try.func218 #[.int .i64 a0] ?_; (with_reducible refine (impl_isSide.calls a0 false _ A2.out).mono ?_); rintro e w' ⟨rfl, ⟨nd, rfl⟩⟩; refine ⟨_, rfl, ?_⟩; (try (rw [drewN_self w9]; generalize hq_ : World.drewN w9 _ = w9; have n0_ : Aside0 (w9.heap[gb586]? = some (.cells #[.int .i64 0, .int .i64 0, .slice none 0 0] 28 (0, 0))) := ⟨by rw [← hq_]; exact (tk_ BK586)⟩; have n1_ : Aside0 (Below w.heap.size w w9) := ⟨by rw [← hq_]; exact tb_⟩; clear BK586 HB hq_; have BK586 := n0_; have HB := n1_; clear n0_ n1_)); obtain ⟨hcz10_0, hcz10_1, hcz10_2, hfz10_0, hfz10_1, hfz10_2⟩ := cf3_ BK586.out))
  refine bodyPost_ret (results_ct rfl _ _ gb586 28 #[.int .i64 0, .int .i64 0, .slice none 0 0] (0, 0) _ rfl (by (with_reducible repeat (first | refine blk_drewN ?_ _ | refine blk_drew ?_ | refine blk_alloc ?_ _)); refine blk_put (cs := #[.int .i64 0, .int .i64 0, .slice none 0 0]) ?_ 2 _ rfl; (with_reducible repeat (first | refine blk_drewN ?_ _ | refine blk_drew ?_ | refine blk_alloc ?_ _)); refine blk_put (cs := #[.int .i64 0, .int .i64 0, .slice none 0 0]) ?_ 1 _ rfl; (with_reducible repeat (first | refine blk_drewN ?_ _ | refine blk_drew ?_ | refine blk_alloc ?_ _)); refine blk_put (cs := #[.int .i64 0, .int .i64 0, .slice none 0 0]) ?_ 0 _ rfl; (with_reducible repeat (first | refine blk_drewN ?_ _ | refine blk_drew ?_ | refine blk_alloc ?_ _)); exact BK586.out) Try.underlying28 rfl (by kernel_rfl)) rfl ?_
  exact ⟨_, te_, by first | exact Kd.R_nil _ _ _ _ _ | exact Kd.N_nil _ _ _ _ _ | exact Kd.V_nil _ _ _ _ _ | exact Kd.Q_nil _ _ _ _ _ | exact Kd.S_nil _ _ _ _ _, tb_⟩

/-! ### impl_ArrowBoard: function 112 -/
def impl_ArrowBoard.f (k : Nat) (a0 : Int) : Option (Int × Int × List Int × Bool) := (impl_isThings.f a0).bind fun t594 => (if t594 = true then ((impl_AboveBoard.f k a0).bind fun bt595 => (some (bt595.1, bt595.2.1, bt595.2.2.1, bt595.2.2.2))) else (some (0, 0, ([] : List Int), false)))
theorem impl_ArrowBoard.mono : ∀ a0 k, LeO (impl_ArrowBoard.f k a0) (impl_ArrowBoard.f (k + 1) a0) := by
 intro a0 k
 unfold impl_ArrowBoard.f
 repeat' first | (with_reducible first | exact impl_AboveBoard.mono _ _ | exact LeO.refl _ | exact LeO.none _ | refine LeO.ite ?_ ?_ | refine LeO.bind ?_ (fun _ => ?_)) | exact impl_AboveBoard.mono _ _ | exact LeO.none _ | refine LeO.ite ?_ ?_ | refine LeO.bind ?_ (fun _ => ?_)
theorem impl_ArrowBoard.calls (k : Nat) (a0 : Int) (r1 : Int) (r2 : Int) (r3 : List Int) (r4 : Bool) (w : World) (h : impl_ArrowBoard.f k a0 = some (r1, r2, r3, r4)) :
  Calls Try.prog 112 #[.int .i64 a0] w fun e w' => ∃ v2_ : Value, e = .returned (.tuple #[.agg #[.int .i64 r1, .int .i64 r2, v2_], .bool r4]) ∧ Kd.R (Kd.int .i64) 3 w' w.heap.size (fun _ => True) v2_ r3 ∧ Below w.heap.size w w' := by
 have hu28 := Try.underlying28
 have HB := A_ (Below.refl w.heap.size w)
 have H : ((impl_isThings.f a0).bind fun t594 => (if t594 = true then ((impl_AboveBoard.f k a0).bind fun bt595 => (some (bt595.1, bt595.2.1, bt595.2.2.1, bt595.2.2.2))) else (some (0, 0, ([] : List Int), false)))) = some (r1, r2, r3, r4) := h
 clear h
 replace H := Option.bind_eq_some_iff.mp H
 obtain ⟨t594, A20, H⟩ := H
 replace H : (if t594 = true then ((impl_AboveBoard.f k a0).bind fun bt595 => (some (bt595.1, bt595.2.1, bt595.2.2.1, bt595.2.2.2))) else (some (0, 0, ([] : List Int), false))) = some (r1, r2, r3, r4) := H
 have A2 := A_ A20
 clear A20
 by_cases c3 : t594 = true
 ·
  subst c3
  have H1 : ((impl_AboveBoard.f k a0).bind fun bt595 => (some (bt595.1, bt595.2.1, bt595.2.2.1, bt595.2.2.2))) = some (r1, r2, r3, r4) := by rw [if_pos rfl] at H; exact H
  clear H
  have H := H1
  clear H1
  replace H := Option.bind_eq_some_iff.mp H
  obtain ⟨⟨t595, t596, t597, t600⟩, A40, H⟩ := H
  replace H : (some (t595, t596, t597, t600)) = some (r1, r2, r3, r4) := H
  have A4 := A_ A40
  clear A40
  simp only [Option.some.injEq, Prod.mk.injEq] at H
  obtain ⟨rfl, rfl, rfl, rfl⟩ := H
  go_enter Try.func112, Try.ntmps112
  go_wp2_with (first | (refine gd_ 2 ?_; refine bx_ 2 #[.int .i64 0, .int .i64 0, .slice none 0 0] 28 ?_; intro gb593 hg w5 hbox hb; have BK593 := A_ (hbox); have GW593 := A_ ((ts_ hg : w.heap.size ≤ gb593)); have GE593 := A_ ((ts_ hg : w.heap.size ≤ gb593)); replace HB := A_ (below_step tb_ hb); clear hb hbox hg) | (refine gc_ 213 ?_; refine goesT_ (some 5) Try.func213 #[.int .i64 a0] ?_; (with_reducible refine (impl_isThings.calls a0 true _ A2.out).mono ?_); rintro e w' ⟨rfl, ⟨nd, rfl⟩⟩; refine ⟨_, rfl, ?_⟩; (try (rw [drewN_self w5]; generalize hq_ : World.drewN w5 _ = w5; have n0_ : Aside0 (w5.heap[gb593]? = some (.cells #[.int .i64 0, .int .i64 0, .slice none 0 0] 28 (0, 0))) := ⟨by rw [← hq_]; exact (tk_ BK593)⟩; have n1_ : Aside0 (Below w.heap.size w w5) := ⟨by rw [← hq_]; exact tb_⟩; clear BK593 HB hq_; have BK593 := n0_; have HB := n1_; clear n0_ n1_))) | (refine gc_ 214 ?_; refine goesT_ (some 9) Try.func214 #[.int .i64 a0] ?_; (with_reducible refine (impl_AboveBoard.calls k a0 t595 t596 t597 t600 _ A4.out).mono ?_); rintro e w6 ⟨v598, rfl, ho0, hb⟩; refine ⟨_, rfl, ?_⟩; have HO599 := A_ (Kd.R_lower ho0 (below_size tb_)); replace BK593 := A_ (blk_below (g := gb593) (o := .cells #[.int .i64 0, .int .i64 0, .slice none 0 0] 28 (0, 0)) (tk_ BK593) hb); replace HB := A_ (below_step tb_ hb); (try clear hb); (try clear ho0); obtain ⟨hcz7_0, hcz7_1, hcz7_2, hfz7_0, hfz7_1, hfz7_2⟩ := cf3_ BK593.out; obtain ⟨Ao8, co8, eo8⟩ := Kd.R_slice HO599.out; subst eo8))
  refine bodyPost_ret (results_ct rfl _ _ gb593 28 #[.int .i64 t595, .int .i64 t596, .slice Ao8 t597.length co8] (0, 0) _ rfl (by (with_reducible repeat (first | refine blk_drewN ?_ _ | refine blk_drew ?_ | refine blk_alloc ?_ _)); refine blk_put (cs := #[.int .i64 t595, .int .i64 t596, .slice none 0 0]) ?_ 2 _ rfl; (with_reducible repeat (first | refine blk_drewN ?_ _ | refine blk_drew ?_ | refine blk_alloc ?_ _)); refine blk_put (cs := #[.int .i64 t595, .int .i64 0, .slice none 0 0]) ?_ 1 _ rfl; (with_reducible repeat (first | refine blk_drewN ?_ _ | refine blk_drew ?_ | refine blk_alloc ?_ _)); refine blk_put (cs := #[.int .i64 0, .int .i64 0, .slice none 0 0]) ?_ 0 _ rfl; (with_reducible repeat (first | refine blk_drewN ?_ _ | refine blk_drew ?_ | refine blk_alloc ?_ _)); exact BK593.out) Try.underlying28 rfl (by kernel_rfl)) rfl ?_
  exact ⟨_, te_, by (with_reducible repeat (first | apply Kd.R_alloc | apply Kd.R_drewN | apply Kd.R_drew)); exact Kd.R_mono (Kd.R_far (p := ⟨gb593, 2, none⟩) (Kd.R_far (p := ⟨gb593, 1, none⟩) (Kd.R_far (p := ⟨gb593, 0, none⟩) (Kd.R_types HO599.out BK593.out (by decide)) (fun _ hk => hk.2) (.int .i64 t595)) (fun _ hk => hk.2) (.int .i64 t596)) (fun _ hk => hk.2) (.slice Ao8 t597.length co8)) (fun _ hk => trivial), tb_⟩
 ·
  replace c3 := Bool.eq_false_iff.mpr c3
  subst c3
  have H1 : (some (0, 0, ([] : List Int), false)) = some (r1, r2, r3, r4) := by rw [if_neg (show ¬ (false = true) by decide)] at H; exact H
  clear H
  have H := H1
  clear H1
  simp only [Option.some.injEq, Prod.mk.injEq] at H
  obtain ⟨rfl, rfl, rfl, rfl⟩ := H
  go_enter Try.func112, Try.ntmps112
  go_wp2_with (first | (refine gd_ 2 ?_; refine bx_ 2 #[.int .i64 0, .int .i64 0, .slice none 0 0] 28 ?_; intro gb593 hg w9 hbox hb; have BK593 := A_ (hbox); have GW593 := A_ ((ts_ hg : w.heap.size ≤ gb593)); have GE593 := A_ ((ts_ hg : w.heap.size ≤ gb593)); replace HB := A_ (below_step tb_ hb); clear hb hbox hg) | (refine gc_ 213 ?_; refine goesT_ (some 5) Try.func213 #[.int .i64 a0] ?_; (with_reducible refine (impl_isThings.calls a0 false _ A2.out).mono ?_); rintro e w' ⟨rfl, ⟨nd, rfl⟩⟩; refine ⟨_, rfl, ?_⟩; (try (rw [drewN_self w9]; generalize hq_ : World.drewN w9 _ = w9; have n0_ : Aside0 (w9.heap[gb593]? = some (.cells #[.int .i64 0, .int .i64 0, .slice none 0 0] 28 (0, 0))) := ⟨by rw [← hq_]; exact (tk_ BK593)⟩; have n1_ : Aside0 (Below w.heap.size w w9) := ⟨by rw [← hq_]; exact tb_⟩; clear BK593 HB hq_; have BK593 := n0_; have HB := n1_; clear n0_ n1_)); obtain ⟨hcz10_0, hcz10_1, hcz10_2, hfz10_0, hfz10_1, hfz10_2⟩ := cf3_ BK593.out))
  refine bodyPost_ret (results_ct rfl _ _ gb593 28 #[.int .i64 0, .int .i64 0, .slice none 0 0] (0, 0) _ rfl (by (with_reducible repeat (first | refine blk_drewN ?_ _ | refine blk_drew ?_ | refine blk_alloc ?_ _)); refine blk_put (cs := #[.int .i64 0, .int .i64 0, .slice none 0 0]) ?_ 2 _ rfl; (with_reducible repeat (first | refine blk_drewN ?_ _ | refine blk_drew ?_ | refine blk_alloc ?_ _)); refine blk_put (cs := #[.int .i64 0, .int .i64 0, .slice none 0 0]) ?_ 1 _ rfl; (with_reducible repeat (first | refine blk_drewN ?_ _ | refine blk_drew ?_ | refine blk_alloc ?_ _)); refine blk_put (cs := #[.int .i64 0, .int .i64 0, .slice none 0 0]) ?_ 0 _ rfl; (with_reducible repeat (first | refine blk_drewN ?_ _ | refine blk_drew ?_ | refine blk_alloc ?_ _)); exact BK593.out) Try.underlying28 rfl (by kernel_rfl)) rfl ?_
  exact ⟨_, te_, by first | exact Kd.R_nil _ _ _ _ _ | exact Kd.N_nil _ _ _ _ _ | exact Kd.V_nil _ _ _ _ _ | exact Kd.Q_nil _ _ _ _ _ | exact Kd.S_nil _ _ _ _ _, tb_⟩

/-! ### impl_Board_isFile: function 151 -/
def impl_Board_isFile.l0 : Nat → List Int → Int → Int → Int → Int → List Int → Option (Bool)
 | 0, _, _, _, _, _, _ => none
 | k + 1, x12, x13, x14, x602000, x602001, x602002 => if x14 < x13 then (if 0 ≤ x14 then (if x14 < (x12.length : Int) then (if (rd x12 x14) = (-1) then (impl_Board_isFile.l0 k x12 x13 (wrap64 (x14 + 1)) x602000 x602001 x602002) else ((impl_within.f (rd x12 x14) 0 (wrap64 (x602000 - 1))).bind fun t603 => (if t603 = true then ((impl_Board_has.f x602000 x602001 x602002 (rd x12 x14) x14).bind fun t604 => (if t604 = true then (impl_Board_isFile.l0 k x12 x13 (wrap64 (x14 + 1)) x602000 x602001 x602002) else (some false))) else (some false)))) else (none)) else (none)) else (some true)
def impl_Board_isFile.f (k : Nat) (a0_0 : Int) (a0_1 : Int) (l0_2 : List Int) (l1 : List Int) : Option (Bool) := if (l1.length : Int) = a0_1 then (impl_Board_isFile.l0 k l1 (l1.length : Int) 0 a0_0 a0_1 l0_2) else (some false)
theorem impl_Board_isFile.mono_l : ∀ k, (∀ y0 y1 y2 y3 y4 y5, LeO (impl_Board_isFile.l0 k y0 y1 y2 y3 y4 y5) (impl_Board_isFile.l0 (k + 1) y0 y1 y2 y3 y4 y5))
 | 0 => fun _ _ _ _ _ _ r h => by simp [impl_Board_isFile.l0] at h
 | k + 1 => by
  have ih0 := impl_Board_isFile.mono_l k
  ·
   intro y0 y1 y2 y3 y4 y5
   unfold impl_Board_isFile.l0
   repeat' first | (with_reducible first | exact ih0 _ _ _ _ _ _ | exact LeO.refl _ | exact LeO.none _ | refine LeO.ite ?_ ?_ | refine LeO.bind ?_ (fun _ => ?_)) | exact ih0 _ _ _ _ _ _ | exact LeO.none _ | refine LeO.ite ?_ ?_ | refine LeO.bind ?_ (fun _ => ?_)
theorem impl_Board_isFile.mono : ∀ a0 a1 a2 a3 k, LeO (impl_Board_isFile.f k a0 a1 a2 a3) (impl_Board_isFile.f (k + 1) a0 a1 a2 a3) := by
 intro a0 a1 a2 a3 k
 have ih0 := impl_Board_isFile.mono_l k
 unfold impl_Board_isFile.f
 repeat' first | (with_reducible first | exact ih0 _ _ _ _ _ _ | exact LeO.refl _ | exact LeO.none _ | refine LeO.ite ?_ ?_ | refine LeO.bind ?_ (fun _ => ?_)) | exact ih0 _ _ _ _ _ _ | exact LeO.none _ | refine LeO.ite ?_ ?_ | refine LeO.bind ?_ (fun _ => ?_)
theorem impl_Board_isFile.calls (k : Nat) (a0_0 : Int) (a0_1 : Int) (A0_2 : Option Addr) (c0_2 : Nat) (l0_2 : List Int) (A1 : Option Addr) (c1 : Nat) (l1 : List Int) (r : Bool) (w : World) (hr0_2 : Kd.C (Kd.int .i64) w A0_2 l0_2.length l0_2) (hc0_2 : l0_2.length ≤ c0_2) (hr1 : Kd.C (Kd.int .i64) w A1 l1.length l1) (hc1 : l1.length ≤ c1) (h : impl_Board_isFile.f k a0_0 a0_1 l0_2 l1 = some r) :
  Calls Try.prog 151 #[.agg #[.int .i64 a0_0, .int .i64 a0_1, .slice A0_2 l0_2.length c0_2], .slice A1 l1.length c1] w fun e w' => e = .returned (.bool r) ∧ Below w.heap.size w w' := by
 have hu28 := Try.underlying28
 have HR0_2 := A_ hr0_2
 have HC0_2 := A_ hc0_2
 clear hr0_2 hc0_2
 have HR1 := A_ hr1
 have HC1 := A_ hc1
 clear hr1 hc1
 have HB := A_ (Below.refl w.heap.size w)
 have H : (if (l1.length : Int) = a0_1 then (impl_Board_isFile.l0 k l1 (l1.length : Int) 0 a0_0 a0_1 l0_2) else (some false)) = some r := h
 clear h
 by_cases c3 : (l1.length : Int) = a0_1
 ·
  rw [if_pos c3] at H
  have c3b0 : ((l1.length : Int) == a0_1) = true := beq_iff_eq.mpr c3
  have c3b1 : ((l1.length : Int) != a0_1) = false := bne_eq_false_iff_eq.mpr c3
  clear c3
  have H' := A_ H
  clear H
  go_enter Try.func151, Try.ntmps151
  go_wp2_with (first | (refine gd_ 2 ?_; refine bx_ 2 #[.int .i64 a0_0, .int .i64 a0_1, .slice A0_2 l0_2.length c0_2] 28 ?_; intro gb601 hg w4 hbox hb; have BK601 := A_ (hbox); have GW601 := A_ ((ts_ hg : w.heap.size ≤ gb601)); have GE601 := A_ ((ts_ hg : w.heap.size ≤ gb601)); replace HB := A_ (below_step tb_ hb); clear hb hbox hg; obtain ⟨hcz5_0, hcz5_1, hcz5_2, hfz5_0, hfz5_1, hfz5_2⟩ := cf3_ BK601.out))
  go_loopg [14] k (fun kq v14 w' => ∃ (x14_1 : Int), v14 = .int .i64 x14_1 ∧ Aside0 (impl_Board_isFile.l0 kq l1 (l1.length : Int) x14_1 a0_0 a0_1 l0_2 = some r) ∧ Aside0 (kq ≤ k) ∧ Aside0 (w'.heap[gb601]? = some (.cells #[.int .i64 a0_0, .int .i64 a0_1, (.slice A0_2 l0_2.length c0_2)] 28 (0, 0))) ∧ Aside0 (Below w.heap.size w w'))
  case atStart => exact ⟨(0), tf_, H', ⟨Nat.le_refl _⟩, ⟨tk_ BK601⟩, ⟨tb_⟩⟩
  case round =>
   clear H'
   try clear c1
   try clear p2
   try clear c3
   try clear c3b0
   try clear c3b1
   try clear hcz5_0
   try clear hcz5_1
   try clear hcz5_2
   try clear hfz5_0
   try clear hfz5_1
   try clear hfz5_2
   obtain ⟨x14_1, rfl, HA, HK1, BK601, HB⟩ := hrel
   cases gk with
   | zero => exact absurd HA.out (by simp [impl_Board_isFile.l0])
   | succ k1 =>
    have H := HA.out
    clear HA
    simp only [impl_Board_isFile.l0] at H
    by_cases c6 : x14_1 < (l1.length : Int)
    ·
     rw [if_pos c6] at H
     have c6b0 := decide_eq_true c6
     clear c6
     by_cases c7 : 0 ≤ x14_1
     ·
      rw [if_pos c7] at H
      have c7b0 := decide_eq_true c7
      clear c7
      by_cases c8 : x14_1 < (l1.length : Int)
      ·
       rw [if_pos c8] at H
       have c8b0 := decide_eq_true c8
       clear c8
       by_cases c9 : (rd l1 x14_1) = (-1)
       ·
        rw [if_pos c9] at H
        have c9b0 : ((rd l1 x14_1) == (-1)) = true := beq_iff_eq.mpr c9
        have c9b1 : ((rd l1 x14_1) != (-1)) = false := bne_eq_false_iff_eq.mpr c9
        clear c9
        have H' := A_ H
        clear H
        have p602 : 0 ≤ (x14_1 : Int) := od_
        have q602 : x14_1 < (l1.length : Int) := od_
        obtain ⟨ad602, e602, hx602_0⟩ := Kd.at_int HR1.out x14_1 p602 q602
        cases e602
        (try replace hx602_0 := (HB.out.cell (World.block_lt_of_cell? w _ hx602_0)).trans hx602_0)
        replace p602 := eq_true p602
        replace q602 := eq_true q602
        go_wp2
        go_roundg k1
        case measure => have := HK1.out; omega
        case rel => exact ⟨(wrap64 (x14_1 + 1)), tf_, H', ⟨by have := HK1.out; omega⟩, ⟨tk_ BK601⟩, ⟨tb_⟩⟩
       ·
        rw [if_neg c9] at H
        have c9b0 : ((rd l1 x14_1) == (-1)) = false := beq_eq_false_iff_ne.mpr c9
        have c9b1 : ((rd l1 x14_1) != (-1)) = true := bne_iff_ne.mpr c9
        replace H := Option.bind_eq_some_iff.mp H
        obtain ⟨t603, A100, H⟩ := H
        replace H : (if t603 = true then ((impl_Board_has.f a0_0 a0_1 l0_2 (rd l1 x14_1) x14_1).bind fun t604 => (if t604 = true then (impl_Board_isFile.l0 k1 l1 (l1.length : Int) (wrap64 (x14_1 + 1)) a0_0 a0_1 l0_2) else (some false))) else (some false)) = some r := H
        have A10 := A_ A100
        clear A100
        by_cases c11 : t603 = true
        ·
         subst c11
         have H1 : ((impl_Board_has.f a0_0 a0_1 l0_2 (rd l1 x14_1) x14_1).bind fun t604 => (if t604 = true then (impl_Board_isFile.l0 k1 l1 (l1.length : Int) (wrap64 (x14_1 + 1)) a0_0 a0_1 l0_2) else (some false))) = some r := by rw [if_pos rfl] at H; exact H
         clear H
         have H := H1
         clear H1
         replace H := Option.bind_eq_some_iff.mp H
         obtain ⟨t604, A120, H⟩ := H
         replace H : (if t604 = true then (impl_Board_isFile.l0 k1 l1 (l1.length : Int) (wrap64 (x14_1 + 1)) a0_0 a0_1 l0_2) else (some false)) = some r := H
         have A12 := A_ A120
         clear A120
         by_cases c13 : t604 = true
         ·
          subst c13
          have H1 : (impl_Board_isFile.l0 k1 l1 (l1.length : Int) (wrap64 (x14_1 + 1)) a0_0 a0_1 l0_2) = some r := by rw [if_pos rfl] at H; exact H
          clear H
          have H := H1
          clear H1
          have H' := A_ H
          clear H
          have p602 : 0 ≤ (x14_1 : Int) := od_
          have q602 : x14_1 < (l1.length : Int) := od_
          obtain ⟨ad602, e602, hx602_0⟩ := Kd.at_int HR1.out x14_1 p602 q602
          cases e602
          (try replace hx602_0 := (HB.out.cell (World.block_lt_of_cell? w _ hx602_0)).trans hx602_0)
          replace p602 := eq_true p602
          replace q602 := eq_true q602
          obtain ⟨hcz14_0, hcz14_1, hcz14_2, hfz14_0, hfz14_1, hfz14_2⟩ := cf3_ BK601.out
          go_wp2_with (first | (go_at_call 139; (with_reducible refine (impl_within.calls (rd l1 x14_1) 0 (wrap64 (a0_0 - 1)) true _ A10.out).mono ?_); rintro e w' ⟨rfl, ⟨nd, rfl⟩⟩) | (go_at_call 127; (with_reducible refine (impl_Board_has.calls a0_0 a0_1 _ _ l0_2 (rd l1 x14_1) x14_1 true _ ?side1 ?side2 A12.out).mono ?_); (case side1 => repeat (first | exact (Kd.C_below HR0_2.out tb_) | (with_reducible refine Kd.C_alloc ?_ _) | (with_reducible refine Kd.C_drewN ?_ _) | (with_reducible refine Kd.C_drew ?_))); (case side2 => exact HC0_2.out); rintro e w15 ⟨rfl, hb⟩; replace BK601 := A_ (blk_below (g := gb601) (o := .cells #[.int .i64 a0_0, .int .i64 a0_1, .slice A0_2 l0_2.length c0_2] 28 (0, 0)) (tk_ BK601) hb); replace HB := A_ (below_step tb_ hb); (try clear hb)))
          go_roundg k1
          case measure => have := HK1.out; omega
          case rel => exact ⟨(wrap64 (x14_1 + 1)), tf_, H', ⟨by have := HK1.out; omega⟩, ⟨tk_ BK601⟩, ⟨tb_⟩⟩
         ·
          replace c13 := Bool.eq_false_iff.mpr c13
          subst c13
          have H1 : (some false) = some r := by rw [if_neg (show ¬ (false = true) by decide)] at H; exact H
          clear H
          have H := H1
          clear H1
          obtain rfl := Option.some.inj H
          have p602 : 0 ≤ (x14_1 : Int) := od_
          have q602 : x14_1 < (l1.length : Int) := od_
          obtain ⟨ad602, e602, hx602_0⟩ := Kd.at_int HR1.out x14_1 p602 q602
          cases e602
          (try replace hx602_0 := (HB.out.cell (World.block_lt_of_cell? w _ hx602_0)).trans hx602_0)
          replace p602 := eq_true p602
          replace q602 := eq_true q602
          obtain ⟨hcz16_0, hcz16_1, hcz16_2, hfz16_0, hfz16_1, hfz16_2⟩ := cf3_ BK601.out
          go_wp2_with (first | (go_at_call 139; (with_reducible refine (impl_within.calls (rd l1 x14_1) 0 (wrap64 (a0_0 - 1)) true _ A10.out).mono ?_); rintro e w' ⟨rfl, ⟨nd, rfl⟩⟩) | (go_at_call 127; (with_reducible refine (impl_Board_has.calls a0_0 a0_1 _ _ l0_2 (rd l1 x14_1) x14_1 false _ ?side1 ?side2 A12.out).mono ?_); (case side1 => repeat (first | exact (Kd.C_below HR0_2.out tb_) | (with_reducible refine Kd.C_alloc ?_ _) | (with_reducible refine Kd.C_drewN ?_ _) | (with_reducible refine Kd.C_drew ?_))); (case side2 => exact HC0_2.out); rintro e w17 ⟨rfl, hb⟩; replace BK601 := A_ (blk_below (g := gb601) (o := .cells #[.int .i64 a0_0, .int .i64 a0_1, .slice A0_2 l0_2.length c0_2] 28 (0, 0)) (tk_ BK601) hb); replace HB := A_ (below_step tb_ hb); (try clear hb)))
          go_ret
          exact ⟨te_, tb_⟩
        ·
         replace c11 := Bool.eq_false_iff.mpr c11
         subst c11
         have H1 : (some false) = some r := by rw [if_neg (show ¬ (false = true) by decide)] at H; exact H
         clear H
         have H := H1
         clear H1
         obtain rfl := Option.some.inj H
         have p602 : 0 ≤ (x14_1 : Int) := od_
         have q602 : x14_1 < (l1.length : Int) := od_
         obtain ⟨ad602, e602, hx602_0⟩ := Kd.at_int HR1.out x14_1 p602 q602
         cases e602
         (try replace hx602_0 := (HB.out.cell (World.block_lt_of_cell? w _ hx602_0)).trans hx602_0)
         replace p602 := eq_true p602
         replace q602 := eq_true q602
         obtain ⟨hcz18_0, hcz18_1, hcz18_2, hfz18_0, hfz18_1, hfz18_2⟩ := cf3_ BK601.out
         go_wp2_with (first | (go_at_call 139; (with_reducible refine (impl_within.calls (rd l1 x14_1) 0 (wrap64 (a0_0 - 1)) false _ A10.out).mono ?_); rintro e w' ⟨rfl, ⟨nd, rfl⟩⟩))
         go_ret
         exact ⟨te_, tb_⟩
      ·
       rw [if_neg c8] at H
       exact absurd H (by simp)
     ·
      rw [if_neg c7] at H
      exact absurd H (by simp)
    ·
     rw [if_neg c6] at H
     have c6b0 := decide_eq_false c6
     clear c6
     obtain rfl := Option.some.inj H
     go_wp2
     go_ret
     exact ⟨te_, tb_⟩
 ·
  rw [if_neg c3] at H
  have c3b0 : ((l1.length : Int) == a0_1) = false := beq_eq_false_iff_ne.mpr c3
  have c3b1 : ((l1.length : Int) != a0_1) = true := bne_iff_ne.mpr c3
  obtain rfl := Option.some.inj H
  go_enter Try.func151, Try.ntmps151
  go_wp2_with (first | (refine gd_ 2 ?_; refine bx_ 2 #[.int .i64 a0_0, .int .i64 a0_1, .slice A0_2 l0_2.length c0_2] 28 ?_; intro gb601 hg w19 hbox hb; have BK601 := A_ (hbox); have GW601 := A_ ((ts_ hg : w.heap.size ≤ gb601)); have GE601 := A_ ((ts_ hg : w.heap.size ≤ gb601)); replace HB := A_ (below_step tb_ hb); clear hb hbox hg; obtain ⟨hcz20_0, hcz20_1, hcz20_2, hfz20_0, hfz20_1, hfz20_2⟩ := cf3_ BK601.out))
  go_ret
  exact ⟨te_, tb_⟩

/-! ### laws_big: function 47 -/
def laws_big.f (l0 : List Int) (l1 : List Int) : Option (Bool) := if (l0.length : Int) > 1048576 then (some true) else (some (decide ((l1.length : Int) > (wrap64 (1048576 - (l0.length : Int))))))
theorem laws_big.calls (A0 : Option Addr) (c0 : Nat) (l0 : List Int) (A1 : Option Addr) (c1 : Nat) (l1 : List Int) (r : Bool) (w : World) (hr0 : Kd.C (Kd.int .u8) w A0 l0.length l0) (hc0 : l0.length ≤ c0) (hr1 : Kd.C (Kd.int .u8) w A1 l1.length l1) (hc1 : l1.length ≤ c1) (h : laws_big.f l0 l1 = some r) :
  Calls Try.prog 47 #[.slice A0 l0.length c0, .slice A1 l1.length c1] w fun e w' => e = .returned (.bool r) ∧ Drawn0 w w' := by
 have HR0 := A_ hr0
 have HC0 := A_ hc0
 clear hr0 hc0
 have HR1 := A_ hr1
 have HC1 := A_ hc1
 clear hr1 hc1
 have H : (if (l0.length : Int) > 1048576 then (some true) else (some (decide ((l1.length : Int) > (wrap64 (1048576 - (l0.length : Int))))))) = some r := h
 clear h
 by_cases c3 : (l0.length : Int) > 1048576
 ·
  rw [if_pos c3] at H
  have c3b0 := decide_eq_true c3
  have c3b1 : decide (1048576 < l0.length) = true := decide_eq_true (by omega)
  clear c3
  obtain rfl := Option.some.inj H
  go_enter Try.func47, Try.ntmps47
  go_wp2
  go_ret
  exact ⟨tf_, dr_⟩
 ·
  rw [if_neg c3] at H
  have c3b0 := decide_eq_false c3
  have c3b1 : decide (1048576 < l0.length) = false := decide_eq_false (by omega)
  clear c3
  obtain rfl := Option.some.inj H
  go_enter Try.func47, Try.ntmps47
  go_wp2
  go_ret
  exact ⟨tf_, dr_⟩

/-! ### laws_kSame: function 56 -/
def laws_kSame.l0 : Nat → List Int → List Int → Int → Int → Option (Bool)
 | 0, _, _, _, _ => none
 | k + 1, x0, x1, x12, x13 => if x13 < x12 then (if 0 ≤ x13 then (if x13 < (x0.length : Int) then (if x13 < (x1.length : Int) then (if (rd x0 x13) = (rd x1 x13) then (laws_kSame.l0 k x0 x1 x12 (wrap64 (x13 + 1))) else (some false)) else (none)) else (none)) else (none)) else (some true)
def laws_kSame.f (k : Nat) (l0 : List Int) (l1 : List Int) : Option (Bool) := if (l0.length : Int) = (l1.length : Int) then (laws_kSame.l0 k l0 l1 (l0.length : Int) 0) else (some false)
theorem laws_kSame.mono_l : ∀ k, (∀ y0 y1 y2 y3, LeO (laws_kSame.l0 k y0 y1 y2 y3) (laws_kSame.l0 (k + 1) y0 y1 y2 y3))
 | 0 => fun _ _ _ _ r h => by simp [laws_kSame.l0] at h
 | k + 1 => by
  have ih0 := laws_kSame.mono_l k
  ·
   intro y0 y1 y2 y3
   unfold laws_kSame.l0
   repeat' first | (with_reducible first | exact ih0 _ _ _ _ | exact LeO.refl _ | exact LeO.none _ | refine LeO.ite ?_ ?_ | refine LeO.bind ?_ (fun _ => ?_)) | exact ih0 _ _ _ _ | exact LeO.none _ | refine LeO.ite ?_ ?_ | refine LeO.bind ?_ (fun _ => ?_)
theorem laws_kSame.mono : ∀ a0 a1 k, LeO (laws_kSame.f k a0 a1) (laws_kSame.f (k + 1) a0 a1) := by
 intro a0 a1 k
 have ih0 := laws_kSame.mono_l k
 unfold laws_kSame.f
 repeat' first | (with_reducible first | exact ih0 _ _ _ _ | exact LeO.refl _ | exact LeO.none _ | refine LeO.ite ?_ ?_ | refine LeO.bind ?_ (fun _ => ?_)) | exact ih0 _ _ _ _ | exact LeO.none _ | refine LeO.ite ?_ ?_ | refine LeO.bind ?_ (fun _ => ?_)
theorem laws_kSame.calls (k : Nat) (A0 : Option Addr) (c0 : Nat) (l0 : List Int) (A1 : Option Addr) (c1 : Nat) (l1 : List Int) (r : Bool) (w : World) (hr0 : Kd.C (Kd.int .i64) w A0 l0.length l0) (hc0 : l0.length ≤ c0) (hr1 : Kd.C (Kd.int .i64) w A1 l1.length l1) (hc1 : l1.length ≤ c1) (h : laws_kSame.f k l0 l1 = some r) :
  Calls Try.prog 56 #[.slice A0 l0.length c0, .slice A1 l1.length c1] w fun e w' => e = .returned (.bool r) ∧ Drawn0 w w' := by
 have HR0 := A_ hr0
 have HC0 := A_ hc0
 clear hr0 hc0
 have HR1 := A_ hr1
 have HC1 := A_ hc1
 clear hr1 hc1
 have H : (if (l0.length : Int) = (l1.length : Int) then (laws_kSame.l0 k l0 l1 (l0.length : Int) 0) else (some false)) = some r := h
 clear h
 by_cases c3 : (l0.length : Int) = (l1.length : Int)
 ·
  rw [if_pos c3] at H
  have c3b0 : ((l0.length : Int) == (l1.length : Int)) = true := beq_iff_eq.mpr c3
  have c3b1 : ((l0.length : Int) != (l1.length : Int)) = false := bne_eq_false_iff_eq.mpr c3
  have c3b2 : (l0.length == l1.length) = true := by first | simpa using c3 | (simp at c3 ⊢; omega)
  clear c3
  have H' := A_ H
  clear H
  go_enter Try.func56, Try.ntmps56
  go_wp2
  repeat (go_quiet (fail); try go_wp2)
  go_loopg [13] k (fun kq v13 w' => ∃ (x13_1 : Int), v13 = .int .i64 x13_1 ∧ Aside0 (laws_kSame.l0 kq l0 l1 (l0.length : Int) x13_1 = some r) ∧ Aside0 (kq ≤ k) ∧ Drawn0 w w')
  case atStart => exact ⟨(0), tf_, H', ⟨Nat.le_refl _⟩, dr_⟩
  case round =>
   clear H'
   try clear c1
   try clear p2
   try clear c3
   try clear c3b0
   try clear c3b1
   try clear c3b2
   obtain ⟨x13_1, rfl, HA, HK1, ⟨m1, rfl⟩⟩ := hrel
   cases gk with
   | zero => exact absurd HA.out (by simp [laws_kSame.l0])
   | succ k1 =>
    have H := HA.out
    clear HA
    simp only [laws_kSame.l0] at H
    by_cases c4 : x13_1 < (l0.length : Int)
    ·
     rw [if_pos c4] at H
     have c4b0 := decide_eq_true c4
     clear c4
     by_cases c5 : 0 ≤ x13_1
     ·
      rw [if_pos c5] at H
      have c5b0 := decide_eq_true c5
      clear c5
      by_cases c6 : x13_1 < (l0.length : Int)
      ·
       rw [if_pos c6] at H
       have c6b0 := decide_eq_true c6
       clear c6
       by_cases c7 : x13_1 < (l1.length : Int)
       ·
        rw [if_pos c7] at H
        have c7b0 := decide_eq_true c7
        clear c7
        by_cases c8 : (rd l0 x13_1) = (rd l1 x13_1)
        ·
         rw [if_pos c8] at H
         have c8b0 : ((rd l0 x13_1) == (rd l1 x13_1)) = true := beq_iff_eq.mpr c8
         have c8b1 : ((rd l0 x13_1) != (rd l1 x13_1)) = false := bne_eq_false_iff_eq.mpr c8
         clear c8
         have H' := A_ H
         clear H
         have p805 : 0 ≤ (x13_1 : Int) := od_
         have q805 : x13_1 < (l0.length : Int) := od_
         obtain ⟨ad805, e805, hx805_0⟩ := Kd.at_int HR0.out x13_1 p805 q805
         cases e805
         replace p805 := eq_true p805
         replace q805 := eq_true q805
         have p806 : 0 ≤ (x13_1 : Int) := od_
         have q806 : x13_1 < (l1.length : Int) := od_
         obtain ⟨ad806, e806, hx806_0⟩ := Kd.at_int HR1.out x13_1 p806 q806
         cases e806
         replace p806 := eq_true p806
         replace q806 := eq_true q806
         go_wp2
         repeat (go_quiet (fail); try go_wp2)
         go_roundg k1
         case measure => have := HK1.out; omega
         case rel => exact ⟨(wrap64 (x13_1 + 1)), tf_, H', ⟨by have := HK1.out; omega⟩, dr_⟩
        ·
         rw [if_neg c8] at H
         have c8b0 : ((rd l0 x13_1) == (rd l1 x13_1)) = false := beq_eq_false_iff_ne.mpr c8
         have c8b1 : ((rd l0 x13_1) != (rd l1 x13_1)) = true := bne_iff_ne.mpr c8
         obtain rfl := Option.some.inj H
         have p805 : 0 ≤ (x13_1 : Int) := od_
         have q805 : x13_1 < (l0.length : Int) := od_
         obtain ⟨ad805, e805, hx805_0⟩ := Kd.at_int HR0.out x13_1 p805 q805
         cases e805
         replace p805 := eq_true p805
         replace q805 := eq_true q805
         have p806 : 0 ≤ (x13_1 : Int) := od_
         have q806 : x13_1 < (l1.length : Int) := od_
         obtain ⟨ad806, e806, hx806_0⟩ := Kd.at_int HR1.out x13_1 p806 q806
         cases e806
         replace p806 := eq_true p806
         replace q806 := eq_true q806
         go_wp2
         repeat (go_quiet (fail); try go_wp2)
         go_ret
         exact ⟨tf_, dr_⟩
       ·
        rw [if_neg c7] at H
        exact absurd H (by simp)
      ·
       rw [if_neg c6] at H
       exact absurd H (by simp)
     ·
      rw [if_neg c5] at H
      exact absurd H (by simp)
    ·
     rw [if_neg c4] at H
     have c4b0 := decide_eq_false c4
     clear c4
     obtain rfl := Option.some.inj H
     go_wp2
     repeat (go_quiet (fail); try go_wp2)
     go_ret
     exact ⟨tf_, dr_⟩
 ·
  rw [if_neg c3] at H
  have c3b0 : ((l0.length : Int) == (l1.length : Int)) = false := beq_eq_false_iff_ne.mpr c3
  have c3b1 : ((l0.length : Int) != (l1.length : Int)) = true := bne_iff_ne.mpr c3
  have c3b2 : (l0.length == l1.length) = false := by first | simpa using c3 | (simp at c3 ⊢; omega)
  obtain rfl := Option.some.inj H
  go_enter Try.func56, Try.ntmps56
  go_wp2
  repeat (go_quiet (fail); try go_wp2)
  go_ret
  exact ⟨tf_, dr_⟩

/-! ### impl_kind: function 189 -/
mutual
def impl_kind.j0 : Nat → Int → Int → FnT126 → Bool → Option (Int × Bool)
 | 0, _, _, _, _ => none
 | k + 1, x0, x1, x2, x21 => if x21 = true then (some (0, false)) else (impl_kind.l0 k x1 x2 (([1] : List Int)) x0 0)
def impl_kind.l0 : Nat → Int → FnT126 → List Int → Int → Int → Option (Int × Bool)
 | 0, _, _, _, _, _ => none
 | k + 1, x1, x2, x8, x23, x24 => if x24 < x23 then (if 0 ≤ (wrap64 (x24 + 2)) then (if (wrap64 (x24 + 2) : Int).toNat ≤ 35184372088832 then (impl_kind.l1 k x1 x2 x24 (List.replicate (wrap64 (x24 + 2) : Int).toNat 0) x23 x24 x8 (x8.length : Int) 0) else (none)) else (none)) else (if 0 ≤ x1 then (if x1 < (x8.length : Int) then (some (rd x8 x1, true)) else (none)) else (none))
def impl_kind.l1 : Nat → Int → FnT126 → Int → List Int → Int → Int → List Int → Int → Int → Option (Int × Bool)
 | 0, _, _, _, _, _, _, _, _, _ => none
 | k + 1, x1, x2, x9, x10, x23, x24, x30, x31, x32 => if x32 < x31 then (if 0 ≤ x32 then (if x32 < (x30.length : Int) then (if x32 < (x10.length : Int) then ((FnCall126.f x9 x32 x2).bind fun t1368 => ((some (x10.set (x32 : Int).toNat (wrap64 ((rd x10 x32) + (wrap64 ((rd x30 x32) * t1368)))) : List Int)).bind fun y1369 => (if 0 ≤ (wrap64 (x32 + 1)) then (if (wrap64 (x32 + 1)) < (x10.length : Int) then (impl_kind.l1 k x1 x2 x9 (y1369.set ((wrap64 (x32 + 1)) : Int).toNat (wrap64 ((rd y1369 (wrap64 (x32 + 1))) + (rd x30 x32)))) x23 x24 x30 x31 (wrap64 (x32 + 1))) else (none)) else (none)))) else (none)) else (none)) else (none)) else (impl_kind.l0 k x1 x2 x10 x23 (wrap64 (x24 + 1)))
end
def impl_kind.f (k : Nat) (a0 : Int) (a1 : Int) (a2 : FnT126) : Option (Int × Bool) := (impl_within.f a0 0 10).bind fun t1357 => (if t1357 = true then ((impl_within.f a1 0 a0).bind fun t1358 => (impl_kind.j0 k a0 a1 a2 (!t1358))) else (impl_kind.j0 k a0 a1 a2 true))
theorem impl_kind.mono_l : ∀ k, (∀ y0 y1 y2 y3, LeO (impl_kind.j0 k y0 y1 y2 y3) (impl_kind.j0 (k + 1) y0 y1 y2 y3)) ∧ (∀ y0 y1 y2 y3 y4, LeO (impl_kind.l0 k y0 y1 y2 y3 y4) (impl_kind.l0 (k + 1) y0 y1 y2 y3 y4)) ∧ (∀ y0 y1 y2 y3 y4 y5 y6 y7 y8, LeO (impl_kind.l1 k y0 y1 y2 y3 y4 y5 y6 y7 y8) (impl_kind.l1 (k + 1) y0 y1 y2 y3 y4 y5 y6 y7 y8))
 | 0 => ⟨fun _ _ _ _ r h => by simp [impl_kind.j0] at h, fun _ _ _ _ _ r h => by simp [impl_kind.l0] at h, fun _ _ _ _ _ _ _ _ _ r h => by simp [impl_kind.l1] at h⟩
 | k + 1 => by
  obtain ⟨ih0, ih1, ih2⟩ := impl_kind.mono_l k
  refine ⟨?_, ?_, ?_⟩
  ·
   intro y0 y1 y2 y3
   unfold impl_kind.j0
   repeat' first | (with_reducible first | exact ih0 _ _ _ _ | exact ih1 _ _ _ _ _ | exact ih2 _ _ _ _ _ _ _ _ _ | exact LeO.refl _ | exact LeO.none _ | refine LeO.ite ?_ ?_ | refine LeO.bind ?_ (fun _ => ?_)) | exact ih0 _ _ _ _ | exact ih1 _ _ _ _ _ | exact ih2 _ _ _ _ _ _ _ _ _ | exact LeO.none _ | refine LeO.ite ?_ ?_ | refine LeO.bind ?_ (fun _ => ?_)
  ·
   intro y0 y1 y2 y3 y4
   unfold impl_kind.l0
   repeat' first | (with_reducible first | exact ih0 _ _ _ _ | exact ih1 _ _ _ _ _ | exact ih2 _ _ _ _ _ _ _ _ _ | exact LeO.refl _ | exact LeO.none _ | refine LeO.ite ?_ ?_ | refine LeO.bind ?_ (fun _ => ?_)) | exact ih0 _ _ _ _ | exact ih1 _ _ _ _ _ | exact ih2 _ _ _ _ _ _ _ _ _ | exact LeO.none _ | refine LeO.ite ?_ ?_ | refine LeO.bind ?_ (fun _ => ?_)
  ·
   intro y0 y1 y2 y3 y4 y5 y6 y7 y8
   unfold impl_kind.l1
   repeat' first | (with_reducible first | exact ih0 _ _ _ _ | exact ih1 _ _ _ _ _ | exact ih2 _ _ _ _ _ _ _ _ _ | exact LeO.refl _ | exact LeO.none _ | refine LeO.ite ?_ ?_ | refine LeO.bind ?_ (fun _ => ?_)) | exact ih0 _ _ _ _ | exact ih1 _ _ _ _ _ | exact ih2 _ _ _ _ _ _ _ _ _ | exact LeO.none _ | refine LeO.ite ?_ ?_ | refine LeO.bind ?_ (fun _ => ?_)
theorem impl_kind.mono : ∀ a0 a1 a2 k, LeO (impl_kind.f k a0 a1 a2) (impl_kind.f (k + 1) a0 a1 a2) := by
 intro a0 a1 a2 k
 obtain ⟨ih0, ih1, ih2⟩ := impl_kind.mono_l k
 unfold impl_kind.f
 repeat' first | (with_reducible first | exact ih0 _ _ _ _ | exact ih1 _ _ _ _ _ | exact ih2 _ _ _ _ _ _ _ _ _ | exact LeO.refl _ | exact LeO.none _ | refine LeO.ite ?_ ?_ | refine LeO.bind ?_ (fun _ => ?_)) | exact ih0 _ _ _ _ | exact ih1 _ _ _ _ _ | exact ih2 _ _ _ _ _ _ _ _ _ | exact LeO.none _ | refine LeO.ite ?_ ?_ | refine LeO.bind ?_ (fun _ => ?_)
def impl_kind.T11 : Bool × List (List Nat × List Nat) := (true, [([], []), ([], []), ([0, 1], [0, 1]), ([2], [2]), ([], []), ([], []), ([], []), ([], []), ([5, 6, 7], [5, 6, 7]), ([4, 8], [4, 8]), ([3, 9], [3, 9]), ([0, 1, 0, 1, 2, 3, 4, 5, 6, 7, 8, 9, 10], [0, 1]), ([11, 10, 8, 0, 1, 2, 3, 4, 5, 6, 7, 8, 9, 10], [10, 11])])
def impl_kind.B11 : List Nat := [0, 0, 3, 7, 0, 0, 0, 0, 224, 496, 1023, 2047, 4095]
theorem impl_kind.tab11 : rtab .any (opsOf Try.f189 11) = impl_kind.T11 := by kernel_rfl
theorem impl_kind.bits11 : waitsOk impl_kind.T11.2 impl_kind.B11 = true := by kernel_rfl
theorem impl_kind.calls (k : Nat) (a0 : Int) (a1 : Int) (v2 : Value) (a2 : FnT126) (r1 : Int) (r2 : Bool) (w : World) (hF2 : FnOk126 w v2 a2) (h : impl_kind.f k a0 a1 a2 = some (r1, r2)) :
  Calls Try.prog 189 #[.int .i64 a0, .int .i64 a1, v2] w fun e w' => e = .returned (.tuple #[.int .i64 r1, .bool r2]) ∧ Below w.heap.size w w' := by
 have HF2 := A_ hF2
 clear hF2
 have HB := A_ (Below.refl w.heap.size w)
 have H : ((impl_within.f a0 0 10).bind fun t1357 => (if t1357 = true then ((impl_within.f a1 0 a0).bind fun t1358 => (impl_kind.j0 k a0 a1 a2 (!t1358))) else (impl_kind.j0 k a0 a1 a2 true))) = some (r1, r2) := h
 clear h
 have HC4 := A_ H
 clear H
 go_enter Try.func189, Try.ntmps189
 go_upto_region 1 with (fail)
 go_cut [21] (fun v21 wc => ∃ (kq : Nat) (x21_3 : Bool), v21 = .bool x21_3 ∧ Aside0 (impl_kind.j0 kq a0 a1 a2 x21_3 = some (r1, r2)) ∧ Aside0 (kq ≤ k) ∧ Aside0 (Below w.heap.size w wc))
 case first =>
  have H := HC4.out
  clear HC4
  replace H := Option.bind_eq_some_iff.mp H
  obtain ⟨t1357, A50, H⟩ := H
  replace H : (if t1357 = true then ((impl_within.f a1 0 a0).bind fun t1358 => (impl_kind.j0 k a0 a1 a2 (!t1358))) else (impl_kind.j0 k a0 a1 a2 true)) = some (r1, r2) := H
  have A5 := A_ A50
  clear A50
  by_cases c6 : t1357 = true
  ·
   subst c6
   have H1 : ((impl_within.f a1 0 a0).bind fun t1358 => (impl_kind.j0 k a0 a1 a2 (!t1358))) = some (r1, r2) := by rw [if_pos rfl] at H; exact H
   clear H
   have H := H1
   clear H1
   replace H := Option.bind_eq_some_iff.mp H
   obtain ⟨t1358, A70, H⟩ := H
   replace H : (impl_kind.j0 k a0 a1 a2 (!t1358)) = some (r1, r2) := H
   have A7 := A_ A70
   clear A70
   have H' := A_ H
   clear H
   go_wp2_with (first | (refine gc_ 139 ?_; refine goesT_ (some 14) Try.func139 #[.int .i64 a0, .int .i64 0, .int .i64 10] ?_; (with_reducible refine (impl_within.calls a0 0 10 true _ A5.out).mono ?_); rintro e w' ⟨rfl, ⟨nd, rfl⟩⟩; refine ⟨_, rfl, ?_⟩) | (go_at_call 139; (with_reducible refine (impl_within.calls a1 0 a0 t1358 _ A7.out).mono ?_); rintro e w' ⟨rfl, ⟨nd, rfl⟩⟩))
   go_meet
   case rel => exact ⟨_, (!t1358), tf_, H', ⟨by first | omega | exact Nat.le_refl _⟩, ⟨tb_⟩⟩
  ·
   replace c6 := Bool.eq_false_iff.mpr c6
   subst c6
   have H1 : (impl_kind.j0 k a0 a1 a2 true) = some (r1, r2) := by rw [if_neg (show ¬ (false = true) by decide)] at H; exact H
   clear H
   have H := H1
   clear H1
   have H' := A_ H
   clear H
   go_wp2_with (first | (refine gc_ 139 ?_; refine goesT_ (some 14) Try.func139 #[.int .i64 a0, .int .i64 0, .int .i64 10] ?_; (with_reducible refine (impl_within.calls a0 0 10 false _ A5.out).mono ?_); rintro e w' ⟨rfl, ⟨nd, rfl⟩⟩; refine ⟨_, rfl, ?_⟩))
   go_meet
   case rel => exact ⟨_, (true), tf_, H', ⟨by first | omega | exact Nat.le_refl _⟩, ⟨tb_⟩⟩
 case rest =>
  clear HC4
  try clear c1
  try clear p2
  try clear c6
  obtain ⟨kq, x21_3, rfl, HA, HJ3, HB⟩ := hcut
  cases kq with
  | zero => exact absurd HA.out (by simp [impl_kind.j0])
  | succ kj3 =>
   have H := HA.out
   clear HA
   simp only [impl_kind.j0] at H
   by_cases c8 : x21_3 = true
   ·
    subst c8
    have H1 : (some (0, false)) = some (r1, r2) := by rw [if_pos rfl] at H; exact H
    clear H
    have H := H1
    clear H1
    simp only [Option.some.injEq, Prod.mk.injEq] at H
    obtain ⟨rfl, rfl⟩ := H
    go_wp2
    go_ret2
    exact ⟨te_, tb_⟩
   ·
    replace c8 := Bool.eq_false_iff.mpr c8
    subst c8
    have H1 : (impl_kind.l0 kj3 a1 a2 (([1] : List Int)) a0 0) = some (r1, r2) := by rw [if_neg (show ¬ (false = true) by decide)] at H; exact H
    clear H
    have H := H1
    clear H1
    obtain ⟨y1359, hy1359⟩ : ∃ y_ : List Int, y_ = (([1] : List Int)) := ⟨_, rfl⟩
    replace H : (impl_kind.l0 kj3 a1 a2 y1359 a0 0) = some (r1, r2) := ty_ hy1359 H
    have Ny1359 := A_ hy1359
    clear hy1359
    have H' := A_ H
    clear H
    go_wp2_with (first | (refine gd_ 22 ?_; refine Kd.R_lit (Kd.int .i64) _ 3 ?hg (N := 22) ?hd (xs := ([1] : List Int)) (inner := [.int .i64 1]) (ok := fun _ => True) (okp := fun _ => True) ?hr ?hp (fun _ hk => hk) trivial (Below.refl _ _) (Nat.le_refl _) (by simp) ?_; (case hd => rfl); (case hg => rfl); (case hr => first | (go_simp; done) | (go_simp; rfl)); (case hp => exact (Reps.one (show Kd.M (Kd.int .i64) _ _ _ 1 [.int .i64 1] from rfl) (Reps.none _ _))); intro v1360 w9 ho10 hb hg_ hnew_; clear hg_ hnew_; (first | rw [← Ny1359.out] at ho10 | (simp only [Int.reduceToNat] at ho10; rw [← Ny1359.out] at ho10)); have HO1361 := A_ (Kd.R_lower ho10 (below_size tb_)); replace HB := A_ (below_step tb_ hb); clear hb ho10))
    go_loopg [8, 24] kj3 (fun kq v8 v24 w' => ∃ (x8_2 : List Int) (x24_2 : Int), v24 = .int .i64 x24_2 ∧ Aside0 (impl_kind.l0 kq a1 a2 x8_2 a0 x24_2 = some (r1, r2)) ∧ Aside0 (kq ≤ kj3) ∧ Aside0 (Kd.R (Kd.int .i64) 3 w' w.heap.size (fun _ => True) v8 x8_2) ∧ Aside0 (Below w.heap.size w w'))
    case atStart => exact ⟨(y1359), (0), tf_, H', ⟨Nat.le_refl _⟩, ⟨tr_x HO1361.out⟩, ⟨tb_⟩⟩
    case round =>
     clear H'
     try clear c1
     try clear p2
     try clear c6
     try clear c8
     try clear p2
     obtain ⟨x8_2, x24_2, rfl, HA, HK2, HO_8, HB⟩ := hrel
     cases gk with
     | zero => exact absurd HA.out (by simp [impl_kind.l0])
     | succ k2 =>
      have H := HA.out
      clear HA
      simp only [impl_kind.l0] at H
      by_cases c11 : x24_2 < a0
      ·
       rw [if_pos c11] at H
       have c11b0 := decide_eq_true c11
       clear c11
       obtain ⟨ji12, hji12⟩ : ∃ j_ : Int, (wrap64 (x24_2 + 2)) = j_ := ⟨_, rfl⟩
       replace H : (if 0 ≤ (ji12) then (if (ji12 : Int).toNat ≤ 35184372088832 then (impl_kind.l1 k2 a1 a2 x24_2 (List.replicate (ji12 : Int).toNat 0) a0 x24_2 x8_2 (x8_2.length : Int) 0) else (none)) else (none)) = some (r1, r2) := by first | (rw [hji12] at H; exact H) | (simp only [hji12] at H ⊢; exact H)
       have hji12w : (IntKind.i64.wrap (x24_2 + 2)) = ji12 := (i64_w _).trans hji12
       by_cases c13 : 0 ≤ (ji12)
       ·
        rw [if_pos c13] at H
        have c13b0 := eq_true c13
        have c13b1 := decide_eq_true c13
        clear c13
        by_cases c14 : (ji12 : Int).toNat ≤ 35184372088832
        ·
         rw [if_pos c14] at H
         have c14b0 := eq_true c14
         have c14b1 := decide_eq_true c14
         clear c14
         obtain ⟨y1363, hy1363⟩ : ∃ y_ : List Int, y_ = (List.replicate (ji12 : Int).toNat 0) := ⟨_, rfl⟩
         replace H : (impl_kind.l1 k2 a1 a2 x24_2 y1363 a0 x24_2 x8_2 (x8_2.length : Int) 0) = some (r1, r2) := ty_ hy1363 H
         have Ny1363 := A_ hy1363
         clear hy1363
         have H' := A_ H
         clear H
         go_wp2_with (first | (refine gd_ 29 ?_; refine Kd.R_make (Kd.int .i64) _ 3 rfl (N := 29) rfl 22 _ _ rfl ji12 rfl rfl Try.underlying22 (.int .i64 0) 8 info3 rfl (by decide) (by omega) 0 (ok := fun _ => True) (okp := fun _ => True) rfl (fun _ hk => hk) trivial (od_) (Nat.le_trans (Nat.mul_le_mul_right _ (od_ : ji12.toNat ≤ 35184372088832)) (by omega)) (Below.refl _ _) (Nat.le_refl _) ?_; intro v1364 w15 ho16 hb hg_ hnew_; clear hg_ hnew_; (first | rw [← Ny1363.out] at ho16 | (simp only [Int.reduceToNat] at ho16; rw [← Ny1363.out] at ho16)); have HO1365 := A_ (Kd.R_lower (Kd.R_new' ho16 (Kd.R_lt (tr_x HO_8.out))) (below_size tb_)); replace HO_8 := A_ (Kd.R_elder' (tr_x HO_8.out) (Kd.R_base ho16) hb); replace HB := A_ (below_step tb_ hb); clear hb ho16; obtain ⟨Ao17, co17, eo17⟩ := Kd.R_slice HO_8.out; subst eo17))
         go_loopg [32] k2 (fun kq v32 w' => ∃ (x10_3 : List Int) (x32_3 : Int), v32 = .int .i64 x32_3 ∧ Aside0 (impl_kind.l1 kq a1 a2 x24_2 x10_3 a0 x24_2 x8_2 (x8_2.length : Int) x32_3 = some (r1, r2)) ∧ Aside0 (kq ≤ k2) ∧ Aside0 (Kd.R (Kd.int .i64) 3 w' w.heap.size (fun k_ => some k_ ≠ ((.slice Ao17 x8_2.length co17) : Value).ownBlock) v1364 x10_3) ∧ Aside0 (Kd.R (Kd.int .i64) 3 w' w.heap.size (fun k_ => some k_ ≠ (v1364 : Value).ownBlock) (.slice Ao17 x8_2.length co17) x8_2) ∧ Aside0 (Below w.heap.size w w'))
         case atStart => exact ⟨(y1363), (0), tf_, H', ⟨Nat.le_refl _⟩, ⟨by (with_reducible repeat (first | apply Kd.R_alloc | apply Kd.R_drewN | apply Kd.R_drew)); exact Kd.R_mono HO1365.out (fun _ hk => hk.2)⟩, ⟨by (with_reducible repeat (first | apply Kd.R_alloc | apply Kd.R_drewN | apply Kd.R_drew)); exact Kd.R_mono HO_8.out (fun _ hk => hk.2)⟩, ⟨tb_⟩⟩
         case round =>
          clear H'
          try clear c1
          try clear p2
          try clear c6
          try clear p6
          try clear c8
          try clear c11
          try clear c11b0
          try clear c13
          try clear c13b0
          try clear c13b1
          try clear c14
          try clear c14b0
          try clear c14b1
          try clear p2
          obtain ⟨x10_3, x32_3, rfl, HA, HK3, HO_10, HO_30, HB⟩ := hrel
          cases gk with
          | zero => exact absurd HA.out (by simp [impl_kind.l1])
          | succ k3 =>
           have H := HA.out
           clear HA
           simp only [impl_kind.l1] at H
           by_cases c18 : x32_3 < (x8_2.length : Int)
           ·
            rw [if_pos c18] at H
            have c18b0 := decide_eq_true c18
            clear c18
            by_cases c19 : 0 ≤ x32_3
            ·
             rw [if_pos c19] at H
             have c19b0 := decide_eq_true c19
             clear c19
             by_cases c20 : x32_3 < (x8_2.length : Int)
             ·
              rw [if_pos c20] at H
              have c20b0 := decide_eq_true c20
              clear c20
              by_cases c21 : x32_3 < (x10_3.length : Int)
              ·
               rw [if_pos c21] at H
               have c21b0 := decide_eq_true c21
               clear c21
               replace H := Option.bind_eq_some_iff.mp H
               obtain ⟨t1368, A220, H⟩ := H
               replace H : ((some (x10_3.set (x32_3 : Int).toNat (wrap64 ((rd x10_3 x32_3) + (wrap64 ((rd x8_2 x32_3) * t1368)))) : List Int)).bind fun y1369 => (if 0 ≤ (wrap64 (x32_3 + 1)) then (if (wrap64 (x32_3 + 1)) < (x10_3.length : Int) then (impl_kind.l1 k3 a1 a2 x24_2 (y1369.set ((wrap64 (x32_3 + 1)) : Int).toNat (wrap64 ((rd y1369 (wrap64 (x32_3 + 1))) + (rd x8_2 x32_3)))) a0 x24_2 x8_2 (x8_2.length : Int) (wrap64 (x32_3 + 1))) else (none)) else (none))) = some (r1, r2) := H
               have A22 := A_ A220
               clear A220
               obtain ⟨y1369, hy1369⟩ : ∃ y_ : List Int, y_ = (x10_3.set (x32_3 : Int).toNat (wrap64 ((rd x10_3 x32_3) + (wrap64 ((rd x8_2 x32_3) * t1368))))) := ⟨_, rfl⟩
               replace H : (if 0 ≤ (wrap64 (x32_3 + 1)) then (if (wrap64 (x32_3 + 1)) < (x10_3.length : Int) then (impl_kind.l1 k3 a1 a2 x24_2 (y1369.set ((wrap64 (x32_3 + 1)) : Int).toNat (wrap64 ((rd y1369 (wrap64 (x32_3 + 1))) + (rd x8_2 x32_3)))) a0 x24_2 x8_2 (x8_2.length : Int) (wrap64 (x32_3 + 1))) else (none)) else (none)) = some (r1, r2) := ty_ hy1369 H
               have Ny1369 := A_ hy1369
               clear hy1369
               obtain ⟨ji24, hji24⟩ : ∃ j_ : Int, (wrap64 (x32_3 + 1)) = j_ := ⟨_, rfl⟩
               replace H : (if 0 ≤ (ji24) then (if (ji24) < (x10_3.length : Int) then (impl_kind.l1 k3 a1 a2 x24_2 (y1369.set ((ji24) : Int).toNat (wrap64 ((rd y1369 (ji24)) + (rd x8_2 x32_3)))) a0 x24_2 x8_2 (x8_2.length : Int) ji24) else (none)) else (none)) = some (r1, r2) := by first | (rw [hji24] at H; exact H) | (simp only [hji24] at H ⊢; exact H)
               (try rw [hji24] at A22)
               have hji24w : (IntKind.i64.wrap (x32_3 + 1)) = ji24 := (i64_w _).trans hji24
               by_cases c25 : 0 ≤ (ji24)
               ·
                rw [if_pos c25] at H
                have c25b0 := decide_eq_true c25
                clear c25
                by_cases c26 : (ji24) < (x10_3.length : Int)
                ·
                 rw [if_pos c26] at H
                 have c26b0 := decide_eq_true c26
                 clear c26
                 obtain ⟨y1371, hy1371⟩ : ∃ y_ : List Int, y_ = (y1369.set ((ji24) : Int).toNat (wrap64 ((rd y1369 (ji24)) + (rd x8_2 x32_3)))) := ⟨_, rfl⟩
                 replace H : (impl_kind.l1 k3 a1 a2 x24_2 y1371 a0 x24_2 x8_2 (x8_2.length : Int) ji24) = some (r1, r2) := ty_ hy1371 H
                 have Ny1371 := A_ hy1371
                 clear hy1371
                 have H' := A_ H
                 clear H
                 have p1366 : 0 ≤ (x32_3 : Int) := od_
                 have q1366 : x32_3 < (x8_2.length : Int) := od_
                 obtain ⟨ad1366, e1366, hx1366_0⟩ := Kd.at_int (Kd.R_reads' HO_30.out).2.2 x32_3 p1366 q1366
                 cases e1366
                 replace p1366 := eq_true p1366
                 replace q1366 := eq_true q1366
                 try go_wp2
                 have n0_ := A_ (Kd.R_drew HO_10.out)
                 have n1_ := A_ (Kd.R_drew HO_30.out)
                 have n2_ := A_ (below_drew1 HB.out)
                 clear HO_10
                 clear HO_30
                 clear HB
                 have HO_10 := n0_
                 have HO_30 := n1_
                 have HB := n2_
                 clear n0_ n1_ n2_
                 obtain ⟨Ao29, co29, eo29⟩ := Kd.R_slice HO_10.out
                 (first | subst eo29 | (injection eo29 with f1_ f2_ f3_; have f4_ := f1_.symm; have f5_ := f3_.symm; clear f1_ f2_ f3_; subst f4_; subst f5_))
                 have p1367 : 0 ≤ (x32_3 : Int) := od_
                 have q1367 : x32_3 < (x10_3.length : Int) := od_
                 obtain ⟨ad1367, e1367, hx1367_0⟩ := Kd.at_int (Kd.R_reads' HO_10.out).2.2 x32_3 p1367 q1367
                 cases e1367
                 replace p1367 := eq_true p1367
                 replace q1367 := eq_true q1367
                 refine start_ (n := 13) (S := fun w' => w'.cell? (ad1367.add (x32_3).toNat) = some (.int .i64 (rd x10_3 x32_3))) (ds := [12]) (Fn.bl 13 0) (by kernel_rfl) rfl rfl (hx1367_0) (fun hHeld => ?_); refine with_tabW impl_kind.tab11 impl_kind.bits11 (fun HT_ HW_ => ?_)
                 generalize wr.drew = w28 at HO_10 HO_30 HB hx1367_0 hHeld ⊢
                 refine pq_ 0 (some 37) (Fn.bl 13 1) HT_.out ?_
                 refine pq_ 1 (some 38) (Fn.bl 13 3) HT_.out ?_
                 refine pq_ 2 (some 39) (Fn.bl 13 7) HT_.out ?_
                 refine pq_ 4 (some 41) (Fn.bl 13 23) HT_.out ?_
                 refine pq_ 5 (some 42) (Fn.bl 13 55) HT_.out ?_
                 refine pq_ 6 (some 43) (Fn.bl 13 119) HT_.out ?_
                 refine pq_ 7 (some 44) (Fn.bl 13 247) HT_.out ?_
                 refine take_ (i := 3) (N := some 40) (v := ?_) (a' := ?_) (Fn.bl 13 255) rfl rfl (take_ofW HT_.out HW_.out (by kernel_rfl)) (fun _ _ _ h => h) (Or.inl ⟨by rfl, ?_⟩) hHeld ?_ ?_
                 rotate_left
                 ·
                  intro w' s0
                  go_simp
                  with_reducible rfl
                 rotate_left
                 ·
                  simp only [Act.put, List.setIfInBounds_toArray, List.set_cons_zero, List.set_cons_succ, i64_w, i32_w]
                  rfl
                 refine one_ (i := 8) (N := some 45) (Fn.bl 13 511) rfl rfl (one_of HT_.out (by kernel_rfl)) (by decide) (fun K hK => ?_)
                 refine Fn.goesVk_ v2 #[.int .i64 x24_2, .int .i64 x32_3] (by rfl) rfl rfl rfl ta_ ?_
                 with_reducible refine (FnCall126.calls x24_2 x32_3 v2 a2 t1368 _ ?side1 A22.out).mono ?_
                 (case side1 => exact FnOk126.mono HF2.out tb_)
                 rintro e w30 ⟨rfl, hb⟩
                 have HS0_ := (hb.cell (World.block_lt_of_cell? _ _ (hHeld))).trans (hHeld)
                 refine ⟨_, rfl, ?_⟩
                 have n0_ := A_ (Kd.R_below (tr_x HO_10.out) hb)
                 have n1_ := A_ (Kd.R_below (tr_x HO_30.out) hb)
                 have n2_ := A_ (below_step tb_ hb)
                 clear HO_10
                 clear HO_30
                 clear HB
                 have HO_10 := n0_
                 have HO_30 := n1_
                 have HB := n2_
                 clear n0_ n1_ n2_
                 (try clear hb)
                 (try clear hb2)
                 (try clear hk)
                 (try clear hi)
                 have p23 : 0 ≤ (x32_3 : Int) := od_
                 have q23 : (x32_3 : Int) < ((x10_3.length : Int) : Int) := od_
                 obtain ⟨go23, co23, eo23, gb23, gl23, cl23, HG23⟩ := Kd.R_form HO_10.out (by omega)
                 (first | cases eo23 | (injection eo23 with ea_ en_ ec_; (first | subst ea_ | (injection ea_ with ea_; subst ea_)); subst ec_; clear en_))
                 have GB23 := A_ gb23
                 have GG23 := A_ HG23
                 clear gb23 gl23 HG23
                 (first | simp only [add_plain] at hx1367_0 | skip)
                 obtain ⟨hx23_0, hf23_0⟩ := Kd.R_celln 0 HO_10.out (x32_3 : Int) p23 q23
                 replace p23 := eq_true p23
                 replace q23 := eq_true q23
                 have HP31 := Kd.R_putn HO_10.out (x32_3 : Int) (wrap64 ((rd x10_3 x32_3) + (wrap64 ((rd x8_2 x32_3) * t1368))))
                 rw [← Ny1369.out] at HP31
                 have HQ31 := A_ HP31
                 clear HP31
                 refine hK.out _ _ (HS0_) (fun hHeld => ?_)
                 clear hK K
                 refine norm_ (a' := ?_) ?_ ?_
                 rotate_left
                 ·
                  show Act.put _ (some 45) _ = _
                  simp only [Act.put, List.setIfInBounds_toArray, List.set_cons_zero, List.set_cons_succ, i64_w, i32_w]
                  rfl
                 refine pq_ 9 (some 46) (Fn.bl 13 1023) HT_.out ?_
                 refine pq_ 10 (some 47) (Fn.bl 13 2047) HT_.out ?_
                 refine pq_ 11 (some 48) (Fn.bl 13 4095) HT_.out ?_
                 refine last_ (i := 12) (N := none) (Fn.bl 13 8191) rfl rfl (one_of HT_.out (by kernel_rfl)) (by decide) (fun K hK => ?_)
                 refine skip_ (w1 := ?_) (by rfl) rfl ?_ ?_
                 rotate_left
                 ·
                  go_simp
                  rfl
                 refine hK.out _ _ ?_
                 clear hK K
                 refine done_ (done_of HT_.out (by kernel_rfl)) ?_
                 have n0_ : Aside0 (Kd.R (Kd.int .i64) 3 (w30.setCell ⟨go23, (x32_3 : Int).toNat, none⟩ (.int .i64 (wrap64 ((rd x10_3 x32_3) + (wrap64 ((rd x8_2 x32_3) * t1368)))))) w.heap.size (fun k_ => some k_ ≠ (.slice (some ad1366) x8_2.length co17 : Value).ownBlock) (.slice (some ⟨go23, 0, none⟩) x10_3.length co29) y1369) := ⟨tr_x HQ31.out⟩
                 have n1_ : Aside0 (Kd.R (Kd.int .i64) 3 (w30.setCell ⟨go23, (x32_3 : Int).toNat, none⟩ (.int .i64 (wrap64 ((rd x10_3 x32_3) + (wrap64 ((rd x8_2 x32_3) * t1368)))))) w.heap.size (fun k_ => some k_ ≠ (.slice (some ⟨go23, 0, none⟩) x10_3.length co29 : Value).ownBlock) (.slice (some ad1366) x8_2.length co17) x8_2) := ⟨by (with_reducible repeat (first | apply Kd.R_alloc | apply Kd.R_drewN | apply Kd.R_drew)); exact Kd.R_mono (Kd.R_far (p := ⟨go23, (x32_3 : Int).toNat, none⟩) (Kd.R_mono HO_30.out (fun k_ hk => (⟨hk, fun e_ => hk (by rw [e_]; rfl)⟩ : _ ∧ k_ ≠ go23))) (fun _ hk => hk.2) (.int .i64 (wrap64 ((rd x10_3 x32_3) + (wrap64 ((rd x8_2 x32_3) * t1368)))))) (fun _ hk => hk.1)⟩
                 have n2_ : Aside0 (Below w.heap.size w (w30.setCell ⟨go23, (x32_3 : Int).toNat, none⟩ (.int .i64 (wrap64 ((rd x10_3 x32_3) + (wrap64 ((rd x8_2 x32_3) * t1368))))))) := ⟨tb_⟩
                 (try clear HO_10)
                 (try clear HO_30)
                 (try clear HB)
                 generalize (w30.setCell ⟨go23, (x32_3 : Int).toNat, none⟩ (.int .i64 (wrap64 ((rd x10_3 x32_3) + (wrap64 ((rd x8_2 x32_3) * t1368)))))) = w32 at n0_ n1_ n2_ ⊢
                 have HO_10 := n0_
                 have HO_30 := n1_
                 have HB := n2_
                 clear n0_ n1_ n2_
                 have p1370 : 0 ≤ ((ji24) : Int) := od_
                 have q1370 : (ji24) < (y1369.length : Int) := (by have h_ : ((ji24) : Int) < ((x10_3.length : Int) : Int) := od_; first | (have e_ := (Kd.R_reads' HO_10.out).1; omega) | simpa only [Ny1369.out, List.length_set] using h_)
                 have ql1370 : (((ji24) : Int) < ((x10_3.length : Int) : Int)) = True := eq_true (od_)
                 obtain ⟨ad1370, e1370, hx1370_0⟩ := Kd.at_int (Kd.R_reads' HO_10.out).2.2 (ji24) p1370 q1370
                 obtain rfl : (⟨go23, 0, none⟩ : Addr) = ad1370 := (by injection e1370)
                 (first | simp only [add_plain] at hx1370_0 | simp only [add_at] at hx1370_0 | simp only [Addr.add, Nat.zero_add] at hx1370_0 | skip)
                 replace p1370 := eq_true p1370
                 replace q1370 := eq_true q1370
                 have p27 : 0 ≤ ((ji24) : Int) := od_
                 have q27 : ((ji24) : Int) < ((x10_3.length : Int) : Int) := od_
                 obtain ⟨hx27_0, hf27_0⟩ := Kd.R_celln 0 HO_10.out ((ji24) : Int) p27 q27
                 replace p27 := eq_true p27
                 replace q27 := eq_true q27
                 obtain ⟨hy33_, hz33_⟩ := Kd.R_celln 0 HO_10.out ((ji24) : Int) (od_) (od_)
                 have HP33 := Kd.R_putg HO_10.out ((ji24) : Int) (wrap64 ((rd y1369 (ji24)) + (rd x8_2 x32_3)))
                 try go_wp2_with (first | ((with_reducible refine gate_store (t := 3) (p := 56) rfl ?_); refine store_event (t := 3) (p := 56) (v := ?vo_w34) (w1 := (w32.setCell ⟨go23, ((ji24) : Int).toNat, none⟩ (.int .i64 (wrap64 ((rd y1369 (ji24)) + (rd x8_2 x32_3)))))) ?hg ?ho ?hn ?hr ?_; (case ho => rfl); (case hg => rfl); (case hn => rfl); (case hr => first | (go_simp; done) | (go_simp; rfl)); intro w34 hw; have hg : w32.grownBy w34 (some go23) := (by rw [hw]; exact HP33.2); have hp_ : Kd.R (Kd.int .i64) 3 w34 w.heap.size (fun k_ => some k_ ≠ (.slice (some ad1366) x8_2.length co17 : Value).ownBlock) (.slice (some ⟨go23, 0, none⟩) x10_3.length co29) y1371 := (by rw [hw, Ny1371.out]; exact HP33.1); clear HP33; replace HO_10 := A_ (hp_); replace HO_30 := A_ (Kd.R_after (v := (.slice (some ⟨go23, 0, none⟩) x10_3.length co29)) (v1 := (.slice (some ⟨go23, 0, none⟩) x10_3.length co29)) (ok := (fun _ => True)) (tr_ (h := by exact Kd.R_mono HO_30.out om_)) hg (.inl rfl)); replace HB := A_ ((by rw [hw]; exact below_set (HB.out) GB23.out : Below w.heap.size w w34)); clear hg hw hp_))
                 go_roundg k3
                 case measure => have := HJ3.out; have := HK2.out; have := HK3.out; omega
                 case rel => exact ⟨(y1371), (ji24), (by first | rfl | (simp; done) | (simp only [← hji24] <;> (first | rfl | simp)) | (simp [*]; done)), H', ⟨by have := HJ3.out; have := HK2.out; have := HK3.out; omega⟩, ⟨tr_x HO_10.out⟩, ⟨by (with_reducible repeat (first | apply Kd.R_alloc | apply Kd.R_drewN | apply Kd.R_drew)); exact Kd.R_mono HO_30.out (fun _ hk => hk.2)⟩, ⟨tb_⟩⟩
                ·
                 rw [if_neg c26] at H
                 exact absurd H (by simp)
               ·
                rw [if_neg c25] at H
                exact absurd H (by simp)
              ·
               rw [if_neg c21] at H
               exact absurd H (by simp)
             ·
              rw [if_neg c20] at H
              exact absurd H (by simp)
            ·
             rw [if_neg c19] at H
             exact absurd H (by simp)
           ·
            rw [if_neg c18] at H
            have c18b0 := decide_eq_false c18
            clear c18
            have H' := A_ H
            clear H
            go_wp2
            go_roundg k3
            case measure => have := HJ3.out; have := HK2.out; have := HK3.out; omega
            case rel => exact ⟨(x10_3), (wrap64 (x24_2 + 1)), tf_, H', ⟨by have := HJ3.out; have := HK2.out; have := HK3.out; omega⟩, ⟨by (with_reducible repeat (first | apply Kd.R_alloc | apply Kd.R_drewN | apply Kd.R_drew)); exact Kd.R_mono HO_10.out (fun _ hk => trivial)⟩, ⟨tb_⟩⟩
        ·
         rw [if_neg c14] at H
         exact absurd H (by simp)
       ·
        rw [if_neg c13] at H
        exact absurd H (by simp)
      ·
       rw [if_neg c11] at H
       have c11b0 := decide_eq_false c11
       clear c11
       by_cases c35 : 0 ≤ a1
       ·
        rw [if_pos c35] at H
        have c35b0 := decide_eq_true c35
        clear c35
        by_cases c36 : a1 < (x8_2.length : Int)
        ·
         rw [if_pos c36] at H
         have c36b0 := decide_eq_true c36
         clear c36
         simp only [Option.some.injEq, Prod.mk.injEq] at H
         obtain ⟨rfl, rfl⟩ := H
         obtain ⟨Ao37, co37, eo37⟩ := Kd.R_slice HO_8.out
         subst eo37
         have p1362 : 0 ≤ (a1 : Int) := od_
         have q1362 : a1 < (x8_2.length : Int) := od_
         obtain ⟨ad1362, e1362, hx1362_0⟩ := Kd.at_int (Kd.R_reads' HO_8.out).2.2 a1 p1362 q1362
         cases e1362
         replace p1362 := eq_true p1362
         replace q1362 := eq_true q1362
         go_wp2
         go_ret2
         exact ⟨te_, tb_⟩
        ·
         rw [if_neg c36] at H
         exact absurd H (by simp)
       ·
        rw [if_neg c35] at H
        exact absurd H (by simp)

/-! ### impl_StirlingSecond_1: function 190 -/
def impl_StirlingSecond_1.f (a0 : Int) (a1 : Int) : Option (Int) := some a1
theorem impl_StirlingSecond_1.calls (a0 : Int) (a1 : Int) (r : Int) (w : World) (h : impl_StirlingSecond_1.f a0 a1 = some r) :
  Calls Try.prog 190 #[.int .i64 a0, .int .i64 a1] w fun e w' => e = .returned (.int .i64 r) ∧ Drawn0 w w' := by
 have H : (some a1) = some r := h
 clear h
 obtain rfl := Option.some.inj H
 go_enter Try.func190, Try.ntmps190
 go_wp2
 go_ret
 exact ⟨tf_, dr_⟩

def impl_StirlingSecond_1.fn : FnT126 := fun a0 a1 => impl_StirlingSecond_1.f a0 a1
theorem impl_StirlingSecond_1.fnok (w : World) : FnOk126 w (.func (.func 190) #[] #[]) impl_StirlingSecond_1.fn := fun a0 a1 r W h _ => ⟨190, #[], _, rfl, Try.func190, by kernel_rfl, rfl, by simpa using (impl_StirlingSecond_1.calls a0 a1 r W h).mono fun e w' ⟨he, hd⟩ => ⟨he, hd.below⟩⟩

/-! ### impl_StirlingSecond: function 82 -/
def impl_StirlingSecond.f (k : Nat) (a0 : Int) (a1 : Int) : Option (Int × Bool) := (impl_kind.f k a0 a1 impl_StirlingSecond_1.fn).bind fun bt1372 => (some (bt1372.1, bt1372.2))
theorem impl_StirlingSecond.mono : ∀ a0 a1 k, LeO (impl_StirlingSecond.f k a0 a1) (impl_StirlingSecond.f (k + 1) a0 a1) := by
 intro a0 a1 k
 unfold impl_StirlingSecond.f
 repeat' first | (with_reducible first | exact impl_kind.mono _ _ _ _ | exact LeO.refl _ | exact LeO.none _ | refine LeO.ite ?_ ?_ | refine LeO.bind ?_ (fun _ => ?_)) | exact impl_kind.mono _ _ _ _ | exact LeO.none _ | refine LeO.ite ?_ ?_ | refine LeO.bind ?_ (fun _ => ?_)
theorem impl_StirlingSecond.calls (k : Nat) (a0 : Int) (a1 : Int) (r1 : Int) (r2 : Bool) (w : World) (h : impl_StirlingSecond.f k a0 a1 = some (r1, r2)) :
  Calls Try.prog 82 #[.int .i64 a0, .int .i64 a1] w fun e w' => e = .returned (.tuple #[.int .i64 r1, .bool r2]) ∧ Below w.heap.size w w' := by
 have HB := A_ (Below.refl w.heap.size w)
 have H : ((impl_kind.f k a0 a1 impl_StirlingSecond_1.fn).bind fun bt1372 => (some (bt1372.1, bt1372.2))) = some (r1, r2) := h
 clear h
 replace H := Option.bind_eq_some_iff.mp H
 obtain ⟨⟨t1372, t1373⟩, A30, H⟩ := H
 replace H : (some (t1372, t1373)) = some (r1, r2) := H
 have A3 := A_ A30
 clear A30
 simp only [Option.some.injEq, Prod.mk.injEq] at H
 obtain ⟨rfl, rfl⟩ := H
 go_enter Try.func82, Try.ntmps82
 go_wp2_with (first | (refine gc_ 189 ?_; refine goesT_ (some 8) Try.func189 #[.int .i64 a0, .int .i64 a1, .func (.func 190) #[] #[]] ?_; (with_reducible refine (impl_kind.calls k a0 a1 (.func (.func 190) #[] #[]) impl_StirlingSecond_1.fn t1372 t1373 _ ?side1 A3.out).mono ?_); (case side1 => exact impl_StirlingSecond_1.fnok _); rintro e w4 ⟨rfl, hb⟩; refine ⟨_, rfl, ?_⟩; replace HB := A_ (below_step tb_ hb); (try clear hb)))
 go_ret2
 exact ⟨te_, tb_⟩

/-! ### impl_StirlingFirst_1: function 193 -/
def impl_StirlingFirst_1.f (a0 : Int) (a1 : Int) : Option (Int) := some a0
theorem impl_StirlingFirst_1.calls (a0 : Int) (a1 : Int) (r : Int) (w : World) (h : impl_StirlingFirst_1.f a0 a1 = some r) :
  Calls Try.prog 193 #[.int .i64 a0, .int .i64 a1] w fun e w' => e = .returned (.int .i64 r) ∧ Drawn0 w w' := by
 have H : (some a0) = some r := h
 clear h
 obtain rfl := Option.some.inj H
 go_enter Try.func193, Try.ntmps193
 go_wp2
 go_ret
 exact ⟨tf_, dr_⟩

def impl_StirlingFirst_1.fn : FnT126 := fun a0 a1 => impl_StirlingFirst_1.f a0 a1
theorem impl_StirlingFirst_1.fnok (w : World) : FnOk126 w (.func (.func 193) #[] #[]) impl_StirlingFirst_1.fn := fun a0 a1 r W h _ => ⟨193, #[], _, rfl, Try.func193, by kernel_rfl, rfl, by simpa using (impl_StirlingFirst_1.calls a0 a1 r W h).mono fun e w' ⟨he, hd⟩ => ⟨he, hd.below⟩⟩

/-! ### impl_StirlingFirst: function 84 -/
def impl_StirlingFirst.f (k : Nat) (a0 : Int) (a1 : Int) : Option (Int × Bool) := (impl_kind.f k a0 a1 impl_StirlingFirst_1.fn).bind fun bt1398 => (some (bt1398.1, bt1398.2))
theorem impl_StirlingFirst.mono : ∀ a0 a1 k, LeO (impl_StirlingFirst.f k a0 a1) (impl_StirlingFirst.f (k + 1) a0 a1) := by
 intro a0 a1 k
 unfold impl_StirlingFirst.f
 repeat' first | (with_reducible first | exact impl_kind.mono _ _ _ _ | exact LeO.refl _ | exact LeO.none _ | refine LeO.ite ?_ ?_ | refine LeO.bind ?_ (fun _ => ?_)) | exact impl_kind.mono _ _ _ _ | exact LeO.none _ | refine LeO.ite ?_ ?_ | refine LeO.bind ?_ (fun _ => ?_)
theorem impl_StirlingFirst.calls (k : Nat) (a0 : Int) (a1 : Int) (r1 : Int) (r2 : Bool) (w : World) (h : impl_StirlingFirst.f k a0 a1 = some (r1, r2)) :
  Calls Try.prog 84 #[.int .i64 a0, .int .i64 a1] w fun e w' => e = .returned (.tuple #[.int .i64 r1, .bool r2]) ∧ Below w.heap.size w w' := by
 have HB := A_ (Below.refl w.heap.size w)
 have H : ((impl_kind.f k a0 a1 impl_StirlingFirst_1.fn).bind fun bt1398 => (some (bt1398.1, bt1398.2))) = some (r1, r2) := h
 clear h
 replace H := Option.bind_eq_some_iff.mp H
 obtain ⟨⟨t1398, t1399⟩, A30, H⟩ := H
 replace H : (some (t1398, t1399)) = some (r1, r2) := H
 have A3 := A_ A30
 clear A30
 simp only [Option.some.injEq, Prod.mk.injEq] at H
 obtain ⟨rfl, rfl⟩ := H
 go_enter Try.func84, Try.ntmps84
 go_wp2_with (first | (refine gc_ 189 ?_; refine goesT_ (some 8) Try.func189 #[.int .i64 a0, .int .i64 a1, .func (.func 193) #[] #[]] ?_; (with_reducible refine (impl_kind.calls k a0 a1 (.func (.func 193) #[] #[]) impl_StirlingFirst_1.fn t1398 t1399 _ ?side1 A3.out).mono ?_); (case side1 => exact impl_StirlingFirst_1.fnok _); rintro e w4 ⟨rfl, hb⟩; refine ⟨_, rfl, ?_⟩; replace HB := A_ (below_step tb_ hb); (try clear hb)))
 go_ret2
 exact ⟨te_, tb_⟩

/-! ### spec_DrawFileNumbers: function 105 -/
def spec_DrawFileNumbers.f (k : Nat) (l0 : List Int) : Option (Int × Int × List Int) := (spec_l1Cur_board.f k l0 0 0).bind fun bt1744 => (some (bt1744.1, bt1744.2.1, bt1744.2.2.1))
theorem spec_DrawFileNumbers.mono : ∀ a0 k, LeO (spec_DrawFileNumbers.f k a0) (spec_DrawFileNumbers.f (k + 1) a0) := by
 intro a0 k
 unfold spec_DrawFileNumbers.f
 repeat' first | (with_reducible first | exact spec_l1Cur_board.mono _ _ _ _ | exact LeO.refl _ | exact LeO.none _ | refine LeO.ite ?_ ?_ | refine LeO.bind ?_ (fun _ => ?_)) | exact spec_l1Cur_board.mono _ _ _ _ | exact LeO.none _ | refine LeO.ite ?_ ?_ | refine LeO.bind ?_ (fun _ => ?_)
theorem spec_DrawFileNumbers.calls (k : Nat) (A0 : Option Addr) (c0 : Nat) (l0 : List Int) (r1 : Int) (r2 : Int) (r3 : List Int) (w : World) (hr0 : Kd.C (Kd.int .u8) w A0 l0.length l0) (hc0 : l0.length ≤ c0) (h : spec_DrawFileNumbers.f k l0 = some (r1, r2, r3)) :
  Calls Try.prog 105 #[.slice A0 l0.length c0] w fun e w' => ∃ v2_ : Value, e = .returned (.agg #[.int .i64 r1, .int .i64 r2, v2_]) ∧ Kd.R (Kd.int .i64) 3 w' w.heap.size (fun _ => True) v2_ r3 ∧ Below w.heap.size w w' := by
 have hu28 := Try.underlying28
 have hu122 := Try.underlying122
 have HR0 := A_ hr0
 have HC0 := A_ hc0
 clear hr0 hc0
 have HB := A_ (Below.refl w.heap.size w)
 have H : ((spec_l1Cur_board.f k l0 0 0).bind fun bt1744 => (some (bt1744.1, bt1744.2.1, bt1744.2.2.1))) = some (r1, r2, r3) := h
 clear h
 replace H := Option.bind_eq_some_iff.mp H
 obtain ⟨⟨t1744, t1745, t1746, t1749, t1750⟩, A20, H⟩ := H
 replace H : (some (t1744, t1745, t1746)) = some (r1, r2, r3) := H
 have A2 := A_ A20
 clear A20
 simp only [Option.some.injEq, Prod.mk.injEq] at H
 obtain ⟨rfl, rfl, rfl⟩ := H
 go_enter Try.func105, Try.ntmps105
 go_wp2_with (first | (refine gd_ 2 ?_; refine bx_ 2 #[.int .i64 0, .int .i64 0, .slice none 0 0] 28 ?_; intro gb1742 hg w3 hbox hb; have BK1742 := A_ (hbox); have GW1742 := A_ ((ts_ hg : w.heap.size ≤ gb1742)); have GE1742 := A_ ((ts_ hg : w.heap.size ≤ gb1742)); replace HB := A_ (below_step tb_ hb); clear hb hbox hg) | (refine gd_ 6 ?_; refine bx_ 6 #[.slice A0 l0.length c0, .int .i64 0, .int .u64 0] 122 ?_; intro gb1743 hg w4 hbox hb; have NB1742_1743 := A_ ((by rw [hg]; exact Nat.ne_of_lt (blk_lt (g := gb1742) (o := .cells #[.int .i64 0, .int .i64 0, .slice none 0 0] 28 (0, 0)) (tk_ BK1742)) : gb1742 ≠ gb1743)); have NB1743_1742 := A_ ((by rw [hg]; exact Nat.ne_of_gt (blk_lt (g := gb1742) (o := .cells #[.int .i64 0, .int .i64 0, .slice none 0 0] 28 (0, 0)) (tk_ BK1742)) : gb1743 ≠ gb1742)); replace BK1742 := A_ (blk_below (g := gb1742) (o := .cells #[.int .i64 0, .int .i64 0, .slice none 0 0] 28 (0, 0)) (tk_ BK1742) hb); have HI1743 := A_ ((⟨_, _, hbox, (by rw [hg]; exact (below_size tb_)), HR0.out⟩ : IsS122 w w4 gb1743 l0 0 0)); replace HB := A_ (below_step tb_ hb); clear hb hbox hg) | (refine gc_ 209 ?_; refine goesT_ (some 8) Try.func209 #[.pointer (some ⟨gb1743, 0, none⟩)] ?_; (with_reducible refine (spec_l1Cur_board.calls k gb1743 l0 0 0 t1744 t1745 t1746 t1749 t1750 w _ ?side1 ?side2 A2.out).mono ?_); (case side1 => repeat (first | (with_reducible first | exact HI1743.out | apply IsS122.alloc | apply IsS122.drewN | apply IsS122.drew | apply IsS122.set_1 | apply IsS122.set_2 | refine IsS122.far ?_ NB1743_1742.out _) | exact HI1743.out)); (case side2 => repeat (first | (with_reducible first | exact HB.out | apply below_alloc | apply pw_below_drewN | apply below_drew1 | refine below_set ?_ (IsS122.ge HI1743.out) | refine below_set ?_ GE1742.out) | exact HB.out)); rintro e w5 ⟨v1747, rfl, ho0, hi, hb, hk⟩; refine ⟨_, rfl, ?_⟩; replace BK1742 := A_ (KeepBut.blk hk (g' := gb1742) (o := .cells #[.int .i64 0, .int .i64 0, .slice none 0 0] 28 (0, 0)) (tk_ BK1742) NB1742_1743.out (by simp)); have HO1748 := A_ (Kd.R_lower ho0 (below_size (by repeat (first | (with_reducible first | exact HB.out | apply below_alloc | apply pw_below_drewN | apply below_drew1 | refine below_set ?_ (IsS122.ge HI1743.out) | refine below_set ?_ GE1742.out) | exact HB.out)))); replace HB := A_ (hb); replace HI1743 := A_ (hi); (try clear hb); (try clear hb2); (try clear hk); (try clear hi); (try clear ho0); have hnb6 := NB1742_1743.out; have hnc6 := NB1743_1742.out; obtain ⟨hcz7_0, hcz7_1, hcz7_2, hfz7_0, hfz7_1, hfz7_2⟩ := cf3_ BK1742.out; obtain ⟨Ao8, co8, eo8⟩ := Kd.R_slice HO1748.out; subst eo8))
 refine bodyPost_ret (results_cell_row rfl _ _ gb1742 28 #[.int .i64 t1744, .int .i64 t1745, .slice Ao8 t1746.length co8] (0, 0) _ rfl (by (with_reducible repeat (first | refine blk_drewN ?_ _ | refine blk_drew ?_ | refine blk_alloc ?_ _)); refine blk_put (cs := #[.int .i64 t1744, .int .i64 t1745, .slice none 0 0]) ?_ 2 _ rfl; (with_reducible repeat (first | refine blk_drewN ?_ _ | refine blk_drew ?_ | refine blk_alloc ?_ _)); refine blk_put (cs := #[.int .i64 t1744, .int .i64 0, .slice none 0 0]) ?_ 1 _ rfl; (with_reducible repeat (first | refine blk_drewN ?_ _ | refine blk_drew ?_ | refine blk_alloc ?_ _)); refine blk_put (cs := #[.int .i64 0, .int .i64 0, .slice none 0 0]) ?_ 0 _ rfl; (with_reducible repeat (first | refine blk_drewN ?_ _ | refine blk_drew ?_ | refine blk_alloc ?_ _)); exact BK1742.out) Try.underlying28 rfl (by kernel_rfl)) rfl ?_
 exact ⟨_, te_, by (with_reducible repeat (first | apply Kd.R_alloc | apply Kd.R_drewN | apply Kd.R_drew)); exact Kd.R_mono (Kd.R_far (p := ⟨gb1742, 2, none⟩) (Kd.R_far (p := ⟨gb1742, 1, none⟩) (Kd.R_far (p := ⟨gb1742, 0, none⟩) (Kd.R_types HO1748.out BK1742.out (by decide)) (fun _ hk => hk.2) (.int .i64 t1744)) (fun _ hk => hk.2) (.int .i64 t1745)) (fun _ hk => hk.2) (.slice Ao8 t1746.length co8)) (fun _ hk => trivial), by repeat (first | (with_reducible first | exact HB.out | apply below_alloc | apply pw_below_drewN | apply below_drew1 | refine below_set ?_ (IsS122.ge HI1743.out) | refine below_set ?_ GE1742.out) | exact HB.out)⟩

end
end Go.Proofs.Ytnpacpdpgngdpaa.P
