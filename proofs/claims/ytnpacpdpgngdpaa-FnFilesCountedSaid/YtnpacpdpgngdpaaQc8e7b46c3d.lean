-- printed functions (wip/slim.py)
import Derived.Test.YtnpacpdpgngdpaaPx0
import Derived.Test.YtnpacpdpgngdpaaQd1950a5485
import Derived.Test.YtnpacpdpgngdpaaQ34a903f869
namespace Go.Proofs.Ytnpacpdpgngdpaa.P
noncomputable section
set_option maxHeartbeats 8000000
set_option maxRecDepth 100000
open Go.RowKit Go.Proofs.YtnpacpdpgngdpaaW.PrintWords Go.Proofs.YtnpacpdpgngdpaaW.PrintLast Go.Proofs.YtnpacpdpgngdpaaW.PrintMore
attribute [local go_sem] max2_int min2_int max_two min_two max_three min_three max_four min_four   -- for this text's walks alone
set_option linter.unusedVariables false
set_option linter.unusedSimpArgs false

/-! ### impl_RowCounts: function 253 -/
def impl_RowCounts.l0 : Nat → List Int → List Int → Int → Int → Option (List Int × Bool)
 | 0, _, _, _, _ => none
 | k + 1, x4, x12, x13, x14 => if x14 < x13 then (if 0 ≤ x14 then (if x14 < (x12.length : Int) then ((bits_OnesCount.f (IntKind.u64.wrap (rd x12 x14))).bind fun t1757 => (if x4.length < 17592186044416 then (impl_RowCounts.l0 k (x4 ++ [t1757]) x12 x13 (wrap64 (x14 + 1))) else (none))) else (none)) else (none)) else (some (x4, true))
def impl_RowCounts.f (k : Nat) (a0_0 : Int) (a0_1 : Int) (l0_2 : List Int) : Option (List Int × Bool) := (impl_IsBoard.f a0_0 a0_1 l0_2).bind fun t1752 => (if t1752 = true then (impl_RowCounts.l0 k (([] : List Int)) l0_2 (l0_2.length : Int) 0) else (some (([] : List Int), false)))
theorem impl_RowCounts.mono_l : ∀ k, (∀ y0 y1 y2 y3, LeO (impl_RowCounts.l0 k y0 y1 y2 y3) (impl_RowCounts.l0 (k + 1) y0 y1 y2 y3))
 | 0 => fun _ _ _ _ r h => by simp [impl_RowCounts.l0] at h
 | k + 1 => by
  have ih0 := impl_RowCounts.mono_l k
  ·
   intro y0 y1 y2 y3
   unfold impl_RowCounts.l0
   repeat' first | (with_reducible first | exact ih0 _ _ _ _ | exact LeO.refl _ | exact LeO.none _ | refine LeO.ite ?_ ?_ | refine LeO.bind ?_ (fun _ => ?_)) | exact ih0 _ _ _ _ | exact LeO.none _ | refine LeO.ite ?_ ?_ | refine LeO.bind ?_ (fun _ => ?_)
theorem impl_RowCounts.mono : ∀ a0 a1 a2 k, LeO (impl_RowCounts.f k a0 a1 a2) (impl_RowCounts.f (k + 1) a0 a1 a2) := by
 intro a0 a1 a2 k
 have ih0 := impl_RowCounts.mono_l k
 unfold impl_RowCounts.f
 repeat' first | (with_reducible first | exact ih0 _ _ _ _ | exact LeO.refl _ | exact LeO.none _ | refine LeO.ite ?_ ?_ | refine LeO.bind ?_ (fun _ => ?_)) | exact ih0 _ _ _ _ | exact LeO.none _ | refine LeO.ite ?_ ?_ | refine LeO.bind ?_ (fun _ => ?_)
theorem impl_RowCounts.calls (k : Nat) (a0_0 : Int) (a0_1 : Int) (A0_2 : Option Addr) (c0_2 : Nat) (l0_2 : List Int) (r1 : List Int) (r2 : Bool) (w : World) (hr0_2 : Kd.C (Kd.int .i64) w A0_2 l0_2.length l0_2) (hc0_2 : l0_2.length ≤ c0_2) (h : impl_RowCounts.f k a0_0 a0_1 l0_2 = some (r1, r2)) :
  Calls Try.prog 253 #[.agg #[.int .i64 a0_0, .int .i64 a0_1, .slice A0_2 l0_2.length c0_2]] w fun e w' => ∃ v0_ : Value, e = .returned (.tuple #[v0_, .bool r2]) ∧ Kd.R (Kd.int .i64) 3 w' w.heap.size (fun _ => True) v0_ r1 ∧ Below w.heap.size w w' := by
 have hu28 := Try.underlying28
 have HR0_2 := A_ hr0_2
 have HC0_2 := A_ hc0_2
 clear hr0_2 hc0_2
 have HB := A_ (Below.refl w.heap.size w)
 have H : ((impl_IsBoard.f a0_0 a0_1 l0_2).bind fun t1752 => (if t1752 = true then (impl_RowCounts.l0 k (([] : List Int)) l0_2 (l0_2.length : Int) 0) else (some (([] : List Int), false)))) = some (r1, r2) := h
 clear h
 replace H := Option.bind_eq_some_iff.mp H
 obtain ⟨t1752, A20, H⟩ := H
 replace H : (if t1752 = true then (impl_RowCounts.l0 k (([] : List Int)) l0_2 (l0_2.length : Int) 0) else (some (([] : List Int), false))) = some (r1, r2) := H
 have A2 := A_ A20
 clear A20
 by_cases c3 : t1752 = true
 ·
  subst c3
  have H1 : (impl_RowCounts.l0 k (([] : List Int)) l0_2 (l0_2.length : Int) 0) = some (r1, r2) := by rw [if_pos rfl] at H; exact H
  clear H
  have H := H1
  clear H1
  obtain ⟨y1753, hy1753⟩ : ∃ y_ : List Int, y_ = (([] : List Int)) := ⟨_, rfl⟩
  replace H : (impl_RowCounts.l0 k y1753 l0_2 (l0_2.length : Int) 0) = some (r1, r2) := ty_ hy1753 H
  have Ny1753 := A_ hy1753
  clear hy1753
  have H' := A_ H
  clear H
  go_enter Try.func253, Try.ntmps253
  go_wp2_with (first | (refine gd_ 1 ?_; refine bx_ 1 #[.int .i64 a0_0, .int .i64 a0_1, .slice A0_2 l0_2.length c0_2] 28 ?_; intro gb1751 hg w4 hbox hb; have BK1751 := A_ (hbox); have GW1751 := A_ ((ts_ hg : w.heap.size ≤ gb1751)); have GE1751 := A_ ((ts_ hg : w.heap.size ≤ gb1751)); replace HB := A_ (below_step tb_ hb); clear hb hbox hg; obtain ⟨hcz5_0, hcz5_1, hcz5_2, hfz5_0, hfz5_1, hfz5_2⟩ := cf3_ BK1751.out) | (refine gc_ 125 ?_; refine goesT_ (some 8) Try.func125 #[.agg #[.int .i64 a0_0, .int .i64 a0_1, .slice A0_2 l0_2.length c0_2]] ?_; (with_reducible refine (impl_IsBoard.calls a0_0 a0_1 _ _ l0_2 true _ ?side1 ?side2 A2.out).mono ?_); (case side1 => exact tc_ HR0_2.out); (case side2 => exact HC0_2.out); rintro e w6 ⟨rfl, hb⟩; refine ⟨_, rfl, ?_⟩; replace BK1751 := A_ (blk_below (g := gb1751) (o := .cells #[.int .i64 a0_0, .int .i64 a0_1, .slice A0_2 l0_2.length c0_2] 28 (0, 0)) (tk_ BK1751) hb); replace HB := A_ (below_step tb_ hb); (try clear hb)) | (refine gd_ 10 ?_; refine Kd.R_lit (Kd.int .i64) _ 3 ?hg (N := 10) ?hd (xs := ([] : List Int)) (inner := []) (ok := fun _ => True) (okp := fun _ => True) ?hr ?hp (fun _ hk => hk) trivial (Below.refl _ _) (Nat.le_refl _) (by simp) ?_; (case hd => rfl); (case hg => rfl); (case hr => first | (go_simp; done) | (go_simp; rfl)); (case hp => exact (Reps.none _ _)); intro v1754 w7 ho8 hb hg_ hnew_; clear hg_ hnew_; (first | rw [← Ny1753.out] at ho8 | (simp only [Int.reduceToNat] at ho8; rw [← Ny1753.out] at ho8)); have HO1755 := A_ (Kd.R_lower ho8 (below_size tb_)); replace BK1751 := A_ (blk_below (g := gb1751) (o := .cells #[.int .i64 a0_0, .int .i64 a0_1, .slice A0_2 l0_2.length c0_2] 28 (0, 0)) (tk_ BK1751) hb); replace HB := A_ (below_step tb_ hb); clear hb ho8; obtain ⟨hcz9_0, hcz9_1, hcz9_2, hfz9_0, hfz9_1, hfz9_2⟩ := cf3_ BK1751.out))
  go_loopg [4, 14] k (fun kq v4 v14 w' => ∃ (x4_1 : List Int) (x14_1 : Int), v14 = .int .i64 x14_1 ∧ Aside0 (impl_RowCounts.l0 kq x4_1 l0_2 (l0_2.length : Int) x14_1 = some (r1, r2)) ∧ Aside0 (kq ≤ k) ∧ Aside0 (Kd.R (Kd.int .i64) 3 w' w.heap.size (fun _ => True) v4 x4_1) ∧ Aside0 (w'.heap[gb1751]? = some (.cells #[.int .i64 a0_0, .int .i64 a0_1, (.slice A0_2 l0_2.length c0_2)] 28 (0, 0))) ∧ Aside0 (Below w.heap.size w w'))
  case atStart => exact ⟨(y1753), (0), tf_, H', ⟨Nat.le_refl _⟩, ⟨tr_x HO1755.out⟩, ⟨tk_ BK1751⟩, ⟨tb_⟩⟩
  case round =>
   clear H'
   try clear c1
   try clear c2
   try clear p2
   try clear c3
   try clear hcz5_0
   try clear hcz5_1
   try clear hcz5_2
   try clear hcz9_0
   try clear hcz9_1
   try clear hcz9_2
   try clear hfz5_0
   try clear hfz5_1
   try clear hfz5_2
   try clear hfz9_0
   try clear hfz9_1
   try clear hfz9_2
   obtain ⟨x4_1, x14_1, rfl, HA, HK1, HO_4, BK1751, HB⟩ := hrel
   cases gk with
   | zero => exact absurd HA.out (by simp [impl_RowCounts.l0])
   | succ k1 =>
    have H := HA.out
    clear HA
    simp only [impl_RowCounts.l0] at H
    by_cases c10 : x14_1 < (l0_2.length : Int)
    ·
     rw [if_pos c10] at H
     have c10b0 := decide_eq_true c10
     clear c10
     by_cases c11 : 0 ≤ x14_1
     ·
      rw [if_pos c11] at H
      have c11b0 := decide_eq_true c11
      clear c11
      by_cases c12 : x14_1 < (l0_2.length : Int)
      ·
       rw [if_pos c12] at H
       have c12b0 := decide_eq_true c12
       clear c12
       replace H := Option.bind_eq_some_iff.mp H
       obtain ⟨t1757, A130, H⟩ := H
       replace H : (if x4_1.length < 17592186044416 then (impl_RowCounts.l0 k1 (x4_1 ++ [t1757]) l0_2 (l0_2.length : Int) (wrap64 (x14_1 + 1))) else (none)) = some (r1, r2) := H
       have A13 := A_ A130
       clear A130
       by_cases c14 : x4_1.length < 17592186044416
       ·
        rw [if_pos c14] at H
        have LMc14 := A_ c14
        clear c14
        obtain ⟨y1758, hy1758⟩ : ∃ y_ : List Int, y_ = (x4_1 ++ [t1757]) := ⟨_, rfl⟩
        replace H : (impl_RowCounts.l0 k1 y1758 l0_2 (l0_2.length : Int) (wrap64 (x14_1 + 1))) = some (r1, r2) := ty_ hy1758 H
        have Ny1758 := A_ hy1758
        clear hy1758
        have H' := A_ H
        clear H
        have p1756 : 0 ≤ (x14_1 : Int) := od_
        have q1756 : x14_1 < (l0_2.length : Int) := od_
        obtain ⟨ad1756, e1756, hx1756_0⟩ := Kd.at_int HR0_2.out x14_1 p1756 q1756
        cases e1756
        (try replace hx1756_0 := (HB.out.cell (World.block_lt_of_cell? w _ hx1756_0)).trans hx1756_0)
        replace p1756 := eq_true p1756
        replace q1756 := eq_true q1756
        go_wp2_with (first | (refine gc_ 259 ?_; refine goesT_ (some 21) Try.func259 #[.int .u64 (IntKind.u64.wrap (rd l0_2 x14_1))] ?_; (with_reducible refine (bits_OnesCount.calls (IntKind.u64.wrap (rd l0_2 x14_1)) t1757 _ A13.out).mono ?_); rintro e w' ⟨rfl, ⟨nd, rfl⟩⟩; refine ⟨_, rfl, ?_⟩) | ((with_reducible refine gate_builtin (b := .append) (xs := #[.tmp 18, .tmp 22]) rfl ?_); at_builtin; refine Kd.R_append (Kd.int .i64) (w0 := w) w.heap.size rfl (.tmp 18) (.tmp 22) 22 3 (.int .i64 0) 8 rfl Try.underlying22 info3 rfl (by decide) (by omega) u4 x4_1 t1757 [.int .i64 t1757] (fun _ => True) (fun _ => False) rfl rfl ?aP (fun _ hk => hk.elim) ?aF ?aO ?aB ?aS ?aL ?_; (case aP => exact rfl); (case aB => exact tb_); (case aF => exact (fun _ _ => trivial)); (case aO => exact (tr_x HO_4.out)); (case aS => exact (below_size tb_)); (case aL => have := LMc14.out; omega); intro v1759 w15 ho hb hg hat; rw [← Ny1758.out] at ho; have n0_ := A_ (blk_grown (g := gb1751) (o := .cells #[.int .i64 a0_0, .int .i64 a0_1, .slice (some ad1756) l0_2.length c0_2] 28 (0, 0)) (tk_ BK1751) hg (Kd.R_ne HO_4.out BK1751.out (by decide))); have n1_ := A_ (hb); have n2_ := A_ (ho); clear BK1751; clear HB; clear HO_4; have BK1751 := n0_; have HB := n1_; have HO1760 := n2_; clear n0_ n1_ n2_; clear ho hb hg hat))
        go_roundg k1
        case measure => have := HK1.out; omega
        case rel => exact ⟨(y1758), (wrap64 (x14_1 + 1)), tf_, H', ⟨by have := HK1.out; omega⟩, ⟨tr_x HO1760.out⟩, ⟨tk_ BK1751⟩, ⟨tb_⟩⟩
       ·
        rw [if_neg c14] at H
        exact absurd H (by simp)
      ·
       rw [if_neg c12] at H
       exact absurd H (by simp)
     ·
      rw [if_neg c11] at H
      exact absurd H (by simp)
    ·
     rw [if_neg c10] at H
     have c10b0 := decide_eq_false c10
     clear c10
     simp only [Option.some.injEq, Prod.mk.injEq] at H
     obtain ⟨rfl, rfl⟩ := H
     go_wp2
     go_ret2
     exact ⟨_, te_, tr_x HO_4.out, tb_⟩
 ·
  replace c3 := Bool.eq_false_iff.mpr c3
  subst c3
  have H1 : (some (([] : List Int), false)) = some (r1, r2) := by rw [if_neg (show ¬ (false = true) by decide)] at H; exact H
  clear H
  have H := H1
  clear H1
  simp only [Option.some.injEq, Prod.mk.injEq] at H
  obtain ⟨rfl, rfl⟩ := H
  go_enter Try.func253, Try.ntmps253
  go_wp2_with (first | (refine gd_ 1 ?_; refine bx_ 1 #[.int .i64 a0_0, .int .i64 a0_1, .slice A0_2 l0_2.length c0_2] 28 ?_; intro gb1751 hg w16 hbox hb; have BK1751 := A_ (hbox); have GW1751 := A_ ((ts_ hg : w.heap.size ≤ gb1751)); have GE1751 := A_ ((ts_ hg : w.heap.size ≤ gb1751)); replace HB := A_ (below_step tb_ hb); clear hb hbox hg; obtain ⟨hcz17_0, hcz17_1, hcz17_2, hfz17_0, hfz17_1, hfz17_2⟩ := cf3_ BK1751.out) | (refine gc_ 125 ?_; refine goesT_ (some 8) Try.func125 #[.agg #[.int .i64 a0_0, .int .i64 a0_1, .slice A0_2 l0_2.length c0_2]] ?_; (with_reducible refine (impl_IsBoard.calls a0_0 a0_1 _ _ l0_2 false _ ?side1 ?side2 A2.out).mono ?_); (case side1 => exact tc_ HR0_2.out); (case side2 => exact HC0_2.out); rintro e w18 ⟨rfl, hb⟩; refine ⟨_, rfl, ?_⟩; replace BK1751 := A_ (blk_below (g := gb1751) (o := .cells #[.int .i64 a0_0, .int .i64 a0_1, .slice A0_2 l0_2.length c0_2] 28 (0, 0)) (tk_ BK1751) hb); replace HB := A_ (below_step tb_ hb); (try clear hb)))
  go_ret2
  exact ⟨_, te_, by first | exact Kd.R_nil _ _ _ _ _ | exact Kd.N_nil _ _ _ _ _ | exact Kd.V_nil _ _ _ _ _ | exact Kd.Q_nil _ _ _ _ _ | exact Kd.S_nil _ _ _ _ _, tb_⟩

/-! ### impl_Board_turned: function 254 -/
mutual
def impl_Board_turned.l0 : Nat → Int → Int → Int → Int → List Int → Int → Int → List Int → Option (Int × Int × List Int)
 | 0, _, _, _, _, _, _, _, _ => none
 | k + 1, x12, x13, x1762000, x1762001, x1762002, x1769000, x1769001, x1769002 => if x13 < x12 then (impl_Board_turned.l1 k x13 x12 x13 x1762001 0 x1762000 x1762001 x1762002 x1769000 x1769001 x1769002) else (some (x1769000, x1769001, x1769002))
def impl_Board_turned.l1 : Nat → Int → Int → Int → Int → Int → Int → Int → List Int → Int → Int → List Int → Option (Int × Int × List Int)
 | 0, _, _, _, _, _, _, _, _, _, _, _ => none
 | k + 1, x4, x12, x13, x17, x18, x1762000, x1762001, x1762002, x1769000, x1769001, x1769002 => if x18 < x17 then ((impl_Board_has.f x1762000 x1762001 x1762002 x4 x18).bind fun t1769 => (if t1769 = true then (if 0 ≤ x18 then (if x18 < (x1769002.length : Int) then (if 0 ≤ x4 then (impl_Board_turned.l1 k x4 x12 x13 x17 (wrap64 (x18 + 1)) x1762000 x1762001 x1762002 x1769000 x1769001 (x1769002.set (x18 : Int).toNat (Go.bits .or .i64 (rd x1769002 x18) (shl .i64 1 x4)))) else (none)) else (none)) else (none)) else (impl_Board_turned.l1 k x4 x12 x13 x17 (wrap64 (x18 + 1)) x1762000 x1762001 x1762002 x1769000 x1769001 x1769002))) else (impl_Board_turned.l0 k x12 (wrap64 (x13 + 1)) x1762000 x1762001 x1762002 x1769000 x1769001 x1769002)
end
def impl_Board_turned.f (k : Nat) (a0_0 : Int) (a0_1 : Int) (l0_2 : List Int) : Option (Int × Int × List Int) := (impl_newBoard.f a0_1 a0_0).bind fun bt1763 => (impl_Board_turned.l0 k a0_0 0 a0_0 a0_1 l0_2 bt1763.1 bt1763.2.1 bt1763.2.2)
theorem impl_Board_turned.mono_l : ∀ k, (∀ y0 y1 y2 y3 y4 y5 y6 y7, LeO (impl_Board_turned.l0 k y0 y1 y2 y3 y4 y5 y6 y7) (impl_Board_turned.l0 (k + 1) y0 y1 y2 y3 y4 y5 y6 y7)) ∧ (∀ y0 y1 y2 y3 y4 y5 y6 y7 y8 y9 y10, LeO (impl_Board_turned.l1 k y0 y1 y2 y3 y4 y5 y6 y7 y8 y9 y10) (impl_Board_turned.l1 (k + 1) y0 y1 y2 y3 y4 y5 y6 y7 y8 y9 y10))
 | 0 => ⟨fun _ _ _ _ _ _ _ _ r h => by simp [impl_Board_turned.l0] at h, fun _ _ _ _ _ _ _ _ _ _ _ r h => by simp [impl_Board_turned.l1] at h⟩
 | k + 1 => by
  obtain ⟨ih0, ih1⟩ := impl_Board_turned.mono_l k
  refine ⟨?_, ?_⟩
  ·
   intro y0 y1 y2 y3 y4 y5 y6 y7
   unfold impl_Board_turned.l0
   repeat' first | (with_reducible first | exact ih0 _ _ _ _ _ _ _ _ | exact ih1 _ _ _ _ _ _ _ _ _ _ _ | exact LeO.refl _ | exact LeO.none _ | refine LeO.ite ?_ ?_ | refine LeO.bind ?_ (fun _ => ?_)) | exact ih0 _ _ _ _ _ _ _ _ | exact ih1 _ _ _ _ _ _ _ _ _ _ _ | exact LeO.none _ | refine LeO.ite ?_ ?_ | refine LeO.bind ?_ (fun _ => ?_)
  ·
   intro y0 y1 y2 y3 y4 y5 y6 y7 y8 y9 y10
   unfold impl_Board_turned.l1
   repeat' first | (with_reducible first | exact ih0 _ _ _ _ _ _ _ _ | exact ih1 _ _ _ _ _ _ _ _ _ _ _ | exact LeO.refl _ | exact LeO.none _ | refine LeO.ite ?_ ?_ | refine LeO.bind ?_ (fun _ => ?_)) | exact ih0 _ _ _ _ _ _ _ _ | exact ih1 _ _ _ _ _ _ _ _ _ _ _ | exact LeO.none _ | refine LeO.ite ?_ ?_ | refine LeO.bind ?_ (fun _ => ?_)
theorem impl_Board_turned.mono : ∀ a0 a1 a2 k, LeO (impl_Board_turned.f k a0 a1 a2) (impl_Board_turned.f (k + 1) a0 a1 a2) := by
 intro a0 a1 a2 k
 obtain ⟨ih0, ih1⟩ := impl_Board_turned.mono_l k
 unfold impl_Board_turned.f
 repeat' first | (with_reducible first | exact ih0 _ _ _ _ _ _ _ _ | exact ih1 _ _ _ _ _ _ _ _ _ _ _ | exact LeO.refl _ | exact LeO.none _ | refine LeO.ite ?_ ?_ | refine LeO.bind ?_ (fun _ => ?_)) | exact ih0 _ _ _ _ _ _ _ _ | exact ih1 _ _ _ _ _ _ _ _ _ _ _ | exact LeO.none _ | refine LeO.ite ?_ ?_ | refine LeO.bind ?_ (fun _ => ?_)
def impl_Board_turned.T9 : Bool × List (List Nat × List Nat) := (true, [([], []), ([0], [0]), ([], []), ([1, 2], [1, 2]), ([3], [3]), ([], []), ([5], [5]), ([4, 6], [4, 6]), ([1, 2, 0, 1, 2, 3, 4, 5, 6, 7], [1, 2]), ([8, 7, 0, 1, 2, 3, 4, 5, 6, 7], [7, 8])])
def impl_Board_turned.B9 : List Nat := [0, 1, 0, 7, 15, 0, 32, 127, 255, 511]
theorem impl_Board_turned.tab9 : rtab .any (opsOf Try.f254 9) = impl_Board_turned.T9 := by kernel_rfl
theorem impl_Board_turned.bits9 : waitsOk impl_Board_turned.T9.2 impl_Board_turned.B9 = true := by kernel_rfl
theorem impl_Board_turned.calls (k : Nat) (a0_0 : Int) (a0_1 : Int) (A0_2 : Option Addr) (c0_2 : Nat) (l0_2 : List Int) (r1 : Int) (r2 : Int) (r3 : List Int) (w : World) (hr0_2 : Kd.C (Kd.int .i64) w A0_2 l0_2.length l0_2) (hc0_2 : l0_2.length ≤ c0_2) (h : impl_Board_turned.f k a0_0 a0_1 l0_2 = some (r1, r2, r3)) :
  Calls Try.prog 254 #[.agg #[.int .i64 a0_0, .int .i64 a0_1, .slice A0_2 l0_2.length c0_2]] w fun e w' => ∃ v2_ : Value, e = .returned (.agg #[.int .i64 r1, .int .i64 r2, v2_]) ∧ Kd.R (Kd.int .i64) 3 w' w.heap.size (fun _ => True) v2_ r3 ∧ Below w.heap.size w w' := by
 have hu28 := Try.underlying28
 have HR0_2 := A_ hr0_2
 have HC0_2 := A_ hc0_2
 clear hr0_2 hc0_2
 have HB := A_ (Below.refl w.heap.size w)
 have H : ((impl_newBoard.f a0_1 a0_0).bind fun bt1763 => (impl_Board_turned.l0 k a0_0 0 a0_0 a0_1 l0_2 bt1763.1 bt1763.2.1 bt1763.2.2)) = some (r1, r2, r3) := h
 clear h
 replace H := Option.bind_eq_some_iff.mp H
 obtain ⟨⟨t1763, t1764, t1765⟩, A20, H⟩ := H
 replace H : (impl_Board_turned.l0 k a0_0 0 a0_0 a0_1 l0_2 t1763 t1764 t1765) = some (r1, r2, r3) := H
 have A2 := A_ A20
 clear A20
 have H' := A_ H
 clear H
 go_enter Try.func254, Try.ntmps254
 go_wp2_with (first | (refine gd_ 1 ?_; refine bx_ 1 #[.int .i64 a0_0, .int .i64 a0_1, .slice A0_2 l0_2.length c0_2] 28 ?_; intro gb1761 hg w3 hbox hb; have BK1761 := A_ (hbox); have GW1761 := A_ ((ts_ hg : w.heap.size ≤ gb1761)); have GE1761 := A_ ((ts_ hg : w.heap.size ≤ gb1761)); replace HB := A_ (below_step tb_ hb); clear hb hbox hg) | (refine gd_ 2 ?_; refine bx_ 2 #[.int .i64 0, .int .i64 0, .slice none 0 0] 28 ?_; intro gb1762 hg w4 hbox hb; have BK1762 := A_ (hbox); have GW1762 := A_ ((ts_ hg : w.heap.size ≤ gb1762)); have GE1762 := A_ ((ts_ hg : w.heap.size ≤ gb1762)); replace HB := A_ (below_step tb_ hb); have NB1761_1762 := A_ ((by rw [hg]; exact Nat.ne_of_lt (blk_lt (g := gb1761) (o := .cells #[.int .i64 a0_0, .int .i64 a0_1, .slice A0_2 l0_2.length c0_2] 28 (0, 0)) (tk_ BK1761)) : gb1761 ≠ gb1762)); have NB1762_1761 := A_ ((by rw [hg]; exact Nat.ne_of_gt (blk_lt (g := gb1761) (o := .cells #[.int .i64 a0_0, .int .i64 a0_1, .slice A0_2 l0_2.length c0_2] 28 (0, 0)) (tk_ BK1761)) : gb1762 ≠ gb1761)); replace BK1761 := A_ (blk_below (g := gb1761) (o := .cells #[.int .i64 a0_0, .int .i64 a0_1, .slice A0_2 l0_2.length c0_2] 28 (0, 0)) (tk_ BK1761) hb); clear hb hbox hg; have hnb5 := NB1761_1762.out; have hnc5 := NB1762_1761.out; obtain ⟨hcz6_0, hcz6_1, hcz6_2, hfz6_0, hfz6_1, hfz6_2⟩ := cf3_ BK1761.out) | (refine gc_ 228 ?_; refine goesT_ (some 10) Try.func228 #[.int .i64 a0_1, .int .i64 a0_0] ?_; (with_reducible refine (impl_newBoard.calls a0_1 a0_0 t1763 t1764 t1765 _ A2.out).mono ?_); rintro e w7 ⟨v1766, rfl, ho0, hb⟩; refine ⟨_, rfl, ?_⟩; have HO1767 := A_ (Kd.R_lower ho0 (below_size tb_)); replace BK1761 := A_ (blk_below (g := gb1761) (o := .cells #[.int .i64 a0_0, .int .i64 a0_1, .slice A0_2 l0_2.length c0_2] 28 (0, 0)) (tk_ BK1761) hb); replace BK1762 := A_ (blk_below (g := gb1762) (o := .cells #[.int .i64 0, .int .i64 0, .slice none 0 0] 28 (0, 0)) (tk_ BK1762) hb); replace HB := A_ (below_step tb_ hb); (try clear hb); (try clear ho0)) | (refine gd_ 3 ?_; refine bx_ 3 #[.int .i64 0, .int .i64 0, .slice none 0 0] 28 ?_; intro gb1768 hg w8 hbox hb; replace HO1767 := A_ (Kd.R_below (tr_x HO1767.out) hb); have BK1768 := A_ (hbox); have GW1768 := A_ ((ts_ hg : w.heap.size ≤ gb1768)); have GE1768 := A_ ((ts_ hg : w.heap.size ≤ gb1768)); replace HB := A_ (below_step tb_ hb); have NB1761_1768 := A_ ((by rw [hg]; exact Nat.ne_of_lt (blk_lt (g := gb1761) (o := .cells #[.int .i64 a0_0, .int .i64 a0_1, .slice A0_2 l0_2.length c0_2] 28 (0, 0)) (tk_ BK1761)) : gb1761 ≠ gb1768)); have NB1768_1761 := A_ ((by rw [hg]; exact Nat.ne_of_gt (blk_lt (g := gb1761) (o := .cells #[.int .i64 a0_0, .int .i64 a0_1, .slice A0_2 l0_2.length c0_2] 28 (0, 0)) (tk_ BK1761)) : gb1768 ≠ gb1761)); replace BK1761 := A_ (blk_below (g := gb1761) (o := .cells #[.int .i64 a0_0, .int .i64 a0_1, .slice A0_2 l0_2.length c0_2] 28 (0, 0)) (tk_ BK1761) hb); have NB1762_1768 := A_ ((by rw [hg]; exact Nat.ne_of_lt (blk_lt (g := gb1762) (o := .cells #[.int .i64 0, .int .i64 0, .slice none 0 0] 28 (0, 0)) (tk_ BK1762)) : gb1762 ≠ gb1768)); have NB1768_1762 := A_ ((by rw [hg]; exact Nat.ne_of_gt (blk_lt (g := gb1762) (o := .cells #[.int .i64 0, .int .i64 0, .slice none 0 0] 28 (0, 0)) (tk_ BK1762)) : gb1768 ≠ gb1762)); replace BK1762 := A_ (blk_below (g := gb1762) (o := .cells #[.int .i64 0, .int .i64 0, .slice none 0 0] 28 (0, 0)) (tk_ BK1762) hb); clear hb hbox hg; have hnb9 := NB1768_1761.out; have hnc9 := NB1761_1768.out; have hnb10 := NB1768_1762.out; have hnc10 := NB1762_1768.out; obtain ⟨hcz11_0, hcz11_1, hcz11_2, hfz11_0, hfz11_1, hfz11_2⟩ := cf3_ BK1768.out; obtain ⟨Ao12, co12, eo12⟩ := Kd.R_slice HO1767.out; subst eo12; obtain ⟨hcz13_0, hcz13_1, hcz13_2, hfz13_0, hfz13_1, hfz13_2⟩ := cf3_ BK1761.out))
 go_loopg [13] k (fun kq v13 w' => ∃ (x13_1 : Int) (x1769002_1 : List Int) (u1769002 : Value), v13 = .int .i64 x13_1 ∧ Aside0 (impl_Board_turned.l0 kq a0_0 x13_1 a0_0 a0_1 l0_2 t1763 t1764 x1769002_1 = some (r1, r2, r3)) ∧ Aside0 (kq ≤ k) ∧ Aside0 (Kd.R (Kd.int .i64) 3 w' w.heap.size (fun _ => True) u1769002 x1769002_1) ∧ Aside0 (w'.heap[gb1761]? = some (.cells #[.int .i64 a0_0, .int .i64 a0_1, (.slice A0_2 l0_2.length c0_2)] 28 (0, 0))) ∧ Aside0 (w'.heap[gb1762]? = some (.cells #[.int .i64 0, .int .i64 0, (.slice none 0 0)] 28 (0, 0))) ∧ Aside0 (w'.heap[gb1768]? = some (.cells #[.int .i64 t1763, .int .i64 t1764, u1769002] 28 (0, 0))) ∧ Aside0 (Below w.heap.size w w'))
 case atStart => exact ⟨(0), (t1765), (.slice Ao12 t1765.length co12), tf_, H', ⟨Nat.le_refl _⟩, ⟨by (with_reducible repeat (first | apply Kd.R_alloc | apply Kd.R_drewN | apply Kd.R_drew)); exact Kd.R_mono (Kd.R_far (p := ⟨gb1768, 2, none⟩) (Kd.R_far (p := ⟨gb1768, 1, none⟩) (Kd.R_far (p := ⟨gb1768, 0, none⟩) (Kd.R_types HO1767.out BK1768.out (by decide)) (fun _ hk => hk.2) (.int .i64 t1763)) (fun _ hk => hk.2) (.int .i64 t1764)) (fun _ hk => hk.2) (.slice Ao12 t1765.length co12)) (fun _ hk => trivial)⟩, ⟨tk_ BK1761⟩, ⟨tk_ BK1762⟩, ⟨by (with_reducible repeat (first | refine blk_drewN ?_ _ | refine blk_drew ?_ | refine blk_alloc ?_ _)); refine blk_put (cs := #[.int .i64 t1763, .int .i64 t1764, .slice none 0 0]) ?_ 2 _ rfl; (with_reducible repeat (first | refine blk_drewN ?_ _ | refine blk_drew ?_ | refine blk_alloc ?_ _)); refine blk_put (cs := #[.int .i64 t1763, .int .i64 0, .slice none 0 0]) ?_ 1 _ rfl; (with_reducible repeat (first | refine blk_drewN ?_ _ | refine blk_drew ?_ | refine blk_alloc ?_ _)); refine blk_put (cs := #[.int .i64 0, .int .i64 0, .slice none 0 0]) ?_ 0 _ rfl; (with_reducible repeat (first | refine blk_drewN ?_ _ | refine blk_drew ?_ | refine blk_alloc ?_ _)); exact BK1768.out⟩, ⟨tb_⟩⟩
 case round =>
  clear H'
  try clear c1
  try clear c2
  try clear p2
  try clear c5
  try clear c9
  try clear c10
  try clear hcz11_0
  try clear hcz11_1
  try clear hcz11_2
  try clear hcz13_0
  try clear hcz13_1
  try clear hcz13_2
  try clear hcz6_0
  try clear hcz6_1
  try clear hcz6_2
  try clear hfz11_0
  try clear hfz11_1
  try clear hfz11_2
  try clear hfz13_0
  try clear hfz13_1
  try clear hfz13_2
  try clear hfz6_0
  try clear hfz6_1
  try clear hfz6_2
  obtain ⟨x13_1, x1769002_1, u1769002, rfl, HA, HK1, HO_1769002, BK1761, BK1762, BK1768, HB⟩ := hrel
  cases gk with
  | zero => exact absurd HA.out (by simp [impl_Board_turned.l0])
  | succ k1 =>
   have H := HA.out
   clear HA
   simp only [impl_Board_turned.l0] at H
   by_cases c14 : x13_1 < a0_0
   ·
    rw [if_pos c14] at H
    have c14b0 := decide_eq_true c14
    clear c14
    have H' := A_ H
    clear H
    have hnb15 := NB1761_1762.out
    have hnc15 := NB1762_1761.out
    have hnb16 := NB1761_1768.out
    have hnc16 := NB1768_1761.out
    obtain ⟨hcz17_0, hcz17_1, hcz17_2, hfz17_0, hfz17_1, hfz17_2⟩ := cf3_ BK1761.out
    go_wp2
    go_loopg [18] k1 (fun kq v18 w' => ∃ (x18_2 : Int) (x1769002_2 : List Int) (u1769002 : Value), v18 = .int .i64 x18_2 ∧ Aside0 (impl_Board_turned.l1 kq x13_1 a0_0 x13_1 a0_1 x18_2 a0_0 a0_1 l0_2 t1763 t1764 x1769002_2 = some (r1, r2, r3)) ∧ Aside0 (kq ≤ k1) ∧ Aside0 (Kd.R (Kd.int .i64) 3 w' w.heap.size (fun _ => True) u1769002 x1769002_2) ∧ Aside0 (w'.heap[gb1761]? = some (.cells #[.int .i64 a0_0, .int .i64 a0_1, (.slice A0_2 l0_2.length c0_2)] 28 (0, 0))) ∧ Aside0 (w'.heap[gb1762]? = some (.cells #[.int .i64 0, .int .i64 0, (.slice none 0 0)] 28 (0, 0))) ∧ Aside0 (w'.heap[gb1768]? = some (.cells #[.int .i64 t1763, .int .i64 t1764, u1769002] 28 (0, 0))) ∧ Aside0 (Below w.heap.size w w'))
    case atStart => exact ⟨(0), (x1769002_1), (u1769002), tf_, H', ⟨Nat.le_refl _⟩, ⟨tr_x HO_1769002.out⟩, ⟨tk_ BK1761⟩, ⟨tk_ BK1762⟩, ⟨tk_ BK1768⟩, ⟨tb_⟩⟩
    case round =>
     clear H'
     try clear c1
     try clear c2
     try clear p2
     try clear c5
     try clear c9
     try clear c10
     try clear c14
     try clear c14b0
     try clear c15
     try clear c16
     try clear hcz11_0
     try clear hcz11_1
     try clear hcz11_2
     try clear hcz13_0
     try clear hcz13_1
     try clear hcz13_2
     try clear hcz17_0
     try clear hcz17_1
     try clear hcz17_2
     try clear hcz6_0
     try clear hcz6_1
     try clear hcz6_2
     try clear hfz11_0
     try clear hfz11_1
     try clear hfz11_2
     try clear hfz13_0
     try clear hfz13_1
     try clear hfz13_2
     try clear hfz17_0
     try clear hfz17_1
     try clear hfz17_2
     try clear hfz6_0
     try clear hfz6_1
     try clear hfz6_2
     try clear p2
     obtain ⟨x18_2, x1769002_2, u1769002, rfl, HA, HK2, HO_1769002, BK1761, BK1762, BK1768, HB⟩ := hrel
     cases gk with
     | zero => exact absurd HA.out (by simp [impl_Board_turned.l1])
     | succ k2 =>
      have H := HA.out
      clear HA
      simp only [impl_Board_turned.l1] at H
      by_cases c18 : x18_2 < a0_1
      ·
       rw [if_pos c18] at H
       have c18b0 := decide_eq_true c18
       clear c18
       replace H := Option.bind_eq_some_iff.mp H
       obtain ⟨t1769, A190, H⟩ := H
       replace H : (if t1769 = true then (if 0 ≤ x18_2 then (if x18_2 < (x1769002_2.length : Int) then (if 0 ≤ x13_1 then (impl_Board_turned.l1 k2 x13_1 a0_0 x13_1 a0_1 (wrap64 (x18_2 + 1)) a0_0 a0_1 l0_2 t1763 t1764 (x1769002_2.set (x18_2 : Int).toNat (Go.bits .or .i64 (rd x1769002_2 x18_2) (shl .i64 1 x13_1)))) else (none)) else (none)) else (none)) else (impl_Board_turned.l1 k2 x13_1 a0_0 x13_1 a0_1 (wrap64 (x18_2 + 1)) a0_0 a0_1 l0_2 t1763 t1764 x1769002_2)) = some (r1, r2, r3) := H
       have A19 := A_ A190
       clear A190
       by_cases c20 : t1769 = true
       ·
        subst c20
        have H1 : (if 0 ≤ x18_2 then (if x18_2 < (x1769002_2.length : Int) then (if 0 ≤ x13_1 then (impl_Board_turned.l1 k2 x13_1 a0_0 x13_1 a0_1 (wrap64 (x18_2 + 1)) a0_0 a0_1 l0_2 t1763 t1764 (x1769002_2.set (x18_2 : Int).toNat (Go.bits .or .i64 (rd x1769002_2 x18_2) (shl .i64 1 x13_1)))) else (none)) else (none)) else (none)) = some (r1, r2, r3) := by rw [if_pos rfl] at H; exact H
        clear H
        have H := H1
        clear H1
        by_cases c21 : 0 ≤ x18_2
        ·
         rw [if_pos c21] at H
         have c21b0 := decide_eq_true c21
         clear c21
         by_cases c22 : x18_2 < (x1769002_2.length : Int)
         ·
          rw [if_pos c22] at H
          have c22b0 := decide_eq_true c22
          clear c22
          by_cases c23 : 0 ≤ x13_1
          ·
           rw [if_pos c23] at H
           have c23b0 := eq_true c23
           have c23b1 := decide_eq_true c23
           clear c23
           obtain ⟨ji24, hji24⟩ : ∃ j_ : Int, (shl .i64 1 x13_1) = j_ := ⟨_, rfl⟩
           replace H : (impl_Board_turned.l1 k2 x13_1 a0_0 x13_1 a0_1 (wrap64 (x18_2 + 1)) a0_0 a0_1 l0_2 t1763 t1764 (x1769002_2.set (x18_2 : Int).toNat (Go.bits .or .i64 (rd x1769002_2 x18_2) (ji24)))) = some (r1, r2, r3) := by first | (rw [hji24] at H; exact H) | (simp only [hji24] at H ⊢; exact H)
           (try rw [hji24] at A19)
           have hji24_ : (IntKind.i64.wrap (1 * 2 ^ min x13_1.toNat 64)) = ji24 := hji24
           have hji24z : x13_1 ≤ 64 → (IntKind.i64.wrap (1 * 2 ^ x13_1.toNat)) = ji24 := shl_small hji24
           have hji24u : (IntKind.i64.wrap (2 ^ min x13_1.toNat 64)) = ji24 := by have h_ := hji24_; rw [Int.one_mul] at h_; exact h_
           have hji24v : x13_1 ≤ 64 → (IntKind.i64.wrap (2 ^ x13_1.toNat)) = ji24 := fun hle_ => by have h_ := hji24z hle_; rw [Int.one_mul] at h_; exact h_
           have hji24y : (wrap64 (1 * 2 ^ min x13_1.toNat 64)) = ji24 := (i64_w _).symm.trans hji24_
           have hji24x : x13_1 ≤ 64 → (wrap64 (1 * 2 ^ x13_1.toNat)) = ji24 := fun h_ => (i64_w _).symm.trans (hji24z h_)
           obtain ⟨y1771, hy1771⟩ : ∃ y_ : List Int, y_ = (x1769002_2.set (x18_2 : Int).toNat (Go.bits .or .i64 (rd x1769002_2 x18_2) (ji24))) := ⟨_, rfl⟩
           replace H : (impl_Board_turned.l1 k2 x13_1 a0_0 x13_1 a0_1 (wrap64 (x18_2 + 1)) a0_0 a0_1 l0_2 t1763 t1764 y1771) = some (r1, r2, r3) := ty_ hy1771 H
           have Ny1771 := A_ hy1771
           clear hy1771
           have H' := A_ H
           clear H
           have hnb26 := NB1761_1762.out
           have hnc26 := NB1762_1761.out
           have hnb27 := NB1761_1768.out
           have hnc27 := NB1768_1761.out
           obtain ⟨hcz28_0, hcz28_1, hcz28_2, hfz28_0, hfz28_1, hfz28_2⟩ := cf3_ BK1761.out
           try go_wp2_with (first | (refine gc_ 127 ?_; refine goesT_ (some 24) Try.func127 #[.agg #[.int .i64 a0_0, .int .i64 a0_1, .slice A0_2 l0_2.length c0_2], .int .i64 x13_1, .int .i64 x18_2] ?_; (with_reducible refine (impl_Board_has.calls a0_0 a0_1 _ _ l0_2 x13_1 x18_2 true _ ?side1 ?side2 A19.out).mono ?_); (case side1 => exact tc_ HR0_2.out); (case side2 => exact HC0_2.out); rintro e w29 ⟨rfl, hb⟩; refine ⟨_, rfl, ?_⟩; replace HO_1769002 := A_ (Kd.R_below (tr_x HO_1769002.out) hb); replace BK1761 := A_ (blk_below (g := gb1761) (o := .cells #[.int .i64 a0_0, .int .i64 a0_1, .slice A0_2 l0_2.length c0_2] 28 (0, 0)) (tk_ BK1761) hb); replace BK1762 := A_ (blk_below (g := gb1762) (o := .cells #[.int .i64 0, .int .i64 0, .slice none 0 0] 28 (0, 0)) (tk_ BK1762) hb); replace BK1768 := A_ (blk_below (g := gb1768) (o := .cells #[.int .i64 t1763, .int .i64 t1764, u1769002] 28 (0, 0)) (tk_ BK1768) hb); replace HB := A_ (below_step tb_ hb); (try clear hb)))
           have n0_ := A_ (Kd.R_drew HO_1769002.out)
           have n1_ := A_ (blk_drew BK1761.out)
           have n2_ := A_ (blk_drew BK1762.out)
           have n3_ := A_ (blk_drew BK1768.out)
           have n4_ := A_ (below_drew1 HB.out)
           clear HO_1769002
           clear BK1761
           clear BK1762
           clear BK1768
           clear HB
           have HO_1769002 := n0_
           have BK1761 := n1_
           have BK1762 := n2_
           have BK1768 := n3_
           have HB := n4_
           clear n0_ n1_ n2_ n3_ n4_
           obtain ⟨Ao31, co31, eo31⟩ := Kd.R_slice HO_1769002.out
           (first | subst eo31 | (injection eo31 with f1_ f2_ f3_; have f4_ := f1_.symm; have f5_ := f3_.symm; clear f1_ f2_ f3_; subst f4_; subst f5_))
           have p1770 : 0 ≤ (x18_2 : Int) := od_
           have q1770 : x18_2 < (x1769002_2.length : Int) := od_
           obtain ⟨ad1770, e1770, hx1770_0⟩ := Kd.at_int (Kd.R_reads' HO_1769002.out).2.2 x18_2 p1770 q1770
           cases e1770
           replace p1770 := eq_true p1770
           replace q1770 := eq_true q1770
           have p25 : 0 ≤ (x18_2 : Int) := od_
           have q25 : (x18_2 : Int) < ((x1769002_2.length : Int) : Int) := od_
           obtain ⟨go25, co25, eo25, gb25, gl25, cl25, HG25⟩ := Kd.R_form HO_1769002.out (by omega)
           (first | cases eo25 | (injection eo25 with ea_ en_ ec_; (first | subst ea_ | (injection ea_ with ea_; subst ea_)); subst ec_; clear en_))
           have GB25 := A_ gb25
           have GG25 := A_ HG25
           clear gb25 gl25 HG25
           (first | simp only [add_plain] at hx1770_0 | skip)
           obtain ⟨hx25_0, hf25_0⟩ := Kd.R_celln 0 HO_1769002.out (x18_2 : Int) p25 q25
           replace p25 := eq_true p25
           replace q25 := eq_true q25
           have HP32 := Kd.R_putn HO_1769002.out (x18_2 : Int) (Go.bits .or .i64 (rd x1769002_2 x18_2) (ji24))
           rw [← Ny1771.out] at HP32
           have HQ32 := A_ HP32
           clear HP32
           refine start_ (n := 10) (S := fun w' => w'.cell? ⟨gb1768, 0, none⟩ = some (.int .i64 t1763) ∧ w'.cell? ⟨gb1768, 1, none⟩ = some (.int .i64 t1764) ∧ w'.cell? ⟨gb1768, 2, none⟩ = some (.slice (some ⟨go25, 0, none⟩) x1769002_2.length co31) ∧ w'.cell? ⟨go25, (x18_2).toNat, none⟩ = some (.int .i64 (rd x1769002_2 x18_2))) (ds := [9]) (Fn.bl 10 0) (by kernel_rfl) rfl rfl ⟨(blk_cell BK1768.out 0).trans rfl, (blk_cell BK1768.out 1).trans rfl, (blk_cell BK1768.out 2).trans rfl, hx1770_0⟩ (fun hHeld => ?_); refine with_tabW impl_Board_turned.tab9 impl_Board_turned.bits9 (fun HT_ HW_ => ?_)
           generalize w29.drew = w30 at HO_1769002 BK1761 BK1762 BK1768 HB GG25 HQ32 hf25_0 hx1770_0 hx25_0 hHeld ⊢
           refine pq_ 0 (some 25) (Fn.bl 10 1) HT_.out ?_
           refine pq_ 2 (some 27) (Fn.bl 10 5) HT_.out ?_
           refine pq_ 5 (some 30) (Fn.bl 10 37) HT_.out ?_
           refine pq_ 6 (some 31) (Fn.bl 10 101) HT_.out ?_
           refine tq_ 1 (some 26) (Fn.bl 10 103) HT_.out HW_.out hHeld ?_ (hy0 := by rintro w' ⟨s0, s1, s2, s3⟩; go_simp; with_reducible rfl)
           refine pq_ 3 (some 28) (Fn.bl 10 111) HT_.out ?_
           refine tq_ 4 (some 29) (Fn.bl 10 127) HT_.out HW_.out hHeld ?_ (hy0 := by rintro w' ⟨s0, s1, s2, s3⟩; go_simp; with_reducible rfl)
           refine pq_ 7 (some 32) (Fn.bl 10 255) HT_.out ?_
           refine pq_ 8 (some 33) (Fn.bl 10 511) HT_.out ?_
           refine last_ (i := 9) (N := none) (Fn.bl 10 1023) rfl rfl (one_of HT_.out (by kernel_rfl)) (by decide) (fun K hK => ?_)
           refine skip_ (w1 := ?_) (by rfl) rfl ?_ ?_
           rotate_left
           ·
            go_simp
            rfl
           refine hK.out _ _ ?_
           clear hK K
           refine done_ (done_of HT_.out (by kernel_rfl)) ?_
           try go_wp2
           go_roundg k2
           case measure => have := HK1.out; have := HK2.out; omega
           case rel => exact ⟨(wrap64 (x18_2 + 1)), (y1771), (.slice (some ⟨go25, 0, none⟩) x1769002_2.length co31), tf_, H', ⟨by have := HK1.out; have := HK2.out; omega⟩, ⟨tr_x HQ32.out⟩, ⟨by (with_reducible repeat (first | refine blk_drewN ?_ _ | refine blk_drew ?_ | refine blk_alloc ?_ _)); refine blk_far ?_ (by have h_ := Kd.R_ne HO_1769002.out BK1761.out (by decide); intro e_; exact h_ (by rw [e_]; rfl)) _; (with_reducible repeat (first | refine blk_drewN ?_ _ | refine blk_drew ?_ | refine blk_alloc ?_ _)); exact BK1761.out⟩, ⟨by (with_reducible repeat (first | refine blk_drewN ?_ _ | refine blk_drew ?_ | refine blk_alloc ?_ _)); refine blk_far ?_ (by have h_ := Kd.R_ne HO_1769002.out BK1762.out (by decide); intro e_; exact h_ (by rw [e_]; rfl)) _; (with_reducible repeat (first | refine blk_drewN ?_ _ | refine blk_drew ?_ | refine blk_alloc ?_ _)); exact BK1762.out⟩, ⟨by (with_reducible repeat (first | refine blk_drewN ?_ _ | refine blk_drew ?_ | refine blk_alloc ?_ _)); refine blk_far ?_ (by have h_ := Kd.R_ne HO_1769002.out BK1768.out (by decide); intro e_; exact h_ (by rw [e_]; rfl)) _; (with_reducible repeat (first | refine blk_drewN ?_ _ | refine blk_drew ?_ | refine blk_alloc ?_ _)); exact BK1768.out⟩, ⟨tb_⟩⟩
          ·
           rw [if_neg c23] at H
           exact absurd H (by simp)
         ·
          rw [if_neg c22] at H
          exact absurd H (by simp)
        ·
         rw [if_neg c21] at H
         exact absurd H (by simp)
       ·
        replace c20 := Bool.eq_false_iff.mpr c20
        subst c20
        have H1 : (impl_Board_turned.l1 k2 x13_1 a0_0 x13_1 a0_1 (wrap64 (x18_2 + 1)) a0_0 a0_1 l0_2 t1763 t1764 x1769002_2) = some (r1, r2, r3) := by rw [if_neg (show ¬ (false = true) by decide)] at H; exact H
        clear H
        have H := H1
        clear H1
        have H' := A_ H
        clear H
        have hnb33 := NB1761_1762.out
        have hnc33 := NB1762_1761.out
        have hnb34 := NB1761_1768.out
        have hnc34 := NB1768_1761.out
        obtain ⟨hcz35_0, hcz35_1, hcz35_2, hfz35_0, hfz35_1, hfz35_2⟩ := cf3_ BK1761.out
        go_wp2_with (first | (refine gc_ 127 ?_; refine goesT_ (some 24) Try.func127 #[.agg #[.int .i64 a0_0, .int .i64 a0_1, .slice A0_2 l0_2.length c0_2], .int .i64 x13_1, .int .i64 x18_2] ?_; (with_reducible refine (impl_Board_has.calls a0_0 a0_1 _ _ l0_2 x13_1 x18_2 false _ ?side1 ?side2 A19.out).mono ?_); (case side1 => exact tc_ HR0_2.out); (case side2 => exact HC0_2.out); rintro e w36 ⟨rfl, hb⟩; refine ⟨_, rfl, ?_⟩; replace HO_1769002 := A_ (Kd.R_below (tr_x HO_1769002.out) hb); replace BK1761 := A_ (blk_below (g := gb1761) (o := .cells #[.int .i64 a0_0, .int .i64 a0_1, .slice A0_2 l0_2.length c0_2] 28 (0, 0)) (tk_ BK1761) hb); replace BK1762 := A_ (blk_below (g := gb1762) (o := .cells #[.int .i64 0, .int .i64 0, .slice none 0 0] 28 (0, 0)) (tk_ BK1762) hb); replace BK1768 := A_ (blk_below (g := gb1768) (o := .cells #[.int .i64 t1763, .int .i64 t1764, u1769002] 28 (0, 0)) (tk_ BK1768) hb); replace HB := A_ (below_step tb_ hb); (try clear hb)))
        go_roundg k2
        case measure => have := HK1.out; have := HK2.out; omega
        case rel => exact ⟨(wrap64 (x18_2 + 1)), (x1769002_2), (u1769002), tf_, H', ⟨by have := HK1.out; have := HK2.out; omega⟩, ⟨tr_x HO_1769002.out⟩, ⟨tk_ BK1761⟩, ⟨tk_ BK1762⟩, ⟨tk_ BK1768⟩, ⟨tb_⟩⟩
      ·
       rw [if_neg c18] at H
       have c18b0 := decide_eq_false c18
       clear c18
       have H' := A_ H
       clear H
       go_wp2
       go_roundg k2
       case measure => have := HK1.out; have := HK2.out; omega
       case rel => exact ⟨(wrap64 (x13_1 + 1)), (x1769002_2), (u1769002), tf_, H', ⟨by have := HK1.out; have := HK2.out; omega⟩, ⟨tr_x HO_1769002.out⟩, ⟨tk_ BK1761⟩, ⟨tk_ BK1762⟩, ⟨tk_ BK1768⟩, ⟨tb_⟩⟩
   ·
    rw [if_neg c14] at H
    have c14b0 := decide_eq_false c14
    clear c14
    simp only [Option.some.injEq, Prod.mk.injEq] at H
    obtain ⟨rfl, rfl, rfl⟩ := H
    have hnb37 := NB1768_1761.out
    have hnc37 := NB1761_1768.out
    have hnb38 := NB1768_1762.out
    have hnc38 := NB1762_1768.out
    obtain ⟨hcz39_0, hcz39_1, hcz39_2, hfz39_0, hfz39_1, hfz39_2⟩ := cf3_ BK1768.out
    have hnb40 := NB1762_1761.out
    have hnc40 := NB1761_1762.out
    obtain ⟨hcz41_0, hcz41_1, hcz41_2, hfz41_0, hfz41_1, hfz41_2⟩ := cf3_ BK1762.out
    obtain ⟨Ao42, co42, eo42⟩ := Kd.R_slice HO_1769002.out
    subst eo42
    go_wp2
    refine bodyPost_ret (results_cell_row rfl _ _ gb1762 28 #[.int .i64 t1763, .int .i64 t1764, .slice Ao42 x1769002_1.length co42] (0, 0) _ rfl (by (with_reducible repeat (first | refine blk_drewN ?_ _ | refine blk_drew ?_ | refine blk_alloc ?_ _)); refine blk_put (cs := #[.int .i64 t1763, .int .i64 t1764, .slice none 0 0]) ?_ 2 _ rfl; (with_reducible repeat (first | refine blk_drewN ?_ _ | refine blk_drew ?_ | refine blk_alloc ?_ _)); refine blk_put (cs := #[.int .i64 t1763, .int .i64 0, .slice none 0 0]) ?_ 1 _ rfl; (with_reducible repeat (first | refine blk_drewN ?_ _ | refine blk_drew ?_ | refine blk_alloc ?_ _)); refine blk_put (cs := #[.int .i64 0, .int .i64 0, .slice none 0 0]) ?_ 0 _ rfl; (with_reducible repeat (first | refine blk_drewN ?_ _ | refine blk_drew ?_ | refine blk_alloc ?_ _)); exact BK1762.out) Try.underlying28 rfl (by kernel_rfl)) rfl ?_
    exact ⟨_, te_, by (with_reducible repeat (first | apply Kd.R_alloc | apply Kd.R_drewN | apply Kd.R_drew)); exact Kd.R_mono (Kd.R_far (p := ⟨gb1762, 2, none⟩) (Kd.R_far (p := ⟨gb1762, 1, none⟩) (Kd.R_far (p := ⟨gb1762, 0, none⟩) (Kd.R_types HO_1769002.out BK1762.out (by decide)) (fun _ hk => hk.2) (.int .i64 t1763)) (fun _ hk => hk.2) (.int .i64 t1764)) (fun _ hk => hk.2) (.slice Ao42 x1769002_1.length co42)) (fun _ hk => trivial), tb_⟩

/-! ### impl_Board_heights: function 210 -/
def impl_Board_heights.f (k : Nat) (a0_0 : Int) (a0_1 : Int) (l0_2 : List Int) : Option (List Int) := (impl_Board_turned.f k a0_0 a0_1 l0_2).bind fun bt1773 => ((impl_RowCounts.f k bt1773.1 bt1773.2.1 bt1773.2.2).bind fun bt1778 => (some bt1778.1))
theorem impl_Board_heights.mono : ∀ a0 a1 a2 k, LeO (impl_Board_heights.f k a0 a1 a2) (impl_Board_heights.f (k + 1) a0 a1 a2) := by
 intro a0 a1 a2 k
 unfold impl_Board_heights.f
 repeat' first | (with_reducible first | exact impl_Board_turned.mono _ _ _ _ | exact impl_RowCounts.mono _ _ _ _ | exact LeO.refl _ | exact LeO.none _ | refine LeO.ite ?_ ?_ | refine LeO.bind ?_ (fun _ => ?_)) | exact impl_Board_turned.mono _ _ _ _ | exact impl_RowCounts.mono _ _ _ _ | exact LeO.none _ | refine LeO.ite ?_ ?_ | refine LeO.bind ?_ (fun _ => ?_)
theorem impl_Board_heights.calls (k : Nat) (a0_0 : Int) (a0_1 : Int) (A0_2 : Option Addr) (c0_2 : Nat) (l0_2 : List Int) (r : List Int) (w : World) (hr0_2 : Kd.C (Kd.int .i64) w A0_2 l0_2.length l0_2) (hc0_2 : l0_2.length ≤ c0_2) (h : impl_Board_heights.f k a0_0 a0_1 l0_2 = some r) :
  Calls Try.prog 210 #[.agg #[.int .i64 a0_0, .int .i64 a0_1, .slice A0_2 l0_2.length c0_2]] w fun e w' => ∃ v0_ : Value, e = .returned (v0_) ∧ Kd.R (Kd.int .i64) 3 w' w.heap.size (fun _ => True) v0_ r ∧ Below w.heap.size w w' := by
 have hu28 := Try.underlying28
 have HR0_2 := A_ hr0_2
 have HC0_2 := A_ hc0_2
 clear hr0_2 hc0_2
 have HB := A_ (Below.refl w.heap.size w)
 have H : ((impl_Board_turned.f k a0_0 a0_1 l0_2).bind fun bt1773 => ((impl_RowCounts.f k bt1773.1 bt1773.2.1 bt1773.2.2).bind fun bt1778 => (some bt1778.1))) = some r := h
 clear h
 replace H := Option.bind_eq_some_iff.mp H
 obtain ⟨⟨t1773, t1774, t1775⟩, A20, H⟩ := H
 replace H : ((impl_RowCounts.f k t1773 t1774 t1775).bind fun bt1778 => (some bt1778.1)) = some r := H
 have A2 := A_ A20
 clear A20
 replace H := Option.bind_eq_some_iff.mp H
 obtain ⟨⟨t1778, t1781⟩, A30, H⟩ := H
 replace H : (some t1778) = some r := H
 have A3 := A_ A30
 clear A30
 obtain rfl := Option.some.inj H
 go_enter Try.func210, Try.ntmps210
 go_wp2_with (first | (refine gd_ 1 ?_; refine bx_ 1 #[.int .i64 a0_0, .int .i64 a0_1, .slice A0_2 l0_2.length c0_2] 28 ?_; intro gb1772 hg w4 hbox hb; have BK1772 := A_ (hbox); have GW1772 := A_ ((ts_ hg : w.heap.size ≤ gb1772)); have GE1772 := A_ ((ts_ hg : w.heap.size ≤ gb1772)); replace HB := A_ (below_step tb_ hb); clear hb hbox hg; obtain ⟨hcz5_0, hcz5_1, hcz5_2, hfz5_0, hfz5_1, hfz5_2⟩ := cf3_ BK1772.out) | (refine gc_ 254 ?_; refine goesT_ (some 7) Try.func254 #[.agg #[.int .i64 a0_0, .int .i64 a0_1, .slice A0_2 l0_2.length c0_2]] ?_; (with_reducible refine (impl_Board_turned.calls k a0_0 a0_1 _ _ l0_2 t1773 t1774 t1775 _ ?side1 ?side2 A2.out).mono ?_); (case side1 => exact tc_ HR0_2.out); (case side2 => exact HC0_2.out); rintro e w6 ⟨v1776, rfl, ho0, hb⟩; refine ⟨_, rfl, ?_⟩; have HO1777 := A_ (Kd.R_lower ho0 (below_size tb_)); replace BK1772 := A_ (blk_below (g := gb1772) (o := .cells #[.int .i64 a0_0, .int .i64 a0_1, .slice A0_2 l0_2.length c0_2] 28 (0, 0)) (tk_ BK1772) hb); replace HB := A_ (below_step tb_ hb); (try clear hb); (try clear ho0); obtain ⟨Ao7, co7, eo7⟩ := Kd.R_slice HO1777.out; subst eo7) | (refine gc_ 253 ?_; refine goesT_ (some 8) Try.func253 #[.agg #[.int .i64 t1773, .int .i64 t1774, .slice Ao7 t1775.length co7]] ?_; (with_reducible refine (impl_RowCounts.calls k t1773 t1774 _ _ t1775 t1778 t1781 _ ?side1 ?side2 A3.out).mono ?_); (case side1 => exact tc0_ (Kd.R_reads' HO1777.out).2.2); (case side2 => exact (Kd.R_reads' HO1777.out).2.1); rintro e w8 ⟨v1779, rfl, ho0, hb⟩; refine ⟨_, rfl, ?_⟩; have HO1780 := A_ (Kd.R_lower (Kd.R_new' ho0 (Kd.R_lt (tr_x HO1777.out))) (below_size tb_)); replace HO1777 := A_ (Kd.R_elder' (tr_x HO1777.out) (Kd.R_base ho0) hb); replace BK1772 := A_ (blk_below (g := gb1772) (o := .cells #[.int .i64 a0_0, .int .i64 a0_1, .slice A0_2 l0_2.length c0_2] 28 (0, 0)) (tk_ BK1772) hb); replace HB := A_ (below_step tb_ hb); (try clear hb); (try clear ho0)))
 go_ret
 exact ⟨_, te_, by (with_reducible repeat (first | apply Kd.R_alloc | apply Kd.R_drewN | apply Kd.R_drew)); exact Kd.R_mono HO1780.out (fun _ hk => trivial), tb_⟩

/-! ### impl_product: function 211 -/
mutual
def impl_product.l0 : Nat → List Int → List Int → List Int → Int → Int → Option (List Int)
 | 0, _, _, _, _, _ => none
 | k + 1, x1, x5, x17, x18, x19 => if x19 < x18 then (if 0 ≤ x19 then (if x19 < (x17.length : Int) then (impl_product.l1 k x1 x5 x19 (rd x17 x19) x17 x18 x19 x1 (x1.length : Int) 0) else (none)) else (none)) else (some x5)
def impl_product.l1 : Nat → List Int → List Int → Int → Int → List Int → Int → Int → List Int → Int → Int → Option (List Int)
 | 0, _, _, _, _, _, _, _, _, _, _ => none
 | k + 1, x1, x5, x6, x7, x17, x18, x19, x24, x25, x26 => if x26 < x25 then (if 0 ≤ x26 then (if x26 < (x24.length : Int) then (if 0 ≤ (wrap64 (x6 + x26)) then (if (wrap64 (x6 + x26)) < (x5.length : Int) then (impl_product.l1 k x1 (x5.set ((wrap64 (x6 + x26)) : Int).toNat (wrap64 ((rd x5 (wrap64 (x6 + x26))) + (wrap64 (x7 * (rd x24 x26)))))) x6 x7 x17 x18 x19 x24 x25 (wrap64 (x26 + 1))) else (none)) else (none)) else (none)) else (none)) else (impl_product.l0 k x1 x5 x17 x18 (wrap64 (x19 + 1)))
end
def impl_product.f (k : Nat) (l0 : List Int) (l1 : List Int) : Option (List Int) := if 0 ≤ (wrap64 ((wrap64 ((l0.length : Int) + (l1.length : Int))) - 1)) then (if (wrap64 ((wrap64 ((l0.length : Int) + (l1.length : Int))) - 1) : Int).toNat ≤ 35184372088832 then (impl_product.l0 k l1 (List.replicate (wrap64 ((wrap64 ((l0.length : Int) + (l1.length : Int))) - 1) : Int).toNat 0) l0 (l0.length : Int) 0) else (none)) else (none)
theorem impl_product.mono_l : ∀ k, (∀ y0 y1 y2 y3 y4, LeO (impl_product.l0 k y0 y1 y2 y3 y4) (impl_product.l0 (k + 1) y0 y1 y2 y3 y4)) ∧ (∀ y0 y1 y2 y3 y4 y5 y6 y7 y8 y9, LeO (impl_product.l1 k y0 y1 y2 y3 y4 y5 y6 y7 y8 y9) (impl_product.l1 (k + 1) y0 y1 y2 y3 y4 y5 y6 y7 y8 y9))
 | 0 => ⟨fun _ _ _ _ _ r h => by simp [impl_product.l0] at h, fun _ _ _ _ _ _ _ _ _ _ r h => by simp [impl_product.l1] at h⟩
 | k + 1 => by
  obtain ⟨ih0, ih1⟩ := impl_product.mono_l k
  refine ⟨?_, ?_⟩
  ·
   intro y0 y1 y2 y3 y4
   unfold impl_product.l0
   repeat' first | (with_reducible first | exact ih0 _ _ _ _ _ | exact ih1 _ _ _ _ _ _ _ _ _ _ | exact LeO.refl _ | exact LeO.none _ | refine LeO.ite ?_ ?_ | refine LeO.bind ?_ (fun _ => ?_)) | exact ih0 _ _ _ _ _ | exact ih1 _ _ _ _ _ _ _ _ _ _ | exact LeO.none _ | refine LeO.ite ?_ ?_ | refine LeO.bind ?_ (fun _ => ?_)
  ·
   intro y0 y1 y2 y3 y4 y5 y6 y7 y8 y9
   unfold impl_product.l1
   repeat' first | (with_reducible first | exact ih0 _ _ _ _ _ | exact ih1 _ _ _ _ _ _ _ _ _ _ | exact LeO.refl _ | exact LeO.none _ | refine LeO.ite ?_ ?_ | refine LeO.bind ?_ (fun _ => ?_)) | exact ih0 _ _ _ _ _ | exact ih1 _ _ _ _ _ _ _ _ _ _ | exact LeO.none _ | refine LeO.ite ?_ ?_ | refine LeO.bind ?_ (fun _ => ?_)
theorem impl_product.mono : ∀ a0 a1 k, LeO (impl_product.f k a0 a1) (impl_product.f (k + 1) a0 a1) := by
 intro a0 a1 k
 obtain ⟨ih0, ih1⟩ := impl_product.mono_l k
 unfold impl_product.f
 repeat' first | (with_reducible first | exact ih0 _ _ _ _ _ | exact ih1 _ _ _ _ _ _ _ _ _ _ | exact LeO.refl _ | exact LeO.none _ | refine LeO.ite ?_ ?_ | refine LeO.bind ?_ (fun _ => ?_)) | exact ih0 _ _ _ _ _ | exact ih1 _ _ _ _ _ _ _ _ _ _ | exact LeO.none _ | refine LeO.ite ?_ ?_ | refine LeO.bind ?_ (fun _ => ?_)
theorem impl_product.calls (k : Nat) (A0 : Option Addr) (c0 : Nat) (l0 : List Int) (A1 : Option Addr) (c1 : Nat) (l1 : List Int) (r : List Int) (w : World) (hr0 : Kd.C (Kd.int .i64) w A0 l0.length l0) (hc0 : l0.length ≤ c0) (hr1 : Kd.C (Kd.int .i64) w A1 l1.length l1) (hc1 : l1.length ≤ c1) (h : impl_product.f k l0 l1 = some r) :
  Calls Try.prog 211 #[.slice A0 l0.length c0, .slice A1 l1.length c1] w fun e w' => ∃ v0_ : Value, e = .returned (v0_) ∧ Kd.R (Kd.int .i64) 3 w' w.heap.size (fun _ => True) v0_ r ∧ Below w.heap.size w w' := by
 have HR0 := A_ hr0
 have HC0 := A_ hc0
 clear hr0 hc0
 have HR1 := A_ hr1
 have HC1 := A_ hc1
 clear hr1 hc1
 have HB := A_ (Below.refl w.heap.size w)
 have H : (if 0 ≤ (wrap64 ((wrap64 ((l0.length : Int) + (l1.length : Int))) - 1)) then (if (wrap64 ((wrap64 ((l0.length : Int) + (l1.length : Int))) - 1) : Int).toNat ≤ 35184372088832 then (impl_product.l0 k l1 (List.replicate (wrap64 ((wrap64 ((l0.length : Int) + (l1.length : Int))) - 1) : Int).toNat 0) l0 (l0.length : Int) 0) else (none)) else (none)) = some r := h
 clear h
 obtain ⟨ji3, hji3⟩ : ∃ j_ : Int, (wrap64 ((wrap64 ((l0.length : Int) + (l1.length : Int))) - 1)) = j_ := ⟨_, rfl⟩
 replace H : (if 0 ≤ (ji3) then (if (ji3 : Int).toNat ≤ 35184372088832 then (impl_product.l0 k l1 (List.replicate (ji3 : Int).toNat 0) l0 (l0.length : Int) 0) else (none)) else (none)) = some r := by first | (rw [hji3] at H; exact H) | (simp only [hji3] at H ⊢; exact H)
 have hji3w : (IntKind.i64.wrap ((wrap64 ((l0.length : Int) + (l1.length : Int))) - 1)) = ji3 := (i64_w _).trans hji3
 by_cases c4 : 0 ≤ (ji3)
 ·
  rw [if_pos c4] at H
  have c4b0 := eq_true c4
  have c4b1 := decide_eq_true c4
  clear c4
  by_cases c5 : (ji3 : Int).toNat ≤ 35184372088832
  ·
   rw [if_pos c5] at H
   have c5b0 := eq_true c5
   have c5b1 := decide_eq_true c5
   clear c5
   obtain ⟨y1782, hy1782⟩ : ∃ y_ : List Int, y_ = (List.replicate (ji3 : Int).toNat 0) := ⟨_, rfl⟩
   replace H : (impl_product.l0 k l1 y1782 l0 (l0.length : Int) 0) = some r := ty_ hy1782 H
   have Ny1782 := A_ hy1782
   clear hy1782
   have H' := A_ H
   clear H
   go_enter Try.func211, Try.ntmps211
   go_wp2_with (first | (refine gd_ 16 ?_; refine Kd.R_make (Kd.int .i64) _ 3 rfl (N := 16) rfl 22 _ _ rfl ji3 rfl rfl Try.underlying22 (.int .i64 0) 8 info3 rfl (by decide) (by omega) 0 (ok := fun _ => True) (okp := fun _ => True) rfl (fun _ hk => hk) trivial (od_) (Nat.le_trans (Nat.mul_le_mul_right _ (od_ : ji3.toNat ≤ 35184372088832)) (by omega)) (Below.refl _ _) (Nat.le_refl _) ?_; intro v1783 w6 ho7 hb hg_ hnew_; clear hg_ hnew_; (first | rw [← Ny1782.out] at ho7 | (simp only [Int.reduceToNat] at ho7; rw [← Ny1782.out] at ho7)); have HO1784 := A_ (Kd.R_lower ho7 (below_size tb_)); replace HB := A_ (below_step tb_ hb); clear hb ho7))
   go_loopg [19] k (fun kq v19 w' => ∃ (x5_1 : List Int) (x19_1 : Int), v19 = .int .i64 x19_1 ∧ Aside0 (impl_product.l0 kq l1 x5_1 l0 (l0.length : Int) x19_1 = some r) ∧ Aside0 (kq ≤ k) ∧ Aside0 (Kd.R (Kd.int .i64) 3 w' w.heap.size (fun _ => True) v1783 x5_1) ∧ Aside0 (Below w.heap.size w w'))
   case atStart => exact ⟨(y1782), (0), tf_, H', ⟨Nat.le_refl _⟩, ⟨tr_x HO1784.out⟩, ⟨tb_⟩⟩
   case round =>
    clear H'
    try clear c1
    try clear c2
    try clear p2
    try clear c4
    try clear c4b0
    try clear c4b1
    try clear c5
    try clear c5b0
    try clear c5b1
    try clear p6
    obtain ⟨x5_1, x19_1, rfl, HA, HK1, HO_5, HB⟩ := hrel
    cases gk with
    | zero => exact absurd HA.out (by simp [impl_product.l0])
    | succ k1 =>
     have H := HA.out
     clear HA
     simp only [impl_product.l0] at H
     by_cases c8 : x19_1 < (l0.length : Int)
     ·
      rw [if_pos c8] at H
      have c8b0 := decide_eq_true c8
      clear c8
      by_cases c9 : 0 ≤ x19_1
      ·
       rw [if_pos c9] at H
       have c9b0 := decide_eq_true c9
       clear c9
       by_cases c10 : x19_1 < (l0.length : Int)
       ·
        rw [if_pos c10] at H
        have c10b0 := decide_eq_true c10
        clear c10
        have H' := A_ H
        clear H
        have p1785 : 0 ≤ (x19_1 : Int) := od_
        have q1785 : x19_1 < (l0.length : Int) := od_
        obtain ⟨ad1785, e1785, hx1785_0⟩ := Kd.at_int HR0.out x19_1 p1785 q1785
        cases e1785
        (try replace hx1785_0 := (HB.out.cell (World.block_lt_of_cell? w _ hx1785_0)).trans hx1785_0)
        replace p1785 := eq_true p1785
        replace q1785 := eq_true q1785
        go_wp2
        go_loopg [26] k1 (fun kq v26 w' => ∃ (x5_2 : List Int) (x26_2 : Int), v26 = .int .i64 x26_2 ∧ Aside0 (impl_product.l1 kq l1 x5_2 x19_1 (rd l0 x19_1) l0 (l0.length : Int) x19_1 l1 (l1.length : Int) x26_2 = some r) ∧ Aside0 (kq ≤ k1) ∧ Aside0 (Kd.R (Kd.int .i64) 3 w' w.heap.size (fun _ => True) v1783 x5_2) ∧ Aside0 (Below w.heap.size w w'))
        case atStart => exact ⟨(x5_1), (0), tf_, H', ⟨Nat.le_refl _⟩, ⟨tr_x HO_5.out⟩, ⟨tb_⟩⟩
        case round =>
         clear H'
         try clear c1
         try clear p1
         try clear q1
         try clear hx1
         try clear c2
         try clear p2
         try clear c4
         try clear c4b0
         try clear c4b1
         try clear c5
         try clear c5b0
         try clear c5b1
         try clear p6
         try clear c8
         try clear c8b0
         try clear c9
         try clear c9b0
         try clear c10
         try clear c10b0
         try clear hx1785_0
         try clear p1785
         try clear p2
         try clear p6
         try clear q1785
         obtain ⟨x5_2, x26_2, rfl, HA, HK2, HO_5, HB⟩ := hrel
         cases gk with
         | zero => exact absurd HA.out (by simp [impl_product.l1])
         | succ k2 =>
          have H := HA.out
          clear HA
          simp only [impl_product.l1] at H
          by_cases c11 : x26_2 < (l1.length : Int)
          ·
           rw [if_pos c11] at H
           have c11b0 := decide_eq_true c11
           clear c11
           by_cases c12 : 0 ≤ x26_2
           ·
            rw [if_pos c12] at H
            have c12b0 := decide_eq_true c12
            clear c12
            by_cases c13 : x26_2 < (l1.length : Int)
            ·
             rw [if_pos c13] at H
             have c13b0 := decide_eq_true c13
             clear c13
             obtain ⟨ji14, hji14⟩ : ∃ j_ : Int, (wrap64 (x19_1 + x26_2)) = j_ := ⟨_, rfl⟩
             replace H : (if 0 ≤ (ji14) then (if (ji14) < (x5_2.length : Int) then (impl_product.l1 k2 l1 (x5_2.set ((ji14) : Int).toNat (wrap64 ((rd x5_2 (ji14)) + (wrap64 ((rd l0 x19_1) * (rd l1 x26_2)))))) x19_1 (rd l0 x19_1) l0 (l0.length : Int) x19_1 l1 (l1.length : Int) (wrap64 (x26_2 + 1))) else (none)) else (none)) = some r := by first | (rw [hji14] at H; exact H) | (simp only [hji14] at H ⊢; exact H)
             have hji14w : (IntKind.i64.wrap (x19_1 + x26_2)) = ji14 := (i64_w _).trans hji14
             by_cases c15 : 0 ≤ (ji14)
             ·
              rw [if_pos c15] at H
              have c15b0 := decide_eq_true c15
              clear c15
              by_cases c16 : (ji14) < (x5_2.length : Int)
              ·
               rw [if_pos c16] at H
               have c16b0 := decide_eq_true c16
               clear c16
               obtain ⟨y1788, hy1788⟩ : ∃ y_ : List Int, y_ = (x5_2.set ((ji14) : Int).toNat (wrap64 ((rd x5_2 (ji14)) + (wrap64 ((rd l0 x19_1) * (rd l1 x26_2)))))) := ⟨_, rfl⟩
               replace H : (impl_product.l1 k2 l1 y1788 x19_1 (rd l0 x19_1) l0 (l0.length : Int) x19_1 l1 (l1.length : Int) (wrap64 (x26_2 + 1))) = some r := ty_ hy1788 H
               have Ny1788 := A_ hy1788
               clear hy1788
               have H' := A_ H
               clear H
               have p1786 : 0 ≤ (x26_2 : Int) := od_
               have q1786 : x26_2 < (l1.length : Int) := od_
               obtain ⟨ad1786, e1786, hx1786_0⟩ := Kd.at_int HR1.out x26_2 p1786 q1786
               cases e1786
               (try replace hx1786_0 := (HB.out.cell (World.block_lt_of_cell? w _ hx1786_0)).trans hx1786_0)
               replace p1786 := eq_true p1786
               replace q1786 := eq_true q1786
               obtain ⟨Ao18, co18, eo18⟩ := Kd.R_slice HO_5.out
               subst eo18
               have p1787 : 0 ≤ ((ji14) : Int) := od_
               have q1787 : (ji14) < (x5_2.length : Int) := od_
               obtain ⟨ad1787, e1787, hx1787_0⟩ := Kd.at_int (Kd.R_reads' HO_5.out).2.2 (ji14) p1787 q1787
               cases e1787
               replace p1787 := eq_true p1787
               replace q1787 := eq_true q1787
               have p17 : 0 ≤ ((ji14) : Int) := od_
               have q17 : ((ji14) : Int) < ((x5_2.length : Int) : Int) := od_
               obtain ⟨go17, co17, eo17, gb17, gl17, cl17, HG17⟩ := Kd.R_form HO_5.out (by omega)
               (first | cases eo17 | (injection eo17 with ea_ en_ ec_; (first | subst ea_ | (injection ea_ with ea_; subst ea_)); subst ec_; clear en_))
               have GB17 := A_ gb17
               have GG17 := A_ HG17
               clear gb17 gl17 HG17
               (first | simp only [add_plain] at hx1787_0 | skip)
               obtain ⟨hx17_0, hf17_0⟩ := Kd.R_celln 0 HO_5.out ((ji14) : Int) p17 q17
               replace p17 := eq_true p17
               replace q17 := eq_true q17
               have HP19 := Kd.R_putg HO_5.out ((ji14) : Int) (wrap64 ((rd x5_2 (ji14)) + (wrap64 ((rd l0 x19_1) * (rd l1 x26_2)))))
               go_wp2_with (first | ((with_reducible refine gate_store (t := 3) (p := 41) rfl ?_); refine store_event (t := 3) (p := 41) (v := ?vo_w20) (w1 := (wr.setCell ⟨go17, ((ji14) : Int).toNat, none⟩ (.int .i64 (wrap64 ((rd x5_2 (ji14)) + (wrap64 ((rd l0 x19_1) * (rd l1 x26_2)))))))) ?hg ?ho ?hn ?hr ?_; (case ho => rfl); (case hg => rfl); (case hn => rfl); (case hr => first | (go_simp; done) | (go_simp; rfl)); intro w20 hw; have hg : wr.grownBy w20 (some go17) := (by rw [hw]; exact HP19.2); have hp_ : Kd.R (Kd.int .i64) 3 w20 w.heap.size (fun _ => True) (.slice (some ⟨go17, 0, none⟩) x5_2.length co18) y1788 := (by rw [hw, Ny1788.out]; exact HP19.1); clear HP19; replace HO_5 := A_ (hp_); replace HB := A_ ((by rw [hw]; exact below_set (HB.out) GB17.out : Below w.heap.size w w20)); clear hg hw hp_))
               go_roundg k2
               case measure => have := HK1.out; have := HK2.out; omega
               case rel => exact ⟨(y1788), (wrap64 (x26_2 + 1)), tf_, H', ⟨by have := HK1.out; have := HK2.out; omega⟩, ⟨tr_x HO_5.out⟩, ⟨tb_⟩⟩
              ·
               rw [if_neg c16] at H
               exact absurd H (by simp)
             ·
              rw [if_neg c15] at H
              exact absurd H (by simp)
            ·
             rw [if_neg c13] at H
             exact absurd H (by simp)
           ·
            rw [if_neg c12] at H
            exact absurd H (by simp)
          ·
           rw [if_neg c11] at H
           have c11b0 := decide_eq_false c11
           clear c11
           have H' := A_ H
           clear H
           go_wp2
           go_roundg k2
           case measure => have := HK1.out; have := HK2.out; omega
           case rel => exact ⟨(x5_2), (wrap64 (x19_1 + 1)), tf_, H', ⟨by have := HK1.out; have := HK2.out; omega⟩, ⟨tr_x HO_5.out⟩, ⟨tb_⟩⟩
       ·
        rw [if_neg c10] at H
        exact absurd H (by simp)
      ·
       rw [if_neg c9] at H
       exact absurd H (by simp)
     ·
      rw [if_neg c8] at H
      have c8b0 := decide_eq_false c8
      clear c8
      obtain rfl := Option.some.inj H
      go_wp2
      go_ret
      exact ⟨_, by first | rfl | (simp [errW_none, errW_some] <;> rfl) | (simp only [← hji3]; first | rfl | (simp [errW_none, errW_some] <;> rfl)) | (simp [*, errW_none, errW_some] <;> rfl), tr_x HO_5.out, tb_⟩
  ·
   rw [if_neg c5] at H
   exact absurd H (by simp)
 ·
  rw [if_neg c4] at H
  exact absurd H (by simp)

/-! ### impl_FileNumbers: function 106 -/
def impl_FileNumbers.l0 : Nat → List Int → List Int → Int → Int → Option (List Int × Bool)
 | 0, _, _, _, _ => none
 | k + 1, x4, x12, x13, x14 => if x14 < x13 then (if 0 ≤ x14 then (if x14 < (x12.length : Int) then ((impl_product.f k x4 (([1, rd x12 x14] : List Int))).bind fun t1801 => (impl_FileNumbers.l0 k t1801 x12 x13 (wrap64 (x14 + 1)))) else (none)) else (none)) else (some (x4, true))
def impl_FileNumbers.f (k : Nat) (a0_0 : Int) (a0_1 : Int) (l0_2 : List Int) : Option (List Int × Bool) := (impl_IsBoard.f a0_0 a0_1 l0_2).bind fun t1790 => (if t1790 = true then ((impl_Board_heights.f k a0_0 a0_1 l0_2).bind fun t1794 => (impl_FileNumbers.l0 k (([1] : List Int)) t1794 (t1794.length : Int) 0)) else (some (([] : List Int), false)))
theorem impl_FileNumbers.mono_l : ∀ k, (∀ y0 y1 y2 y3, LeO (impl_FileNumbers.l0 k y0 y1 y2 y3) (impl_FileNumbers.l0 (k + 1) y0 y1 y2 y3))
 | 0 => fun _ _ _ _ r h => by simp [impl_FileNumbers.l0] at h
 | k + 1 => by
  have ih0 := impl_FileNumbers.mono_l k
  ·
   intro y0 y1 y2 y3
   unfold impl_FileNumbers.l0
   repeat' first | (with_reducible first | exact ih0 _ _ _ _ | exact impl_Board_heights.mono _ _ _ _ | exact impl_product.mono _ _ _ | exact LeO.refl _ | exact LeO.none _ | refine LeO.ite ?_ ?_ | refine LeO.bind ?_ (fun _ => ?_)) | exact ih0 _ _ _ _ | exact impl_Board_heights.mono _ _ _ _ | exact impl_product.mono _ _ _ | exact LeO.none _ | refine LeO.ite ?_ ?_ | refine LeO.bind ?_ (fun _ => ?_)
theorem impl_FileNumbers.mono : ∀ a0 a1 a2 k, LeO (impl_FileNumbers.f k a0 a1 a2) (impl_FileNumbers.f (k + 1) a0 a1 a2) := by
 intro a0 a1 a2 k
 have ih0 := impl_FileNumbers.mono_l k
 unfold impl_FileNumbers.f
 repeat' first | (with_reducible first | exact ih0 _ _ _ _ | exact impl_Board_heights.mono _ _ _ _ | exact impl_product.mono _ _ _ | exact LeO.refl _ | exact LeO.none _ | refine LeO.ite ?_ ?_ | refine LeO.bind ?_ (fun _ => ?_)) | exact ih0 _ _ _ _ | exact impl_Board_heights.mono _ _ _ _ | exact impl_product.mono _ _ _ | exact LeO.none _ | refine LeO.ite ?_ ?_ | refine LeO.bind ?_ (fun _ => ?_)
theorem impl_FileNumbers.calls (k : Nat) (a0_0 : Int) (a0_1 : Int) (A0_2 : Option Addr) (c0_2 : Nat) (l0_2 : List Int) (r1 : List Int) (r2 : Bool) (w : World) (hr0_2 : Kd.C (Kd.int .i64) w A0_2 l0_2.length l0_2) (hc0_2 : l0_2.length ≤ c0_2) (h : impl_FileNumbers.f k a0_0 a0_1 l0_2 = some (r1, r2)) :
  Calls Try.prog 106 #[.agg #[.int .i64 a0_0, .int .i64 a0_1, .slice A0_2 l0_2.length c0_2]] w fun e w' => ∃ v0_ : Value, e = .returned (.tuple #[v0_, .bool r2]) ∧ Kd.R (Kd.int .i64) 3 w' w.heap.size (fun _ => True) v0_ r1 ∧ Below w.heap.size w w' := by
 have hu28 := Try.underlying28
 have HR0_2 := A_ hr0_2
 have HC0_2 := A_ hc0_2
 clear hr0_2 hc0_2
 have HB := A_ (Below.refl w.heap.size w)
 have H : ((impl_IsBoard.f a0_0 a0_1 l0_2).bind fun t1790 => (if t1790 = true then ((impl_Board_heights.f k a0_0 a0_1 l0_2).bind fun t1794 => (impl_FileNumbers.l0 k (([1] : List Int)) t1794 (t1794.length : Int) 0)) else (some (([] : List Int), false)))) = some (r1, r2) := h
 clear h
 replace H := Option.bind_eq_some_iff.mp H
 obtain ⟨t1790, A20, H⟩ := H
 replace H : (if t1790 = true then ((impl_Board_heights.f k a0_0 a0_1 l0_2).bind fun t1794 => (impl_FileNumbers.l0 k (([1] : List Int)) t1794 (t1794.length : Int) 0)) else (some (([] : List Int), false))) = some (r1, r2) := H
 have A2 := A_ A20
 clear A20
 by_cases c3 : t1790 = true
 ·
  subst c3
  have H1 : ((impl_Board_heights.f k a0_0 a0_1 l0_2).bind fun t1794 => (impl_FileNumbers.l0 k (([1] : List Int)) t1794 (t1794.length : Int) 0)) = some (r1, r2) := by rw [if_pos rfl] at H; exact H
  clear H
  have H := H1
  clear H1
  obtain ⟨y1791, hy1791⟩ : ∃ y_ : List Int, y_ = (([1] : List Int)) := ⟨_, rfl⟩
  replace H : ((impl_Board_heights.f k a0_0 a0_1 l0_2).bind fun t1794 => (impl_FileNumbers.l0 k y1791 t1794 (t1794.length : Int) 0)) = some (r1, r2) := ty_ hy1791 H
  have Ny1791 := A_ hy1791
  clear hy1791
  replace H := Option.bind_eq_some_iff.mp H
  obtain ⟨t1794, A40, H⟩ := H
  replace H : (impl_FileNumbers.l0 k y1791 t1794 (t1794.length : Int) 0) = some (r1, r2) := H
  have A4 := A_ A40
  clear A40
  have H' := A_ H
  clear H
  go_enter Try.func106, Try.ntmps106
  go_wp2_with (first | (refine gd_ 1 ?_; refine bx_ 1 #[.int .i64 a0_0, .int .i64 a0_1, .slice A0_2 l0_2.length c0_2] 28 ?_; intro gb1789 hg w5 hbox hb; have BK1789 := A_ (hbox); have GW1789 := A_ ((ts_ hg : w.heap.size ≤ gb1789)); have GE1789 := A_ ((ts_ hg : w.heap.size ≤ gb1789)); replace HB := A_ (below_step tb_ hb); clear hb hbox hg; obtain ⟨hcz6_0, hcz6_1, hcz6_2, hfz6_0, hfz6_1, hfz6_2⟩ := cf3_ BK1789.out) | (refine gc_ 125 ?_; refine goesT_ (some 8) Try.func125 #[.agg #[.int .i64 a0_0, .int .i64 a0_1, .slice A0_2 l0_2.length c0_2]] ?_; (with_reducible refine (impl_IsBoard.calls a0_0 a0_1 _ _ l0_2 true _ ?side1 ?side2 A2.out).mono ?_); (case side1 => exact tc_ HR0_2.out); (case side2 => exact HC0_2.out); rintro e w7 ⟨rfl, hb⟩; refine ⟨_, rfl, ?_⟩; replace BK1789 := A_ (blk_below (g := gb1789) (o := .cells #[.int .i64 a0_0, .int .i64 a0_1, .slice A0_2 l0_2.length c0_2] 28 (0, 0)) (tk_ BK1789) hb); replace HB := A_ (below_step tb_ hb); (try clear hb)) | (refine gd_ 10 ?_; refine Kd.R_lit (Kd.int .i64) _ 3 ?hg (N := 10) ?hd (xs := ([1] : List Int)) (inner := [.int .i64 1]) (ok := fun _ => True) (okp := fun _ => True) ?hr ?hp (fun _ hk => hk) trivial (Below.refl _ _) (Nat.le_refl _) (by simp) ?_; (case hd => rfl); (case hg => rfl); (case hr => first | (go_simp; done) | (go_simp; rfl)); (case hp => exact (Reps.one (show Kd.M (Kd.int .i64) _ _ _ 1 [.int .i64 1] from rfl) (Reps.none _ _))); intro v1792 w8 ho9 hb hg_ hnew_; clear hg_ hnew_; (first | rw [← Ny1791.out] at ho9 | (simp only [Int.reduceToNat] at ho9; rw [← Ny1791.out] at ho9)); have HO1793 := A_ (Kd.R_lower ho9 (below_size tb_)); replace BK1789 := A_ (blk_below (g := gb1789) (o := .cells #[.int .i64 a0_0, .int .i64 a0_1, .slice A0_2 l0_2.length c0_2] 28 (0, 0)) (tk_ BK1789) hb); replace HB := A_ (below_step tb_ hb); clear hb ho9; obtain ⟨hcz10_0, hcz10_1, hcz10_2, hfz10_0, hfz10_1, hfz10_2⟩ := cf3_ BK1789.out) | (refine gc_ 210 ?_; refine goesT_ (some 12) Try.func210 #[.agg #[.int .i64 a0_0, .int .i64 a0_1, .slice A0_2 l0_2.length c0_2]] ?_; (with_reducible refine (impl_Board_heights.calls k a0_0 a0_1 _ _ l0_2 t1794 _ ?side1 ?side2 A4.out).mono ?_); (case side1 => exact tc_ HR0_2.out); (case side2 => exact HC0_2.out); rintro e w11 ⟨v1795, rfl, ho0, hb⟩; refine ⟨_, rfl, ?_⟩; have HO1796 := A_ (Kd.R_lower (Kd.R_new' ho0 (Kd.R_lt (tr_x HO1793.out))) (below_size tb_)); replace HO1793 := A_ (Kd.R_elder' (tr_x HO1793.out) (Kd.R_base ho0) hb); replace BK1789 := A_ (blk_below (g := gb1789) (o := .cells #[.int .i64 a0_0, .int .i64 a0_1, .slice A0_2 l0_2.length c0_2] 28 (0, 0)) (tk_ BK1789) hb); replace HB := A_ (below_step tb_ hb); (try clear hb); (try clear ho0); obtain ⟨Ao12, co12, eo12⟩ := Kd.R_slice HO1796.out; subst eo12))
  go_loopg [4, 14] k (fun kq v4 v14 w' => ∃ (x4_1 : List Int) (x14_1 : Int), v14 = .int .i64 x14_1 ∧ Aside0 (impl_FileNumbers.l0 kq x4_1 t1794 (t1794.length : Int) x14_1 = some (r1, r2)) ∧ Aside0 (kq ≤ k) ∧ Aside0 (Kd.R (Kd.int .i64) 3 w' w.heap.size (fun k_ => some k_ ≠ ((.slice Ao12 t1794.length co12) : Value).ownBlock) v4 x4_1) ∧ Aside0 (Kd.R (Kd.int .i64) 3 w' w.heap.size (fun k_ => some k_ ≠ (v4 : Value).ownBlock) (.slice Ao12 t1794.length co12) t1794) ∧ Aside0 (w'.heap[gb1789]? = some (.cells #[.int .i64 a0_0, .int .i64 a0_1, (.slice A0_2 l0_2.length c0_2)] 28 (0, 0))) ∧ Aside0 (Below w.heap.size w w'))
  case atStart => exact ⟨(y1791), (0), tf_, H', ⟨Nat.le_refl _⟩, ⟨by (with_reducible repeat (first | apply Kd.R_alloc | apply Kd.R_drewN | apply Kd.R_drew)); exact Kd.R_mono HO1793.out (fun _ hk => hk.2)⟩, ⟨by (with_reducible repeat (first | apply Kd.R_alloc | apply Kd.R_drewN | apply Kd.R_drew)); exact Kd.R_mono HO1796.out (fun _ hk => hk.2)⟩, ⟨tk_ BK1789⟩, ⟨tb_⟩⟩
  case round =>
   clear H'
   try clear c1
   try clear c2
   try clear p2
   try clear c3
   try clear c10
   try clear c12
   try clear hcz10_0
   try clear hcz10_1
   try clear hcz10_2
   try clear hcz6_0
   try clear hcz6_1
   try clear hcz6_2
   try clear hfz10_0
   try clear hfz10_1
   try clear hfz10_2
   try clear hfz6_0
   try clear hfz6_1
   try clear hfz6_2
   obtain ⟨x4_1, x14_1, rfl, HA, HK1, HO_4, HO_12, BK1789, HB⟩ := hrel
   cases gk with
   | zero => exact absurd HA.out (by simp [impl_FileNumbers.l0])
   | succ k1 =>
    have H := HA.out
    clear HA
    simp only [impl_FileNumbers.l0] at H
    by_cases c13 : x14_1 < (t1794.length : Int)
    ·
     rw [if_pos c13] at H
     have c13b0 := decide_eq_true c13
     clear c13
     by_cases c14 : 0 ≤ x14_1
     ·
      rw [if_pos c14] at H
      have c14b0 := decide_eq_true c14
      clear c14
      by_cases c15 : x14_1 < (t1794.length : Int)
      ·
       rw [if_pos c15] at H
       have c15b0 := decide_eq_true c15
       clear c15
       obtain ⟨y1798, hy1798⟩ : ∃ y_ : List Int, y_ = (([1, rd t1794 x14_1] : List Int)) := ⟨_, rfl⟩
       replace H : ((impl_product.f k1 x4_1 y1798).bind fun t1801 => (impl_FileNumbers.l0 k1 t1801 t1794 (t1794.length : Int) (wrap64 (x14_1 + 1)))) = some (r1, r2) := ty_ hy1798 H
       have Ny1798 := A_ hy1798
       clear hy1798
       replace H := Option.bind_eq_some_iff.mp H
       obtain ⟨t1801, A160, H⟩ := H
       replace H : (impl_FileNumbers.l0 k1 t1801 t1794 (t1794.length : Int) (wrap64 (x14_1 + 1))) = some (r1, r2) := H
       have A16 := A_ A160
       clear A160
       have H' := A_ H
       clear H
       have p1797 : 0 ≤ (x14_1 : Int) := od_
       have q1797 : x14_1 < (t1794.length : Int) := od_
       obtain ⟨ad1797, e1797, hx1797_0⟩ := Kd.at_int (Kd.R_reads' HO_12.out).2.2 x14_1 p1797 q1797
       cases e1797
       replace p1797 := eq_true p1797
       replace q1797 := eq_true q1797
       go_wp2_with (first | (refine gd_ 20 ?_; refine Kd.R_lit (Kd.int .i64) _ 3 ?hg (N := 20) ?hd (xs := ([1, rd t1794 x14_1] : List Int)) (inner := [.int .i64 1, .int .i64 (rd t1794 x14_1)]) (ok := fun _ => True) (okp := fun _ => True) ?hr ?hp (fun _ hk => hk) trivial (Below.refl _ _) (Nat.le_refl _) (by simp) ?_; (case hd => rfl); (case hg => rfl); (case hr => first | (go_simp; done) | (go_simp; rfl)); (case hp => exact (Reps.one (show Kd.M (Kd.int .i64) _ _ _ 1 [.int .i64 1] from rfl) (Reps.one (show Kd.M (Kd.int .i64) _ _ _ (rd t1794 x14_1) [.int .i64 (rd t1794 x14_1)] from rfl) (Reps.none _ _)))); intro v1799 w17 ho18 hb hg_ hnew_; clear hg_ hnew_; (first | rw [← Ny1798.out] at ho18 | (simp only [Int.reduceToNat] at ho18; rw [← Ny1798.out] at ho18)); have HO1800 := A_ (Kd.R_lower (Kd.R_new' (Kd.R_new' ho18 (Kd.R_lt (tr_x HO_4.out))) (Kd.R_lt (tr_x HO_12.out))) (below_size tb_)); replace HO_4 := A_ (Kd.R_elder' (tr_x HO_4.out) (Kd.R_base ho18) hb); replace HO_12 := A_ (Kd.R_elder' (tr_x HO_12.out) (Kd.R_base ho18) hb); replace BK1789 := A_ (blk_below (g := gb1789) (o := .cells #[.int .i64 a0_0, .int .i64 a0_1, .slice A0_2 l0_2.length c0_2] 28 (0, 0)) (tk_ BK1789) hb); replace HB := A_ (below_step tb_ hb); clear hb ho18; obtain ⟨Ao19, co19, eo19⟩ := Kd.R_slice HO_4.out; subst eo19; obtain ⟨Ao20, co20, eo20⟩ := Kd.R_slice HO1800.out; subst eo20) | (refine gc_ 211 ?_; refine goesT_ (some 21) Try.func211 #[.slice Ao19 x4_1.length co19, .slice Ao20 y1798.length co20] ?_; (with_reducible refine (impl_product.calls k1 _ _ x4_1 _ _ y1798 t1801 _ ?side1 ?side2 ?side3 ?side4 A16.out).mono ?_); (case side1 => exact tc0_ (Kd.R_reads' HO_4.out).2.2); (case side2 => exact (Kd.R_reads' HO_4.out).2.1); (case side3 => exact tc0_ (Kd.R_reads' HO1800.out).2.2); (case side4 => exact (Kd.R_reads' HO1800.out).2.1); rintro e w21 ⟨v1802, rfl, ho0, hb⟩; refine ⟨_, rfl, ?_⟩; have HO1803 := A_ (Kd.R_lower (Kd.R_new' (Kd.R_new' (Kd.R_new' ho0 (Kd.R_lt (tr_x HO_4.out))) (Kd.R_lt (tr_x HO_12.out))) (Kd.R_lt (tr_x HO1800.out))) (below_size tb_)); replace HO_4 := A_ (Kd.R_elder' (tr_x HO_4.out) (Kd.R_base ho0) hb); replace HO_12 := A_ (Kd.R_elder' (tr_x HO_12.out) (Kd.R_base ho0) hb); replace HO1800 := A_ (Kd.R_elder' (tr_x HO1800.out) (Kd.R_base ho0) hb); replace BK1789 := A_ (blk_below (g := gb1789) (o := .cells #[.int .i64 a0_0, .int .i64 a0_1, .slice A0_2 l0_2.length c0_2] 28 (0, 0)) (tk_ BK1789) hb); replace HB := A_ (below_step tb_ hb); (try clear hb); (try clear ho0)))
       go_roundg k1
       case measure => have := HK1.out; omega
       case rel => exact ⟨(t1801), (wrap64 (x14_1 + 1)), tf_, H', ⟨by have := HK1.out; omega⟩, ⟨by (with_reducible repeat (first | apply Kd.R_alloc | apply Kd.R_drewN | apply Kd.R_drew)); exact Kd.R_mono HO1803.out (fun _ hk => hk.1.2)⟩, ⟨by (with_reducible repeat (first | apply Kd.R_alloc | apply Kd.R_drewN | apply Kd.R_drew)); exact Kd.R_mono HO_12.out (fun _ hk => hk.2)⟩, ⟨tk_ BK1789⟩, ⟨tb_⟩⟩
      ·
       rw [if_neg c15] at H
       exact absurd H (by simp)
     ·
      rw [if_neg c14] at H
      exact absurd H (by simp)
    ·
     rw [if_neg c13] at H
     have c13b0 := decide_eq_false c13
     clear c13
     simp only [Option.some.injEq, Prod.mk.injEq] at H
     obtain ⟨rfl, rfl⟩ := H
     go_wp2
     go_ret2
     exact ⟨_, te_, by (with_reducible repeat (first | apply Kd.R_alloc | apply Kd.R_drewN | apply Kd.R_drew)); exact Kd.R_mono HO_4.out (fun _ hk => trivial), tb_⟩
 ·
  replace c3 := Bool.eq_false_iff.mpr c3
  subst c3
  have H1 : (some (([] : List Int), false)) = some (r1, r2) := by rw [if_neg (show ¬ (false = true) by decide)] at H; exact H
  clear H
  have H := H1
  clear H1
  simp only [Option.some.injEq, Prod.mk.injEq] at H
  obtain ⟨rfl, rfl⟩ := H
  go_enter Try.func106, Try.ntmps106
  go_wp2_with (first | (refine gd_ 1 ?_; refine bx_ 1 #[.int .i64 a0_0, .int .i64 a0_1, .slice A0_2 l0_2.length c0_2] 28 ?_; intro gb1789 hg w22 hbox hb; have BK1789 := A_ (hbox); have GW1789 := A_ ((ts_ hg : w.heap.size ≤ gb1789)); have GE1789 := A_ ((ts_ hg : w.heap.size ≤ gb1789)); replace HB := A_ (below_step tb_ hb); clear hb hbox hg; obtain ⟨hcz23_0, hcz23_1, hcz23_2, hfz23_0, hfz23_1, hfz23_2⟩ := cf3_ BK1789.out) | (refine gc_ 125 ?_; refine goesT_ (some 8) Try.func125 #[.agg #[.int .i64 a0_0, .int .i64 a0_1, .slice A0_2 l0_2.length c0_2]] ?_; (with_reducible refine (impl_IsBoard.calls a0_0 a0_1 _ _ l0_2 false _ ?side1 ?side2 A2.out).mono ?_); (case side1 => exact tc_ HR0_2.out); (case side2 => exact HC0_2.out); rintro e w24 ⟨rfl, hb⟩; refine ⟨_, rfl, ?_⟩; replace BK1789 := A_ (blk_below (g := gb1789) (o := .cells #[.int .i64 a0_0, .int .i64 a0_1, .slice A0_2 l0_2.length c0_2] 28 (0, 0)) (tk_ BK1789) hb); replace HB := A_ (below_step tb_ hb); (try clear hb)))
  go_ret2
  exact ⟨_, te_, by first | exact Kd.R_nil _ _ _ _ _ | exact Kd.N_nil _ _ _ _ _ | exact Kd.V_nil _ _ _ _ _ | exact Kd.Q_nil _ _ _ _ _ | exact Kd.S_nil _ _ _ _ _, tb_⟩

/-! ### spec_fiHeights: function 212 -/
mutual
def spec_fiHeights.l0 : Nat → List Int → Int → Int → Int → List Int → Option (List Int)
 | 0, _, _, _, _, _ => none
 | k + 1, x3, x4, x1805000, x1805001, x1805002 => if x4 < x1805001 then (spec_fiHeights.l1 k x3 x4 0 0 x1805000 x1805001 x1805002) else (some x3)
def spec_fiHeights.l1 : Nat → List Int → Int → Int → Int → Int → Int → List Int → Option (List Int)
 | 0, _, _, _, _, _, _, _ => none
 | k + 1, x3, x4, x5, x6, x1805000, x1805001, x1805002 => if x6 < x1805000 then ((spec_boHas.f x1805000 x1805001 x1805002 x6 x4).bind fun t1805 => (if t1805 = true then (spec_fiHeights.l1 k x3 x4 (wrap64 (x5 + 1)) (wrap64 (x6 + 1)) x1805000 x1805001 x1805002) else (spec_fiHeights.l1 k x3 x4 x5 (wrap64 (x6 + 1)) x1805000 x1805001 x1805002))) else (if x3.length < 17592186044416 then (spec_fiHeights.l0 k (x3 ++ [x5]) (wrap64 (x4 + 1)) x1805000 x1805001 x1805002) else (none))
end
def spec_fiHeights.f (k : Nat) (a0_0 : Int) (a0_1 : Int) (l0_2 : List Int) : Option (List Int) := spec_fiHeights.l0 k ([] : List Int) 0 a0_0 a0_1 l0_2
theorem spec_fiHeights.mono_l : ∀ k, (∀ y0 y1 y2 y3 y4, LeO (spec_fiHeights.l0 k y0 y1 y2 y3 y4) (spec_fiHeights.l0 (k + 1) y0 y1 y2 y3 y4)) ∧ (∀ y0 y1 y2 y3 y4 y5 y6, LeO (spec_fiHeights.l1 k y0 y1 y2 y3 y4 y5 y6) (spec_fiHeights.l1 (k + 1) y0 y1 y2 y3 y4 y5 y6))
 | 0 => ⟨fun _ _ _ _ _ r h => by simp [spec_fiHeights.l0] at h, fun _ _ _ _ _ _ _ r h => by simp [spec_fiHeights.l1] at h⟩
 | k + 1 => by
  obtain ⟨ih0, ih1⟩ := spec_fiHeights.mono_l k
  refine ⟨?_, ?_⟩
  ·
   intro y0 y1 y2 y3 y4
   unfold spec_fiHeights.l0
   repeat' first | (with_reducible first | exact ih0 _ _ _ _ _ | exact ih1 _ _ _ _ _ _ _ | exact LeO.refl _ | exact LeO.none _ | refine LeO.ite ?_ ?_ | refine LeO.bind ?_ (fun _ => ?_)) | exact ih0 _ _ _ _ _ | exact ih1 _ _ _ _ _ _ _ | exact LeO.none _ | refine LeO.ite ?_ ?_ | refine LeO.bind ?_ (fun _ => ?_)
  ·
   intro y0 y1 y2 y3 y4 y5 y6
   unfold spec_fiHeights.l1
   repeat' first | (with_reducible first | exact ih0 _ _ _ _ _ | exact ih1 _ _ _ _ _ _ _ | exact LeO.refl _ | exact LeO.none _ | refine LeO.ite ?_ ?_ | refine LeO.bind ?_ (fun _ => ?_)) | exact ih0 _ _ _ _ _ | exact ih1 _ _ _ _ _ _ _ | exact LeO.none _ | refine LeO.ite ?_ ?_ | refine LeO.bind ?_ (fun _ => ?_)
theorem spec_fiHeights.mono : ∀ a0 a1 a2 k, LeO (spec_fiHeights.f k a0 a1 a2) (spec_fiHeights.f (k + 1) a0 a1 a2) := by
 intro a0 a1 a2 k
 obtain ⟨ih0, ih1⟩ := spec_fiHeights.mono_l k
 unfold spec_fiHeights.f
 repeat' first | (with_reducible first | exact ih0 _ _ _ _ _ | exact ih1 _ _ _ _ _ _ _ | exact LeO.refl _ | exact LeO.none _ | refine LeO.ite ?_ ?_ | refine LeO.bind ?_ (fun _ => ?_)) | exact ih0 _ _ _ _ _ | exact ih1 _ _ _ _ _ _ _ | exact LeO.none _ | refine LeO.ite ?_ ?_ | refine LeO.bind ?_ (fun _ => ?_)
theorem spec_fiHeights.calls (k : Nat) (a0_0 : Int) (a0_1 : Int) (A0_2 : Option Addr) (c0_2 : Nat) (l0_2 : List Int) (r : List Int) (w : World) (hr0_2 : Kd.C (Kd.int .i64) w A0_2 l0_2.length l0_2) (hc0_2 : l0_2.length ≤ c0_2) (h : spec_fiHeights.f k a0_0 a0_1 l0_2 = some r) :
  Calls Try.prog 212 #[.agg #[.int .i64 a0_0, .int .i64 a0_1, .slice A0_2 l0_2.length c0_2]] w fun e w' => ∃ v0_ : Value, e = .returned (v0_) ∧ Kd.R (Kd.int .i64) 3 w' w.heap.size (fun _ => True) v0_ r ∧ Below w.heap.size w w' := by
 have hu28 := Try.underlying28
 have HR0_2 := A_ hr0_2
 have HC0_2 := A_ hc0_2
 clear hr0_2 hc0_2
 have HB := A_ (Below.refl w.heap.size w)
 have H : (spec_fiHeights.l0 k ([] : List Int) 0 a0_0 a0_1 l0_2) = some r := h
 clear h
 have H' := A_ H
 clear H
 go_enter Try.func212, Try.ntmps212
 go_wp2_with (first | (refine gd_ 1 ?_; refine bx_ 1 #[.int .i64 a0_0, .int .i64 a0_1, .slice A0_2 l0_2.length c0_2] 28 ?_; intro gb1804 hg w2 hbox hb; have BK1804 := A_ (hbox); have GW1804 := A_ ((ts_ hg : w.heap.size ≤ gb1804)); have GE1804 := A_ ((ts_ hg : w.heap.size ≤ gb1804)); replace HB := A_ (below_step tb_ hb); clear hb hbox hg))
 go_loopg [3, 4] k (fun kq v3 v4 w' => ∃ (x3_1 : List Int) (x4_1 : Int), v4 = .int .i64 x4_1 ∧ Aside0 (spec_fiHeights.l0 kq x3_1 x4_1 a0_0 a0_1 l0_2 = some r) ∧ Aside0 (kq ≤ k) ∧ Aside0 (Kd.R (Kd.int .i64) 3 w' w.heap.size (fun _ => True) v3 x3_1) ∧ Aside0 (w'.heap[gb1804]? = some (.cells #[.int .i64 a0_0, .int .i64 a0_1, (.slice A0_2 l0_2.length c0_2)] 28 (0, 0))) ∧ Aside0 (Below w.heap.size w w'))
 case atStart => exact ⟨(([] : List Int)), (0), tf_, H', ⟨Nat.le_refl _⟩, ⟨by first | exact Kd.R_nil _ _ _ _ _ | exact Kd.N_nil _ _ _ _ _ | exact Kd.V_nil _ _ _ _ _ | exact Kd.Q_nil _ _ _ _ _ | exact Kd.S_nil _ _ _ _ _⟩, ⟨tk_ BK1804⟩, ⟨tb_⟩⟩
 case round =>
  clear H'
  try clear c2
  try clear p2
  obtain ⟨x3_1, x4_1, rfl, HA, HK1, HO_3, BK1804, HB⟩ := hrel
  cases gk with
  | zero => exact absurd HA.out (by simp [spec_fiHeights.l0])
  | succ k1 =>
   have H := HA.out
   clear HA
   simp only [spec_fiHeights.l0] at H
   by_cases c3 : x4_1 < a0_1
   ·
    rw [if_pos c3] at H
    have c3b0 := decide_eq_true c3
    clear c3
    have H' := A_ H
    clear H
    obtain ⟨hcz4_0, hcz4_1, hcz4_2, hfz4_0, hfz4_1, hfz4_2⟩ := cf3_ BK1804.out
    go_wp2
    go_loopg [5, 6] k1 (fun kq v5 v6 w' => ∃ (x5_2 : Int) (x6_2 : Int), v5 = .int .i64 x5_2 ∧ v6 = .int .i64 x6_2 ∧ Aside0 (spec_fiHeights.l1 kq x3_1 x4_1 x5_2 x6_2 a0_0 a0_1 l0_2 = some r) ∧ Aside0 (kq ≤ k1) ∧ Aside0 (Kd.R (Kd.int .i64) 3 w' w.heap.size (fun _ => True) u3 x3_1) ∧ Aside0 (w'.heap[gb1804]? = some (.cells #[.int .i64 a0_0, .int .i64 a0_1, (.slice A0_2 l0_2.length c0_2)] 28 (0, 0))) ∧ Aside0 (Below w.heap.size w w'))
    case atStart => exact ⟨(0), (0), tf_, tf_, H', ⟨Nat.le_refl _⟩, ⟨tr_x HO_3.out⟩, ⟨tk_ BK1804⟩, ⟨tb_⟩⟩
    case round =>
     clear H'
     try clear c2
     try clear p2
     try clear c3
     try clear c3b0
     try clear hcz4_0
     try clear hcz4_1
     try clear hcz4_2
     try clear hfz4_0
     try clear hfz4_1
     try clear hfz4_2
     try clear p2
     obtain ⟨x5_2, x6_2, rfl, rfl, HA, HK2, HO_3, BK1804, HB⟩ := hrel
     cases gk with
     | zero => exact absurd HA.out (by simp [spec_fiHeights.l1])
     | succ k2 =>
      have H := HA.out
      clear HA
      simp only [spec_fiHeights.l1] at H
      by_cases c5 : x6_2 < a0_0
      ·
       rw [if_pos c5] at H
       have c5b0 := decide_eq_true c5
       clear c5
       replace H := Option.bind_eq_some_iff.mp H
       obtain ⟨t1805, A60, H⟩ := H
       replace H : (if t1805 = true then (spec_fiHeights.l1 k2 x3_1 x4_1 (wrap64 (x5_2 + 1)) (wrap64 (x6_2 + 1)) a0_0 a0_1 l0_2) else (spec_fiHeights.l1 k2 x3_1 x4_1 x5_2 (wrap64 (x6_2 + 1)) a0_0 a0_1 l0_2)) = some r := H
       have A6 := A_ A60
       clear A60
       by_cases c7 : t1805 = true
       ·
        subst c7
        have H1 : (spec_fiHeights.l1 k2 x3_1 x4_1 (wrap64 (x5_2 + 1)) (wrap64 (x6_2 + 1)) a0_0 a0_1 l0_2) = some r := by rw [if_pos rfl] at H; exact H
        clear H
        have H := H1
        clear H1
        have H' := A_ H
        clear H
        obtain ⟨hcz8_0, hcz8_1, hcz8_2, hfz8_0, hfz8_1, hfz8_2⟩ := cf3_ BK1804.out
        go_wp2_with (first | (refine gc_ 121 ?_; refine goesT_ (some 22) Try.func121 #[.agg #[.int .i64 a0_0, .int .i64 a0_1, .slice A0_2 l0_2.length c0_2], .int .i64 x6_2, .int .i64 x4_1] ?_; (with_reducible refine (spec_boHas.calls a0_0 a0_1 _ _ l0_2 x6_2 x4_1 true _ ?side1 ?side2 A6.out).mono ?_); (case side1 => exact tc_ HR0_2.out); (case side2 => exact HC0_2.out); rintro e w9 ⟨rfl, hb⟩; refine ⟨_, rfl, ?_⟩; replace HO_3 := A_ (Kd.R_below (tr_x HO_3.out) hb); replace BK1804 := A_ (blk_below (g := gb1804) (o := .cells #[.int .i64 a0_0, .int .i64 a0_1, .slice A0_2 l0_2.length c0_2] 28 (0, 0)) (tk_ BK1804) hb); replace HB := A_ (below_step tb_ hb); (try clear hb)))
        go_roundg k2
        case measure => have := HK1.out; have := HK2.out; omega
        case rel => exact ⟨(wrap64 (x5_2 + 1)), (wrap64 (x6_2 + 1)), tf_, tf_, H', ⟨by have := HK1.out; have := HK2.out; omega⟩, ⟨tr_x HO_3.out⟩, ⟨tk_ BK1804⟩, ⟨tb_⟩⟩
       ·
        replace c7 := Bool.eq_false_iff.mpr c7
        subst c7
        have H1 : (spec_fiHeights.l1 k2 x3_1 x4_1 x5_2 (wrap64 (x6_2 + 1)) a0_0 a0_1 l0_2) = some r := by rw [if_neg (show ¬ (false = true) by decide)] at H; exact H
        clear H
        have H := H1
        clear H1
        have H' := A_ H
        clear H
        obtain ⟨hcz10_0, hcz10_1, hcz10_2, hfz10_0, hfz10_1, hfz10_2⟩ := cf3_ BK1804.out
        go_wp2_with (first | (refine gc_ 121 ?_; refine goesT_ (some 22) Try.func121 #[.agg #[.int .i64 a0_0, .int .i64 a0_1, .slice A0_2 l0_2.length c0_2], .int .i64 x6_2, .int .i64 x4_1] ?_; (with_reducible refine (spec_boHas.calls a0_0 a0_1 _ _ l0_2 x6_2 x4_1 false _ ?side1 ?side2 A6.out).mono ?_); (case side1 => exact tc_ HR0_2.out); (case side2 => exact HC0_2.out); rintro e w11 ⟨rfl, hb⟩; refine ⟨_, rfl, ?_⟩; replace HO_3 := A_ (Kd.R_below (tr_x HO_3.out) hb); replace BK1804 := A_ (blk_below (g := gb1804) (o := .cells #[.int .i64 a0_0, .int .i64 a0_1, .slice A0_2 l0_2.length c0_2] 28 (0, 0)) (tk_ BK1804) hb); replace HB := A_ (below_step tb_ hb); (try clear hb)))
        go_roundg k2
        case measure => have := HK1.out; have := HK2.out; omega
        case rel => exact ⟨(x5_2), (wrap64 (x6_2 + 1)), tf_, tf_, H', ⟨by have := HK1.out; have := HK2.out; omega⟩, ⟨tr_x HO_3.out⟩, ⟨tk_ BK1804⟩, ⟨tb_⟩⟩
      ·
       rw [if_neg c5] at H
       have c5b0 := decide_eq_false c5
       clear c5
       by_cases c12 : x3_1.length < 17592186044416
       ·
        rw [if_pos c12] at H
        have LMc12 := A_ c12
        clear c12
        obtain ⟨y1806, hy1806⟩ : ∃ y_ : List Int, y_ = (x3_1 ++ [x5_2]) := ⟨_, rfl⟩
        replace H : (spec_fiHeights.l0 k2 y1806 (wrap64 (x4_1 + 1)) a0_0 a0_1 l0_2) = some r := ty_ hy1806 H
        have Ny1806 := A_ hy1806
        clear hy1806
        have H' := A_ H
        clear H
        obtain ⟨hcz13_0, hcz13_1, hcz13_2, hfz13_0, hfz13_1, hfz13_2⟩ := cf3_ BK1804.out
        go_wp2_with (first | ((with_reducible refine gate_builtin (b := .append) (xs := #[.tmp 25, .tmp 27]) rfl ?_); at_builtin; refine Kd.R_append (Kd.int .i64) (w0 := w) w.heap.size rfl (.tmp 25) (.tmp 27) 22 3 (.int .i64 0) 8 rfl Try.underlying22 info3 rfl (by decide) (by omega) u3 x3_1 x5_2 [.int .i64 x5_2] (fun _ => True) (fun _ => False) rfl rfl ?aP (fun _ hk => hk.elim) ?aF ?aO ?aB ?aS ?aL ?_; (case aP => exact rfl); (case aB => exact tb_); (case aF => exact (fun _ _ => trivial)); (case aO => exact (tr_x HO_3.out)); (case aS => exact (below_size tb_)); (case aL => have := LMc12.out; omega); intro v1807 w14 ho hb hg hat; rw [← Ny1806.out] at ho; have n0_ := A_ (blk_grown (g := gb1804) (o := .cells #[.int .i64 a0_0, .int .i64 a0_1, .slice A0_2 l0_2.length c0_2] 28 (0, 0)) (tk_ BK1804) hg (Kd.R_ne HO_3.out BK1804.out (by decide))); have n1_ := A_ (hb); have n2_ := A_ (ho); clear BK1804; clear HB; clear HO_3; have BK1804 := n0_; have HB := n1_; have HO1808 := n2_; clear n0_ n1_ n2_; clear ho hb hg hat))
        go_roundg k2
        case measure => have := HK1.out; have := HK2.out; omega
        case rel => exact ⟨(y1806), (wrap64 (x4_1 + 1)), tf_, H', ⟨by have := HK1.out; have := HK2.out; omega⟩, ⟨tr_x HO1808.out⟩, ⟨tk_ BK1804⟩, ⟨tb_⟩⟩
       ·
        rw [if_neg c12] at H
        exact absurd H (by simp)
   ·
    rw [if_neg c3] at H
    have c3b0 := decide_eq_false c3
    clear c3
    obtain rfl := Option.some.inj H
    obtain ⟨hcz15_0, hcz15_1, hcz15_2, hfz15_0, hfz15_1, hfz15_2⟩ := cf3_ BK1804.out
    go_wp2
    go_ret
    exact ⟨_, te_, tr_x HO_3.out, tb_⟩

end
end Go.Proofs.Ytnpacpdpgngdpaa.P
