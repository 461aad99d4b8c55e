-- printed functions (wip/slim.py)
import Derived.Test.YtnpacpdpgngdpaaPx0
import Derived.Test.YtnpacpdpgngdpaaQbaabd2c2bc
import Derived.Test.YtnpacpdpgngdpaaQ5e49eec671
import Derived.Test.YtnpacpdpgngdpaaQd1950a5485
namespace Go.Proofs.Ytnpacpdpgngdpaa.P
noncomputable section
set_option maxHeartbeats 8000000
set_option maxRecDepth 100000
open Go.RowKit Go.Proofs.YtnpacpdpgngdpaaW.PrintWords Go.Proofs.YtnpacpdpgngdpaaW.PrintLast Go.Proofs.YtnpacpdpgngdpaaW.PrintMore
attribute [local go_sem] max2_int min2_int max_two min_two max_three min_three max_four min_four   -- for this text's walks alone
set_option linter.unusedVariables false
set_option linter.unusedSimpArgs false

/-! ### spec_DrawIsFilePlacement: function 116 -/
mutual
def spec_DrawIsFilePlacement.j1 : Nat → List Int → List Int → Int → Int → Int → Int → List Int → Option (Int × Int × List Int × List Int)
 | 0, _, _, _, _, _, _, _ => none
 | k + 1, x6, x1879000, x1879001, x1879002, x1887000, x1887001, x1887002 => (spec_l1Cur_one.f x1879000 x1879001 x1879002 12).bind fun bt1904 => (if bt1904.1 = true then ((spec_l1Cur_among.f x1879000 bt1904.2.1 bt1904.2.2 (([(-1), 0, 999, 1000, (-2)] : List Int))).bind fun bt1910 => (if x6.length < 17592186044416 then (some (x1887000, x1887001, x1887002, (x6 ++ [bt1910.1]))) else (none))) else (some (x1887000, x1887001, x1887002, x6)))
def spec_DrawIsFilePlacement.l0 : Nat → List Int → Int → List Int → Int → Int → Int → Int → List Int → Option (Int × Int × List Int × List Int)
 | 0, _, _, _, _, _, _, _, _ => none
 | k + 1, x6, x7, x1879000, x1879001, x1879002, x1887000, x1887001, x1887002 => if x7 < x1887001 then ((spec_l1Cur_pick.f x1879000 x1879001 x1879002 x1887000).bind fun bt1888 => ((spec_boHas.f x1887000 x1887001 x1887002 bt1888.1 x7).bind fun t1891 => (if t1891 = true then (if x6.length < 17592186044416 then (spec_DrawIsFilePlacement.l0 k (x6 ++ [bt1888.1]) (wrap64 (x7 + 1)) x1879000 bt1888.2.1 bt1888.2.2 x1887000 x1887001 x1887002) else (none)) else ((spec_l1Cur_one.f x1879000 bt1888.2.1 bt1888.2.2 12).bind fun bt1895 => (if bt1895.1 = true then (if x6.length < 17592186044416 then (spec_DrawIsFilePlacement.l0 k (x6 ++ [bt1888.1]) (wrap64 (x7 + 1)) x1879000 bt1895.2.1 bt1895.2.2 x1887000 x1887001 x1887002) else (none)) else (if x6.length < 17592186044416 then (spec_DrawIsFilePlacement.l0 k (x6 ++ [(-1)]) (wrap64 (x7 + 1)) x1879000 bt1895.2.1 bt1895.2.2 x1887000 x1887001 x1887002) else (none))))))) else (spec_DrawIsFilePlacement.j1 k x6 x1879000 x1879001 x1879002 x1887000 x1887001 x1887002)
end
def spec_DrawIsFilePlacement.f (k : Nat) (l0 : List Int) : Option (Int × Int × List Int × List Int) := (spec_l1Cur_board.f k l0 0 0).bind fun bt1879 => ((spec_boGood.f k bt1879.1 bt1879.2.1 bt1879.2.2.1).bind fun t1887 => (if t1887 = true then (spec_DrawIsFilePlacement.l0 k ([] : List Int) 0 l0 bt1879.2.2.2.1 bt1879.2.2.2.2 bt1879.1 bt1879.2.1 bt1879.2.2.1) else (spec_DrawIsFilePlacement.j1 k ([] : List Int) l0 bt1879.2.2.2.1 bt1879.2.2.2.2 bt1879.1 bt1879.2.1 bt1879.2.2.1)))
theorem spec_DrawIsFilePlacement.mono_l : ∀ k, (∀ y0 y1 y2 y3 y4 y5 y6, LeO (spec_DrawIsFilePlacement.j1 k y0 y1 y2 y3 y4 y5 y6) (spec_DrawIsFilePlacement.j1 (k + 1) y0 y1 y2 y3 y4 y5 y6)) ∧ (∀ y0 y1 y2 y3 y4 y5 y6 y7, LeO (spec_DrawIsFilePlacement.l0 k y0 y1 y2 y3 y4 y5 y6 y7) (spec_DrawIsFilePlacement.l0 (k + 1) y0 y1 y2 y3 y4 y5 y6 y7))
 | 0 => ⟨fun _ _ _ _ _ _ _ r h => by simp [spec_DrawIsFilePlacement.j1] at h, fun _ _ _ _ _ _ _ _ r h => by simp [spec_DrawIsFilePlacement.l0] at h⟩
 | k + 1 => by
  obtain ⟨ih0, ih1⟩ := spec_DrawIsFilePlacement.mono_l k
  refine ⟨?_, ?_⟩
  ·
   intro y0 y1 y2 y3 y4 y5 y6
   unfold spec_DrawIsFilePlacement.j1
   repeat' first | (with_reducible first | exact ih0 _ _ _ _ _ _ _ | exact ih1 _ _ _ _ _ _ _ _ | exact spec_boGood.mono _ _ _ _ | exact spec_l1Cur_board.mono _ _ _ _ | exact LeO.refl _ | exact LeO.none _ | refine LeO.ite ?_ ?_ | refine LeO.bind ?_ (fun _ => ?_)) | exact ih0 _ _ _ _ _ _ _ | exact ih1 _ _ _ _ _ _ _ _ | exact spec_boGood.mono _ _ _ _ | exact spec_l1Cur_board.mono _ _ _ _ | exact LeO.none _ | refine LeO.ite ?_ ?_ | refine LeO.bind ?_ (fun _ => ?_)
  ·
   intro y0 y1 y2 y3 y4 y5 y6 y7
   unfold spec_DrawIsFilePlacement.l0
   repeat' first | (with_reducible first | exact ih0 _ _ _ _ _ _ _ | exact ih1 _ _ _ _ _ _ _ _ | exact spec_boGood.mono _ _ _ _ | exact spec_l1Cur_board.mono _ _ _ _ | exact LeO.refl _ | exact LeO.none _ | refine LeO.ite ?_ ?_ | refine LeO.bind ?_ (fun _ => ?_)) | exact ih0 _ _ _ _ _ _ _ | exact ih1 _ _ _ _ _ _ _ _ | exact spec_boGood.mono _ _ _ _ | exact spec_l1Cur_board.mono _ _ _ _ | exact LeO.none _ | refine LeO.ite ?_ ?_ | refine LeO.bind ?_ (fun _ => ?_)
theorem spec_DrawIsFilePlacement.mono : ∀ a0 k, LeO (spec_DrawIsFilePlacement.f k a0) (spec_DrawIsFilePlacement.f (k + 1) a0) := by
 intro a0 k
 obtain ⟨ih0, ih1⟩ := spec_DrawIsFilePlacement.mono_l k
 unfold spec_DrawIsFilePlacement.f
 repeat' first | (with_reducible first | exact ih0 _ _ _ _ _ _ _ | exact ih1 _ _ _ _ _ _ _ _ | exact spec_boGood.mono _ _ _ _ | exact spec_l1Cur_board.mono _ _ _ _ | exact LeO.refl _ | exact LeO.none _ | refine LeO.ite ?_ ?_ | refine LeO.bind ?_ (fun _ => ?_)) | exact ih0 _ _ _ _ _ _ _ | exact ih1 _ _ _ _ _ _ _ _ | exact spec_boGood.mono _ _ _ _ | exact spec_l1Cur_board.mono _ _ _ _ | exact LeO.none _ | refine LeO.ite ?_ ?_ | refine LeO.bind ?_ (fun _ => ?_)
theorem spec_DrawIsFilePlacement.calls (k : Nat) (A0 : Option Addr) (c0 : Nat) (l0 : List Int) (r1 : Int) (r2 : Int) (r3 : List Int) (r4 : List Int) (w : World) (hr0 : Kd.C (Kd.int .u8) w A0 l0.length l0) (hc0 : l0.length ≤ c0) (h : spec_DrawIsFilePlacement.f k l0 = some (r1, r2, r3, r4)) :
  Calls Try.prog 116 #[.slice A0 l0.length c0] w fun e w' => ∃ v2_ v3_ : Value, e = .returned (.tuple #[.agg #[.int .i64 r1, .int .i64 r2, v2_], v3_]) ∧ Kd.R (Kd.int .i64) 3 w' w.heap.size (fun k_ => some k_ ≠ (v3_ : Value).ownBlock) v2_ r3 ∧ Kd.R (Kd.int .i64) 3 w' w.heap.size (fun k_ => some k_ ≠ (v2_ : Value).ownBlock) v3_ r4 ∧ Below w.heap.size w w' := by
 have hu28 := Try.underlying28
 have hu122 := Try.underlying122
 have HR0 := A_ hr0
 have HC0 := A_ hc0
 clear hr0 hc0
 have HB := A_ (Below.refl w.heap.size w)
 have H : ((spec_l1Cur_board.f k l0 0 0).bind fun bt1879 => ((spec_boGood.f k bt1879.1 bt1879.2.1 bt1879.2.2.1).bind fun t1887 => (if t1887 = true then (spec_DrawIsFilePlacement.l0 k ([] : List Int) 0 l0 bt1879.2.2.2.1 bt1879.2.2.2.2 bt1879.1 bt1879.2.1 bt1879.2.2.1) else (spec_DrawIsFilePlacement.j1 k ([] : List Int) l0 bt1879.2.2.2.1 bt1879.2.2.2.2 bt1879.1 bt1879.2.1 bt1879.2.2.1)))) = some (r1, r2, r3, r4) := h
 clear h
 replace H := Option.bind_eq_some_iff.mp H
 obtain ⟨⟨t1879, t1880, t1881, t1884, t1885⟩, A20, H⟩ := H
 replace H : ((spec_boGood.f k t1879 t1880 t1881).bind fun t1887 => (if t1887 = true then (spec_DrawIsFilePlacement.l0 k ([] : List Int) 0 l0 t1884 t1885 t1879 t1880 t1881) else (spec_DrawIsFilePlacement.j1 k ([] : List Int) l0 t1884 t1885 t1879 t1880 t1881))) = some (r1, r2, r3, r4) := H
 have A2 := A_ A20
 clear A20
 replace H := Option.bind_eq_some_iff.mp H
 obtain ⟨t1887, A30, H⟩ := H
 replace H : (if t1887 = true then (spec_DrawIsFilePlacement.l0 k ([] : List Int) 0 l0 t1884 t1885 t1879 t1880 t1881) else (spec_DrawIsFilePlacement.j1 k ([] : List Int) l0 t1884 t1885 t1879 t1880 t1881)) = some (r1, r2, r3, r4) := H
 have A3 := A_ A30
 clear A30
 have HC4 := A_ H
 clear H
 go_enter Try.func116, Try.ntmps116
 go_upto_if 16 with (first | (refine gd_ 2 ?_; refine bx_ 2 #[.int .i64 0, .int .i64 0, .slice none 0 0] 28 ?_; intro gb1877 hg w5 hbox hb; have BK1877 := A_ (hbox); have GW1877 := A_ ((ts_ hg : w.heap.size ≤ gb1877)); have GE1877 := A_ ((ts_ hg : w.heap.size ≤ gb1877)); replace HB := A_ (below_step tb_ hb); clear hb hbox hg) | (refine gd_ 12 ?_; refine bx_ 12 #[.slice A0 l0.length c0, .int .i64 0, .int .u64 0] 122 ?_; intro gb1878 hg w6 hbox hb; have NB1877_1878 := A_ ((by rw [hg]; exact Nat.ne_of_lt (blk_lt (g := gb1877) (o := .cells #[.int .i64 0, .int .i64 0, .slice none 0 0] 28 (0, 0)) (tk_ BK1877)) : gb1877 ≠ gb1878)); have NB1878_1877 := A_ ((by rw [hg]; exact Nat.ne_of_gt (blk_lt (g := gb1877) (o := .cells #[.int .i64 0, .int .i64 0, .slice none 0 0] 28 (0, 0)) (tk_ BK1877)) : gb1878 ≠ gb1877)); replace BK1877 := A_ (blk_below (g := gb1877) (o := .cells #[.int .i64 0, .int .i64 0, .slice none 0 0] 28 (0, 0)) (tk_ BK1877) hb); have HI1878 := A_ ((⟨_, _, hbox, (by rw [hg]; exact (below_size tb_)), HR0.out⟩ : IsS122 w w6 gb1878 l0 0 0)); replace HB := A_ (below_step tb_ hb); clear hb hbox hg) | (refine gc_ 209 ?_; refine goesT_ (some 14) Try.func209 #[.pointer (some ⟨gb1878, 0, none⟩)] ?_; (with_reducible refine (spec_l1Cur_board.calls k gb1878 l0 0 0 t1879 t1880 t1881 t1884 t1885 w _ ?side1 ?side2 A2.out).mono ?_); (case side1 => repeat (first | (with_reducible first | exact HI1878.out | apply IsS122.alloc | apply IsS122.drewN | apply IsS122.drew | apply IsS122.set_1 | apply IsS122.set_2 | refine IsS122.far ?_ NB1878_1877.out _) | exact HI1878.out)); (case side2 => repeat (first | (with_reducible first | exact HB.out | apply below_alloc | apply pw_below_drewN | apply below_drew1 | refine below_set ?_ (IsS122.ge HI1878.out) | refine below_set ?_ GE1877.out) | exact HB.out)); rintro e w7 ⟨v1882, rfl, ho0, hi, hb, hk⟩; refine ⟨_, rfl, ?_⟩; replace BK1877 := A_ (KeepBut.blk hk (g' := gb1877) (o := .cells #[.int .i64 0, .int .i64 0, .slice none 0 0] 28 (0, 0)) (tk_ BK1877) NB1877_1878.out (by simp)); have HO1883 := A_ (Kd.R_lower ho0 (below_size (by repeat (first | (with_reducible first | exact HB.out | apply below_alloc | apply pw_below_drewN | apply below_drew1 | refine below_set ?_ (IsS122.ge HI1878.out) | refine below_set ?_ GE1877.out) | exact HB.out)))); replace HB := A_ (hb); replace HI1878 := A_ (hi); (try clear hb); (try clear hb2); (try clear hk); (try clear hi); (try clear ho0)) | (refine gd_ 5 ?_; refine bx_ 5 #[.int .i64 0, .int .i64 0, .slice none 0 0] 28 ?_; intro gb1886 hg w8 hbox hb; replace HO1883 := A_ (Kd.R_below (tr_x HO1883.out) hb); have BK1886 := A_ (hbox); have GW1886 := A_ ((by rw [hg]; exact (below_size (by repeat (first | (with_reducible first | exact HB.out | apply below_alloc | apply pw_below_drewN | apply below_drew1 | refine below_set ?_ (IsS122.ge HI1878.out) | refine below_set ?_ GE1877.out) | exact HB.out))) : w.heap.size ≤ gb1886)); have GE1886 := A_ ((by rw [hg]; exact (below_size (by repeat (first | (with_reducible first | exact HB.out | apply below_alloc | apply pw_below_drewN | apply below_drew1 | refine below_set ?_ (IsS122.ge HI1878.out) | refine below_set ?_ GE1877.out) | exact HB.out))) : w.heap.size ≤ gb1886)); replace HB := A_ (below_step (by repeat (first | (with_reducible first | exact HB.out | apply below_alloc | apply pw_below_drewN | apply below_drew1 | refine below_set ?_ (IsS122.ge HI1878.out) | refine below_set ?_ GE1877.out) | exact HB.out)) hb); have NB1877_1886 := A_ ((by rw [hg]; exact Nat.ne_of_lt (blk_lt (g := gb1877) (o := .cells #[.int .i64 0, .int .i64 0, .slice none 0 0] 28 (0, 0)) (tk_ BK1877)) : gb1877 ≠ gb1886)); have NB1886_1877 := A_ ((by rw [hg]; exact Nat.ne_of_gt (blk_lt (g := gb1877) (o := .cells #[.int .i64 0, .int .i64 0, .slice none 0 0] 28 (0, 0)) (tk_ BK1877)) : gb1886 ≠ gb1877)); replace BK1877 := A_ (blk_below (g := gb1877) (o := .cells #[.int .i64 0, .int .i64 0, .slice none 0 0] 28 (0, 0)) (tk_ BK1877) hb); have NB1878_1886 := A_ ((by rw [hg]; exact Nat.ne_of_lt (IsS122.lt (show IsS122 w _ gb1878 l0 t1884 t1885 from by repeat (first | (with_reducible first | exact HI1878.out | apply IsS122.alloc | apply IsS122.drewN | apply IsS122.drew | apply IsS122.set_1 | apply IsS122.set_2 | refine IsS122.far ?_ NB1878_1877.out _) | exact HI1878.out))) : gb1878 ≠ gb1886)); have NB1886_1878 := A_ ((by rw [hg]; exact Nat.ne_of_gt (IsS122.lt (show IsS122 w _ gb1878 l0 t1884 t1885 from by repeat (first | (with_reducible first | exact HI1878.out | apply IsS122.alloc | apply IsS122.drewN | apply IsS122.drew | apply IsS122.set_1 | apply IsS122.set_2 | refine IsS122.far ?_ NB1878_1877.out _) | exact HI1878.out))) : gb1886 ≠ gb1878)); replace HI1878 := A_ (IsS122.below (by repeat (first | (with_reducible first | exact HI1878.out | apply IsS122.alloc | apply IsS122.drewN | apply IsS122.drew | apply IsS122.set_1 | apply IsS122.set_2 | refine IsS122.far ?_ NB1878_1877.out _) | exact HI1878.out)) hb); clear hb hbox hg; have hnb9 := NB1886_1877.out; have hnc9 := NB1877_1886.out; have hnb10 := NB1886_1878.out; have hnc10 := NB1878_1886.out; obtain ⟨hcz11_0, hcz11_1, hcz11_2, hfz11_0, hfz11_1, hfz11_2⟩ := cf3_ BK1886.out; obtain ⟨Ao12, co12, eo12⟩ := Kd.R_slice HO1883.out; subst eo12) | (refine gc_ 144 ?_; refine goesT_ (some 16) Try.func144 #[.agg #[.int .i64 t1879, .int .i64 t1880, .slice Ao12 t1881.length co12]] ?_; (with_reducible refine (spec_boGood.calls k t1879 t1880 _ _ t1881 t1887 _ ?side1 ?side2 A3.out).mono ?_); (case side1 => refine (Kd.R_reads' (e := 3) (base := w.heap.size) (ok := fun k_ => True) (n := t1881.length) (c := co12) ?_).2.2; exact (tr_ (h := by exact (Kd.R_mono (Kd.R_far (p := ⟨gb1886, 2, none⟩) (Kd.R_far (p := ⟨gb1886, 1, none⟩) (Kd.R_far (p := ⟨gb1886, 0, none⟩) (Kd.R_types HO1883.out BK1886.out (by decide)) (fun _ hk => hk.2) (.int .i64 t1879)) (fun _ hk => hk.2) (.int .i64 t1880)) (fun _ hk => hk.2) (.slice Ao12 t1881.length co12)) (fun _ h_ => h_.1))))); (case side2 => exact (Kd.R_reads' HO1883.out).2.1); rintro e w13 ⟨rfl, hb⟩; refine ⟨_, rfl, ?_⟩; replace HO1883 := A_ (Kd.R_below (tr_ (h := by exact (Kd.R_mono (Kd.R_far (p := ⟨gb1886, 2, none⟩) (Kd.R_far (p := ⟨gb1886, 1, none⟩) (Kd.R_far (p := ⟨gb1886, 0, none⟩) (Kd.R_types HO1883.out BK1886.out (by decide)) (fun _ hk => hk.2) (.int .i64 t1879)) (fun _ hk => hk.2) (.int .i64 t1880)) (fun _ hk => hk.2) (.slice Ao12 t1881.length co12)) (fun _ h_ => h_.1)))) hb); replace BK1877 := A_ (blk_below (g := gb1877) (o := .cells #[.int .i64 0, .int .i64 0, .slice none 0 0] 28 (0, 0)) (tk_ BK1877) hb); replace BK1886 := A_ (blk_below (g := gb1886) (o := .cells #[.int .i64 t1879, .int .i64 t1880, .slice Ao12 t1881.length co12] 28 (0, 0)) (by (with_reducible repeat (first | refine blk_drewN ?_ _ | refine blk_drew ?_ | refine blk_alloc ?_ _)); refine blk_put (cs := #[.int .i64 t1879, .int .i64 t1880, .slice none 0 0]) ?_ 2 _ rfl; (with_reducible repeat (first | refine blk_drewN ?_ _ | refine blk_drew ?_ | refine blk_alloc ?_ _)); refine blk_put (cs := #[.int .i64 t1879, .int .i64 0, .slice none 0 0]) ?_ 1 _ rfl; (with_reducible repeat (first | refine blk_drewN ?_ _ | refine blk_drew ?_ | refine blk_alloc ?_ _)); refine blk_put (cs := #[.int .i64 0, .int .i64 0, .slice none 0 0]) ?_ 0 _ rfl; (with_reducible repeat (first | refine blk_drewN ?_ _ | refine blk_drew ?_ | refine blk_alloc ?_ _)); exact BK1886.out) hb); replace HB := A_ (below_step (by repeat (first | (with_reducible first | exact HB.out | apply below_alloc | apply pw_below_drewN | apply below_drew1 | refine below_set ?_ (IsS122.ge HI1878.out) | refine below_set ?_ GE1877.out | refine below_set ?_ GE1886.out) | exact HB.out)) hb); replace HI1878 := A_ (IsS122.below (show IsS122 w (((w8.setCell ⟨gb1886, 0, none⟩ (.int .i64 t1879)).setCell ⟨gb1886, 1, none⟩ (.int .i64 t1880)).setCell ⟨gb1886, 2, none⟩ (.slice Ao12 t1881.length co12)) gb1878 l0 t1884 t1885 from by repeat (first | (with_reducible first | exact HI1878.out | apply IsS122.alloc | apply IsS122.drewN | apply IsS122.drew | apply IsS122.set_1 | apply IsS122.set_2 | refine IsS122.far ?_ NB1878_1877.out _ | refine IsS122.far ?_ NB1878_1886.out _) | exact HI1878.out)) hb); (try clear hb); (try clear hb2); (try clear hk); (try clear hi)))
 (try simp only [Act.put, List.setIfInBounds_toArray, List.set_cons_zero, List.set_cons_succ])
 go_cut [6] (fun v6 wc => ∃ (kq : Nat) (x6_3 : List Int) (x1879001_3 : Int) (x1879002_3 : Int), Aside0 (spec_DrawIsFilePlacement.j1 kq x6_3 l0 x1879001_3 x1879002_3 t1879 t1880 t1881 = some (r1, r2, r3, r4)) ∧ Aside0 (kq ≤ k) ∧ Aside0 (Kd.R (Kd.int .i64) 3 wc w.heap.size (fun k_ => some k_ ≠ ((.slice Ao12 t1881.length co12) : Value).ownBlock) v6 x6_3) ∧ Aside0 (Kd.R (Kd.int .i64) 3 wc w.heap.size (fun k_ => some k_ ≠ (v6 : Value).ownBlock) (.slice Ao12 t1881.length co12) t1881) ∧ Aside0 (wc.heap[gb1877]? = some (.cells #[.int .i64 0, .int .i64 0, (.slice none 0 0)] 28 (0, 0))) ∧ Aside0 (wc.heap[gb1886]? = some (.cells #[.int .i64 t1879, .int .i64 t1880, (.slice Ao12 t1881.length co12)] 28 (0, 0))) ∧ Aside0 (IsS122 w wc gb1878 l0 x1879001_3 x1879002_3) ∧ Aside0 (Below w.heap.size w wc))
 case first =>
  have H := HC4.out
  clear HC4
  by_cases c14 : t1887 = true
  ·
   subst c14
   have H1 : (spec_DrawIsFilePlacement.l0 k ([] : List Int) 0 l0 t1884 t1885 t1879 t1880 t1881) = some (r1, r2, r3, r4) := by rw [if_pos rfl] at H; exact H
   clear H
   have H := H1
   clear H1
   have H' := A_ H
   clear H
   go_wp2
   go_loopg [6, 7] k (fun kq v6 v7 w' => ∃ (x6_1 : List Int) (x7_1 : Int) (x1879001_1 : Int) (x1879002_1 : Int), v7 = .int .i64 x7_1 ∧ Aside0 (spec_DrawIsFilePlacement.l0 kq x6_1 x7_1 l0 x1879001_1 x1879002_1 t1879 t1880 t1881 = some (r1, r2, r3, r4)) ∧ Aside0 (kq ≤ k) ∧ Aside0 (Kd.R (Kd.int .i64) 3 w' w.heap.size (fun k_ => some k_ ≠ ((.slice Ao12 t1881.length co12) : Value).ownBlock) v6 x6_1) ∧ Aside0 (Kd.R (Kd.int .i64) 3 w' w.heap.size (fun k_ => some k_ ≠ (v6 : Value).ownBlock) (.slice Ao12 t1881.length co12) t1881) ∧ Aside0 (w'.heap[gb1877]? = some (.cells #[.int .i64 0, .int .i64 0, (.slice none 0 0)] 28 (0, 0))) ∧ Aside0 (w'.heap[gb1886]? = some (.cells #[.int .i64 t1879, .int .i64 t1880, (.slice Ao12 t1881.length co12)] 28 (0, 0))) ∧ Aside0 (IsS122 w w' gb1878 l0 x1879001_1 x1879002_1) ∧ Aside0 (Below w.heap.size w w'))
   case atStart => exact ⟨(([] : List Int)), (0), (t1884), (t1885), tf_, H', ⟨Nat.le_refl _⟩, ⟨by first | exact Kd.R_nil _ _ _ _ _ | exact Kd.N_nil _ _ _ _ _ | exact Kd.V_nil _ _ _ _ _ | exact Kd.Q_nil _ _ _ _ _ | exact Kd.S_nil _ _ _ _ _⟩, ⟨by (with_reducible repeat (first | apply Kd.R_alloc | apply Kd.R_drewN | apply Kd.R_drew)); exact Kd.R_mono HO1883.out (fun _ hk => (by simp [Value.ownBlock]))⟩, ⟨tk_ BK1877⟩, ⟨tk_ BK1886⟩, ⟨by repeat (first | (with_reducible first | exact HI1878.out | apply IsS122.alloc | apply IsS122.drewN | apply IsS122.drew | apply IsS122.set_1 | apply IsS122.set_2 | refine IsS122.far ?_ NB1878_1877.out _ | refine IsS122.far ?_ NB1878_1886.out _) | exact HI1878.out)⟩, ⟨by repeat (first | (with_reducible first | exact HB.out | apply below_alloc | apply pw_below_drewN | apply below_drew1 | refine below_set ?_ (IsS122.ge HI1878.out) | refine below_set ?_ GE1877.out | refine below_set ?_ GE1886.out) | exact HB.out)⟩⟩
   case round =>
    clear H'
    try clear c1
    try clear c2
    try clear p2
    try clear c9
    try clear c10
    try clear c11
    try clear c14
    try clear hcz11_0
    try clear hcz11_1
    try clear hcz11_2
    try clear hfz11_0
    try clear hfz11_1
    try clear hfz11_2
    obtain ⟨x6_1, x7_1, x1879001_1, x1879002_1, rfl, HA, HK1, HO_6, HO_1887002, BK1877, BK1886, HI1878, HB⟩ := hrel
    cases gk with
    | zero => exact absurd HA.out (by simp [spec_DrawIsFilePlacement.l0])
    | succ k1 =>
     have H := HA.out
     clear HA
     simp only [spec_DrawIsFilePlacement.l0] at H
     by_cases c15 : x7_1 < t1880
     ·
      rw [if_pos c15] at H
      have c15b0 := decide_eq_true c15
      clear c15
      (first | rw [c15b0] | (simp only [i64_w, i32_w]; rw [c15b0]) | skip)
      replace H := Option.bind_eq_some_iff.mp H
      obtain ⟨⟨t1888, t1889, t1890⟩, A160, H⟩ := H
      replace H : ((spec_boHas.f t1879 t1880 t1881 t1888 x7_1).bind fun t1891 => (if t1891 = true then (if x6_1.length < 17592186044416 then (spec_DrawIsFilePlacement.l0 k1 (x6_1 ++ [t1888]) (wrap64 (x7_1 + 1)) l0 t1889 t1890 t1879 t1880 t1881) else (none)) else ((spec_l1Cur_one.f l0 t1889 t1890 12).bind fun bt1895 => (if bt1895.1 = true then (if x6_1.length < 17592186044416 then (spec_DrawIsFilePlacement.l0 k1 (x6_1 ++ [t1888]) (wrap64 (x7_1 + 1)) l0 bt1895.2.1 bt1895.2.2 t1879 t1880 t1881) else (none)) else (if x6_1.length < 17592186044416 then (spec_DrawIsFilePlacement.l0 k1 (x6_1 ++ [(-1)]) (wrap64 (x7_1 + 1)) l0 bt1895.2.1 bt1895.2.2 t1879 t1880 t1881) else (none)))))) = some (r1, r2, r3, r4) := H
      have A16 := A_ A160
      clear A160
      replace H := Option.bind_eq_some_iff.mp H
      obtain ⟨t1891, A170, H⟩ := H
      replace H : (if t1891 = true then (if x6_1.length < 17592186044416 then (spec_DrawIsFilePlacement.l0 k1 (x6_1 ++ [t1888]) (wrap64 (x7_1 + 1)) l0 t1889 t1890 t1879 t1880 t1881) else (none)) else ((spec_l1Cur_one.f l0 t1889 t1890 12).bind fun bt1895 => (if bt1895.1 = true then (if x6_1.length < 17592186044416 then (spec_DrawIsFilePlacement.l0 k1 (x6_1 ++ [t1888]) (wrap64 (x7_1 + 1)) l0 bt1895.2.1 bt1895.2.2 t1879 t1880 t1881) else (none)) else (if x6_1.length < 17592186044416 then (spec_DrawIsFilePlacement.l0 k1 (x6_1 ++ [(-1)]) (wrap64 (x7_1 + 1)) l0 bt1895.2.1 bt1895.2.2 t1879 t1880 t1881) else (none))))) = some (r1, r2, r3, r4) := H
      have A17 := A_ A170
      clear A170
      by_cases c18 : t1891 = true
      ·
       subst c18
       have H1 : (if x6_1.length < 17592186044416 then (spec_DrawIsFilePlacement.l0 k1 (x6_1 ++ [t1888]) (wrap64 (x7_1 + 1)) l0 t1889 t1890 t1879 t1880 t1881) else (none)) = some (r1, r2, r3, r4) := by rw [if_pos rfl] at H; exact H
       clear H
       have H := H1
       clear H1
       by_cases c19 : x6_1.length < 17592186044416
       ·
        rw [if_pos c19] at H
        have LMc19 := A_ c19
        clear c19
        obtain ⟨y1892, hy1892⟩ : ∃ y_ : List Int, y_ = (x6_1 ++ [t1888]) := ⟨_, rfl⟩
        replace H : (spec_DrawIsFilePlacement.l0 k1 y1892 (wrap64 (x7_1 + 1)) l0 t1889 t1890 t1879 t1880 t1881) = some (r1, r2, r3, r4) := ty_ hy1892 H
        have Ny1892 := A_ hy1892
        clear hy1892
        have H' := A_ H
        clear H
        have hnb20 := NB1886_1877.out
        have hnc20 := NB1877_1886.out
        have hnb21 := NB1886_1878.out
        have hnc21 := NB1878_1886.out
        obtain ⟨hcz22_0, hcz22_1, hcz22_2, hfz22_0, hfz22_1, hfz22_2⟩ := cf3_ BK1886.out
        go_wp2_with (first | (refine gc_ 164 ?_; refine goesT_ (some 26) Try.func164 #[.pointer (some ⟨gb1878, 0, none⟩), .int .i64 t1879] ?_; (with_reducible refine (spec_l1Cur_pick.calls gb1878 l0 x1879001_1 x1879002_1 t1879 t1888 t1889 t1890 w _ ?side1 ?side2 A16.out).mono ?_); (case side1 => repeat (first | (with_reducible first | exact HI1878.out | apply IsS122.alloc | apply IsS122.drewN | apply IsS122.drew | apply IsS122.set_1 | apply IsS122.set_2 | refine IsS122.far ?_ NB1878_1877.out _ | refine IsS122.far ?_ NB1878_1886.out _) | exact HI1878.out)); (case side2 => repeat (first | (with_reducible first | exact HB.out | apply below_alloc | apply pw_below_drewN | apply below_drew1 | refine below_set ?_ (IsS122.ge HI1878.out) | refine below_set ?_ GE1877.out | refine below_set ?_ GE1886.out) | exact HB.out)); rintro e w23 ⟨rfl, hi, hb, hk⟩; refine ⟨_, rfl, ?_⟩; replace HO_6 := A_ (Kd.R_mono (Kd.R_keep (IsS122.apart (show IsS122 w _ gb1878 l0 x1879001_1 x1879002_1 from by repeat (first | (with_reducible first | exact HI1878.out | apply IsS122.alloc | apply IsS122.drewN | apply IsS122.drew | apply IsS122.set_1 | apply IsS122.set_2 | refine IsS122.far ?_ NB1878_1877.out _ | refine IsS122.far ?_ NB1878_1886.out _) | exact HI1878.out)) (tr_x HO_6.out) (by decide)) hk (fun _ h => h.2)) (fun _ h => h.1)); replace HO_1887002 := A_ (Kd.R_mono (Kd.R_keep (IsS122.apart (show IsS122 w _ gb1878 l0 x1879001_1 x1879002_1 from by repeat (first | (with_reducible first | exact HI1878.out | apply IsS122.alloc | apply IsS122.drewN | apply IsS122.drew | apply IsS122.set_1 | apply IsS122.set_2 | refine IsS122.far ?_ NB1878_1877.out _ | refine IsS122.far ?_ NB1878_1886.out _) | exact HI1878.out)) (tr_x HO_1887002.out) (by decide)) hk (fun _ h => h.2)) (fun _ h => h.1)); replace BK1877 := A_ (KeepBut.blk hk (g' := gb1877) (o := .cells #[.int .i64 0, .int .i64 0, .slice none 0 0] 28 (0, 0)) (tk_ BK1877) NB1877_1878.out (by simp)); replace BK1886 := A_ (KeepBut.blk hk (g' := gb1886) (o := .cells #[.int .i64 t1879, .int .i64 t1880, .slice Ao12 t1881.length co12] 28 (0, 0)) (tk_ BK1886) NB1886_1878.out (by simp)); replace HB := A_ (hb); replace HI1878 := A_ (hi); (try clear hb); (try clear hb2); (try clear hk); (try clear hi); obtain ⟨hcz24_0, hcz24_1, hcz24_2, hfz24_0, hfz24_1, hfz24_2⟩ := cf3_ BK1886.out) | (refine gc_ 121 ?_; refine goesT_ (some 30) Try.func121 #[.agg #[.int .i64 t1879, .int .i64 t1880, .slice Ao12 t1881.length co12], .int .i64 t1888, .int .i64 x7_1] ?_; (with_reducible refine (spec_boHas.calls t1879 t1880 _ _ t1881 t1888 x7_1 true _ ?side1 ?side2 A17.out).mono ?_); (case side1 => exact tc0_ (Kd.R_reads' HO_1887002.out).2.2); (case side2 => exact (Kd.R_reads' HO_1887002.out).2.1); rintro e w25 ⟨rfl, hb⟩; refine ⟨_, rfl, ?_⟩; replace HO_6 := A_ (Kd.R_below (tr_x HO_6.out) hb); replace HO_1887002 := A_ (Kd.R_below (tr_x HO_1887002.out) hb); replace BK1877 := A_ (blk_below (g := gb1877) (o := .cells #[.int .i64 0, .int .i64 0, .slice none 0 0] 28 (0, 0)) (tk_ BK1877) hb); replace BK1886 := A_ (blk_below (g := gb1886) (o := .cells #[.int .i64 t1879, .int .i64 t1880, .slice Ao12 t1881.length co12] 28 (0, 0)) (tk_ BK1886) hb); replace HB := A_ (below_step (by repeat (first | (with_reducible first | exact HB.out | apply below_alloc | apply pw_below_drewN | apply below_drew1 | refine below_set ?_ (IsS122.ge HI1878.out) | refine below_set ?_ GE1877.out | refine below_set ?_ GE1886.out) | exact HB.out)) hb); replace HI1878 := A_ (IsS122.below (by repeat (first | (with_reducible first | exact HI1878.out | apply IsS122.alloc | apply IsS122.drewN | apply IsS122.drew | apply IsS122.set_1 | apply IsS122.set_2 | refine IsS122.far ?_ NB1878_1877.out _ | refine IsS122.far ?_ NB1878_1886.out _) | exact HI1878.out)) hb); (try clear hb); (try clear hb2); (try clear hk); (try clear hi)) | ((with_reducible refine gate_builtin (b := .append) (xs := #[.tmp 36, .tmp 38]) rfl ?_); at_builtin; refine Kd.R_append (Kd.int .i64) (w0 := w) w.heap.size rfl (.tmp 36) (.tmp 38) 22 3 (.int .i64 0) 8 rfl Try.underlying22 info3 rfl (by decide) (by omega) u6 x6_1 t1888 [.int .i64 t1888] (fun k_ => some k_ ≠ (.slice Ao12 t1881.length co12 : Value).ownBlock) (fun _ => False) rfl rfl ?aP (fun _ hk => hk.elim) ?aF ?aO ?aB ?aS ?aL ?_; (case aP => exact rfl); (case aB => exact (by repeat (first | (with_reducible first | exact HB.out | apply below_alloc | apply pw_below_drewN | apply below_drew1 | refine below_set ?_ (IsS122.ge HI1878.out) | refine below_set ?_ GE1877.out | refine below_set ?_ GE1886.out) | exact HB.out))); (case aF => exact (fun k_ hk => Kd.fresh' (Kd.R_lt (tr_x HO_1887002.out)) k_ hk)); (case aO => exact (tr_x HO_6.out)); (case aS => exact (below_size (by repeat (first | (with_reducible first | exact HB.out | apply below_alloc | apply pw_below_drewN | apply below_drew1 | refine below_set ?_ (IsS122.ge HI1878.out) | refine below_set ?_ GE1877.out | refine below_set ?_ GE1886.out) | exact HB.out)))); (case aL => have := LMc19.out; omega); intro v1893 w26 ho hb hg hat; rw [← Ny1892.out] at ho; have n0_ := A_ (Kd.R_after (ok := (fun _ => True)) (tr_ (h := by exact Kd.R_mono HO_1887002.out om_)) hg hat); have n1_ := A_ (blk_grown (g := gb1877) (o := .cells #[.int .i64 0, .int .i64 0, .slice none 0 0] 28 (0, 0)) (tk_ BK1877) hg (Kd.R_ne HO_6.out BK1877.out (by decide))); have n2_ := A_ (blk_grown (g := gb1886) (o := .cells #[.int .i64 t1879, .int .i64 t1880, .slice Ao12 t1881.length co12] 28 (0, 0)) (tk_ BK1886) hg (Kd.R_ne HO_6.out BK1886.out (by decide))); have n3_ := A_ (IsS122.grown (by repeat (first | (with_reducible first | exact HI1878.out | apply IsS122.alloc | apply IsS122.drewN | apply IsS122.drew | apply IsS122.set_1 | apply IsS122.set_2 | refine IsS122.far ?_ NB1878_1877.out _ | refine IsS122.far ?_ NB1878_1886.out _) | exact HI1878.out)) hg (IsS122.own_ne HI1878.out HO_6.out (by decide))); have n4_ := A_ (hb); have n5_ := A_ (ho); clear HO_1887002; clear BK1877; clear BK1886; clear HI1878; clear HB; clear HO_6; have HO_1887002 := n0_; have BK1877 := n1_; have BK1886 := n2_; have HI1878 := n3_; have HB := n4_; have HO1894 := n5_; clear n0_ n1_ n2_ n3_ n4_ n5_; clear ho hb hg hat))
        go_roundg k1
        case measure => have := HK1.out; omega
        case rel => exact ⟨(y1892), (wrap64 (x7_1 + 1)), (t1889), (t1890), tf_, H', ⟨by have := HK1.out; omega⟩, ⟨tr_x HO1894.out⟩, ⟨by (with_reducible repeat (first | apply Kd.R_alloc | apply Kd.R_drewN | apply Kd.R_drew)); exact Kd.R_mono HO_1887002.out (fun _ hk => hk.2)⟩, ⟨tk_ BK1877⟩, ⟨tk_ BK1886⟩, ⟨by repeat (first | (with_reducible first | exact HI1878.out | apply IsS122.alloc | apply IsS122.drewN | apply IsS122.drew | apply IsS122.set_1 | apply IsS122.set_2 | refine IsS122.far ?_ NB1878_1877.out _ | refine IsS122.far ?_ NB1878_1886.out _) | exact HI1878.out)⟩, ⟨by repeat (first | (with_reducible first | exact HB.out | apply below_alloc | apply pw_below_drewN | apply below_drew1 | refine below_set ?_ (IsS122.ge HI1878.out) | refine below_set ?_ GE1877.out | refine below_set ?_ GE1886.out) | exact HB.out)⟩⟩
       ·
        rw [if_neg c19] at H
        exact absurd H (by simp)
      ·
       replace c18 := Bool.eq_false_iff.mpr c18
       subst c18
       have H1 : ((spec_l1Cur_one.f l0 t1889 t1890 12).bind fun bt1895 => (if bt1895.1 = true then (if x6_1.length < 17592186044416 then (spec_DrawIsFilePlacement.l0 k1 (x6_1 ++ [t1888]) (wrap64 (x7_1 + 1)) l0 bt1895.2.1 bt1895.2.2 t1879 t1880 t1881) else (none)) else (if x6_1.length < 17592186044416 then (spec_DrawIsFilePlacement.l0 k1 (x6_1 ++ [(-1)]) (wrap64 (x7_1 + 1)) l0 bt1895.2.1 bt1895.2.2 t1879 t1880 t1881) else (none)))) = some (r1, r2, r3, r4) := by rw [if_neg (show ¬ (false = true) by decide)] at H; exact H
       clear H
       have H := H1
       clear H1
       replace H := Option.bind_eq_some_iff.mp H
       obtain ⟨⟨t1895, t1896, t1897⟩, A270, H⟩ := H
       replace H : (if t1895 = true then (if x6_1.length < 17592186044416 then (spec_DrawIsFilePlacement.l0 k1 (x6_1 ++ [t1888]) (wrap64 (x7_1 + 1)) l0 t1896 t1897 t1879 t1880 t1881) else (none)) else (if x6_1.length < 17592186044416 then (spec_DrawIsFilePlacement.l0 k1 (x6_1 ++ [(-1)]) (wrap64 (x7_1 + 1)) l0 t1896 t1897 t1879 t1880 t1881) else (none))) = some (r1, r2, r3, r4) := H
       have A27 := A_ A270
       clear A270
       by_cases c28 : t1895 = true
       ·
        subst c28
        have H1 : (if x6_1.length < 17592186044416 then (spec_DrawIsFilePlacement.l0 k1 (x6_1 ++ [t1888]) (wrap64 (x7_1 + 1)) l0 t1896 t1897 t1879 t1880 t1881) else (none)) = some (r1, r2, r3, r4) := by rw [if_pos rfl] at H; exact H
        clear H
        have H := H1
        clear H1
        by_cases c29 : x6_1.length < 17592186044416
        ·
         rw [if_pos c29] at H
         have LMc29 := A_ c29
         clear c29
         obtain ⟨y1898, hy1898⟩ : ∃ y_ : List Int, y_ = (x6_1 ++ [t1888]) := ⟨_, rfl⟩
         replace H : (spec_DrawIsFilePlacement.l0 k1 y1898 (wrap64 (x7_1 + 1)) l0 t1896 t1897 t1879 t1880 t1881) = some (r1, r2, r3, r4) := ty_ hy1898 H
         have Ny1898 := A_ hy1898
         clear hy1898
         have H' := A_ H
         clear H
         have hnb30 := NB1886_1877.out
         have hnc30 := NB1877_1886.out
         have hnb31 := NB1886_1878.out
         have hnc31 := NB1878_1886.out
         obtain ⟨hcz32_0, hcz32_1, hcz32_2, hfz32_0, hfz32_1, hfz32_2⟩ := cf3_ BK1886.out
         go_wp2_with (first | (refine gc_ 164 ?_; refine goesT_ (some 26) Try.func164 #[.pointer (some ⟨gb1878, 0, none⟩), .int .i64 t1879] ?_; (with_reducible refine (spec_l1Cur_pick.calls gb1878 l0 x1879001_1 x1879002_1 t1879 t1888 t1889 t1890 w _ ?side1 ?side2 A16.out).mono ?_); (case side1 => repeat (first | (with_reducible first | exact HI1878.out | apply IsS122.alloc | apply IsS122.drewN | apply IsS122.drew | apply IsS122.set_1 | apply IsS122.set_2 | refine IsS122.far ?_ NB1878_1877.out _ | refine IsS122.far ?_ NB1878_1886.out _) | exact HI1878.out)); (case side2 => repeat (first | (with_reducible first | exact HB.out | apply below_alloc | apply pw_below_drewN | apply below_drew1 | refine below_set ?_ (IsS122.ge HI1878.out) | refine below_set ?_ GE1877.out | refine below_set ?_ GE1886.out) | exact HB.out)); rintro e w33 ⟨rfl, hi, hb, hk⟩; refine ⟨_, rfl, ?_⟩; replace HO_6 := A_ (Kd.R_mono (Kd.R_keep (IsS122.apart (show IsS122 w _ gb1878 l0 x1879001_1 x1879002_1 from by repeat (first | (with_reducible first | exact HI1878.out | apply IsS122.alloc | apply IsS122.drewN | apply IsS122.drew | apply IsS122.set_1 | apply IsS122.set_2 | refine IsS122.far ?_ NB1878_1877.out _ | refine IsS122.far ?_ NB1878_1886.out _) | exact HI1878.out)) (tr_x HO_6.out) (by decide)) hk (fun _ h => h.2)) (fun _ h => h.1)); replace HO_1887002 := A_ (Kd.R_mono (Kd.R_keep (IsS122.apart (show IsS122 w _ gb1878 l0 x1879001_1 x1879002_1 from by repeat (first | (with_reducible first | exact HI1878.out | apply IsS122.alloc | apply IsS122.drewN | apply IsS122.drew | apply IsS122.set_1 | apply IsS122.set_2 | refine IsS122.far ?_ NB1878_1877.out _ | refine IsS122.far ?_ NB1878_1886.out _) | exact HI1878.out)) (tr_x HO_1887002.out) (by decide)) hk (fun _ h => h.2)) (fun _ h => h.1)); replace BK1877 := A_ (KeepBut.blk hk (g' := gb1877) (o := .cells #[.int .i64 0, .int .i64 0, .slice none 0 0] 28 (0, 0)) (tk_ BK1877) NB1877_1878.out (by simp)); replace BK1886 := A_ (KeepBut.blk hk (g' := gb1886) (o := .cells #[.int .i64 t1879, .int .i64 t1880, .slice Ao12 t1881.length co12] 28 (0, 0)) (tk_ BK1886) NB1886_1878.out (by simp)); replace HB := A_ (hb); replace HI1878 := A_ (hi); (try clear hb); (try clear hb2); (try clear hk); (try clear hi); obtain ⟨hcz34_0, hcz34_1, hcz34_2, hfz34_0, hfz34_1, hfz34_2⟩ := cf3_ BK1886.out) | (refine gc_ 121 ?_; refine goesT_ (some 30) Try.func121 #[.agg #[.int .i64 t1879, .int .i64 t1880, .slice Ao12 t1881.length co12], .int .i64 t1888, .int .i64 x7_1] ?_; (with_reducible refine (spec_boHas.calls t1879 t1880 _ _ t1881 t1888 x7_1 false _ ?side1 ?side2 A17.out).mono ?_); (case side1 => exact tc0_ (Kd.R_reads' HO_1887002.out).2.2); (case side2 => exact (Kd.R_reads' HO_1887002.out).2.1); rintro e w35 ⟨rfl, hb⟩; refine ⟨_, rfl, ?_⟩; replace HO_6 := A_ (Kd.R_below (tr_x HO_6.out) hb); replace HO_1887002 := A_ (Kd.R_below (tr_x HO_1887002.out) hb); replace BK1877 := A_ (blk_below (g := gb1877) (o := .cells #[.int .i64 0, .int .i64 0, .slice none 0 0] 28 (0, 0)) (tk_ BK1877) hb); replace BK1886 := A_ (blk_below (g := gb1886) (o := .cells #[.int .i64 t1879, .int .i64 t1880, .slice Ao12 t1881.length co12] 28 (0, 0)) (tk_ BK1886) hb); replace HB := A_ (below_step (by repeat (first | (with_reducible first | exact HB.out | apply below_alloc | apply pw_below_drewN | apply below_drew1 | refine below_set ?_ (IsS122.ge HI1878.out) | refine below_set ?_ GE1877.out | refine below_set ?_ GE1886.out) | exact HB.out)) hb); replace HI1878 := A_ (IsS122.below (by repeat (first | (with_reducible first | exact HI1878.out | apply IsS122.alloc | apply IsS122.drewN | apply IsS122.drew | apply IsS122.set_1 | apply IsS122.set_2 | refine IsS122.far ?_ NB1878_1877.out _ | refine IsS122.far ?_ NB1878_1886.out _) | exact HI1878.out)) hb); (try clear hb); (try clear hb2); (try clear hk); (try clear hi)) | (go_at_call 166; (with_reducible refine (spec_l1Cur_one.calls gb1878 l0 t1889 t1890 12 true t1896 t1897 w _ ?side1 ?side2 A27.out).mono ?_); (case side1 => repeat (first | (with_reducible first | exact HI1878.out | apply IsS122.alloc | apply IsS122.drewN | apply IsS122.drew | apply IsS122.set_1 | apply IsS122.set_2 | refine IsS122.far ?_ NB1878_1877.out _ | refine IsS122.far ?_ NB1878_1886.out _) | exact HI1878.out)); (case side2 => repeat (first | (with_reducible first | exact HB.out | apply below_alloc | apply pw_below_drewN | apply below_drew1 | refine below_set ?_ (IsS122.ge HI1878.out) | refine below_set ?_ GE1877.out | refine below_set ?_ GE1886.out) | exact HB.out)); rintro e w36 ⟨rfl, hi, hb, hk⟩; replace HO_6 := A_ (Kd.R_mono (Kd.R_keep (IsS122.apart (show IsS122 w _ gb1878 l0 t1889 t1890 from by repeat (first | (with_reducible first | exact HI1878.out | apply IsS122.alloc | apply IsS122.drewN | apply IsS122.drew | apply IsS122.set_1 | apply IsS122.set_2 | refine IsS122.far ?_ NB1878_1877.out _ | refine IsS122.far ?_ NB1878_1886.out _) | exact HI1878.out)) (tr_x HO_6.out) (by decide)) hk (fun _ h => h.2)) (fun _ h => h.1)); replace HO_1887002 := A_ (Kd.R_mono (Kd.R_keep (IsS122.apart (show IsS122 w _ gb1878 l0 t1889 t1890 from by repeat (first | (with_reducible first | exact HI1878.out | apply IsS122.alloc | apply IsS122.drewN | apply IsS122.drew | apply IsS122.set_1 | apply IsS122.set_2 | refine IsS122.far ?_ NB1878_1877.out _ | refine IsS122.far ?_ NB1878_1886.out _) | exact HI1878.out)) (tr_x HO_1887002.out) (by decide)) hk (fun _ h => h.2)) (fun _ h => h.1)); replace BK1877 := A_ (KeepBut.blk hk (g' := gb1877) (o := .cells #[.int .i64 0, .int .i64 0, .slice none 0 0] 28 (0, 0)) (tk_ BK1877) NB1877_1878.out (by simp)); replace BK1886 := A_ (KeepBut.blk hk (g' := gb1886) (o := .cells #[.int .i64 t1879, .int .i64 t1880, .slice Ao12 t1881.length co12] 28 (0, 0)) (tk_ BK1886) NB1886_1878.out (by simp)); replace HB := A_ (hb); replace HI1878 := A_ (hi); (try clear hb); (try clear hb2); (try clear hk); (try clear hi)) | ((with_reducible refine gate_builtin (b := .append) (xs := #[.tmp 36, .tmp 38]) rfl ?_); at_builtin; refine Kd.R_append (Kd.int .i64) (w0 := w) w.heap.size rfl (.tmp 36) (.tmp 38) 22 3 (.int .i64 0) 8 rfl Try.underlying22 info3 rfl (by decide) (by omega) u6 x6_1 t1888 [.int .i64 t1888] (fun k_ => some k_ ≠ (.slice Ao12 t1881.length co12 : Value).ownBlock) (fun _ => False) rfl rfl ?aP (fun _ hk => hk.elim) ?aF ?aO ?aB ?aS ?aL ?_; (case aP => exact rfl); (case aB => exact (by repeat (first | (with_reducible first | exact HB.out | apply below_alloc | apply pw_below_drewN | apply below_drew1 | refine below_set ?_ (IsS122.ge HI1878.out) | refine below_set ?_ GE1877.out | refine below_set ?_ GE1886.out) | exact HB.out))); (case aF => exact (fun k_ hk => Kd.fresh' (Kd.R_lt (tr_x HO_1887002.out)) k_ hk)); (case aO => exact (tr_x HO_6.out)); (case aS => exact (below_size (by repeat (first | (with_reducible first | exact HB.out | apply below_alloc | apply pw_below_drewN | apply below_drew1 | refine below_set ?_ (IsS122.ge HI1878.out) | refine below_set ?_ GE1877.out | refine below_set ?_ GE1886.out) | exact HB.out)))); (case aL => have := LMc29.out; omega); intro v1899 w37 ho hb hg hat; rw [← Ny1898.out] at ho; have n0_ := A_ (Kd.R_after (ok := (fun _ => True)) (tr_ (h := by exact Kd.R_mono HO_1887002.out om_)) hg hat); have n1_ := A_ (blk_grown (g := gb1877) (o := .cells #[.int .i64 0, .int .i64 0, .slice none 0 0] 28 (0, 0)) (tk_ BK1877) hg (Kd.R_ne HO_6.out BK1877.out (by decide))); have n2_ := A_ (blk_grown (g := gb1886) (o := .cells #[.int .i64 t1879, .int .i64 t1880, .slice Ao12 t1881.length co12] 28 (0, 0)) (tk_ BK1886) hg (Kd.R_ne HO_6.out BK1886.out (by decide))); have n3_ := A_ (IsS122.grown (by repeat (first | (with_reducible first | exact HI1878.out | apply IsS122.alloc | apply IsS122.drewN | apply IsS122.drew | apply IsS122.set_1 | apply IsS122.set_2 | refine IsS122.far ?_ NB1878_1877.out _ | refine IsS122.far ?_ NB1878_1886.out _) | exact HI1878.out)) hg (IsS122.own_ne HI1878.out HO_6.out (by decide))); have n4_ := A_ (hb); have n5_ := A_ (ho); clear HO_1887002; clear BK1877; clear BK1886; clear HI1878; clear HB; clear HO_6; have HO_1887002 := n0_; have BK1877 := n1_; have BK1886 := n2_; have HI1878 := n3_; have HB := n4_; have HO1900 := n5_; clear n0_ n1_ n2_ n3_ n4_ n5_; clear ho hb hg hat))
         go_roundg k1
         case measure => have := HK1.out; omega
         case rel => exact ⟨(y1898), (wrap64 (x7_1 + 1)), (t1896), (t1897), tf_, H', ⟨by have := HK1.out; omega⟩, ⟨tr_x HO1900.out⟩, ⟨by (with_reducible repeat (first | apply Kd.R_alloc | apply Kd.R_drewN | apply Kd.R_drew)); exact Kd.R_mono HO_1887002.out (fun _ hk => hk.2)⟩, ⟨tk_ BK1877⟩, ⟨tk_ BK1886⟩, ⟨by repeat (first | (with_reducible first | exact HI1878.out | apply IsS122.alloc | apply IsS122.drewN | apply IsS122.drew | apply IsS122.set_1 | apply IsS122.set_2 | refine IsS122.far ?_ NB1878_1877.out _ | refine IsS122.far ?_ NB1878_1886.out _) | exact HI1878.out)⟩, ⟨by repeat (first | (with_reducible first | exact HB.out | apply below_alloc | apply pw_below_drewN | apply below_drew1 | refine below_set ?_ (IsS122.ge HI1878.out) | refine below_set ?_ GE1877.out | refine below_set ?_ GE1886.out) | exact HB.out)⟩⟩
        ·
         rw [if_neg c29] at H
         exact absurd H (by simp)
       ·
        replace c28 := Bool.eq_false_iff.mpr c28
        subst c28
        have H1 : (if x6_1.length < 17592186044416 then (spec_DrawIsFilePlacement.l0 k1 (x6_1 ++ [(-1)]) (wrap64 (x7_1 + 1)) l0 t1896 t1897 t1879 t1880 t1881) else (none)) = some (r1, r2, r3, r4) := by rw [if_neg (show ¬ (false = true) by decide)] at H; exact H
        clear H
        have H := H1
        clear H1
        by_cases c38 : x6_1.length < 17592186044416
        ·
         rw [if_pos c38] at H
         have LMc38 := A_ c38
         clear c38
         obtain ⟨y1901, hy1901⟩ : ∃ y_ : List Int, y_ = (x6_1 ++ [(-1)]) := ⟨_, rfl⟩
         replace H : (spec_DrawIsFilePlacement.l0 k1 y1901 (wrap64 (x7_1 + 1)) l0 t1896 t1897 t1879 t1880 t1881) = some (r1, r2, r3, r4) := ty_ hy1901 H
         have Ny1901 := A_ hy1901
         clear hy1901
         have H' := A_ H
         clear H
         have hnb39 := NB1886_1877.out
         have hnc39 := NB1877_1886.out
         have hnb40 := NB1886_1878.out
         have hnc40 := NB1878_1886.out
         obtain ⟨hcz41_0, hcz41_1, hcz41_2, hfz41_0, hfz41_1, hfz41_2⟩ := cf3_ BK1886.out
         go_wp2_with (first | (refine gc_ 164 ?_; refine goesT_ (some 26) Try.func164 #[.pointer (some ⟨gb1878, 0, none⟩), .int .i64 t1879] ?_; (with_reducible refine (spec_l1Cur_pick.calls gb1878 l0 x1879001_1 x1879002_1 t1879 t1888 t1889 t1890 w _ ?side1 ?side2 A16.out).mono ?_); (case side1 => repeat (first | (with_reducible first | exact HI1878.out | apply IsS122.alloc | apply IsS122.drewN | apply IsS122.drew | apply IsS122.set_1 | apply IsS122.set_2 | refine IsS122.far ?_ NB1878_1877.out _ | refine IsS122.far ?_ NB1878_1886.out _) | exact HI1878.out)); (case side2 => repeat (first | (with_reducible first | exact HB.out | apply below_alloc | apply pw_below_drewN | apply below_drew1 | refine below_set ?_ (IsS122.ge HI1878.out) | refine below_set ?_ GE1877.out | refine below_set ?_ GE1886.out) | exact HB.out)); rintro e w42 ⟨rfl, hi, hb, hk⟩; refine ⟨_, rfl, ?_⟩; replace HO_6 := A_ (Kd.R_mono (Kd.R_keep (IsS122.apart (show IsS122 w _ gb1878 l0 x1879001_1 x1879002_1 from by repeat (first | (with_reducible first | exact HI1878.out | apply IsS122.alloc | apply IsS122.drewN | apply IsS122.drew | apply IsS122.set_1 | apply IsS122.set_2 | refine IsS122.far ?_ NB1878_1877.out _ | refine IsS122.far ?_ NB1878_1886.out _) | exact HI1878.out)) (tr_x HO_6.out) (by decide)) hk (fun _ h => h.2)) (fun _ h => h.1)); replace HO_1887002 := A_ (Kd.R_mono (Kd.R_keep (IsS122.apart (show IsS122 w _ gb1878 l0 x1879001_1 x1879002_1 from by repeat (first | (with_reducible first | exact HI1878.out | apply IsS122.alloc | apply IsS122.drewN | apply IsS122.drew | apply IsS122.set_1 | apply IsS122.set_2 | refine IsS122.far ?_ NB1878_1877.out _ | refine IsS122.far ?_ NB1878_1886.out _) | exact HI1878.out)) (tr_x HO_1887002.out) (by decide)) hk (fun _ h => h.2)) (fun _ h => h.1)); replace BK1877 := A_ (KeepBut.blk hk (g' := gb1877) (o := .cells #[.int .i64 0, .int .i64 0, .slice none 0 0] 28 (0, 0)) (tk_ BK1877) NB1877_1878.out (by simp)); replace BK1886 := A_ (KeepBut.blk hk (g' := gb1886) (o := .cells #[.int .i64 t1879, .int .i64 t1880, .slice Ao12 t1881.length co12] 28 (0, 0)) (tk_ BK1886) NB1886_1878.out (by simp)); replace HB := A_ (hb); replace HI1878 := A_ (hi); (try clear hb); (try clear hb2); (try clear hk); (try clear hi); obtain ⟨hcz43_0, hcz43_1, hcz43_2, hfz43_0, hfz43_1, hfz43_2⟩ := cf3_ BK1886.out) | (refine gc_ 121 ?_; refine goesT_ (some 30) Try.func121 #[.agg #[.int .i64 t1879, .int .i64 t1880, .slice Ao12 t1881.length co12], .int .i64 t1888, .int .i64 x7_1] ?_; (with_reducible refine (spec_boHas.calls t1879 t1880 _ _ t1881 t1888 x7_1 false _ ?side1 ?side2 A17.out).mono ?_); (case side1 => exact tc0_ (Kd.R_reads' HO_1887002.out).2.2); (case side2 => exact (Kd.R_reads' HO_1887002.out).2.1); rintro e w44 ⟨rfl, hb⟩; refine ⟨_, rfl, ?_⟩; replace HO_6 := A_ (Kd.R_below (tr_x HO_6.out) hb); replace HO_1887002 := A_ (Kd.R_below (tr_x HO_1887002.out) hb); replace BK1877 := A_ (blk_below (g := gb1877) (o := .cells #[.int .i64 0, .int .i64 0, .slice none 0 0] 28 (0, 0)) (tk_ BK1877) hb); replace BK1886 := A_ (blk_below (g := gb1886) (o := .cells #[.int .i64 t1879, .int .i64 t1880, .slice Ao12 t1881.length co12] 28 (0, 0)) (tk_ BK1886) hb); replace HB := A_ (below_step (by repeat (first | (with_reducible first | exact HB.out | apply below_alloc | apply pw_below_drewN | apply below_drew1 | refine below_set ?_ (IsS122.ge HI1878.out) | refine below_set ?_ GE1877.out | refine below_set ?_ GE1886.out) | exact HB.out)) hb); replace HI1878 := A_ (IsS122.below (by repeat (first | (with_reducible first | exact HI1878.out | apply IsS122.alloc | apply IsS122.drewN | apply IsS122.drew | apply IsS122.set_1 | apply IsS122.set_2 | refine IsS122.far ?_ NB1878_1877.out _ | refine IsS122.far ?_ NB1878_1886.out _) | exact HI1878.out)) hb); (try clear hb); (try clear hb2); (try clear hk); (try clear hi)) | (go_at_call 166; (with_reducible refine (spec_l1Cur_one.calls gb1878 l0 t1889 t1890 12 false t1896 t1897 w _ ?side1 ?side2 A27.out).mono ?_); (case side1 => repeat (first | (with_reducible first | exact HI1878.out | apply IsS122.alloc | apply IsS122.drewN | apply IsS122.drew | apply IsS122.set_1 | apply IsS122.set_2 | refine IsS122.far ?_ NB1878_1877.out _ | refine IsS122.far ?_ NB1878_1886.out _) | exact HI1878.out)); (case side2 => repeat (first | (with_reducible first | exact HB.out | apply below_alloc | apply pw_below_drewN | apply below_drew1 | refine below_set ?_ (IsS122.ge HI1878.out) | refine below_set ?_ GE1877.out | refine below_set ?_ GE1886.out) | exact HB.out)); rintro e w45 ⟨rfl, hi, hb, hk⟩; replace HO_6 := A_ (Kd.R_mono (Kd.R_keep (IsS122.apart (show IsS122 w _ gb1878 l0 t1889 t1890 from by repeat (first | (with_reducible first | exact HI1878.out | apply IsS122.alloc | apply IsS122.drewN | apply IsS122.drew | apply IsS122.set_1 | apply IsS122.set_2 | refine IsS122.far ?_ NB1878_1877.out _ | refine IsS122.far ?_ NB1878_1886.out _) | exact HI1878.out)) (tr_x HO_6.out) (by decide)) hk (fun _ h => h.2)) (fun _ h => h.1)); replace HO_1887002 := A_ (Kd.R_mono (Kd.R_keep (IsS122.apart (show IsS122 w _ gb1878 l0 t1889 t1890 from by repeat (first | (with_reducible first | exact HI1878.out | apply IsS122.alloc | apply IsS122.drewN | apply IsS122.drew | apply IsS122.set_1 | apply IsS122.set_2 | refine IsS122.far ?_ NB1878_1877.out _ | refine IsS122.far ?_ NB1878_1886.out _) | exact HI1878.out)) (tr_x HO_1887002.out) (by decide)) hk (fun _ h => h.2)) (fun _ h => h.1)); replace BK1877 := A_ (KeepBut.blk hk (g' := gb1877) (o := .cells #[.int .i64 0, .int .i64 0, .slice none 0 0] 28 (0, 0)) (tk_ BK1877) NB1877_1878.out (by simp)); replace BK1886 := A_ (KeepBut.blk hk (g' := gb1886) (o := .cells #[.int .i64 t1879, .int .i64 t1880, .slice Ao12 t1881.length co12] 28 (0, 0)) (tk_ BK1886) NB1886_1878.out (by simp)); replace HB := A_ (hb); replace HI1878 := A_ (hi); (try clear hb); (try clear hb2); (try clear hk); (try clear hi)) | ((with_reducible refine gate_builtin (b := .append) (xs := #[.tmp 36, .tmp 38]) rfl ?_); at_builtin; refine Kd.R_append (Kd.int .i64) (w0 := w) w.heap.size rfl (.tmp 36) (.tmp 38) 22 3 (.int .i64 0) 8 rfl Try.underlying22 info3 rfl (by decide) (by omega) u6 x6_1 (-1) [.int .i64 (-1)] (fun k_ => some k_ ≠ (.slice Ao12 t1881.length co12 : Value).ownBlock) (fun _ => False) rfl rfl ?aP (fun _ hk => hk.elim) ?aF ?aO ?aB ?aS ?aL ?_; (case aP => exact rfl); (case aB => exact (by repeat (first | (with_reducible first | exact HB.out | apply below_alloc | apply pw_below_drewN | apply below_drew1 | refine below_set ?_ (IsS122.ge HI1878.out) | refine below_set ?_ GE1877.out | refine below_set ?_ GE1886.out) | exact HB.out))); (case aF => exact (fun k_ hk => Kd.fresh' (Kd.R_lt (tr_x HO_1887002.out)) k_ hk)); (case aO => exact (tr_x HO_6.out)); (case aS => exact (below_size (by repeat (first | (with_reducible first | exact HB.out | apply below_alloc | apply pw_below_drewN | apply below_drew1 | refine below_set ?_ (IsS122.ge HI1878.out) | refine below_set ?_ GE1877.out | refine below_set ?_ GE1886.out) | exact HB.out)))); (case aL => have := LMc38.out; omega); intro v1902 w46 ho hb hg hat; rw [← Ny1901.out] at ho; have n0_ := A_ (Kd.R_after (ok := (fun _ => True)) (tr_ (h := by exact Kd.R_mono HO_1887002.out om_)) hg hat); have n1_ := A_ (blk_grown (g := gb1877) (o := .cells #[.int .i64 0, .int .i64 0, .slice none 0 0] 28 (0, 0)) (tk_ BK1877) hg (Kd.R_ne HO_6.out BK1877.out (by decide))); have n2_ := A_ (blk_grown (g := gb1886) (o := .cells #[.int .i64 t1879, .int .i64 t1880, .slice Ao12 t1881.length co12] 28 (0, 0)) (tk_ BK1886) hg (Kd.R_ne HO_6.out BK1886.out (by decide))); have n3_ := A_ (IsS122.grown (by repeat (first | (with_reducible first | exact HI1878.out | apply IsS122.alloc | apply IsS122.drewN | apply IsS122.drew | apply IsS122.set_1 | apply IsS122.set_2 | refine IsS122.far ?_ NB1878_1877.out _ | refine IsS122.far ?_ NB1878_1886.out _) | exact HI1878.out)) hg (IsS122.own_ne HI1878.out HO_6.out (by decide))); have n4_ := A_ (hb); have n5_ := A_ (ho); clear HO_1887002; clear BK1877; clear BK1886; clear HI1878; clear HB; clear HO_6; have HO_1887002 := n0_; have BK1877 := n1_; have BK1886 := n2_; have HI1878 := n3_; have HB := n4_; have HO1903 := n5_; clear n0_ n1_ n2_ n3_ n4_ n5_; clear ho hb hg hat))
         go_roundg k1
         case measure => have := HK1.out; omega
         case rel => exact ⟨(y1901), (wrap64 (x7_1 + 1)), (t1896), (t1897), tf_, H', ⟨by have := HK1.out; omega⟩, ⟨tr_x HO1903.out⟩, ⟨by (with_reducible repeat (first | apply Kd.R_alloc | apply Kd.R_drewN | apply Kd.R_drew)); exact Kd.R_mono HO_1887002.out (fun _ hk => hk.2)⟩, ⟨tk_ BK1877⟩, ⟨tk_ BK1886⟩, ⟨by repeat (first | (with_reducible first | exact HI1878.out | apply IsS122.alloc | apply IsS122.drewN | apply IsS122.drew | apply IsS122.set_1 | apply IsS122.set_2 | refine IsS122.far ?_ NB1878_1877.out _ | refine IsS122.far ?_ NB1878_1886.out _) | exact HI1878.out)⟩, ⟨by repeat (first | (with_reducible first | exact HB.out | apply below_alloc | apply pw_below_drewN | apply below_drew1 | refine below_set ?_ (IsS122.ge HI1878.out) | refine below_set ?_ GE1877.out | refine below_set ?_ GE1886.out) | exact HB.out)⟩⟩
        ·
         rw [if_neg c38] at H
         exact absurd H (by simp)
     ·
      rw [if_neg c15] at H
      have c15b0 := decide_eq_false c15
      clear c15
      (first | rw [c15b0] | (simp only [i64_w, i32_w]; rw [c15b0]) | skip)
      have H' := A_ H
      clear H
      have hnb47 := NB1886_1877.out
      have hnc47 := NB1877_1886.out
      have hnb48 := NB1886_1878.out
      have hnc48 := NB1878_1886.out
      obtain ⟨hcz49_0, hcz49_1, hcz49_2, hfz49_0, hfz49_1, hfz49_2⟩ := cf3_ BK1886.out
      go_wp2
      go_meet
      case rel => exact ⟨_, (x6_1), (x1879001_1), (x1879002_1), H', ⟨by have := HK1.out; first | omega | exact Nat.le_refl _⟩, ⟨tr_x HO_6.out⟩, ⟨tr_x HO_1887002.out⟩, ⟨tk_ BK1877⟩, ⟨tk_ BK1886⟩, ⟨by repeat (first | (with_reducible first | exact HI1878.out | apply IsS122.alloc | apply IsS122.drewN | apply IsS122.drew | apply IsS122.set_1 | apply IsS122.set_2 | refine IsS122.far ?_ NB1878_1877.out _ | refine IsS122.far ?_ NB1878_1886.out _) | exact HI1878.out)⟩, ⟨by repeat (first | (with_reducible first | exact HB.out | apply below_alloc | apply pw_below_drewN | apply below_drew1 | refine below_set ?_ (IsS122.ge HI1878.out) | refine below_set ?_ GE1877.out | refine below_set ?_ GE1886.out) | exact HB.out)⟩⟩
  ·
   replace c14 := Bool.eq_false_iff.mpr c14
   subst c14
   have H1 : (spec_DrawIsFilePlacement.j1 k ([] : List Int) l0 t1884 t1885 t1879 t1880 t1881) = some (r1, r2, r3, r4) := by rw [if_neg (show ¬ (false = true) by decide)] at H; exact H
   clear H
   have H := H1
   clear H1
   have H' := A_ H
   clear H
   go_wp2
   go_meet
   case rel => exact ⟨_, (([] : List Int)), (t1884), (t1885), H', ⟨by first | omega | exact Nat.le_refl _⟩, ⟨by first | exact Kd.R_nil _ _ _ _ _ | exact Kd.N_nil _ _ _ _ _ | exact Kd.V_nil _ _ _ _ _ | exact Kd.Q_nil _ _ _ _ _ | exact Kd.S_nil _ _ _ _ _⟩, ⟨by (with_reducible repeat (first | apply Kd.R_alloc | apply Kd.R_drewN | apply Kd.R_drew)); exact Kd.R_mono HO1883.out (fun _ hk => (by simp [Value.ownBlock]))⟩, ⟨tk_ BK1877⟩, ⟨tk_ BK1886⟩, ⟨by repeat (first | (with_reducible first | exact HI1878.out | apply IsS122.alloc | apply IsS122.drewN | apply IsS122.drew | apply IsS122.set_1 | apply IsS122.set_2 | refine IsS122.far ?_ NB1878_1877.out _ | refine IsS122.far ?_ NB1878_1886.out _) | exact HI1878.out)⟩, ⟨by repeat (first | (with_reducible first | exact HB.out | apply below_alloc | apply pw_below_drewN | apply below_drew1 | refine below_set ?_ (IsS122.ge HI1878.out) | refine below_set ?_ GE1877.out | refine below_set ?_ GE1886.out) | exact HB.out)⟩⟩
 case rest =>
  clear HC4
  try clear c1
  try clear c2
  try clear p2
  try clear c3
  try clear c4
  try clear p6
  try clear c9
  try clear c10
  try clear c11
  try clear c12
  try clear c14
  try clear c15
  try clear c15b0
  try clear c16
  try clear c18
  try clear c19
  try clear c20
  try clear c21
  try clear c28
  try clear c29
  try clear c30
  try clear c31
  try clear c38
  try clear c39
  try clear c40
  try clear c47
  try clear c48
  try clear hcz11_0
  try clear hcz11_1
  try clear hcz11_2
  try clear hcz22_0
  try clear hcz22_1
  try clear hcz22_2
  try clear hcz24_0
  try clear hcz24_1
  try clear hcz24_2
  try clear hcz32_0
  try clear hcz32_1
  try clear hcz32_2
  try clear hcz34_0
  try clear hcz34_1
  try clear hcz34_2
  try clear hcz41_0
  try clear hcz41_1
  try clear hcz41_2
  try clear hcz43_0
  try clear hcz43_1
  try clear hcz43_2
  try clear hcz49_0
  try clear hcz49_1
  try clear hcz49_2
  try clear hfz11_0
  try clear hfz11_1
  try clear hfz11_2
  try clear hfz22_0
  try clear hfz22_1
  try clear hfz22_2
  try clear hfz24_0
  try clear hfz24_1
  try clear hfz24_2
  try clear hfz32_0
  try clear hfz32_1
  try clear hfz32_2
  try clear hfz34_0
  try clear hfz34_1
  try clear hfz34_2
  try clear hfz41_0
  try clear hfz41_1
  try clear hfz41_2
  try clear hfz43_0
  try clear hfz43_1
  try clear hfz43_2
  try clear hfz49_0
  try clear hfz49_1
  try clear hfz49_2
  try clear p2
  obtain ⟨kq, x6_3, x1879001_3, x1879002_3, HA, HJ3, HO_6, HO_1887002, BK1877, BK1886, HI1878, HB⟩ := hcut
  cases kq with
  | zero => exact absurd HA.out (by simp [spec_DrawIsFilePlacement.j1])
  | succ kj3 =>
   have H := HA.out
   clear HA
   simp only [spec_DrawIsFilePlacement.j1] at H
   replace H := Option.bind_eq_some_iff.mp H
   obtain ⟨⟨t1904, t1905, t1906⟩, A500, H⟩ := H
   replace H : (if t1904 = true then ((spec_l1Cur_among.f l0 t1905 t1906 (([(-1), 0, 999, 1000, (-2)] : List Int))).bind fun bt1910 => (if x6_3.length < 17592186044416 then (some (t1879, t1880, t1881, (x6_3 ++ [bt1910.1]))) else (none))) else (some (t1879, t1880, t1881, x6_3))) = some (r1, r2, r3, r4) := H
   have A50 := A_ A500
   clear A500
   by_cases c51 : t1904 = true
   ·
    subst c51
    have H1 : ((spec_l1Cur_among.f l0 t1905 t1906 (([(-1), 0, 999, 1000, (-2)] : List Int))).bind fun bt1910 => (if x6_3.length < 17592186044416 then (some (t1879, t1880, t1881, (x6_3 ++ [bt1910.1]))) else (none))) = some (r1, r2, r3, r4) := by rw [if_pos rfl] at H; exact H
    clear H
    have H := H1
    clear H1
    obtain ⟨y1907, hy1907⟩ : ∃ y_ : List Int, y_ = (([(-1), 0, 999, 1000, (-2)] : List Int)) := ⟨_, rfl⟩
    replace H : ((spec_l1Cur_among.f l0 t1905 t1906 y1907).bind fun bt1910 => (if x6_3.length < 17592186044416 then (some (t1879, t1880, t1881, (x6_3 ++ [bt1910.1]))) else (none))) = some (r1, r2, r3, r4) := ty_ hy1907 H
    have Ny1907 := A_ hy1907
    clear hy1907
    replace H := Option.bind_eq_some_iff.mp H
    obtain ⟨⟨t1910, t1911, t1912⟩, A520, H⟩ := H
    replace H : (if x6_3.length < 17592186044416 then (some (t1879, t1880, t1881, (x6_3 ++ [t1910]))) else (none)) = some (r1, r2, r3, r4) := H
    have A52 := A_ A520
    clear A520
    by_cases c53 : x6_3.length < 17592186044416
    ·
     rw [if_pos c53] at H
     have LMc53 := A_ c53
     clear c53
     obtain ⟨y1913, hy1913⟩ : ∃ y_ : List Int, y_ = (x6_3 ++ [t1910]) := ⟨_, rfl⟩
     replace H : (some (t1879, t1880, t1881, y1913)) = some (r1, r2, r3, r4) := ty_ hy1913 H
     have Ny1913 := A_ hy1913
     clear hy1913
     simp only [Option.some.injEq, Prod.mk.injEq] at H
     obtain ⟨rfl, rfl, rfl, rfl⟩ := H
     go_wp2_with (first | (refine gc_ 166 ?_; refine goesT_ (some 41) Try.func166 #[.pointer (some ⟨gb1878, 0, none⟩), .int .i64 12] ?_; (with_reducible refine (spec_l1Cur_one.calls gb1878 l0 x1879001_3 x1879002_3 12 true t1905 t1906 w _ ?side1 ?side2 A50.out).mono ?_); (case side1 => repeat (first | (with_reducible first | exact HI1878.out | apply IsS122.alloc | apply IsS122.drewN | apply IsS122.drew | apply IsS122.set_1 | apply IsS122.set_2 | refine IsS122.far ?_ NB1878_1877.out _ | refine IsS122.far ?_ NB1878_1886.out _) | exact HI1878.out)); (case side2 => repeat (first | (with_reducible first | exact HB.out | apply below_alloc | apply pw_below_drewN | apply below_drew1 | refine below_set ?_ (IsS122.ge HI1878.out) | refine below_set ?_ GE1877.out | refine below_set ?_ GE1886.out) | exact HB.out)); rintro e w54 ⟨rfl, hi, hb, hk⟩; refine ⟨_, rfl, ?_⟩; replace HO_6 := A_ (Kd.R_mono (Kd.R_keep (IsS122.apart (show IsS122 w _ gb1878 l0 x1879001_3 x1879002_3 from by repeat (first | (with_reducible first | exact HI1878.out | apply IsS122.alloc | apply IsS122.drewN | apply IsS122.drew | apply IsS122.set_1 | apply IsS122.set_2 | refine IsS122.far ?_ NB1878_1877.out _ | refine IsS122.far ?_ NB1878_1886.out _) | exact HI1878.out)) (tr_x HO_6.out) (by decide)) hk (fun _ h => h.2)) (fun _ h => h.1)); replace HO_1887002 := A_ (Kd.R_mono (Kd.R_keep (IsS122.apart (show IsS122 w _ gb1878 l0 x1879001_3 x1879002_3 from by repeat (first | (with_reducible first | exact HI1878.out | apply IsS122.alloc | apply IsS122.drewN | apply IsS122.drew | apply IsS122.set_1 | apply IsS122.set_2 | refine IsS122.far ?_ NB1878_1877.out _ | refine IsS122.far ?_ NB1878_1886.out _) | exact HI1878.out)) (tr_x HO_1887002.out) (by decide)) hk (fun _ h => h.2)) (fun _ h => h.1)); replace BK1877 := A_ (KeepBut.blk hk (g' := gb1877) (o := .cells #[.int .i64 0, .int .i64 0, .slice none 0 0] 28 (0, 0)) (tk_ BK1877) NB1877_1878.out (by simp)); replace BK1886 := A_ (KeepBut.blk hk (g' := gb1886) (o := .cells #[.int .i64 t1879, .int .i64 t1880, .slice Ao12 t1881.length co12] 28 (0, 0)) (tk_ BK1886) NB1886_1878.out (by simp)); replace HB := A_ (hb); replace HI1878 := A_ (hi); (try clear hb); (try clear hb2); (try clear hk); (try clear hi)) | (refine gd_ 44 ?_; refine Kd.R_lit (Kd.int .i64) _ 3 ?hg (N := 44) ?hd (xs := ([(-1), 0, 999, 1000, (-2)] : List Int)) (inner := [.int .i64 (-1), .int .i64 0, .int .i64 999, .int .i64 1000, .int .i64 (-2)]) (ok := fun _ => True) (okp := fun _ => True) ?hr ?hp (fun _ hk => hk) trivial (Below.refl _ _) (Nat.le_refl _) (by simp) ?_; (case hd => rfl); (case hg => rfl); (case hr => first | (go_simp; done) | (go_simp; rfl)); (case hp => exact (Reps.one (show Kd.M (Kd.int .i64) _ _ _ (-1) [.int .i64 (-1)] from rfl) (Reps.one (show Kd.M (Kd.int .i64) _ _ _ 0 [.int .i64 0] from rfl) (Reps.one (show Kd.M (Kd.int .i64) _ _ _ 999 [.int .i64 999] from rfl) (Reps.one (show Kd.M (Kd.int .i64) _ _ _ 1000 [.int .i64 1000] from rfl) (Reps.one (show Kd.M (Kd.int .i64) _ _ _ (-2) [.int .i64 (-2)] from rfl) (Reps.none _ _))))))); intro v1908 w55 ho56 hb hg_ hnew_; clear hg_ hnew_; (first | rw [← Ny1907.out] at ho56 | (simp only [Int.reduceToNat] at ho56; rw [← Ny1907.out] at ho56)); have HO1909 := A_ (Kd.R_lower (Kd.R_new' (Kd.R_new' ho56 (Kd.R_lt (tr_x HO_6.out))) (Kd.R_lt (tr_x HO_1887002.out))) (below_size (by repeat (first | (with_reducible first | exact HB.out | apply below_alloc | apply pw_below_drewN | apply below_drew1 | refine below_set ?_ (IsS122.ge HI1878.out) | refine below_set ?_ GE1877.out | refine below_set ?_ GE1886.out) | exact HB.out)))); replace HO_6 := A_ (Kd.R_elder' (tr_x HO_6.out) (Kd.R_base ho56) hb); replace HO_1887002 := A_ (Kd.R_elder' (tr_x HO_1887002.out) (Kd.R_base ho56) hb); replace BK1877 := A_ (blk_below (g := gb1877) (o := .cells #[.int .i64 0, .int .i64 0, .slice none 0 0] 28 (0, 0)) (tk_ BK1877) hb); replace BK1886 := A_ (blk_below (g := gb1886) (o := .cells #[.int .i64 t1879, .int .i64 t1880, .slice Ao12 t1881.length co12] 28 (0, 0)) (tk_ BK1886) hb); replace HB := A_ (below_step (by repeat (first | (with_reducible first | exact HB.out | apply below_alloc | apply pw_below_drewN | apply below_drew1 | refine below_set ?_ (IsS122.ge HI1878.out) | refine below_set ?_ GE1877.out | refine below_set ?_ GE1886.out) | exact HB.out)) hb); replace HI1878 := A_ (IsS122.below (by repeat (first | (with_reducible first | exact HI1878.out | apply IsS122.alloc | apply IsS122.drewN | apply IsS122.drew | apply IsS122.set_1 | apply IsS122.set_2 | refine IsS122.far ?_ NB1878_1877.out _ | refine IsS122.far ?_ NB1878_1886.out _) | exact HI1878.out)) hb); clear hb ho56; obtain ⟨Ao57, co57, eo57⟩ := Kd.R_slice HO1909.out; subst eo57) | (refine gc_ 160 ?_; refine goesT_ (some 45) Try.func160 #[.pointer (some ⟨gb1878, 0, none⟩), .slice Ao57 y1907.length co57] ?_; (with_reducible refine (spec_l1Cur_among.calls gb1878 l0 t1905 t1906 _ _ y1907 t1910 t1911 t1912 w _ ?side1 ?side2 ?side3 ?side4 ?side5 A52.out).mono ?_); (case side1 => repeat (first | (with_reducible first | exact HI1878.out | apply IsS122.alloc | apply IsS122.drewN | apply IsS122.drew | apply IsS122.set_1 | apply IsS122.set_2 | refine IsS122.far ?_ NB1878_1877.out _ | refine IsS122.far ?_ NB1878_1886.out _) | exact HI1878.out)); (case side2 => repeat (first | (with_reducible first | exact HB.out | apply below_alloc | apply pw_below_drewN | apply below_drew1 | refine below_set ?_ (IsS122.ge HI1878.out) | refine below_set ?_ GE1877.out | refine below_set ?_ GE1886.out) | exact HB.out)); (case side3 => exact tc0_ (Kd.R_reads' HO1909.out).2.2); (case side4 => exact (Kd.R_reads' HO1909.out).2.1); (case side5 => exact far_slice (IsS122.own_ne HI1878.out HO1909.out (by decide))); rintro e w58 ⟨rfl, hi, hb, hk⟩; refine ⟨_, rfl, ?_⟩; replace HO_6 := A_ (Kd.R_mono (Kd.R_keep (IsS122.apart (show IsS122 w _ gb1878 l0 t1905 t1906 from by repeat (first | (with_reducible first | exact HI1878.out | apply IsS122.alloc | apply IsS122.drewN | apply IsS122.drew | apply IsS122.set_1 | apply IsS122.set_2 | refine IsS122.far ?_ NB1878_1877.out _ | refine IsS122.far ?_ NB1878_1886.out _) | exact HI1878.out)) (tr_x HO_6.out) (by decide)) hk (fun _ h => h.2)) (fun _ h => h.1)); replace HO_1887002 := A_ (Kd.R_mono (Kd.R_keep (IsS122.apart (show IsS122 w _ gb1878 l0 t1905 t1906 from by repeat (first | (with_reducible first | exact HI1878.out | apply IsS122.alloc | apply IsS122.drewN | apply IsS122.drew | apply IsS122.set_1 | apply IsS122.set_2 | refine IsS122.far ?_ NB1878_1877.out _ | refine IsS122.far ?_ NB1878_1886.out _) | exact HI1878.out)) (tr_x HO_1887002.out) (by decide)) hk (fun _ h => h.2)) (fun _ h => h.1)); replace BK1877 := A_ (KeepBut.blk hk (g' := gb1877) (o := .cells #[.int .i64 0, .int .i64 0, .slice none 0 0] 28 (0, 0)) (tk_ BK1877) NB1877_1878.out (by simp)); replace BK1886 := A_ (KeepBut.blk hk (g' := gb1886) (o := .cells #[.int .i64 t1879, .int .i64 t1880, .slice Ao12 t1881.length co12] 28 (0, 0)) (tk_ BK1886) NB1886_1878.out (by simp)); replace HO1909 := A_ (Kd.R_mono (Kd.R_keep (IsS122.apart (show IsS122 w _ gb1878 l0 t1905 t1906 from by repeat (first | (with_reducible first | exact HI1878.out | apply IsS122.alloc | apply IsS122.drewN | apply IsS122.drew | apply IsS122.set_1 | apply IsS122.set_2 | refine IsS122.far ?_ NB1878_1877.out _ | refine IsS122.far ?_ NB1878_1886.out _) | exact HI1878.out)) (tr_x HO1909.out) (by decide)) hk (fun _ h => h.2)) (fun _ h => h.1)); replace HB := A_ (hb); replace HI1878 := A_ (hi); (try clear hb); (try clear hb2); (try clear hk); (try clear hi)) | ((with_reducible refine gate_builtin (b := .append) (xs := #[.tmp 42, .tmp 46]) rfl ?_); at_builtin; refine Kd.R_append (Kd.int .i64) (w0 := w) w.heap.size rfl (.tmp 42) (.tmp 46) 22 3 (.int .i64 0) 8 rfl Try.underlying22 info3 rfl (by decide) (by omega) u6 x6_3 t1910 [.int .i64 t1910] (fun k_ => some k_ ≠ (.slice Ao12 t1881.length co12 : Value).ownBlock ∧ some k_ ≠ (.slice Ao57 y1907.length co57 : Value).ownBlock) (fun _ => False) rfl rfl ?aP (fun _ hk => hk.elim) ?aF ?aO ?aB ?aS ?aL ?_; (case aP => exact rfl); (case aB => exact (by repeat (first | (with_reducible first | exact HB.out | apply below_alloc | apply pw_below_drewN | apply below_drew1 | refine below_set ?_ (IsS122.ge HI1878.out) | refine below_set ?_ GE1877.out | refine below_set ?_ GE1886.out) | exact HB.out))); (case aF => exact (fun k_ hk => ⟨Kd.fresh' (Kd.R_lt (tr_x HO_1887002.out)) k_ hk, Kd.fresh' (Kd.R_lt (tr_x HO1909.out)) k_ hk⟩)); (case aO => exact (tr_x HO_6.out)); (case aS => exact (below_size (by repeat (first | (with_reducible first | exact HB.out | apply below_alloc | apply pw_below_drewN | apply below_drew1 | refine below_set ?_ (IsS122.ge HI1878.out) | refine below_set ?_ GE1877.out | refine below_set ?_ GE1886.out) | exact HB.out)))); (case aL => have := LMc53.out; omega); intro v1914 w59 ho hb hg hat; rw [← Ny1913.out] at ho; have n0_ := A_ (Kd.R_after (ok := (fun k_ => some k_ ≠ (.slice Ao57 y1907.length co57 : Value).ownBlock)) (tr_ (h := by exact Kd.R_mono HO_1887002.out om_)) hg hat); have n1_ := A_ (blk_grown (g := gb1877) (o := .cells #[.int .i64 0, .int .i64 0, .slice none 0 0] 28 (0, 0)) (tk_ BK1877) hg (Kd.R_ne HO_6.out BK1877.out (by decide))); have n2_ := A_ (blk_grown (g := gb1886) (o := .cells #[.int .i64 t1879, .int .i64 t1880, .slice Ao12 t1881.length co12] 28 (0, 0)) (tk_ BK1886) hg (Kd.R_ne HO_6.out BK1886.out (by decide))); have n3_ := A_ (IsS122.grown (by repeat (first | (with_reducible first | exact HI1878.out | apply IsS122.alloc | apply IsS122.drewN | apply IsS122.drew | apply IsS122.set_1 | apply IsS122.set_2 | refine IsS122.far ?_ NB1878_1877.out _ | refine IsS122.far ?_ NB1878_1886.out _) | exact HI1878.out)) hg (IsS122.own_ne HI1878.out HO_6.out (by decide))); have n4_ := A_ (Kd.R_after (ok := (fun k_ => some k_ ≠ (.slice Ao12 t1881.length co12 : Value).ownBlock)) (tr_ (h := by exact Kd.R_mono HO1909.out om_)) hg hat); have n5_ := A_ (hb); have n6_ := A_ (ho); clear HO_1887002; clear BK1877; clear BK1886; clear HI1878; clear HO1909; clear HB; clear HO_6; have HO_1887002 := n0_; have BK1877 := n1_; have BK1886 := n2_; have HI1878 := n3_; have HO1909 := n4_; have HB := n5_; have HO1915 := n6_; clear n0_ n1_ n2_ n3_ n4_ n5_ n6_; clear ho hb hg hat; have hnb60 := NB1886_1877.out; have hnc60 := NB1877_1886.out; have hnb61 := NB1886_1878.out; have hnc61 := NB1878_1886.out; obtain ⟨hcz62_0, hcz62_1, hcz62_2, hfz62_0, hfz62_1, hfz62_2⟩ := cf3_ BK1886.out; have hnb63 := NB1877_1878.out; have hnc63 := NB1878_1877.out; obtain ⟨hcz64_0, hcz64_1, hcz64_2, hfz64_0, hfz64_1, hfz64_2⟩ := cf3_ BK1877.out))
     refine bodyPost_ret (results_ct rfl _ _ gb1877 28 #[.int .i64 t1879, .int .i64 t1880, .slice Ao12 t1881.length co12] (0, 0) _ rfl (by (with_reducible repeat (first | refine blk_drewN ?_ _ | refine blk_drew ?_ | refine blk_alloc ?_ _)); refine blk_put (cs := #[.int .i64 t1879, .int .i64 t1880, .slice none 0 0]) ?_ 2 _ rfl; (with_reducible repeat (first | refine blk_drewN ?_ _ | refine blk_drew ?_ | refine blk_alloc ?_ _)); refine blk_put (cs := #[.int .i64 t1879, .int .i64 0, .slice none 0 0]) ?_ 1 _ rfl; (with_reducible repeat (first | refine blk_drewN ?_ _ | refine blk_drew ?_ | refine blk_alloc ?_ _)); refine blk_put (cs := #[.int .i64 0, .int .i64 0, .slice none 0 0]) ?_ 0 _ rfl; (with_reducible repeat (first | refine blk_drewN ?_ _ | refine blk_drew ?_ | refine blk_alloc ?_ _)); exact BK1877.out) Try.underlying28 rfl (by kernel_rfl)) rfl ?_
     exact ⟨_, _, te_, by (with_reducible repeat (first | apply Kd.R_alloc | apply Kd.R_drewN | apply Kd.R_drew)); exact Kd.R_mono (Kd.R_far (p := ⟨gb1877, 2, none⟩) (Kd.R_far (p := ⟨gb1877, 1, none⟩) (Kd.R_far (p := ⟨gb1877, 0, none⟩) (Kd.R_types HO_1887002.out BK1877.out (by decide)) (fun _ hk => hk.2) (.int .i64 t1879)) (fun _ hk => hk.2) (.int .i64 t1880)) (fun _ hk => hk.2) (.slice Ao12 t1881.length co12)) (fun _ hk => hk.1.2), by (with_reducible repeat (first | apply Kd.R_alloc | apply Kd.R_drewN | apply Kd.R_drew)); exact Kd.R_mono (Kd.R_far (p := ⟨gb1877, 2, none⟩) (Kd.R_far (p := ⟨gb1877, 1, none⟩) (Kd.R_far (p := ⟨gb1877, 0, none⟩) (Kd.R_types HO1915.out BK1877.out (by decide)) (fun _ hk => hk.2) (.int .i64 t1879)) (fun _ hk => hk.2) (.int .i64 t1880)) (fun _ hk => hk.2) (.slice Ao12 t1881.length co12)) (fun _ hk => hk.1.1), by repeat (first | (with_reducible first | exact HB.out | apply below_alloc | apply pw_below_drewN | apply below_drew1 | refine below_set ?_ (IsS122.ge HI1878.out) | refine below_set ?_ GE1877.out | refine below_set ?_ GE1886.out) | exact HB.out)⟩
    ·
     rw [if_neg c53] at H
     exact absurd H (by simp)
   ·
    replace c51 := Bool.eq_false_iff.mpr c51
    subst c51
    have H1 : (some (t1879, t1880, t1881, x6_3)) = some (r1, r2, r3, r4) := by rw [if_neg (show ¬ (false = true) by decide)] at H; exact H
    clear H
    have H := H1
    clear H1
    simp only [Option.some.injEq, Prod.mk.injEq] at H
    obtain ⟨rfl, rfl, rfl, rfl⟩ := H
    go_wp2_with (first | (refine gc_ 166 ?_; refine goesT_ (some 41) Try.func166 #[.pointer (some ⟨gb1878, 0, none⟩), .int .i64 12] ?_; (with_reducible refine (spec_l1Cur_one.calls gb1878 l0 x1879001_3 x1879002_3 12 false t1905 t1906 w _ ?side1 ?side2 A50.out).mono ?_); (case side1 => repeat (first | (with_reducible first | exact HI1878.out | apply IsS122.alloc | apply IsS122.drewN | apply IsS122.drew | apply IsS122.set_1 | apply IsS122.set_2 | refine IsS122.far ?_ NB1878_1877.out _ | refine IsS122.far ?_ NB1878_1886.out _) | exact HI1878.out)); (case side2 => repeat (first | (with_reducible first | exact HB.out | apply below_alloc | apply pw_below_drewN | apply below_drew1 | refine below_set ?_ (IsS122.ge HI1878.out) | refine below_set ?_ GE1877.out | refine below_set ?_ GE1886.out) | exact HB.out)); rintro e w65 ⟨rfl, hi, hb, hk⟩; refine ⟨_, rfl, ?_⟩; replace HO_6 := A_ (Kd.R_mono (Kd.R_keep (IsS122.apart (show IsS122 w _ gb1878 l0 x1879001_3 x1879002_3 from by repeat (first | (with_reducible first | exact HI1878.out | apply IsS122.alloc | apply IsS122.drewN | apply IsS122.drew | apply IsS122.set_1 | apply IsS122.set_2 | refine IsS122.far ?_ NB1878_1877.out _ | refine IsS122.far ?_ NB1878_1886.out _) | exact HI1878.out)) (tr_x HO_6.out) (by decide)) hk (fun _ h => h.2)) (fun _ h => h.1)); replace HO_1887002 := A_ (Kd.R_mono (Kd.R_keep (IsS122.apart (show IsS122 w _ gb1878 l0 x1879001_3 x1879002_3 from by repeat (first | (with_reducible first | exact HI1878.out | apply IsS122.alloc | apply IsS122.drewN | apply IsS122.drew | apply IsS122.set_1 | apply IsS122.set_2 | refine IsS122.far ?_ NB1878_1877.out _ | refine IsS122.far ?_ NB1878_1886.out _) | exact HI1878.out)) (tr_x HO_1887002.out) (by decide)) hk (fun _ h => h.2)) (fun _ h => h.1)); replace BK1877 := A_ (KeepBut.blk hk (g' := gb1877) (o := .cells #[.int .i64 0, .int .i64 0, .slice none 0 0] 28 (0, 0)) (tk_ BK1877) NB1877_1878.out (by simp)); replace BK1886 := A_ (KeepBut.blk hk (g' := gb1886) (o := .cells #[.int .i64 t1879, .int .i64 t1880, .slice Ao12 t1881.length co12] 28 (0, 0)) (tk_ BK1886) NB1886_1878.out (by simp)); replace HB := A_ (hb); replace HI1878 := A_ (hi); (try clear hb); (try clear hb2); (try clear hk); (try clear hi); have hnb66 := NB1886_1877.out; have hnc66 := NB1877_1886.out; have hnb67 := NB1886_1878.out; have hnc67 := NB1878_1886.out; obtain ⟨hcz68_0, hcz68_1, hcz68_2, hfz68_0, hfz68_1, hfz68_2⟩ := cf3_ BK1886.out; have hnb69 := NB1877_1878.out; have hnc69 := NB1878_1877.out; obtain ⟨hcz70_0, hcz70_1, hcz70_2, hfz70_0, hfz70_1, hfz70_2⟩ := cf3_ BK1877.out))
    refine bodyPost_ret (results_ct rfl _ _ gb1877 28 #[.int .i64 t1879, .int .i64 t1880, .slice Ao12 t1881.length co12] (0, 0) _ rfl (by (with_reducible repeat (first | refine blk_drewN ?_ _ | refine blk_drew ?_ | refine blk_alloc ?_ _)); refine blk_put (cs := #[.int .i64 t1879, .int .i64 t1880, .slice none 0 0]) ?_ 2 _ rfl; (with_reducible repeat (first | refine blk_drewN ?_ _ | refine blk_drew ?_ | refine blk_alloc ?_ _)); refine blk_put (cs := #[.int .i64 t1879, .int .i64 0, .slice none 0 0]) ?_ 1 _ rfl; (with_reducible repeat (first | refine blk_drewN ?_ _ | refine blk_drew ?_ | refine blk_alloc ?_ _)); refine blk_put (cs := #[.int .i64 0, .int .i64 0, .slice none 0 0]) ?_ 0 _ rfl; (with_reducible repeat (first | refine blk_drewN ?_ _ | refine blk_drew ?_ | refine blk_alloc ?_ _)); exact BK1877.out) Try.underlying28 rfl (by kernel_rfl)) rfl ?_
    exact ⟨_, _, te_, by (with_reducible repeat (first | apply Kd.R_alloc | apply Kd.R_drewN | apply Kd.R_drew)); exact Kd.R_mono (Kd.R_far (p := ⟨gb1877, 2, none⟩) (Kd.R_far (p := ⟨gb1877, 1, none⟩) (Kd.R_far (p := ⟨gb1877, 0, none⟩) (Kd.R_types HO_1887002.out BK1877.out (by decide)) (fun _ hk => hk.2) (.int .i64 t1879)) (fun _ hk => hk.2) (.int .i64 t1880)) (fun _ hk => hk.2) (.slice Ao12 t1881.length co12)) (fun _ hk => hk.1), by (with_reducible repeat (first | apply Kd.R_alloc | apply Kd.R_drewN | apply Kd.R_drew)); exact Kd.R_mono (Kd.R_far (p := ⟨gb1877, 2, none⟩) (Kd.R_far (p := ⟨gb1877, 1, none⟩) (Kd.R_far (p := ⟨gb1877, 0, none⟩) (Kd.R_types HO_6.out BK1877.out (by decide)) (fun _ hk => hk.2) (.int .i64 t1879)) (fun _ hk => hk.2) (.int .i64 t1880)) (fun _ hk => hk.2) (.slice Ao12 t1881.length co12)) (fun _ hk => hk.1), by repeat (first | (with_reducible first | exact HB.out | apply below_alloc | apply pw_below_drewN | apply below_drew1 | refine below_set ?_ (IsS122.ge HI1878.out) | refine below_set ?_ GE1877.out | refine below_set ?_ GE1886.out) | exact HB.out)⟩

end
end Go.Proofs.Ytnpacpdpgngdpaa.P
