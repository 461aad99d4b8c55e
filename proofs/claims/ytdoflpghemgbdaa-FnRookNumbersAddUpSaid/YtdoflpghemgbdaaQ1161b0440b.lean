-- printed functions (wip/slim.py)
import Derived.Test.YtdoflpghemgbdaaPx0
import Derived.Test.YtdoflpghemgbdaaQ448105012f
import Derived.Test.YtdoflpghemgbdaaQ65af8af595
namespace Go.Proofs.Ytdoflpghemgbdaa.P
noncomputable section
set_option maxHeartbeats 8000000
set_option maxRecDepth 100000
open Go.RowKit Go.Proofs.YtdoflpghemgbdaaW.PrintWords Go.Proofs.YtdoflpghemgbdaaW.PrintLast Go.Proofs.YtdoflpghemgbdaaW.PrintMore
attribute [local go_sem] max2_int min2_int max_two min_two max_three min_three max_four min_four   -- for this text's walks alone
set_option linter.unusedVariables false
set_option linter.unusedSimpArgs false

/-! ### impl_MirrorBoard: function 52 -/
def impl_MirrorBoard.c0 (R C : Int) (lb : List Int) (r : Int) : Nat → Int → Int → Option Int
  | 0, _, _ => none
  | k + 1, m, c => if c < C then ((impl_Board_has.f R C lb r c).bind fun b => if b = true then (if 0 ≤ wrap64 (wrap64 (C - 1) - c) then impl_MirrorBoard.c0 R C lb r k (Go.bits .or .i64 m (wrap64 (2 ^ min (wrap64 (wrap64 (C - 1) - c)).toNat 64))) (wrap64 (c + 1)) else none) else impl_MirrorBoard.c0 R C lb r k m (wrap64 (c + 1))) else some m
def impl_MirrorBoard.fn (R C : Int) (lb : List Int) : FnT89 := fun r => Fn.lim fun k => impl_MirrorBoard.c0 R C lb r k 0 0
def impl_MirrorBoard.f (k : Nat) (a0_0 : Int) (a0_1 : Int) (l0_2 : List Int) : Option (Int × Int × List Int × Bool) := (impl_IsBoard.f a0_0 a0_1 l0_2).bind fun t1216 => (if t1216 = true then ((impl_Board_mapped.f k a0_0 a0_1 l0_2 (impl_MirrorBoard.fn a0_0 a0_1 l0_2)).bind fun bt1217 => (some (bt1217.1, bt1217.2.1, bt1217.2.2, true))) else (some (0, 0, ([] : List Int), false)))
theorem impl_MirrorBoard.mono : ∀ a0 a1 a2 k, LeO (impl_MirrorBoard.f k a0 a1 a2) (impl_MirrorBoard.f (k + 1) a0 a1 a2) := by
  intro a0 a1 a2 k; unfold impl_MirrorBoard.f; exact LeO.bind (LeO.refl _) (fun _ => LeO.ite (LeO.bind (impl_Board_mapped.mono _ _ _ _ _) (fun _ => LeO.refl _)) (LeO.refl _))
theorem impl_MirrorBoard.ccalls (k : Nat) (gb : Nat) (R C : Int) (Ab : Option Addr) (lb : List Int) (cb : Nat) (r m : Int) (W : World) (hb0 : W.heap[gb]? = some (.cells #[.int .i64 R, .int .i64 C, .slice Ab lb.length cb] 26 (0, 0))) (hC0 : Kd.C (Kd.int .i64) W Ab lb.length lb) (hcb : lb.length ≤ cb) (h : impl_MirrorBoard.c0 R C lb r k 0 0 = some m) :
    Calls Try.prog 129 #[.int .i64 r, .pointer (some ⟨gb, 0, none⟩)] W fun e W' => e = .returned (.int .i64 m) ∧ Below W.heap.size W W' := by
  have hu_ := Try.underlying26; have HB := A_ hb0; have HC := A_ hC0; have HCb := A_ hcb; have HA := A_ h; have hc1 := blk_cell hb0 1; clear hb0 hC0 hcb h; go_enter Try.func129, Try.ntmps129; go_wp2; go_loopg [4, 8] k (fun n v4 v8 W' => ∃ (mm c : Int), v4 = .int .i64 mm ∧ v8 = .int .i64 c ∧ Aside0 (impl_MirrorBoard.c0 R C lb r n mm c = some m) ∧ Aside0 (n ≤ k) ∧ Aside0 (Below W.heap.size W W'))
  case atStart => exact ⟨0, 0, rfl, rfl, HA, ⟨Nat.le_refl _⟩, ⟨Below.refl _ _⟩⟩
  case round =>
    clear HA hc1; obtain ⟨mm, c, rfl, rfl, HA, HK, HW⟩ := hrel; cases gk with
    | zero => exact absurd HA.out (by simp [impl_MirrorBoard.c0])
    | succ k1 =>
    have h := HA.out; clear HA; simp only [impl_MirrorBoard.c0] at h; have HBw := A_ (blk_below HB.out HW.out); have HCw := A_ (Kd.C_below HC.out HW.out); have hz0 := blk_cell HBw.out 0; have hz1 := blk_cell HBw.out 1; have hz2 := blk_cell HBw.out 2; by_cases c1 : c < C
    case neg =>
      rw [if_neg c1] at h; obtain rfl := Option.some.inj h; have c1b := decide_eq_false c1; clear h c1; go_wp2; go_ret; exact ⟨rfl, HW.out⟩
    rw [if_pos c1] at h; have c1b := decide_eq_true c1; clear c1; obtain ⟨b, A2, h⟩ := Option.bind_eq_some_iff.mp h; have A2 := A_ A2; cases b with
    | true =>
      rw [if_pos rfl] at h; by_cases c2 : 0 ≤ wrap64 (wrap64 (C - 1) - c)
      case neg => rw [if_neg c2] at h; exact absurd h (by simp)
      rw [if_pos c2] at h; have H := A_ h; have p2 := eq_true c2; clear h c2; go_wp2_with (first | (refine gc_ 119 ?_; refine goesT_ (some 14) Try.func119 #[.agg #[.int .i64 R, .int .i64 C, .slice Ab lb.length cb], .int .i64 r, .int .i64 c] ?_; (with_reducible refine (impl_Board_has.calls R C Ab cb lb r c true _ HCw.out HCb.out A2.out).mono ?_); rintro e w5 ⟨rfl, hd⟩; refine ⟨_, rfl, ?_⟩; have HW5 := A_ (below_then HW.out HW.out.size hd); have hq1 := blk_cell (blk_below HBw.out hd) 1; clear hd hz0 hz1 hz2) | fail)
      go_roundg k1
      case measure => have := HK.out; omega
      case rel => exact ⟨_, wrap64 (c + 1), tf_, tf_, H, ⟨by have := HK.out; omega⟩, HW5⟩
    | false =>
      rw [if_neg (by simp)] at h; have H := A_ h; clear h; go_wp2_with (first | (refine gc_ 119 ?_; refine goesT_ (some 14) Try.func119 #[.agg #[.int .i64 R, .int .i64 C, .slice Ab lb.length cb], .int .i64 r, .int .i64 c] ?_; (with_reducible refine (impl_Board_has.calls R C Ab cb lb r c false _ HCw.out HCb.out A2.out).mono ?_); rintro e w5 ⟨rfl, hd⟩; refine ⟨_, rfl, ?_⟩; have HW5 := A_ (below_then HW.out HW.out.size hd); clear hd hz0 hz1 hz2) | fail)
      go_roundg k1
      case measure => have := HK.out; omega
      case rel => exact ⟨mm, wrap64 (c + 1), tf_, tf_, H, ⟨by have := HK.out; omega⟩, HW5⟩
theorem impl_MirrorBoard.fok {w : World} {gb : Nat} {R C : Int} {Ab : Option Addr} {lb : List Int} {cb : Nat} (hb : w.heap[gb]? = some (.cells #[.int .i64 R, .int .i64 C, .slice Ab lb.length cb] 26 (0, 0))) (hC : Kd.C (Kd.int .i64) w Ab lb.length lb) (hcb : lb.length ≤ cb) :
    FnOk89 w (.func (.func 129) #[] #[.pointer (some ⟨gb, 0, none⟩)]) (impl_MirrorBoard.fn R C lb) := by
  intro a0 r W h hB; obtain ⟨k, h⟩ := Fn.lim_get h; exact ⟨129, _, _, rfl, Try.func129, by kernel_rfl, rfl, by simpa using impl_MirrorBoard.ccalls k gb R C Ab lb cb a0 r W (blk_below hb hB) (Kd.C_below hC hB) hcb h⟩
theorem impl_MirrorBoard.calls (k : Nat) (a0_0 : Int) (a0_1 : Int) (A0_2 : Option Addr) (c0_2 : Nat) (l0_2 : List Int) (r1 : Int) (r2 : Int) (r3 : List Int) (r4 : Bool) (w : World) (hr0_2 : Kd.C (Kd.int .i64) w A0_2 l0_2.length l0_2) (hc0_2 : l0_2.length ≤ c0_2) (h : impl_MirrorBoard.f k a0_0 a0_1 l0_2 = some (r1, r2, r3, r4)) :
  Calls Try.prog 52 #[.agg #[.int .i64 a0_0, .int .i64 a0_1, .slice A0_2 l0_2.length c0_2]] w fun e w' => ∃ v2_ : Value, e = .returned (.tuple #[.agg #[.int .i64 r1, .int .i64 r2, v2_], .bool r4]) ∧ Kd.R (Kd.int .i64) 3 w' w.heap.size (fun _ => True) v2_ r3 ∧ Below w.heap.size w w' := by
 have hu_ := Try.underlying26; have HR0_2 := A_ hr0_2; have HC0_2 := A_ hc0_2; clear hr0_2 hc0_2; have HB := A_ (Below.refl w.heap.size w); have H : ((impl_IsBoard.f a0_0 a0_1 l0_2).bind fun t1216 => (if t1216 = true then ((impl_Board_mapped.f k a0_0 a0_1 l0_2 (impl_MirrorBoard.fn a0_0 a0_1 l0_2)).bind fun bt1217 => (some (bt1217.1, bt1217.2.1, bt1217.2.2, true))) else (some (0, 0, ([] : List Int), false)))) = some (r1, r2, r3, r4) := h; clear h; replace H := Option.bind_eq_some_iff.mp H; obtain ⟨t1216, A20, H⟩ := H; (try dsimp only at H); have A2 := A_ A20; clear A20; by_cases c3 : t1216 = true
 ·
  subst c3; rw [if_pos rfl] at H; replace H := Option.bind_eq_some_iff.mp H; obtain ⟨⟨t1217, t1218, t1219⟩, A40, H⟩ := H; (try dsimp only at H); have A4 := A_ A40; clear A40; simp only [Option.some.injEq, Prod.mk.injEq] at H; obtain ⟨rfl, rfl, rfl, rfl⟩ := H; have hmf_ : ∀ (fn : Go.Fn) (first cap : Array Value) (w : World), (Instr.makeFunc fn first cap).run Try.prog w = .ok (.func fn first cap) w := fun _ _ _ _ => rfl
  go_enter Try.func52, Try.ntmps52; go_wp2_with (first | (refine gd_ 1 ?_; refine bx_ 1 #[.int .i64 a0_0, .int .i64 a0_1, .slice A0_2 l0_2.length c0_2] 26 ?_; intro gb1214 hg w5 hbox hb; have BK1214 := A_ (hbox); have GW1214 := A_ ((ts_ hg : w.heap.size ≤ gb1214)); have GE1214 := A_ ((ts_ hg : w.heap.size ≤ gb1214)); replace HB := A_ (below_step tb_ hb); clear hb hbox hg) | (refine gd_ 2 ?_; refine bx_ 2 #[.int .i64 0, .int .i64 0, .slice none 0 0] 26 ?_; intro gb1215 hg w6 hbox hb; have BK1215 := A_ (hbox); have GW1215 := A_ ((ts_ hg : w.heap.size ≤ gb1215)); have GE1215 := A_ ((ts_ hg : w.heap.size ≤ gb1215)); replace HB := A_ (below_step tb_ hb); have NB1214_1215 := A_ ((by rw [hg]; exact Nat.ne_of_lt (blk_lt (g := gb1214) (o := .cells #[.int .i64 a0_0, .int .i64 a0_1, .slice A0_2 l0_2.length c0_2] 26 (0, 0)) (tk_ BK1214)) : gb1214 ≠ gb1215)); have NB1215_1214 := A_ ((by rw [hg]; exact Nat.ne_of_gt (blk_lt (g := gb1214) (o := .cells #[.int .i64 a0_0, .int .i64 a0_1, .slice A0_2 l0_2.length c0_2] 26 (0, 0)) (tk_ BK1214)) : gb1215 ≠ gb1214)); replace BK1214 := A_ (blk_below (g := gb1214) (o := .cells #[.int .i64 a0_0, .int .i64 a0_1, .slice A0_2 l0_2.length c0_2] 26 (0, 0)) (tk_ BK1214) hb); clear hb hbox hg; have hnb7 := NB1214_1215.out; have hnc7 := NB1215_1214.out; obtain ⟨hcz8_0, hcz8_1, hcz8_2, hfz8_0, hfz8_1, hfz8_2⟩ := cf3_ BK1214.out) | (refine gc_ 76 ?_; refine goesT_ (some 5) Try.func76 #[.agg #[.int .i64 a0_0, .int .i64 a0_1, .slice A0_2 l0_2.length c0_2]] ?_; (with_reducible refine (impl_IsBoard.calls a0_0 a0_1 _ _ l0_2 true _ ?side1 ?side2 A2.out).mono ?_); (case side1 => exact tc_ HR0_2.out); (case side2 => exact HC0_2.out); rintro e w9 ⟨rfl, hb⟩; refine ⟨_, rfl, ?_⟩; replace BK1214 := A_ (blk_below (g := gb1214) (o := .cells #[.int .i64 a0_0, .int .i64 a0_1, .slice A0_2 l0_2.length c0_2] 26 (0, 0)) (tk_ BK1214) hb); replace BK1215 := A_ (blk_below (g := gb1215) (o := .cells #[.int .i64 0, .int .i64 0, .slice none 0 0] 26 (0, 0)) (tk_ BK1215) hb); replace HB := A_ (below_step tb_ hb); (try clear hb); obtain ⟨hcz10_0, hcz10_1, hcz10_2, hfz10_0, hfz10_1, hfz10_2⟩ := cf3_ BK1214.out) | (refine gc_ 128 ?_; refine goesT_ (some 10) Try.func128 #[.agg #[.int .i64 a0_0, .int .i64 a0_1, .slice A0_2 l0_2.length c0_2], .func (.func 129) #[] #[.pointer (some ⟨gb1214, 0, none⟩)]] ?_; (with_reducible refine (impl_Board_mapped.calls k a0_0 a0_1 _ _ l0_2 _ (impl_MirrorBoard.fn a0_0 a0_1 l0_2) t1217 t1218 t1219 _ ?side1 ?side2 ?side3 A4.out).mono ?_); (case side1 => exact tc_ HR0_2.out); (case side2 => exact HC0_2.out); (case side3 => exact impl_MirrorBoard.fok BK1214.out (tc_ HR0_2.out) HC0_2.out); rintro e w11 ⟨v1220, rfl, ho0, hb⟩; refine ⟨_, rfl, ?_⟩; have HO1221 := A_ (Kd.R_lower ho0 (below_size tb_)); replace BK1214 := A_ (blk_below (g := gb1214) (o := .cells #[.int .i64 a0_0, .int .i64 a0_1, .slice A0_2 l0_2.length c0_2] 26 (0, 0)) (tk_ BK1214) hb); replace BK1215 := A_ (blk_below (g := gb1215) (o := .cells #[.int .i64 0, .int .i64 0, .slice none 0 0] 26 (0, 0)) (tk_ BK1215) hb); replace HB := A_ (below_step tb_ hb); (try clear hb); (try clear ho0); obtain ⟨hcz12_0, hcz12_1, hcz12_2, hfz12_0, hfz12_1, hfz12_2⟩ := cf3_ BK1215.out; obtain ⟨Ao13, co13, eo13⟩ := Kd.R_slice HO1221.out; subst eo13))
  refine bodyPost_ret (results_ct rfl _ _ gb1215 26 #[.int .i64 t1217, .int .i64 t1218, .slice Ao13 t1219.length co13] (0, 0) _ rfl (by (with_reducible repeat (first | refine blk_drewN ?_ _ | refine blk_drew ?_ | refine blk_alloc ?_ _)); refine blk_put (cs := #[.int .i64 t1217, .int .i64 t1218, .slice none 0 0]) ?_ 2 _ rfl; (with_reducible repeat (first | refine blk_drewN ?_ _ | refine blk_drew ?_ | refine blk_alloc ?_ _)); refine blk_put (cs := #[.int .i64 t1217, .int .i64 0, .slice none 0 0]) ?_ 1 _ rfl; (with_reducible repeat (first | refine blk_drewN ?_ _ | refine blk_drew ?_ | refine blk_alloc ?_ _)); refine blk_put (cs := #[.int .i64 0, .int .i64 0, .slice none 0 0]) ?_ 0 _ rfl; (with_reducible repeat (first | refine blk_drewN ?_ _ | refine blk_drew ?_ | refine blk_alloc ?_ _)); exact BK1215.out) Try.underlying26 rfl (by kernel_rfl)) rfl ?_; exact ⟨_, te_, by (with_reducible repeat (first | apply Kd.R_alloc | apply Kd.R_drewN | apply Kd.R_drew)); exact Kd.R_mono (Kd.R_far (p := ⟨gb1215, 2, none⟩) (Kd.R_far (p := ⟨gb1215, 1, none⟩) (Kd.R_far (p := ⟨gb1215, 0, none⟩) (Kd.R_types HO1221.out BK1215.out (by decide)) (fun _ hk => hk.2) (.int .i64 t1217)) (fun _ hk => hk.2) (.int .i64 t1218)) (fun _ hk => hk.2) (.slice Ao13 t1219.length co13)) (fun _ hk => trivial), tb_⟩
 ·
  replace c3 := Bool.eq_false_iff.mpr c3; subst c3; rw [if_neg (show ¬ (false = true) by decide)] at H; simp only [Option.some.injEq, Prod.mk.injEq] at H; obtain ⟨rfl, rfl, rfl, rfl⟩ := H; go_enter Try.func52, Try.ntmps52; go_wp2_with (first | (refine gd_ 1 ?_; refine bx_ 1 #[.int .i64 a0_0, .int .i64 a0_1, .slice A0_2 l0_2.length c0_2] 26 ?_; intro gb1214 hg w14 hbox hb; have BK1214 := A_ (hbox); have GW1214 := A_ ((ts_ hg : w.heap.size ≤ gb1214)); have GE1214 := A_ ((ts_ hg : w.heap.size ≤ gb1214)); replace HB := A_ (below_step tb_ hb); clear hb hbox hg) | (refine gd_ 2 ?_; refine bx_ 2 #[.int .i64 0, .int .i64 0, .slice none 0 0] 26 ?_; intro gb1215 hg w15 hbox hb; have BK1215 := A_ (hbox); have GW1215 := A_ ((ts_ hg : w.heap.size ≤ gb1215)); have GE1215 := A_ ((ts_ hg : w.heap.size ≤ gb1215)); replace HB := A_ (below_step tb_ hb); have NB1214_1215 := A_ ((by rw [hg]; exact Nat.ne_of_lt (blk_lt (g := gb1214) (o := .cells #[.int .i64 a0_0, .int .i64 a0_1, .slice A0_2 l0_2.length c0_2] 26 (0, 0)) (tk_ BK1214)) : gb1214 ≠ gb1215)); have NB1215_1214 := A_ ((by rw [hg]; exact Nat.ne_of_gt (blk_lt (g := gb1214) (o := .cells #[.int .i64 a0_0, .int .i64 a0_1, .slice A0_2 l0_2.length c0_2] 26 (0, 0)) (tk_ BK1214)) : gb1215 ≠ gb1214)); replace BK1214 := A_ (blk_below (g := gb1214) (o := .cells #[.int .i64 a0_0, .int .i64 a0_1, .slice A0_2 l0_2.length c0_2] 26 (0, 0)) (tk_ BK1214) hb); clear hb hbox hg; have hnb16 := NB1214_1215.out; have hnc16 := NB1215_1214.out; obtain ⟨hcz17_0, hcz17_1, hcz17_2, hfz17_0, hfz17_1, hfz17_2⟩ := cf3_ BK1214.out) | (refine gc_ 76 ?_; refine goesT_ (some 5) Try.func76 #[.agg #[.int .i64 a0_0, .int .i64 a0_1, .slice A0_2 l0_2.length c0_2]] ?_; (with_reducible refine (impl_IsBoard.calls a0_0 a0_1 _ _ l0_2 false _ ?side1 ?side2 A2.out).mono ?_); (case side1 => exact tc_ HR0_2.out); (case side2 => exact HC0_2.out); rintro e w18 ⟨rfl, hb⟩; refine ⟨_, rfl, ?_⟩; replace BK1214 := A_ (blk_below (g := gb1214) (o := .cells #[.int .i64 a0_0, .int .i64 a0_1, .slice A0_2 l0_2.length c0_2] 26 (0, 0)) (tk_ BK1214) hb); replace BK1215 := A_ (blk_below (g := gb1215) (o := .cells #[.int .i64 0, .int .i64 0, .slice none 0 0] 26 (0, 0)) (tk_ BK1215) hb); replace HB := A_ (below_step tb_ hb); (try clear hb); obtain ⟨hcz19_0, hcz19_1, hcz19_2, hfz19_0, hfz19_1, hfz19_2⟩ := cf3_ BK1215.out))
  refine bodyPost_ret (results_ct rfl _ _ gb1215 26 #[.int .i64 0, .int .i64 0, .slice none 0 0] (0, 0) _ rfl (by (with_reducible repeat (first | refine blk_drewN ?_ _ | refine blk_drew ?_ | refine blk_alloc ?_ _)); refine blk_put (cs := #[.int .i64 0, .int .i64 0, .slice none 0 0]) ?_ 2 _ rfl; (with_reducible repeat (first | refine blk_drewN ?_ _ | refine blk_drew ?_ | refine blk_alloc ?_ _)); refine blk_put (cs := #[.int .i64 0, .int .i64 0, .slice none 0 0]) ?_ 1 _ rfl; (with_reducible repeat (first | refine blk_drewN ?_ _ | refine blk_drew ?_ | refine blk_alloc ?_ _)); refine blk_put (cs := #[.int .i64 0, .int .i64 0, .slice none 0 0]) ?_ 0 _ rfl; (with_reducible repeat (first | refine blk_drewN ?_ _ | refine blk_drew ?_ | refine blk_alloc ?_ _)); exact BK1215.out) Try.underlying26 rfl (by kernel_rfl)) rfl ?_; exact ⟨_, te_, by first | exact Kd.R_nil _ _ _ _ _ | exact Kd.N_nil _ _ _ _ _ | exact Kd.V_nil _ _ _ _ _ | exact Kd.Q_nil _ _ _ _ _ | exact Kd.S_nil _ _ _ _ _, tb_⟩

/-! ### laws_rShort: function 53 -/
def laws_rShort.l0 : Nat → List Int → Int → Option (List Int)
 | 0, _, _ => none
 | k + 1, x0, x3 => if x3 > 0 then (if 0 ≤ (wrap64 (x3 - 1)) then (if (wrap64 (x3 - 1)) < (x0.length : Int) then (if (rd x0 (wrap64 (x3 - 1))) = 0 then (laws_rShort.l0 k x0 (wrap64 (x3 - 1))) else (if 0 ≤ x3 then (if x3 ≤ (x0.length : Int) then (some (x0.take (x3 : Int).toNat)) else (none)) else (none))) else (none)) else (none)) else (if 0 ≤ x3 then (if x3 ≤ (x0.length : Int) then (some (x0.take (x3 : Int).toNat)) else (none)) else (none))
def laws_rShort.f (k : Nat) (l0 : List Int) : Option (List Int) := laws_rShort.l0 k l0 (l0.length : Int)
theorem laws_rShort.mono_l : ∀ k, (∀ y0 y1, LeO (laws_rShort.l0 k y0 y1) (laws_rShort.l0 (k + 1) y0 y1))
 | 0 => fun _ _ r h => by simp [laws_rShort.l0] at h
 | k + 1 => by
  have ih0 := laws_rShort.mono_l k
  ·
   intro y0 y1; unfold laws_rShort.l0
   repeat' first | (with_reducible first | exact ih0 _ _ | exact LeO.refl _ | exact LeO.none _ | refine LeO.ite ?_ ?_ | refine LeO.bind ?_ (fun _ => ?_)) | exact ih0 _ _ | exact LeO.none _ | refine LeO.ite ?_ ?_ | refine LeO.bind ?_ (fun _ => ?_)
theorem laws_rShort.mono : ∀ a0 k, LeO (laws_rShort.f k a0) (laws_rShort.f (k + 1) a0) := by
 intro a0 k; have ih0 := laws_rShort.mono_l k; unfold laws_rShort.f
 repeat' first | (with_reducible first | exact ih0 _ _ | exact LeO.refl _ | exact LeO.none _ | refine LeO.ite ?_ ?_ | refine LeO.bind ?_ (fun _ => ?_)) | exact ih0 _ _ | exact LeO.none _ | refine LeO.ite ?_ ?_ | refine LeO.bind ?_ (fun _ => ?_)
theorem laws_rShort.calls (k : Nat) (P0_ : Nat → Prop) (u9000_ : Value) (l0 : List Int) (r : List Int) (w0 w : World) (hB : Below w0.heap.size w0 w) (ho0 : Kd.R (Kd.int .i64) 3 w w0.heap.size P0_ u9000_ l0) (h : laws_rShort.f k l0 = some r) :
  Calls Try.prog 53 #[u9000_] w fun e w' => ∃ v0_ : Value, e = .returned (v0_) ∧ Kd.R (Kd.int .i64) 3 w' w0.heap.size (fun k_ => (P0_ k_ ∨ w.heap.size ≤ k_)) v0_ r ∧ Below w0.heap.size w0 w' ∧ Kept w w' (fun k_ => P0_ k_) := by
 have HO0 := A_ (show Kd.R (Kd.int .i64) 3 w w0.heap.size (fun k_ => (P0_ k_ ∨ w.heap.size ≤ k_)) u9000_ l0 from Kd.R_mono ho0 (fun k_ hk => (.inl hk))); have HK := A_ (Kept.refl w (fun k_ => P0_ k_)); have HW0 := A_ hB.size; have HB := A_ hB; clear hB; have H : (laws_rShort.l0 k l0 (l0.length : Int)) = some r := h; clear h; have H' := A_ H; clear H; obtain ⟨Ao2, co2, eo2⟩ := Kd.R_slice HO0.out; subst eo2; go_enter Try.func53, Try.ntmps53; go_wp2; go_loopg [3] k (fun kq v3 w' => ∃ (x3_1 : Int), v3 = .int .i64 x3_1 ∧ Aside0 (laws_rShort.l0 kq l0 x3_1 = some r) ∧ Aside0 (kq ≤ k) ∧ Aside0 (Kd.R (Kd.int .i64) 3 w' w0.heap.size (fun k_ => (P0_ k_ ∨ w.heap.size ≤ k_)) (.slice Ao2 l0.length co2) l0) ∧ Aside0 (Kept w w' (fun k_ => P0_ k_)) ∧ Aside0 (Below w0.heap.size w0 w'))
 case atStart => exact ⟨((l0.length : Int)), tf_, H', ⟨Nat.le_refl _⟩, ⟨tr_x HO0.out⟩, ⟨by repeat (first | (with_reducible first | exact HK.out | apply Kept.alloc | apply Kept.drewN | apply Kept.drew) | exact HK.out)⟩, ⟨tb_⟩⟩
 case round =>
  clear H'; (try clear p2); obtain ⟨x3_1, rfl, HA, HK1, HO_0, HK, HB⟩ := hrel; cases gk with
  | zero => exact absurd HA.out (by simp [laws_rShort.l0])
  | succ k1 =>
   have H := HA.out; clear HA; simp only [laws_rShort.l0] at H; by_cases c3 : x3_1 > 0
   ·
    rw [if_pos c3] at H; have c3b0 := decide_eq_true c3; clear c3; obtain ⟨ji4, hji4⟩ : ∃ j_ : Int, (wrap64 (x3_1 - 1)) = j_ := ⟨_, rfl⟩
    replace H : (if 0 ≤ (ji4) then (if (ji4) < (l0.length : Int) then (if (rd l0 (ji4)) = 0 then (laws_rShort.l0 k1 l0 ji4) else (if 0 ≤ x3_1 then (if x3_1 ≤ (l0.length : Int) then (some (l0.take (x3_1 : Int).toNat)) else (none)) else (none))) else (none)) else (none)) = some r := by first | (rw [hji4] at H; exact H) | (simp only [hji4] at H ⊢; exact H)
    have hji4w : (IntKind.i64.wrap (x3_1 - 1)) = ji4 := (i64_w _).trans hji4; by_cases c5 : 0 ≤ (ji4)
    ·
     rw [if_pos c5] at H; have c5b0 := decide_eq_true c5; clear c5; by_cases c6 : (ji4) < (l0.length : Int)
     ·
      rw [if_pos c6] at H; have c6b0 := decide_eq_true c6; clear c6; by_cases c7 : (rd l0 (ji4)) = 0
      ·
       rw [if_pos c7] at H; have c7b0 : ((rd l0 (ji4)) == 0) = true := beq_iff_eq.mpr c7; have c7b1 : ((rd l0 (ji4)) != 0) = false := bne_eq_false_iff_eq.mpr c7; clear c7; have H' := A_ H; clear H; have p1232 : 0 ≤ ((ji4) : Int) := od_; have q1232 : (ji4) < (l0.length : Int) := od_; obtain ⟨ad1232, e1232, hx1232_0⟩ := Kd.at_int (Kd.R_reads' HO_0.out).2.2 (ji4) p1232 q1232; cases e1232; replace p1232 := eq_true p1232; replace q1232 := eq_true q1232; go_wp2; go_roundg k1
       case measure => have := HK1.out; omega
       case rel => exact ⟨(ji4), (by first | rfl | (simp; done) | (simp only [← hji4] <;> (first | rfl | simp)) | (simp [*]; done)), H', ⟨by have := HK1.out; omega⟩, ⟨tr_x HO_0.out⟩, ⟨by repeat (first | (with_reducible first | exact HK.out | apply Kept.alloc | apply Kept.drewN | apply Kept.drew) | exact HK.out)⟩, ⟨tb_⟩⟩
      ·
       rw [if_neg c7] at H; have c7b0 : ((rd l0 (ji4)) == 0) = false := beq_eq_false_iff_ne.mpr c7; have c7b1 : ((rd l0 (ji4)) != 0) = true := bne_iff_ne.mpr c7; by_cases c8 : 0 ≤ x3_1
       ·
        rw [if_pos c8] at H; have c8b0 := eq_true c8; have c8b1 := decide_eq_true c8; clear c8; by_cases c9 : x3_1 ≤ (l0.length : Int)
        ·
         rw [if_pos c9] at H; have c9b0 := eq_true c9; have c9b1 := decide_eq_true c9; clear c9; obtain ⟨y1233, hy1233⟩ : ∃ y_ : List Int, y_ = (l0.take (x3_1 : Int).toNat) := ⟨_, rfl⟩
         replace H : (some y1233) = some r := ty_ hy1233 H; have Ny1233 := A_ hy1233; clear hy1233; obtain rfl := Option.some.inj H; have p1232 : 0 ≤ ((ji4) : Int) := od_; have q1232 : (ji4) < (l0.length : Int) := od_; obtain ⟨ad1232, e1232, hx1232_0⟩ := Kd.at_int (Kd.R_reads' HO_0.out).2.2 (ji4) p1232 q1232; cases e1232; replace p1232 := eq_true p1232; replace q1232 := eq_true q1232; have q10 : (x3_1 : Int) ≤ ((l0.length : Int) : Int) := od_; obtain ⟨i010, hi010, _, hsz10, _⟩ := info_parts info3; have hcut10 := cut_to (P := Try.prog) 24 3 .i64 Try.underlying24 hi010 (some ad1232) l0.length co2 x3_1 (od_) q10 (Kd.R_reads' HO_0.out).2.1; have hr10 := Kd.R_take (m := (x3_1 : Int).toNat) HO_0.out (by omega); have hy10 : y1233.length = (x3_1 : Int).toNat := (by rw [Ny1233.out, List.length_take]; omega)
         rw [← Ny1233.out] at hr10; rw [← hy10] at hr10 hcut10; clear hy10 hi010 hsz10 HO_0; have HO1235 := A_ hr10; clear hr10; replace q10 := eq_true q10; go_wp2; go_ret; exact ⟨_, by first | rfl | (simp [errW_none, errW_some] <;> rfl) | (simp only [← hji4]; first | rfl | (simp [errW_none, errW_some] <;> rfl)) | (simp [*, errW_none, errW_some] <;> rfl), tr_x HO1235.out, tb_, by repeat (first | (with_reducible first | exact HK.out | apply Kept.alloc | apply Kept.drewN | apply Kept.drew) | exact HK.out)⟩
        ·
         exact nx_ c9 H
       ·
        exact nx_ c8 H
     ·
      exact nx_ c6 H
    ·
     exact nx_ c5 H
   ·
    rw [if_neg c3] at H; have c3b0 := decide_eq_false c3; clear c3; by_cases c11 : 0 ≤ x3_1
    ·
     rw [if_pos c11] at H; have c11b0 := eq_true c11; have c11b1 := decide_eq_true c11; clear c11; by_cases c12 : x3_1 ≤ (l0.length : Int)
     ·
      rw [if_pos c12] at H; have c12b0 := eq_true c12; have c12b1 := decide_eq_true c12; clear c12; obtain ⟨y1236, hy1236⟩ : ∃ y_ : List Int, y_ = (l0.take (x3_1 : Int).toNat) := ⟨_, rfl⟩
      replace H : (some y1236) = some r := ty_ hy1236 H; have Ny1236 := A_ hy1236; clear hy1236; obtain rfl := Option.some.inj H; have q13 : (x3_1 : Int) ≤ ((l0.length : Int) : Int) := od_; obtain ⟨i013, hi013, _, hsz13, _⟩ := info_parts info3; have hcut13 := cut_to (P := Try.prog) 24 3 .i64 Try.underlying24 hi013 Ao2 l0.length co2 x3_1 (od_) q13 (Kd.R_reads' HO_0.out).2.1; have hr13 := Kd.R_take (m := (x3_1 : Int).toNat) HO_0.out (by omega); have hy13 : y1236.length = (x3_1 : Int).toNat := (by rw [Ny1236.out, List.length_take]; omega)
      rw [← Ny1236.out] at hr13; rw [← hy13] at hr13 hcut13; clear hy13 hi013 hsz13 HO_0; have HO1238 := A_ hr13; clear hr13; replace q13 := eq_true q13; go_wp2; go_ret; exact ⟨_, te_, tr_x HO1238.out, tb_, by repeat (first | (with_reducible first | exact HK.out | apply Kept.alloc | apply Kept.drewN | apply Kept.drew) | exact HK.out)⟩
     ·
      exact nx_ c12 H
    ·
     exact nx_ c11 H

end
end Go.Proofs.Ytdoflpghemgbdaa.P
