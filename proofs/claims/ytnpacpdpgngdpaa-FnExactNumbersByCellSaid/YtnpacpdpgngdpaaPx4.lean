-- printed by wip/hprint.py of this session (the kit's print.py, patched in memory)
import Derived.Test.YtnpacpdpgngdpaaPx0
import Derived.Test.YtnpacpdpgngdpaaPx3
namespace Go.Proofs.Ytnpacpdpgngdpaa.P
noncomputable section
set_option maxHeartbeats 8000000
set_option maxRecDepth 100000
open Go.RowKit Go.Proofs.YtnpacpdpgngdpaaW.PrintWords Go.Proofs.YtnpacpdpgngdpaaW.PrintLast Go.Proofs.YtnpacpdpgngdpaaW.PrintMore
attribute [local go_sem] max2_int min2_int max_two min_two max_three min_three max_four min_four   -- for this text's walks alone
set_option linter.unusedVariables false
set_option linter.unusedSimpArgs false

/-! ### spec_roNumbers: function 123 -/
def spec_roNumbers.f (k : Nat) (a0_0 : Int) (a0_1 : Int) (l0_2 : List Int) : Option (List Int) := (spec_roWays.f k a0_0 a0_1 l0_2 0 0).bind fun t147 => (some t147)
theorem spec_roNumbers.mono : ∀ a0 a1 a2 k, LeO (spec_roNumbers.f k a0 a1 a2) (spec_roNumbers.f (k + 1) a0 a1 a2) := by
 intro a0 a1 a2 k
 unfold spec_roNumbers.f
 repeat' first | (with_reducible first | exact spec_roWays.mono _ _ _ _ _ _ | exact LeO.refl _ | exact LeO.none _ | refine LeO.ite ?_ ?_ | refine LeO.bind ?_ (fun _ => ?_)) | exact spec_roWays.mono _ _ _ _ _ _ | exact LeO.none _ | refine LeO.ite ?_ ?_ | refine LeO.bind ?_ (fun _ => ?_)
theorem spec_roNumbers.calls (k : Nat) (a0_0 : Int) (a0_1 : Int) (A0_2 : Option Addr) (c0_2 : Nat) (l0_2 : List Int) (r : List Int) (w : World) (hr0_2 : Kd.C (Kd.int .i64) w A0_2 l0_2.length l0_2) (hc0_2 : l0_2.length ≤ c0_2) (h : spec_roNumbers.f k a0_0 a0_1 l0_2 = some r) :
  Calls Try.prog 123 #[.agg #[.int .i64 a0_0, .int .i64 a0_1, .slice A0_2 l0_2.length c0_2]] w fun e w' => ∃ v0_ : Value, e = .returned (v0_) ∧ Kd.R (Kd.int .i64) 3 w' w.heap.size (fun _ => True) v0_ r ∧ Below w.heap.size w w' := by
 have hu28 := Try.underlying28
 have HR0_2 := A_ hr0_2
 have HC0_2 := A_ hc0_2
 clear hr0_2 hc0_2
 have HB := A_ (Below.refl w.heap.size w)
 have H : ((spec_roWays.f k a0_0 a0_1 l0_2 0 0).bind fun t147 => (some t147)) = some r := h
 clear h
 replace H := Option.bind_eq_some_iff.mp H
 obtain ⟨t147, A20, H⟩ := H
 replace H : (some t147) = some r := H
 have A2 := A_ A20
 clear A20
 obtain rfl := Option.some.inj H
 go_enter Try.func123, Try.ntmps123
 go_wp2_with (first | (refine gd_ 1 ?_; refine bx_ 1 #[.int .i64 a0_0, .int .i64 a0_1, .slice A0_2 l0_2.length c0_2] 28 ?_; intro gb146 hg w3 hbox hb; have BK146 := A_ (hbox); have GW146 := A_ ((ts_ hg : w.heap.size ≤ gb146)); have GE146 := A_ ((ts_ hg : w.heap.size ≤ gb146)); replace HB := A_ (below_step tb_ hb); clear hb hbox hg; obtain ⟨hcz4_0, hcz4_1, hcz4_2, hfz4_0, hfz4_1, hfz4_2⟩ := cf3_ BK146.out) | (refine gc_ 217 ?_; refine goesT_ (some 4) Try.func217 #[.agg #[.int .i64 a0_0, .int .i64 a0_1, .slice A0_2 l0_2.length c0_2], .int .i64 0, .int .i64 0] ?_; (with_reducible refine (spec_roWays.calls k a0_0 a0_1 _ _ l0_2 0 0 t147 _ ?side1 ?side2 A2.out).mono ?_); (case side1 => exact tc_ HR0_2.out); (case side2 => exact HC0_2.out); rintro e w5 ⟨v148, rfl, ho0, hb⟩; refine ⟨_, rfl, ?_⟩; have HO149 := A_ (Kd.R_lower ho0 (below_size tb_)); replace BK146 := A_ (blk_below (g := gb146) (o := .cells #[.int .i64 a0_0, .int .i64 a0_1, .slice A0_2 l0_2.length c0_2] 28 (0, 0)) (tk_ BK146) hb); replace HB := A_ (below_step tb_ hb); (try clear hb); (try clear ho0)))
 go_ret
 exact ⟨_, te_, tr_x HO149.out, tb_⟩

/-! ### spec_boStrike: function 124 -/
def spec_boStrike.l0 : Nat → Int → Int → List Int → Int → Int → Int → Int → List Int → Option (Int × Int × List Int)
 | 0, _, _, _, _, _, _, _, _ => none
 | k + 1, x1, x2, x18, x19, x20, x153000, x153001, x153002 => if x20 < x19 then (if 0 ≤ x20 then (if x20 < (x18.length : Int) then (if x20 = x1 then (spec_boStrike.l0 k x1 x2 x18 x19 (wrap64 (x20 + 1)) x153000 x153001 x153002) else (if 0 ≤ x2 then (if 0 ≤ (wrap64 (x2 + 1)) then (if x153002.length < 17592186044416 then (spec_boStrike.l0 k x1 x2 x18 x19 (wrap64 (x20 + 1)) x153000 x153001 (x153002 ++ [Go.bits .or .i64 (Go.bits .and .i64 (rd x18 x20) (wrap64 ((shl .i64 1 x2) - 1))) (shl .i64 (shr .i64 (rd x18 x20) (wrap64 (x2 + 1))) x2)])) else (none)) else (none)) else (none))) else (none)) else (none)) else (some (x153000, x153001, x153002))
def spec_boStrike.f (k : Nat) (a0_0 : Int) (a0_1 : Int) (l0_2 : List Int) (a1 : Int) (a2 : Int) : Option (Int × Int × List Int) := spec_boStrike.l0 k a1 a2 l0_2 (l0_2.length : Int) 0 (wrap64 (a0_0 - 1)) (wrap64 (a0_1 - 1)) ([] : List Int)
theorem spec_boStrike.mono_l : ∀ k, (∀ y0 y1 y2 y3 y4 y5 y6 y7, LeO (spec_boStrike.l0 k y0 y1 y2 y3 y4 y5 y6 y7) (spec_boStrike.l0 (k + 1) y0 y1 y2 y3 y4 y5 y6 y7))
 | 0 => fun _ _ _ _ _ _ _ _ r h => by simp [spec_boStrike.l0] at h
 | k + 1 => by
  have ih0 := spec_boStrike.mono_l k
  ·
   intro y0 y1 y2 y3 y4 y5 y6 y7
   unfold spec_boStrike.l0
   repeat' first | (with_reducible first | exact ih0 _ _ _ _ _ _ _ _ | exact LeO.refl _ | exact LeO.none _ | refine LeO.ite ?_ ?_ | refine LeO.bind ?_ (fun _ => ?_)) | exact ih0 _ _ _ _ _ _ _ _ | exact LeO.none _ | refine LeO.ite ?_ ?_ | refine LeO.bind ?_ (fun _ => ?_)
theorem spec_boStrike.mono : ∀ a0 a1 a2 a3 a4 k, LeO (spec_boStrike.f k a0 a1 a2 a3 a4) (spec_boStrike.f (k + 1) a0 a1 a2 a3 a4) := by
 intro a0 a1 a2 a3 a4 k
 have ih0 := spec_boStrike.mono_l k
 unfold spec_boStrike.f
 repeat' first | (with_reducible first | exact ih0 _ _ _ _ _ _ _ _ | exact LeO.refl _ | exact LeO.none _ | refine LeO.ite ?_ ?_ | refine LeO.bind ?_ (fun _ => ?_)) | exact ih0 _ _ _ _ _ _ _ _ | exact LeO.none _ | refine LeO.ite ?_ ?_ | refine LeO.bind ?_ (fun _ => ?_)
def spec_boStrike.T6 : Bool × List (List Nat × List Nat) := (true, [([], []), ([0], [0]), ([], []), ([], []), ([3], [3]), ([4], [4]), ([2, 5], [2, 5]), ([], []), ([], []), ([8], [8]), ([7, 9], [7, 9]), ([], []), ([10, 11], [10, 11]), ([6, 12], [6, 12]), ([13], [13]), ([1, 14], [1, 14]), ([0, 1, 2, 3, 4, 5, 6, 7, 8, 9, 10, 11, 12, 13, 14, 15], []), ([16, 15, 15, 0, 1, 2, 3, 4, 5, 6, 7, 8, 9, 10, 11, 12, 13, 14, 15], [15, 16])])
def spec_boStrike.B6 : List Nat := [0, 1, 0, 0, 8, 24, 60, 0, 0, 256, 896, 0, 3968, 8188, 16380, 32767, 65535, 131071]
theorem spec_boStrike.tab6 : rtab .any (opsOf Try.f124 6) = spec_boStrike.T6 := by kernel_rfl
theorem spec_boStrike.bits6 : waitsOk spec_boStrike.T6.2 spec_boStrike.B6 = true := by kernel_rfl
theorem spec_boStrike.calls (k : Nat) (a0_0 : Int) (a0_1 : Int) (A0_2 : Option Addr) (c0_2 : Nat) (l0_2 : List Int) (a1 : Int) (a2 : Int) (r1 : Int) (r2 : Int) (r3 : List Int) (w : World) (hr0_2 : Kd.C (Kd.int .i64) w A0_2 l0_2.length l0_2) (hc0_2 : l0_2.length ≤ c0_2) (h : spec_boStrike.f k a0_0 a0_1 l0_2 a1 a2 = some (r1, r2, r3)) :
  Calls Try.prog 124 #[.agg #[.int .i64 a0_0, .int .i64 a0_1, .slice A0_2 l0_2.length c0_2], .int .i64 a1, .int .i64 a2] w fun e w' => ∃ v2_ : Value, e = .returned (.agg #[.int .i64 r1, .int .i64 r2, v2_]) ∧ Kd.R (Kd.int .i64) 3 w' w.heap.size (fun _ => True) v2_ r3 ∧ Below w.heap.size w w' := by
 have hu28 := Try.underlying28
 have HR0_2 := A_ hr0_2
 have HC0_2 := A_ hc0_2
 clear hr0_2 hc0_2
 have HB := A_ (Below.refl w.heap.size w)
 have H : (spec_boStrike.l0 k a1 a2 l0_2 (l0_2.length : Int) 0 (wrap64 (a0_0 - 1)) (wrap64 (a0_1 - 1)) ([] : List Int)) = some (r1, r2, r3) := h
 clear h
 have H' := A_ H
 clear H
 go_enter Try.func124, Try.ntmps124
 go_wp2_with (first | (refine gd_ 3 ?_; refine bx_ 3 #[.int .i64 a0_0, .int .i64 a0_1, .slice A0_2 l0_2.length c0_2] 28 ?_; intro gb150 hg w4 hbox hb; have BK150 := A_ (hbox); have GW150 := A_ ((ts_ hg : w.heap.size ≤ gb150)); have GE150 := A_ ((ts_ hg : w.heap.size ≤ gb150)); replace HB := A_ (below_step tb_ hb); clear hb hbox hg) | (refine gd_ 6 ?_; refine bx_ 6 #[.int .i64 0, .int .i64 0, .slice none 0 0] 28 ?_; intro gb151 hg w5 hbox hb; have BK151 := A_ (hbox); have GW151 := A_ ((ts_ hg : w.heap.size ≤ gb151)); have GE151 := A_ ((ts_ hg : w.heap.size ≤ gb151)); replace HB := A_ (below_step tb_ hb); have NB150_151 := A_ ((by rw [hg]; exact Nat.ne_of_lt (blk_lt (g := gb150) (o := .cells #[.int .i64 a0_0, .int .i64 a0_1, .slice A0_2 l0_2.length c0_2] 28 (0, 0)) (tk_ BK150)) : gb150 ≠ gb151)); have NB151_150 := A_ ((by rw [hg]; exact Nat.ne_of_gt (blk_lt (g := gb150) (o := .cells #[.int .i64 a0_0, .int .i64 a0_1, .slice A0_2 l0_2.length c0_2] 28 (0, 0)) (tk_ BK150)) : gb151 ≠ gb150)); replace BK150 := A_ (blk_below (g := gb150) (o := .cells #[.int .i64 a0_0, .int .i64 a0_1, .slice A0_2 l0_2.length c0_2] 28 (0, 0)) (tk_ BK150) hb); clear hb hbox hg; have hnb6 := NB150_151.out; have hnc6 := NB151_150.out; obtain ⟨hcz7_0, hcz7_1, hcz7_2, hfz7_0, hfz7_1, hfz7_2⟩ := cf3_ BK150.out) | (refine gd_ 7 ?_; refine bx_ 7 #[.int .i64 0, .int .i64 0, .slice none 0 0] 28 ?_; intro gb152 hg w8 hbox hb; have BK152 := A_ (hbox); have GW152 := A_ ((ts_ hg : w.heap.size ≤ gb152)); have GE152 := A_ ((ts_ hg : w.heap.size ≤ gb152)); replace HB := A_ (below_step tb_ hb); have NB150_152 := A_ ((by rw [hg]; exact Nat.ne_of_lt (blk_lt (g := gb150) (o := .cells #[.int .i64 a0_0, .int .i64 a0_1, .slice A0_2 l0_2.length c0_2] 28 (0, 0)) (tk_ BK150)) : gb150 ≠ gb152)); have NB152_150 := A_ ((by rw [hg]; exact Nat.ne_of_gt (blk_lt (g := gb150) (o := .cells #[.int .i64 a0_0, .int .i64 a0_1, .slice A0_2 l0_2.length c0_2] 28 (0, 0)) (tk_ BK150)) : gb152 ≠ gb150)); replace BK150 := A_ (blk_below (g := gb150) (o := .cells #[.int .i64 a0_0, .int .i64 a0_1, .slice A0_2 l0_2.length c0_2] 28 (0, 0)) (tk_ BK150) hb); have NB151_152 := A_ ((by rw [hg]; exact Nat.ne_of_lt (blk_lt (g := gb151) (o := .cells #[.int .i64 0, .int .i64 0, .slice none 0 0] 28 (0, 0)) (tk_ BK151)) : gb151 ≠ gb152)); have NB152_151 := A_ ((by rw [hg]; exact Nat.ne_of_gt (blk_lt (g := gb151) (o := .cells #[.int .i64 0, .int .i64 0, .slice none 0 0] 28 (0, 0)) (tk_ BK151)) : gb152 ≠ gb151)); replace BK151 := A_ (blk_below (g := gb151) (o := .cells #[.int .i64 0, .int .i64 0, .slice none 0 0] 28 (0, 0)) (tk_ BK151) hb); clear hb hbox hg; have hnb9 := NB152_150.out; have hnc9 := NB150_152.out; have hnb10 := NB152_151.out; have hnc10 := NB151_152.out; obtain ⟨hcz11_0, hcz11_1, hcz11_2, hfz11_0, hfz11_1, hfz11_2⟩ := cf3_ BK152.out; obtain ⟨hcz12_0, hcz12_1, hcz12_2, hfz12_0, hfz12_1, hfz12_2⟩ := cf3_ BK150.out))
 go_loopg [20] k (fun kq v20 w' => ∃ (x20_1 : Int) (x153002_1 : List Int) (u153002 : Value), v20 = .int .i64 x20_1 ∧ Aside0 (spec_boStrike.l0 kq a1 a2 l0_2 (l0_2.length : Int) x20_1 (wrap64 (a0_0 - 1)) (wrap64 (a0_1 - 1)) x153002_1 = some (r1, r2, r3)) ∧ Aside0 (kq ≤ k) ∧ Aside0 (Kd.R (Kd.int .i64) 3 w' w.heap.size (fun _ => True) u153002 x153002_1) ∧ Aside0 (w'.heap[gb150]? = some (.cells #[.int .i64 a0_0, .int .i64 a0_1, (.slice A0_2 l0_2.length c0_2)] 28 (0, 0))) ∧ Aside0 (w'.heap[gb151]? = some (.cells #[.int .i64 0, .int .i64 0, (.slice none 0 0)] 28 (0, 0))) ∧ Aside0 (w'.heap[gb152]? = some (.cells #[.int .i64 (wrap64 (a0_0 - 1)), .int .i64 (wrap64 (a0_1 - 1)), u153002] 28 (0, 0))) ∧ Aside0 (Below w.heap.size w w'))
 case atStart => exact ⟨(0), (([] : List Int)), (.slice none 0 0), tf_, H', ⟨Nat.le_refl _⟩, ⟨by first | exact Kd.R_nil _ _ _ _ _ | exact Kd.N_nil _ _ _ _ _ | exact Kd.V_nil _ _ _ _ _ | exact Kd.Q_nil _ _ _ _ _ | exact Kd.S_nil _ _ _ _ _⟩, ⟨tk_ BK150⟩, ⟨tk_ BK151⟩, ⟨by (with_reducible repeat (first | refine blk_drewN ?_ _ | refine blk_drew ?_ | refine blk_alloc ?_ _)); refine blk_put (cs := #[.int .i64 (wrap64 (a0_0 - 1)), .int .i64 (wrap64 (a0_1 - 1)), .slice none 0 0]) ?_ 2 _ rfl; (with_reducible repeat (first | refine blk_drewN ?_ _ | refine blk_drew ?_ | refine blk_alloc ?_ _)); refine blk_put (cs := #[.int .i64 (wrap64 (a0_0 - 1)), .int .i64 0, .slice none 0 0]) ?_ 1 _ rfl; (with_reducible repeat (first | refine blk_drewN ?_ _ | refine blk_drew ?_ | refine blk_alloc ?_ _)); refine blk_put (cs := #[.int .i64 0, .int .i64 0, .slice none 0 0]) ?_ 0 _ rfl; (with_reducible repeat (first | refine blk_drewN ?_ _ | refine blk_drew ?_ | refine blk_alloc ?_ _)); exact BK152.out⟩, ⟨tb_⟩⟩
 case round =>
  clear H'
  try clear c1
  try clear p2
  try clear c6
  try clear p6
  try clear c9
  try clear c10
  try clear c12
  try clear hcz11_0
  try clear hcz11_1
  try clear hcz11_2
  try clear hcz12_0
  try clear hcz12_1
  try clear hcz12_2
  try clear hcz7_0
  try clear hcz7_1
  try clear hcz7_2
  try clear hfz11_0
  try clear hfz11_1
  try clear hfz11_2
  try clear hfz12_0
  try clear hfz12_1
  try clear hfz12_2
  try clear hfz7_0
  try clear hfz7_1
  try clear hfz7_2
  obtain ⟨x20_1, x153002_1, u153002, rfl, HA, HK1, HO_153002, BK150, BK151, BK152, HB⟩ := hrel
  cases gk with
  | zero => exact absurd HA.out (by simp [spec_boStrike.l0])
  | succ k1 =>
   have H := HA.out
   clear HA
   simp only [spec_boStrike.l0] at H
   by_cases c13 : x20_1 < (l0_2.length : Int)
   ·
    rw [if_pos c13] at H
    have c13b0 := decide_eq_true c13
    clear c13
    by_cases c14 : 0 ≤ x20_1
    ·
     rw [if_pos c14] at H
     have c14b0 := decide_eq_true c14
     clear c14
     by_cases c15 : x20_1 < (l0_2.length : Int)
     ·
      rw [if_pos c15] at H
      have c15b0 := decide_eq_true c15
      clear c15
      by_cases c16 : x20_1 = a1
      ·
       rw [if_pos c16] at H
       have c16b0 : (x20_1 == a1) = true := beq_iff_eq.mpr c16
       have c16b1 : (x20_1 != a1) = false := bne_eq_false_iff_eq.mpr c16
       clear c16
       have H' := A_ H
       clear H
       have p153 : 0 ≤ (x20_1 : Int) := od_
       have q153 : x20_1 < (l0_2.length : Int) := od_
       obtain ⟨ad153, e153, hx153_0⟩ := Kd.at_int HR0_2.out x20_1 p153 q153
       cases e153
       (try replace hx153_0 := (HB.out.cell (World.block_lt_of_cell? w _ hx153_0)).trans hx153_0)
       replace p153 := eq_true p153
       replace q153 := eq_true q153
       go_wp2
       go_roundg k1
       case measure => have := HK1.out; omega
       case rel => exact ⟨(wrap64 (x20_1 + 1)), (x153002_1), (u153002), tf_, H', ⟨by have := HK1.out; omega⟩, ⟨tr_x HO_153002.out⟩, ⟨tk_ BK150⟩, ⟨tk_ BK151⟩, ⟨tk_ BK152⟩, ⟨tb_⟩⟩
      ·
       rw [if_neg c16] at H
       have c16b0 : (x20_1 == a1) = false := beq_eq_false_iff_ne.mpr c16
       have c16b1 : (x20_1 != a1) = true := bne_iff_ne.mpr c16
       by_cases c17 : 0 ≤ a2
       ·
        rw [if_pos c17] at H
        have c17b0 := eq_true c17
        have c17b1 := decide_eq_true c17
        clear c17
        obtain ⟨ji18, hji18⟩ : ∃ j_ : Int, (shl .i64 1 a2) = j_ := ⟨_, rfl⟩
        replace H : (if 0 ≤ (wrap64 (a2 + 1)) then (if x153002_1.length < 17592186044416 then (spec_boStrike.l0 k1 a1 a2 l0_2 (l0_2.length : Int) (wrap64 (x20_1 + 1)) (wrap64 (a0_0 - 1)) (wrap64 (a0_1 - 1)) (x153002_1 ++ [Go.bits .or .i64 (Go.bits .and .i64 (rd l0_2 x20_1) (wrap64 ((ji18) - 1))) (shl .i64 (shr .i64 (rd l0_2 x20_1) (wrap64 (a2 + 1))) a2)])) else (none)) else (none)) = some (r1, r2, r3) := by first | (rw [hji18] at H; exact H) | (simp only [hji18] at H ⊢; exact H)
        have hji18_ : (IntKind.i64.wrap (1 * 2 ^ min a2.toNat 64)) = ji18 := hji18
        have hji18z : a2 ≤ 64 → (IntKind.i64.wrap (1 * 2 ^ a2.toNat)) = ji18 := shl_small hji18
        have hji18u : (IntKind.i64.wrap (2 ^ min a2.toNat 64)) = ji18 := by have h_ := hji18_; rw [Int.one_mul] at h_; exact h_
        have hji18v : a2 ≤ 64 → (IntKind.i64.wrap (2 ^ a2.toNat)) = ji18 := fun hle_ => by have h_ := hji18z hle_; rw [Int.one_mul] at h_; exact h_
        have hji18y : (wrap64 (1 * 2 ^ min a2.toNat 64)) = ji18 := (i64_w _).symm.trans hji18_
        have hji18x : a2 ≤ 64 → (wrap64 (1 * 2 ^ a2.toNat)) = ji18 := fun h_ => (i64_w _).symm.trans (hji18z h_)
        obtain ⟨ji19, hji19⟩ : ∃ j_ : Int, (wrap64 (a2 + 1)) = j_ := ⟨_, rfl⟩
        replace H : (if 0 ≤ (ji19) then (if x153002_1.length < 17592186044416 then (spec_boStrike.l0 k1 a1 a2 l0_2 (l0_2.length : Int) (wrap64 (x20_1 + 1)) (wrap64 (a0_0 - 1)) (wrap64 (a0_1 - 1)) (x153002_1 ++ [Go.bits .or .i64 (Go.bits .and .i64 (rd l0_2 x20_1) (wrap64 ((ji18) - 1))) (shl .i64 (shr .i64 (rd l0_2 x20_1) (ji19)) a2)])) else (none)) else (none)) = some (r1, r2, r3) := by first | (rw [hji19] at H; exact H) | (simp only [hji19] at H ⊢; exact H)
        have hji19w : (IntKind.i64.wrap (a2 + 1)) = ji19 := (i64_w _).trans hji19
        by_cases c20 : 0 ≤ (ji19)
        ·
         rw [if_pos c20] at H
         have c20b0 := eq_true c20
         have c20b1 := decide_eq_true c20
         clear c20
         obtain ⟨ji21, hji21⟩ : ∃ j_ : Int, (shr .i64 (rd l0_2 x20_1) (ji19)) = j_ := ⟨_, rfl⟩
         replace H : (if x153002_1.length < 17592186044416 then (spec_boStrike.l0 k1 a1 a2 l0_2 (l0_2.length : Int) (wrap64 (x20_1 + 1)) (wrap64 (a0_0 - 1)) (wrap64 (a0_1 - 1)) (x153002_1 ++ [Go.bits .or .i64 (Go.bits .and .i64 (rd l0_2 x20_1) (wrap64 ((ji18) - 1))) (shl .i64 (ji21) a2)])) else (none)) = some (r1, r2, r3) := by first | (rw [hji21] at H; exact H) | (simp only [hji21] at H ⊢; exact H)
         have hji21_ : ((rd l0_2 x20_1) / 2 ^ min (ji19).toNat 64) = ji21 := hji21
         have hji21z : (ji19) ≤ 64 → ((rd l0_2 x20_1) / 2 ^ (ji19).toNat) = ji21 := shr_small hji21
         have c22b0 := eq_true (od_ : 0 ≤ a2)
         obtain ⟨ji23, hji23⟩ : ∃ j_ : Int, (shl .i64 (ji21) a2) = j_ := ⟨_, rfl⟩
         replace H : (if x153002_1.length < 17592186044416 then (spec_boStrike.l0 k1 a1 a2 l0_2 (l0_2.length : Int) (wrap64 (x20_1 + 1)) (wrap64 (a0_0 - 1)) (wrap64 (a0_1 - 1)) (x153002_1 ++ [Go.bits .or .i64 (Go.bits .and .i64 (rd l0_2 x20_1) (wrap64 ((ji18) - 1))) (ji23)])) else (none)) = some (r1, r2, r3) := by first | (rw [hji23] at H; exact H) | (simp only [hji23] at H ⊢; exact H)
         have hji23_ : (IntKind.i64.wrap ((ji21) * 2 ^ min a2.toNat 64)) = ji23 := hji23
         have hji23z : a2 ≤ 64 → (IntKind.i64.wrap ((ji21) * 2 ^ a2.toNat)) = ji23 := shl_small hji23
         have hji23y : (wrap64 ((ji21) * 2 ^ min a2.toNat 64)) = ji23 := (i64_w _).symm.trans hji23_
         have hji23x : a2 ≤ 64 → (wrap64 ((ji21) * 2 ^ a2.toNat)) = ji23 := fun h_ => (i64_w _).symm.trans (hji23z h_)
         by_cases c24 : x153002_1.length < 17592186044416
         ·
          rw [if_pos c24] at H
          have LMc24 := A_ c24
          clear c24
          obtain ⟨y154, hy154⟩ : ∃ y_ : List Int, y_ = (x153002_1 ++ [Go.bits .or .i64 (Go.bits .and .i64 (rd l0_2 x20_1) (wrap64 ((ji18) - 1))) (ji23)]) := ⟨_, rfl⟩
          replace H : (spec_boStrike.l0 k1 a1 a2 l0_2 (l0_2.length : Int) (wrap64 (x20_1 + 1)) (wrap64 (a0_0 - 1)) (wrap64 (a0_1 - 1)) y154) = some (r1, r2, r3) := ty_ hy154 H
          have Ny154 := A_ hy154
          clear hy154
          have H' := A_ H
          clear H
          have p153 : 0 ≤ (x20_1 : Int) := od_
          have q153 : x20_1 < (l0_2.length : Int) := od_
          obtain ⟨ad153, e153, hx153_0⟩ := Kd.at_int HR0_2.out x20_1 p153 q153
          cases e153
          (try replace hx153_0 := (HB.out.cell (World.block_lt_of_cell? w _ hx153_0)).trans hx153_0)
          replace p153 := eq_true p153
          replace q153 := eq_true q153
          try go_wp2
          have n0_ := A_ (Kd.R_drew HO_153002.out)
          have n1_ := A_ (blk_drew BK150.out)
          have n2_ := A_ (blk_drew BK151.out)
          have n3_ := A_ (blk_drew BK152.out)
          have n4_ := A_ (below_drew1 HB.out)
          clear HO_153002
          clear BK150
          clear BK151
          clear BK152
          clear HB
          have HO_153002 := n0_
          have BK150 := n1_
          have BK151 := n2_
          have BK152 := n3_
          have HB := n4_
          clear n0_ n1_ n2_ n3_ n4_
          refine start_ (n := 18) (S := fun w' => w'.cell? ⟨gb152, 0, none⟩ = some (.int .i64 (wrap64 (a0_0 - 1))) ∧ w'.cell? ⟨gb152, 1, none⟩ = some (.int .i64 (wrap64 (a0_1 - 1))) ∧ w'.cell? ⟨gb152, 2, none⟩ = some (u153002)) (ds := [17]) (Fn.bl 18 0) (by kernel_rfl) rfl rfl ⟨(blk_cell BK152.out 0).trans rfl, (blk_cell BK152.out 1).trans rfl, (blk_cell BK152.out 2).trans rfl⟩ (fun hHeld => ?_); refine with_tabW spec_boStrike.tab6 spec_boStrike.bits6 (fun HT_ HW_ => ?_)
          generalize wr.drew = w25 at HO_153002 BK150 BK151 BK152 HB hHeld ⊢
          refine pq_ 0 (some 28) (Fn.bl 18 1) HT_.out ?_
          refine pq_ 2 (some 30) (Fn.bl 18 5) HT_.out ?_
          refine pq_ 3 (some 31) (Fn.bl 18 13) HT_.out ?_
          refine pq_ 4 (some 32) (Fn.bl 18 29) HT_.out ?_
          refine pq_ 5 (some 33) (Fn.bl 18 61) HT_.out ?_
          refine pq_ 6 (some 34) (Fn.bl 18 125) HT_.out ?_
          refine pq_ 7 (some 35) (Fn.bl 18 253) HT_.out ?_
          refine pq_ 8 (some 36) (Fn.bl 18 509) HT_.out ?_
          refine pq_ 9 (some 37) (Fn.bl 18 1021) HT_.out ?_
          refine pq_ 10 (some 38) (Fn.bl 18 2045) HT_.out ?_
          refine pq_ 11 (some 39) (Fn.bl 18 4093) HT_.out ?_
          refine pq_ 12 (some 40) (Fn.bl 18 8189) HT_.out ?_
          refine pq_ 13 (some 41) (Fn.bl 18 16381) HT_.out ?_
          refine tq_ 1 (some 29) (Fn.bl 18 16383) HT_.out HW_.out hHeld ?_ (hy0 := by rintro w' ⟨s0, s1, s2⟩; go_simp; with_reducible rfl)
          refine one_ (i := 14) (N := some 42) (Fn.bl 18 32767) rfl rfl (one_of HT_.out (by kernel_rfl)) (by decide) (fun K hK => ?_)
          refine value_ (w1 := ?_) (v := ?_) (by rfl) rfl ?_ ?_
          rotate_left 2
          ·
           go_simp
           constructor
           ·
            rfl
           ·
            rfl
          refine hK.out _ _ ⟨(blk_cell (blk_alloc BK152.out _) 0).trans rfl, (blk_cell (blk_alloc BK152.out _) 1).trans rfl, (blk_cell (blk_alloc BK152.out _) 2).trans rfl⟩ (fun hHeld => ?_)
          clear hK K
          refine norm_ (a' := ?_) ?_ ?_
          rotate_left
          ·
           show Act.put _ (some 42) _ = _
           simp only [Act.put, List.setIfInBounds_toArray, List.set_cons_zero, List.set_cons_succ, i64_w, i32_w]
           rfl
          refine one_ (i := 15) (N := some 43) (Fn.bl 18 65535) rfl rfl (one_of HT_.out (by kernel_rfl)) (by decide) (fun K hK => ?_)
          refine Kd.R_append_step (Kd.int .i64) (w0 := w) w.heap.size (by rfl) (.tmp 29) (.tmp 42) 22 3 (.int .i64 0) 8 rfl Try.underlying22 info3 rfl (by decide) (by omega) u153002 x153002_1 (Go.bits .or .i64 (Go.bits .and .i64 (rd l0_2 x20_1) (wrap64 ((ji18) - 1))) (ji23)) [.int .i64 (Go.bits .or .i64 (Go.bits .and .i64 (rd l0_2 x20_1) (wrap64 ((ji18) - 1))) (ji23))] (fun _ => True) (fun _ => False) rfl rfl ?aP (fun _ hk => hk.elim) ?aF ?aO ?aB ?aS ?aL ?_
          (case aP => exact rfl)
          (case aB => exact tb_)
          (case aF => exact (fun _ _ => trivial))
          (case aO => exact (tr_x HO_153002.out))
          (case aS => exact (below_size tb_))
          (case aL => have := LMc24.out; omega)
          intro v155 w26 ho hb hg hat
          rw [← Ny154.out] at ho
          have n0_ := A_ (blk_grown (g := gb150) (o := .cells #[.int .i64 a0_0, .int .i64 a0_1, .slice (some ad153) l0_2.length c0_2] 28 (0, 0)) (tk_ BK150) hg (Kd.R_ne HO_153002.out BK150.out (by decide)))
          have n1_ := A_ (blk_grown (g := gb151) (o := .cells #[.int .i64 0, .int .i64 0, .slice none 0 0] 28 (0, 0)) (tk_ BK151) hg (Kd.R_ne HO_153002.out BK151.out (by decide)))
          have n2_ := A_ (blk_grown (g := gb152) (o := .cells #[.int .i64 (wrap64 (a0_0 - 1)), .int .i64 (wrap64 (a0_1 - 1)), u153002] 28 (0, 0)) (tk_ BK152) hg (Kd.R_ne HO_153002.out BK152.out (by decide)))
          have n3_ := A_ (hb)
          have n4_ := A_ (ho)
          clear BK150
          clear BK151
          clear BK152
          clear HB
          clear HO_153002
          have BK150 := n0_
          have BK151 := n1_
          have BK152 := n2_
          have HB := n3_
          have HO156 := n4_
          clear n0_ n1_ n2_ n3_ n4_
          clear ho hb hg hat
          obtain ⟨Ao27, co27, eo27⟩ := Kd.R_slice HO156.out
          (first | subst eo27 | (injection eo27 with f1_ f2_ f3_; have f4_ := f1_.symm; have f5_ := f3_.symm; clear f1_ f2_ f3_; subst f4_; subst f5_))
          refine hK.out _ _ ⟨(blk_cell BK152.out 0).trans rfl, (blk_cell BK152.out 1).trans rfl, (blk_cell BK152.out 2).trans rfl⟩ (fun hHeld => ?_)
          clear hK K
          refine norm_ (a' := ?_) ?_ ?_
          rotate_left
          ·
           show Act.put _ (some 43) _ = _
           simp only [Act.put, List.setIfInBounds_toArray, List.set_cons_zero, List.set_cons_succ, i64_w, i32_w]
           rfl
          refine pq_ 16 (some 44) (Fn.bl 18 131071) HT_.out ?_
          refine last_ (i := 17) (N := none) (Fn.bl 18 262143) rfl rfl (one_of HT_.out (by kernel_rfl)) (by decide) (fun K hK => ?_)
          have hs28 : w26.cell? ⟨gb152, 2, none⟩ = some (u153002) := (blk_cell BK152.out 2).trans rfl
          have hfs28 := blk_frozen BK152.out 2
          have hns28_0 := NB150_152.out
          have hns28_1 := NB151_152.out
          have hms28_0 := NB152_150.out
          have hms28_1 := NB152_151.out
          refine skip_ (w1 := ?_) (by rfl) rfl ?_ ?_
          rotate_left
          ·
           go_simp
           rfl
          refine hK.out _ _ ?_
          clear hK K
          refine done_ (done_of HT_.out (by kernel_rfl)) ?_
          try go_wp2
          go_roundg k1
          case measure => have := HK1.out; omega
          case rel => exact ⟨(wrap64 (x20_1 + 1)), (y154), (.slice Ao27 y154.length co27), tf_, H', ⟨by have := HK1.out; omega⟩, ⟨by (with_reducible repeat (first | apply Kd.R_alloc | apply Kd.R_drewN | apply Kd.R_drew)); exact Kd.R_mono (Kd.R_far (p := ⟨gb152, 2, none⟩) (Kd.R_types HO156.out BK152.out (by decide)) (fun _ hk => hk.2) (.slice Ao27 y154.length co27)) (fun _ hk => trivial)⟩, ⟨tk_ BK150⟩, ⟨tk_ BK151⟩, ⟨by (with_reducible repeat (first | refine blk_drewN ?_ _ | refine blk_drew ?_ | refine blk_alloc ?_ _)); refine blk_put (cs := #[.int .i64 (wrap64 (a0_0 - 1)), .int .i64 (wrap64 (a0_1 - 1)), u153002]) ?_ 2 _ rfl; (with_reducible repeat (first | refine blk_drewN ?_ _ | refine blk_drew ?_ | refine blk_alloc ?_ _)); exact BK152.out⟩, ⟨tb_⟩⟩
         ·
          rw [if_neg c24] at H
          exact absurd H (by simp)
        ·
         rw [if_neg c20] at H
         exact absurd H (by simp)
       ·
        rw [if_neg c17] at H
        exact absurd H (by simp)
     ·
      rw [if_neg c15] at H
      exact absurd H (by simp)
    ·
     rw [if_neg c14] at H
     exact absurd H (by simp)
   ·
    rw [if_neg c13] at H
    have c13b0 := decide_eq_false c13
    clear c13
    simp only [Option.some.injEq, Prod.mk.injEq] at H
    obtain ⟨rfl, rfl, rfl⟩ := H
    have hnb29 := NB152_150.out
    have hnc29 := NB150_152.out
    have hnb30 := NB152_151.out
    have hnc30 := NB151_152.out
    obtain ⟨hcz31_0, hcz31_1, hcz31_2, hfz31_0, hfz31_1, hfz31_2⟩ := cf3_ BK152.out
    have hnb32 := NB151_150.out
    have hnc32 := NB150_151.out
    obtain ⟨hcz33_0, hcz33_1, hcz33_2, hfz33_0, hfz33_1, hfz33_2⟩ := cf3_ BK151.out
    obtain ⟨Ao34, co34, eo34⟩ := Kd.R_slice HO_153002.out
    subst eo34
    go_wp2
    refine bodyPost_ret (results_cell_row rfl _ _ gb151 28 #[.int .i64 (wrap64 (a0_0 - 1)), .int .i64 (wrap64 (a0_1 - 1)), .slice Ao34 x153002_1.length co34] (0, 0) _ rfl (by (with_reducible repeat (first | refine blk_drewN ?_ _ | refine blk_drew ?_ | refine blk_alloc ?_ _)); refine blk_put (cs := #[.int .i64 (wrap64 (a0_0 - 1)), .int .i64 (wrap64 (a0_1 - 1)), .slice none 0 0]) ?_ 2 _ rfl; (with_reducible repeat (first | refine blk_drewN ?_ _ | refine blk_drew ?_ | refine blk_alloc ?_ _)); refine blk_put (cs := #[.int .i64 (wrap64 (a0_0 - 1)), .int .i64 0, .slice none 0 0]) ?_ 1 _ rfl; (with_reducible repeat (first | refine blk_drewN ?_ _ | refine blk_drew ?_ | refine blk_alloc ?_ _)); refine blk_put (cs := #[.int .i64 0, .int .i64 0, .slice none 0 0]) ?_ 0 _ rfl; (with_reducible repeat (first | refine blk_drewN ?_ _ | refine blk_drew ?_ | refine blk_alloc ?_ _)); exact BK151.out) Try.underlying28 rfl (by kernel_rfl)) rfl ?_
    exact ⟨_, te_, by (with_reducible repeat (first | apply Kd.R_alloc | apply Kd.R_drewN | apply Kd.R_drew)); exact Kd.R_mono (Kd.R_far (p := ⟨gb151, 2, none⟩) (Kd.R_far (p := ⟨gb151, 1, none⟩) (Kd.R_far (p := ⟨gb151, 0, none⟩) (Kd.R_types HO_153002.out BK151.out (by decide)) (fun _ hk => hk.2) (.int .i64 (wrap64 (a0_0 - 1)))) (fun _ hk => hk.2) (.int .i64 (wrap64 (a0_1 - 1)))) (fun _ hk => hk.2) (.slice Ao34 x153002_1.length co34)) (fun _ hk => trivial), tb_⟩

end
end Go.Proofs.Ytnpacpdpgngdpaa.P
