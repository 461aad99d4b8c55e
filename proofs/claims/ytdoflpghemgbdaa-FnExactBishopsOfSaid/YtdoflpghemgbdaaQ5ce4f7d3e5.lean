-- printed functions (wip/slim.py)
import Derived.Test.YtdoflpghemgbdaaPx0
import Derived.Test.YtdoflpghemgbdaaSr
import Derived.Test.YtdoflpghemgbdaaQ06f4a11cba
import Derived.Test.YtdoflpghemgbdaaQae02657195
import Derived.Test.YtdoflpghemgbdaaQb36bb1925b
namespace Go.Proofs.Ytdoflpghemgbdaa.P
noncomputable section
set_option maxHeartbeats 8000000
set_option maxRecDepth 100000
open Go.RowKit Go.Proofs.YtdoflpghemgbdaaW.PrintWords Go.Proofs.YtdoflpghemgbdaaW.PrintLast Go.Proofs.YtdoflpghemgbdaaW.PrintMore
attribute [local go_sem] max2_int min2_int max_two min_two max_three min_three max_four min_four   -- for this text's walks alone
set_option linter.unusedVariables false
set_option linter.unusedSimpArgs false

/-! ### impl_BishopsOf: function 67 -/
mutual
def impl_BishopsOf.j0 : Nat → Int → List Int → Bool → Int → Int → List Int → Option ((List (List Int)) × Bool)
 | 0, _, _, _, _, _, _ => none
 | k + 1, x1, x2, x31, x584000, x584001, x584002 => if x31 = true then (some (([] : List (List Int)), false)) else ((impl_Board_diagonals.f k x584000 x584001 x584002 x1).bind fun bt592 => (impl_BishopsOf.l0 k bt592.1 bt592.2 (([] : List (List Int))) x2 (x2.length : Int) 0 x584000 x584001 x584002))
def impl_BishopsOf.l0 : Nat → List Int → List Int → List (List Int) → List Int → Int → Int → Int → Int → List Int → Option ((List (List Int)) × Bool)
 | 0, _, _, _, _, _, _, _, _, _ => none
 | k + 1, x10, x11, x12, x39, x40, x41, x584000, x584001, x584002 => if x41 < x40 then (if 0 ≤ x41 then (if x41 < (x39.length : Int) then (if (rd x39 x41) = (-1) then (impl_BishopsOf.l0 k x10 x11 x12 x39 x40 (wrap64 (x41 + 1)) x584000 x584001 x584002) else (if x41 < (x10.length : Int) then (if 0 ≤ (rd x39 x41) then (if (rd x39 x41) < (x11.length : Int) then ((impl_Board_crossing.f x584000 x584001 x584002 (rd x10 x41) (rd x11 (rd x39 x41))).bind fun bt604 => (if x12.length < 5864062014805 then (impl_BishopsOf.l0 k x10 x11 (x12 ++ [(([bt604.1, bt604.2.1] : List Int))]) x39 x40 (wrap64 (x41 + 1)) x584000 x584001 x584002) else (none))) else (none)) else (none)) else (none))) else (none)) else (none)) else (some (x12, true))
end
def impl_BishopsOf.f0 (k : Nat) (a0_0 : Int) (a0_1 : Int) (l0_2 : List Int) (a1 : Int) (l2 : List Int) : Option ((List (List Int)) × Bool) := (impl_ColourBoard.f k a0_0 a0_1 l0_2 a1).bind fun bt584 => (if bt584.2.2.2 = true then ((impl_Board_isPlacement.f k bt584.1 bt584.2.1 bt584.2.2.1 l2).bind fun t591 => (impl_BishopsOf.j0 k a1 l2 (!t591) a0_0 a0_1 l0_2)) else (impl_BishopsOf.j0 k a1 l2 true a0_0 a0_1 l0_2))
theorem impl_BishopsOf.mono_l : ∀ k, (∀ y0 y1 y2 y3 y4 y5, LeO (impl_BishopsOf.j0 k y0 y1 y2 y3 y4 y5) (impl_BishopsOf.j0 (k + 1) y0 y1 y2 y3 y4 y5)) ∧ (∀ y0 y1 y2 y3 y4 y5 y6 y7 y8, LeO (impl_BishopsOf.l0 k y0 y1 y2 y3 y4 y5 y6 y7 y8) (impl_BishopsOf.l0 (k + 1) y0 y1 y2 y3 y4 y5 y6 y7 y8))
 | 0 => ⟨fun _ _ _ _ _ _ r h => by simp [impl_BishopsOf.j0] at h, fun _ _ _ _ _ _ _ _ _ r h => by simp [impl_BishopsOf.l0] at h⟩
 | k + 1 => by
  obtain ⟨ih0, ih1⟩ := impl_BishopsOf.mono_l k
  refine ⟨?_, ?_⟩
  ·
   intro y0 y1 y2 y3 y4 y5
   unfold impl_BishopsOf.j0
   repeat' first | (with_reducible first | exact ih0 _ _ _ _ _ _ | exact ih1 _ _ _ _ _ _ _ _ _ | exact impl_Board_diagonals.mono _ _ _ _ _ | exact impl_Board_isPlacement.mono _ _ _ _ _ | exact impl_ColourBoard.mono _ _ _ _ _ | exact LeO.refl _ | exact LeO.none _ | refine LeO.ite ?_ ?_ | refine LeO.bind ?_ (fun _ => ?_)) | exact ih0 _ _ _ _ _ _ | exact ih1 _ _ _ _ _ _ _ _ _ | exact impl_Board_diagonals.mono _ _ _ _ _ | exact impl_Board_isPlacement.mono _ _ _ _ _ | exact impl_ColourBoard.mono _ _ _ _ _ | exact LeO.none _ | refine LeO.ite ?_ ?_ | refine LeO.bind ?_ (fun _ => ?_)
  ·
   intro y0 y1 y2 y3 y4 y5 y6 y7 y8
   unfold impl_BishopsOf.l0
   repeat' first | (with_reducible first | exact ih0 _ _ _ _ _ _ | exact ih1 _ _ _ _ _ _ _ _ _ | exact impl_Board_diagonals.mono _ _ _ _ _ | exact impl_Board_isPlacement.mono _ _ _ _ _ | exact impl_ColourBoard.mono _ _ _ _ _ | exact LeO.refl _ | exact LeO.none _ | refine LeO.ite ?_ ?_ | refine LeO.bind ?_ (fun _ => ?_)) | exact ih0 _ _ _ _ _ _ | exact ih1 _ _ _ _ _ _ _ _ _ | exact impl_Board_diagonals.mono _ _ _ _ _ | exact impl_Board_isPlacement.mono _ _ _ _ _ | exact impl_ColourBoard.mono _ _ _ _ _ | exact LeO.none _ | refine LeO.ite ?_ ?_ | refine LeO.bind ?_ (fun _ => ?_)
theorem impl_BishopsOf.mono0 : ∀ a0 a1 a2 a3 a4 k, LeO (impl_BishopsOf.f0 k a0 a1 a2 a3 a4) (impl_BishopsOf.f0 (k + 1) a0 a1 a2 a3 a4) := by
 intro a0 a1 a2 a3 a4 k
 obtain ⟨ih0, ih1⟩ := impl_BishopsOf.mono_l k
 unfold impl_BishopsOf.f0
 repeat' first | (with_reducible first | exact ih0 _ _ _ _ _ _ | exact ih1 _ _ _ _ _ _ _ _ _ | exact impl_Board_diagonals.mono _ _ _ _ _ | exact impl_Board_isPlacement.mono _ _ _ _ _ | exact impl_ColourBoard.mono _ _ _ _ _ | exact LeO.refl _ | exact LeO.none _ | refine LeO.ite ?_ ?_ | refine LeO.bind ?_ (fun _ => ?_)) | exact ih0 _ _ _ _ _ _ | exact ih1 _ _ _ _ _ _ _ _ _ | exact impl_Board_diagonals.mono _ _ _ _ _ | exact impl_Board_isPlacement.mono _ _ _ _ _ | exact impl_ColourBoard.mono _ _ _ _ _ | exact LeO.none _ | refine LeO.ite ?_ ?_ | refine LeO.bind ?_ (fun _ => ?_)
def impl_BishopsOf.T10 : Bool × List (List Nat × List Nat) := (true, [([], []), ([], []), ([], []), ([1, 2], [1, 2]), ([3], [3]), ([], []), ([], []), ([5, 6], [5, 6]), ([7], [7]), ([0, 4, 8], [0, 4, 8]), ([9], [9]), ([10], [10]), ([10], [10]), ([10], [10]), ([11, 9, 0, 1, 2, 3, 4, 5, 6, 7, 8, 9, 10, 11], [11]), ([12, 14, 0, 1, 2, 3, 4, 5, 6, 7, 8, 9, 10, 11, 12, 14], [12]), ([13, 15, 0, 1, 2, 3, 4, 5, 6, 7, 8, 9, 10, 11, 12, 13, 14, 15], [13])])
def impl_BishopsOf.B10 : List Nat := [0, 0, 0, 6, 14, 0, 0, 96, 224, 511, 1023, 2047, 2047, 2047, 4095, 24575, 65535]
theorem impl_BishopsOf.tab10 : rtab .any (opsOf Try.f67 10) = impl_BishopsOf.T10 := by kernel_rfl
theorem impl_BishopsOf.bits10 : waitsOk impl_BishopsOf.T10.2 impl_BishopsOf.B10 = true := by kernel_rfl
/-- The rows are few, and the comparison says of each two what a comparison of rows says. -/
def impl_BishopsOf.okR (k : Nat) (rs : List (List Int)) : Prop := rs.length ≤ 1000 ∧ slices_Compare_int_int.f k [] [] = some 0 ∧ ∀ x ∈ rs, ∀ y ∈ rs, slices_Compare_int_int.f k x y = some (Go.Proofs.YtdoflpghemgbdaaW.Sr.cmpR x y)
open Classical in
def impl_BishopsOf.f (k : Nat) (a0_0 : Int) (a0_1 : Int) (l0_2 : List Int) (a1 : Int) (l2 : List Int) : Option (List (List Int) × Bool) := (impl_BishopsOf.f0 k a0_0 a0_1 l0_2 a1 l2).bind fun t => if impl_BishopsOf.okR k t.1 then some (Go.Proofs.YtdoflpghemgbdaaW.Sr.sortR t.1, t.2) else none
theorem impl_BishopsOf.mono : ∀ a0 a1 a2 a3 a4 k, LeO (impl_BishopsOf.f k a0 a1 a2 a3 a4) (impl_BishopsOf.f (k + 1) a0 a1 a2 a3 a4) := by
  intro a0 a1 a2 a3 a4 k
  unfold impl_BishopsOf.f
  refine LeO.bind (impl_BishopsOf.mono0 _ _ _ _ _ _) (fun t => ?_)
  intro r h
  by_cases hok : impl_BishopsOf.okR k t.1
  · rw [if_pos hok] at h
    rw [if_pos ⟨hok.1, slices_Compare_int_int.mono _ _ _ _ hok.2.1, fun x hx y hy => slices_Compare_int_int.mono _ _ _ _ (hok.2.2 x hx y hy)⟩]
    exact h
  · rw [if_neg hok] at h
    exact absurd h (by simp)
theorem impl_BishopsOf.sorts {k : Nat} {rs : List (List Int)} (hok : impl_BishopsOf.okR k rs) {w W : World} {v : Value} (h : Kd.S (Kd.slice 3 (Kd.int .i64)) 24 W w.heap.size (fun _ => True) v rs) (hv : ∃ b, v.ownBlock = some b) (hB : Below w.heap.size w W) :
    Calls Try.prog 141 #[v, .func (.func 142) #[] #[]] W fun e w' => e = .returned (.tuple #[]) ∧ Kd.S (Kd.slice 3 (Kd.int .i64)) 24 w' w.heap.size (fun _ => True) v (Go.Proofs.YtdoflpghemgbdaaW.Sr.sortR rs) ∧ Below w.heap.size w w' := by
  have eg : ∀ args w, (callFunc 142 args).run Try.prog w = .ok (.enter 142 args) w := enters_of Try.func142 (by kernel_rfl) rfl
  have hSF := fun (enc : Nat → Value) (h1 : OneCell enc) (cf : Nat → Nat → Int) (hO : Go.Sort.SWO (ltOf cf)) (blk cap : Nat) (d : Array Nat) (w : World) (hc : CmpLays1 Try.prog 142 #[] enc cf blk 0 d.size w) (hH : Go.Sort.Holds enc w blk 0 d) (hb : blk < w.heap.size) (hs : d.size < 4611686018427387904) => Go.Proofs.Try.slices_SortFunc enc h1 cf hO 142 #[] blk 0 cap d w eg hc hH hb hs
  by_cases hn : 0 < rs.length
  · refine (Go.Proofs.YtdoflpghemgbdaaW.Sr.S_sorted hSF (d := Kd.slice 3 (Kd.int .i64)) rfl Go.Proofs.YtdoflpghemgbdaaW.Sr.cmpR Go.Proofs.YtdoflpghemgbdaaW.Sr.lex_ord [] h hn (by have := hok.1; omega) (fun W x y u u2 hx hy k1 k2 => ?_)).mono ?_
    · obtain ⟨A1, c1, e1, l1, r1⟩ := k1
      obtain ⟨A2, c2, e2, l2, r2⟩ := k2
      obtain rfl := List.singleton_inj.1 e1
      obtain rfl := List.singleton_inj.1 e2
      refine (slices_Compare_int_int.calls k A1 c1 x A2 c2 y _ W r1 l1 r2 l2 (hok.2.2 x hx y hy)).mono ?_
      rintro e w' ⟨rfl, ⟨n, rfl⟩⟩
      exact ⟨rfl, n, #[], by rw [Go.Sort.grow_empty]⟩
    · rintro e w' ⟨rfl, ys, hp, hpw, hS, hb⟩
      rw [Go.Proofs.YtdoflpghemgbdaaW.Sr.sorted_eq ys (Go.Proofs.YtdoflpghemgbdaaW.Sr.sortR rs) (hpw.imp (fun h => h)) (Go.Proofs.YtdoflpghemgbdaaW.Sr.sortR_sorted rs) (hp.trans (Go.Proofs.YtdoflpghemgbdaaW.Sr.sortR_perm rs).symm)] at hS
      exact ⟨rfl, hS, hb _ _ (Nat.le_refl _) hB⟩
  · obtain rfl : rs = [] := List.length_eq_zero_iff.1 (by omega)
    refine (Go.Proofs.YtdoflpghemgbdaaW.Sr.S_none hSF h hv (fun W1 => ?_)).mono ?_
    · refine (slices_Compare_int_int.calls k none 0 [] none 0 [] 0 W1 (Kd.C_nil _ _) (Nat.le_refl _) (Kd.C_nil _ _) (Nat.le_refl _) hok.2.1).mono ?_
      rintro e w' ⟨rfl, ⟨n, rfl⟩⟩
      exact ⟨rfl, n, #[], by rw [Go.Sort.grow_empty]⟩
    · rintro e w' ⟨rfl, hS, hb2⟩
      exact ⟨rfl, hS, hb2 _ _ (Nat.le_refl _) hB⟩
theorem impl_BishopsOf.calls0 (ko k : Nat) (a0_0 : Int) (a0_1 : Int) (A0_2 : Option Addr) (c0_2 : Nat) (l0_2 : List Int) (a1 : Int) (A2 : Option Addr) (c2 : Nat) (l2 : List Int) (r1 : List (List Int)) (r2 : Bool) (w : World) (hr0_2 : Kd.C (Kd.int .i64) w A0_2 l0_2.length l0_2) (hc0_2 : l0_2.length ≤ c0_2) (hr2 : Kd.C (Kd.int .i64) w A2 l2.length l2) (hc2 : l2.length ≤ c2) (hok : impl_BishopsOf.okR ko r1) (h : impl_BishopsOf.f0 k a0_0 a0_1 l0_2 a1 l2 = some (r1, r2)) :
  Calls Try.prog 67 #[.agg #[.int .i64 a0_0, .int .i64 a0_1, .slice A0_2 l0_2.length c0_2], .int .i64 a1, .slice A2 l2.length c2] w fun e w' => ∃ v0_ : Value, e = .returned (.tuple #[v0_, .bool r2]) ∧ Kd.S (Kd.slice 3 (Kd.int .i64)) 24 w' w.heap.size (fun _ => True) v0_ (Go.Proofs.YtdoflpghemgbdaaW.Sr.sortR r1) ∧ Below w.heap.size w w' := by
 have hu26 := Try.underlying26
 have HR0_2 := A_ hr0_2
 have HC0_2 := A_ hc0_2
 clear hr0_2 hc0_2
 have HR2 := A_ hr2
 have HC2 := A_ hc2
 clear hr2 hc2
 have HB := A_ (Below.refl w.heap.size w)
 have HSO := A_ (fun (W : World) (v : Value) => impl_BishopsOf.sorts (w := w) (W := W) (v := v) hok)
 clear hok
 have H : ((impl_ColourBoard.f k a0_0 a0_1 l0_2 a1).bind fun bt584 => (if bt584.2.2.2 = true then ((impl_Board_isPlacement.f k bt584.1 bt584.2.1 bt584.2.2.1 l2).bind fun t591 => (impl_BishopsOf.j0 k a1 l2 (!t591) a0_0 a0_1 l0_2)) else (impl_BishopsOf.j0 k a1 l2 true a0_0 a0_1 l0_2))) = some (r1, r2) := h
 clear h
 replace H := Option.bind_eq_some_iff.mp H
 obtain ⟨⟨t584, t585, t586, t589⟩, A40, H⟩ := H
 replace H : (if t589 = true then ((impl_Board_isPlacement.f k t584 t585 t586 l2).bind fun t591 => (impl_BishopsOf.j0 k a1 l2 (!t591) a0_0 a0_1 l0_2)) else (impl_BishopsOf.j0 k a1 l2 true a0_0 a0_1 l0_2)) = some (r1, r2) := H
 have A4 := A_ A40
 clear A40
 have HC5 := A_ H
 clear H
 go_enter Try.func67, Try.ntmps67
 go_upto_region 2 with (first | (refine gd_ 3 ?_; refine bx_ 3 #[.int .i64 a0_0, .int .i64 a0_1, .slice A0_2 l0_2.length c0_2] 26 ?_; intro gb583 hg w6 hbox hb; have BK583 := A_ (hbox); have GW583 := A_ ((ts_ hg : w.heap.size ≤ gb583)); have GE583 := A_ ((ts_ hg : w.heap.size ≤ gb583)); replace HB := A_ (below_step tb_ hb); clear hb hbox hg; obtain ⟨hcz7_0, hcz7_1, hcz7_2, hfz7_0, hfz7_1, hfz7_2⟩ := cf3_ BK583.out) | (refine gc_ 22 ?_; refine goesT_ (some 21) Try.func22 #[.agg #[.int .i64 a0_0, .int .i64 a0_1, .slice A0_2 l0_2.length c0_2], .int .i64 a1] ?_; (with_reducible refine (impl_ColourBoard.calls k a0_0 a0_1 _ _ l0_2 a1 t584 t585 t586 t589 _ ?side1 ?side2 A4.out).mono ?_); (case side1 => exact tc_ HR0_2.out); (case side2 => exact HC0_2.out); rintro e w8 ⟨v587, rfl, ho0, hb⟩; refine ⟨_, rfl, ?_⟩; have HO588 := A_ (Kd.R_lower ho0 (below_size tb_)); replace BK583 := A_ (blk_below (g := gb583) (o := .cells #[.int .i64 a0_0, .int .i64 a0_1, .slice A0_2 l0_2.length c0_2] 26 (0, 0)) (tk_ BK583) hb); replace HB := A_ (below_step tb_ hb); (try clear hb); (try clear ho0)) | (refine gd_ 8 ?_; refine bx_ 8 #[.int .i64 0, .int .i64 0, .slice none 0 0] 26 ?_; intro gb590 hg w9 hbox hb; replace HO588 := A_ (Kd.R_below (tr_x HO588.out) hb); have BK590 := A_ (hbox); have GW590 := A_ ((ts_ hg : w.heap.size ≤ gb590)); have GE590 := A_ ((ts_ hg : w.heap.size ≤ gb590)); replace HB := A_ (below_step tb_ hb); have NB583_590 := A_ ((by rw [hg]; exact Nat.ne_of_lt (blk_lt (g := gb583) (o := .cells #[.int .i64 a0_0, .int .i64 a0_1, .slice A0_2 l0_2.length c0_2] 26 (0, 0)) (tk_ BK583)) : gb583 ≠ gb590)); have NB590_583 := A_ ((by rw [hg]; exact Nat.ne_of_gt (blk_lt (g := gb583) (o := .cells #[.int .i64 a0_0, .int .i64 a0_1, .slice A0_2 l0_2.length c0_2] 26 (0, 0)) (tk_ BK583)) : gb590 ≠ gb583)); replace BK583 := A_ (blk_below (g := gb583) (o := .cells #[.int .i64 a0_0, .int .i64 a0_1, .slice A0_2 l0_2.length c0_2] 26 (0, 0)) (tk_ BK583) hb); clear hb hbox hg; have hnb10 := NB590_583.out; have hnc10 := NB583_590.out; obtain ⟨hcz11_0, hcz11_1, hcz11_2, hfz11_0, hfz11_1, hfz11_2⟩ := cf3_ BK590.out; obtain ⟨Ao12, co12, eo12⟩ := Kd.R_slice HO588.out; subst eo12))
 (try simp only [Act.put, List.setIfInBounds_toArray, List.set_cons_zero, List.set_cons_succ])
 go_cut [31] (fun v31 wc => ∃ (kq : Nat) (x31_4 : Bool), v31 = .bool x31_4 ∧ Aside0 (impl_BishopsOf.j0 kq a1 l2 x31_4 a0_0 a0_1 l0_2 = some (r1, r2)) ∧ Aside0 (kq ≤ k) ∧ Aside0 (Kd.R (Kd.int .i64) 3 wc w.heap.size (fun _ => True) (.slice Ao12 t586.length co12) t586) ∧ Aside0 (wc.heap[gb583]? = some (.cells #[.int .i64 a0_0, .int .i64 a0_1, (.slice A0_2 l0_2.length c0_2)] 26 (0, 0))) ∧ Aside0 (wc.heap[gb590]? = some (.cells #[.int .i64 t584, .int .i64 t585, (.slice Ao12 t586.length co12)] 26 (0, 0))) ∧ Aside0 (Below w.heap.size w wc))
 case first =>
  have H := HC5.out
  clear HC5
  by_cases c13 : t589 = true
  ·
   subst c13
   have H1 : ((impl_Board_isPlacement.f k t584 t585 t586 l2).bind fun t591 => (impl_BishopsOf.j0 k a1 l2 (!t591) a0_0 a0_1 l0_2)) = some (r1, r2) := by rw [if_pos rfl] at H; exact H
   clear H
   have H := H1
   clear H1
   replace H := Option.bind_eq_some_iff.mp H
   obtain ⟨t591, A140, H⟩ := H
   replace H : (impl_BishopsOf.j0 k a1 l2 (!t591) a0_0 a0_1 l0_2) = some (r1, r2) := H
   have A14 := A_ A140
   clear A140
   have H' := A_ H
   clear H
   have hnb15 := NB590_583.out
   have hnc15 := NB583_590.out
   obtain ⟨hcz16_0, hcz16_1, hcz16_2, hfz16_0, hfz16_1, hfz16_2⟩ := cf3_ BK590.out
   go_wp2_with (first | (go_at_call 140; (with_reducible refine (impl_Board_isPlacement.calls k t584 t585 _ _ t586 _ _ l2 t591 _ ?side1 ?side2 ?side3 ?side4 A14.out).mono ?_); (case side1 => refine (Kd.R_reads' (e := 3) (base := w.heap.size) (ok := fun k_ => True) (n := t586.length) (c := co12) ?_).2.2; exact (tr_ (h := by exact (Kd.R_mono (Kd.R_far (p := ⟨gb590, 2, none⟩) (Kd.R_far (p := ⟨gb590, 1, none⟩) (Kd.R_far (p := ⟨gb590, 0, none⟩) (Kd.R_types HO588.out BK590.out (by decide)) (fun _ hk => hk.2) (.int .i64 t584)) (fun _ hk => hk.2) (.int .i64 t585)) (fun _ hk => hk.2) (.slice Ao12 t586.length co12)) (fun _ h_ => h_.1))))); (case side2 => exact (Kd.R_reads' HO588.out).2.1); (case side3 => exact Kd.C_below HR2.out tb_); (case side4 => exact HC2.out); rintro e w17 ⟨rfl, hb⟩; replace HO588 := A_ (Kd.R_below (tr_ (h := by exact (Kd.R_mono (Kd.R_far (p := ⟨gb590, 2, none⟩) (Kd.R_far (p := ⟨gb590, 1, none⟩) (Kd.R_far (p := ⟨gb590, 0, none⟩) (Kd.R_types HO588.out BK590.out (by decide)) (fun _ hk => hk.2) (.int .i64 t584)) (fun _ hk => hk.2) (.int .i64 t585)) (fun _ hk => hk.2) (.slice Ao12 t586.length co12)) (fun _ h_ => h_.1)))) hb); replace BK583 := A_ (blk_below (g := gb583) (o := .cells #[.int .i64 a0_0, .int .i64 a0_1, .slice A0_2 l0_2.length c0_2] 26 (0, 0)) (tk_ BK583) hb); replace BK590 := A_ (blk_below (g := gb590) (o := .cells #[.int .i64 t584, .int .i64 t585, .slice Ao12 t586.length co12] 26 (0, 0)) (by (with_reducible repeat (first | refine blk_drewN ?_ _ | refine blk_drew ?_ | refine blk_alloc ?_ _)); refine blk_put (cs := #[.int .i64 t584, .int .i64 t585, .slice none 0 0]) ?_ 2 _ rfl; (with_reducible repeat (first | refine blk_drewN ?_ _ | refine blk_drew ?_ | refine blk_alloc ?_ _)); refine blk_put (cs := #[.int .i64 t584, .int .i64 0, .slice none 0 0]) ?_ 1 _ rfl; (with_reducible repeat (first | refine blk_drewN ?_ _ | refine blk_drew ?_ | refine blk_alloc ?_ _)); refine blk_put (cs := #[.int .i64 0, .int .i64 0, .slice none 0 0]) ?_ 0 _ rfl; (with_reducible repeat (first | refine blk_drewN ?_ _ | refine blk_drew ?_ | refine blk_alloc ?_ _)); exact BK590.out) hb); replace HB := A_ (below_step tb_ hb); (try clear hb)))
   go_meet
   case rel => exact ⟨_, (!t591), tf_, H', ⟨by first | omega | exact Nat.le_refl _⟩, ⟨tr_x HO588.out⟩, ⟨tk_ BK583⟩, ⟨tk_ BK590⟩, ⟨tb_⟩⟩
  ·
   replace c13 := Bool.eq_false_iff.mpr c13
   subst c13
   have H1 : (impl_BishopsOf.j0 k a1 l2 true a0_0 a0_1 l0_2) = some (r1, r2) := by rw [if_neg (show ¬ (false = true) by decide)] at H; exact H
   clear H
   have H := H1
   clear H1
   have H' := A_ H
   clear H
   go_wp2
   go_meet
   case rel => exact ⟨_, (true), tf_, H', ⟨by first | omega | exact Nat.le_refl _⟩, ⟨by (with_reducible repeat (first | apply Kd.R_alloc | apply Kd.R_drewN | apply Kd.R_drew)); exact Kd.R_mono (Kd.R_far (p := ⟨gb590, 2, none⟩) (Kd.R_far (p := ⟨gb590, 1, none⟩) (Kd.R_far (p := ⟨gb590, 0, none⟩) (Kd.R_types HO588.out BK590.out (by decide)) (fun _ hk => hk.2) (.int .i64 t584)) (fun _ hk => hk.2) (.int .i64 t585)) (fun _ hk => hk.2) (.slice Ao12 t586.length co12)) (fun _ hk => trivial)⟩, ⟨tk_ BK583⟩, ⟨by (with_reducible repeat (first | refine blk_drewN ?_ _ | refine blk_drew ?_ | refine blk_alloc ?_ _)); refine blk_put (cs := #[.int .i64 t584, .int .i64 t585, .slice none 0 0]) ?_ 2 _ rfl; (with_reducible repeat (first | refine blk_drewN ?_ _ | refine blk_drew ?_ | refine blk_alloc ?_ _)); refine blk_put (cs := #[.int .i64 t584, .int .i64 0, .slice none 0 0]) ?_ 1 _ rfl; (with_reducible repeat (first | refine blk_drewN ?_ _ | refine blk_drew ?_ | refine blk_alloc ?_ _)); refine blk_put (cs := #[.int .i64 0, .int .i64 0, .slice none 0 0]) ?_ 0 _ rfl; (with_reducible repeat (first | refine blk_drewN ?_ _ | refine blk_drew ?_ | refine blk_alloc ?_ _)); exact BK590.out⟩, ⟨tb_⟩⟩
 case rest =>
  clear HC5
  try clear c1
  try clear c2
  try clear p2
  try clear c6
  try clear c10
  try clear c13
  try clear c15
  try clear hcz11_0
  try clear hcz11_1
  try clear hcz11_2
  try clear hcz16_0
  try clear hcz16_1
  try clear hcz16_2
  try clear hcz7_0
  try clear hcz7_1
  try clear hcz7_2
  try clear hfz11_0
  try clear hfz11_1
  try clear hfz11_2
  try clear hfz16_0
  try clear hfz16_1
  try clear hfz16_2
  try clear hfz7_0
  try clear hfz7_1
  try clear hfz7_2
  obtain ⟨kq, x31_4, rfl, HA, HJ4, HO_591002, BK583, BK590, HB⟩ := hcut
  cases kq with
  | zero => exact absurd HA.out (by simp [impl_BishopsOf.j0])
  | succ kj4 =>
   have H := HA.out
   clear HA
   simp only [impl_BishopsOf.j0] at H
   by_cases c18 : x31_4 = true
   ·
    subst c18
    have H1 : (some (([] : List (List Int)), false)) = some (r1, r2) := by rw [if_pos rfl] at H; exact H
    clear H
    have H := H1
    clear H1
    simp only [Option.some.injEq, Prod.mk.injEq] at H
    obtain ⟨rfl, rfl⟩ := H
    go_wp2
    go_ret2
    exact ⟨_, te_, by first | exact Kd.S_nil _ _ _ _ _ | exact Kd.N_nil _ _ _ _ _ | exact Kd.V_nil _ _ _ _ _ | exact Kd.Q_nil _ _ _ _ _ | exact Kd.R_nil _ _ _ _ _, tb_⟩
   ·
    replace c18 := Bool.eq_false_iff.mpr c18
    subst c18
    have H1 : ((impl_Board_diagonals.f kj4 a0_0 a0_1 l0_2 a1).bind fun bt592 => (impl_BishopsOf.l0 kj4 bt592.1 bt592.2 (([] : List (List Int))) l2 (l2.length : Int) 0 a0_0 a0_1 l0_2)) = some (r1, r2) := by rw [if_neg (show ¬ (false = true) by decide)] at H; exact H
    clear H
    have H := H1
    clear H1
    replace H := Option.bind_eq_some_iff.mp H
    obtain ⟨⟨t592, t595⟩, A190, H⟩ := H
    replace H : (impl_BishopsOf.l0 kj4 t592 t595 (([] : List (List Int))) l2 (l2.length : Int) 0 a0_0 a0_1 l0_2) = some (r1, r2) := H
    have A19 := A_ A190
    clear A190
    obtain ⟨y598, hy598⟩ : ∃ y_ : List (List Int), y_ = (([] : List (List Int))) := ⟨_, rfl⟩
    replace H : (impl_BishopsOf.l0 kj4 t592 t595 y598 l2 (l2.length : Int) 0 a0_0 a0_1 l0_2) = some (r1, r2) := ty_ hy598 H
    have Ny598 := A_ hy598
    clear hy598
    have H' := A_ H
    clear H
    have hnb20 := NB583_590.out
    have hnc20 := NB590_583.out
    obtain ⟨hcz21_0, hcz21_1, hcz21_2, hfz21_0, hfz21_1, hfz21_2⟩ := cf3_ BK583.out
    go_wp2_with (first | (refine gc_ 90 ?_; refine goesT_ (some 35) Try.func90 #[.agg #[.int .i64 a0_0, .int .i64 a0_1, .slice A0_2 l0_2.length c0_2], .int .i64 a1] ?_; (with_reducible refine (impl_Board_diagonals.calls kj4 a0_0 a0_1 _ _ l0_2 a1 t592 t595 _ ?side1 ?side2 A19.out).mono ?_); (case side1 => exact tc_ HR0_2.out); (case side2 => exact HC0_2.out); rintro e w22 ⟨v593, v596, rfl, ho0, ho1, hb⟩; refine ⟨_, rfl, ?_⟩; have HO594 := A_ (Kd.R_lower (Kd.R_new' ho0 (Kd.R_lt (tr_x HO_591002.out))) (below_size tb_)); have HO597 := A_ (Kd.R_lower (Kd.R_new' ho1 (Kd.R_lt (tr_x HO_591002.out))) (below_size tb_)); replace HO_591002 := A_ (Kd.R_mono (Kd.R_told (Kd.R_told (Kd.R_old (tr_x HO_591002.out) hb) (Kd.R_base ho0)) (Kd.R_base ho1)) (fun _ h_ => h_.1)); replace BK583 := A_ (blk_below (g := gb583) (o := .cells #[.int .i64 a0_0, .int .i64 a0_1, .slice A0_2 l0_2.length c0_2] 26 (0, 0)) (tk_ BK583) hb); replace BK590 := A_ (blk_below (g := gb590) (o := .cells #[.int .i64 t584, .int .i64 t585, .slice Ao12 t586.length co12] 26 (0, 0)) (tk_ BK590) hb); replace HB := A_ (below_step tb_ hb); (try clear hb); (try clear ho0); (try clear ho1)) | (refine gd_ 38 ?_; refine Kd.S_lit (Kd.slice 3 (Kd.int .i64)) _ 24 ?hg (N := 38) ?hd (xs := ([] : List (List Int))) (inner := []) (ok := fun _ => True) (okp := fun _ => True) ?hr ?hp (fun _ hk => hk) trivial (Below.refl _ _) (Nat.le_refl _) (by simp) ?_; (case hd => rfl); (case hg => rfl); (case hr => first | (go_simp; done) | (go_simp; rfl)); (case hp => exact (Reps.none _ _)); intro v599 w23 ho24 hb hg_ hnew_; have HNE := A_ (show ∃ b, v599.ownBlock = some b from hnew_.elim fun b hb_ => ⟨b, hb_.1⟩); clear hg_ hnew_; (first | rw [← Ny598.out] at ho24 | (simp only [Int.reduceToNat] at ho24; rw [← Ny598.out] at ho24)); have HO600 := A_ (Kd.S_lower (Kd.S_new' (Kd.S_new' (Kd.S_new' ho24 (Kd.R_lt (tr_x HO_591002.out))) (Kd.R_lt (tr_x HO594.out))) (Kd.R_lt (tr_x HO597.out))) (below_size tb_)); replace HO_591002 := A_ (Kd.R_below (tr_x HO_591002.out) hb); replace HO594 := A_ (Kd.R_below (tr_x HO594.out) hb); replace HO597 := A_ (Kd.R_below (tr_x HO597.out) hb); replace BK583 := A_ (blk_below (g := gb583) (o := .cells #[.int .i64 a0_0, .int .i64 a0_1, .slice A0_2 l0_2.length c0_2] 26 (0, 0)) (tk_ BK583) hb); replace BK590 := A_ (blk_below (g := gb590) (o := .cells #[.int .i64 t584, .int .i64 t585, .slice Ao12 t586.length co12] 26 (0, 0)) (tk_ BK590) hb); replace HB := A_ (below_step tb_ hb); clear hb ho24))
    go_loopg [12, 41] kj4 (fun kq v12 v41 w' => ∃ (x12_2 : List (List Int)) (x41_2 : Int), v41 = .int .i64 x41_2 ∧ Aside0 (impl_BishopsOf.l0 kq t592 t595 x12_2 l2 (l2.length : Int) x41_2 a0_0 a0_1 l0_2 = some (r1, r2)) ∧ Aside0 (kq ≤ kj4) ∧ Aside0 (∃ b, v12.ownBlock = some b) ∧ Aside0 (Kd.R (Kd.int .i64) 3 w' w.heap.size (fun k_ => some k_ ≠ (v596 : Value).ownBlock ∧ some k_ ≠ ((.slice Ao12 t586.length co12) : Value).ownBlock) v593 t592) ∧ Aside0 (Kd.R (Kd.int .i64) 3 w' w.heap.size (fun k_ => some k_ ≠ (v593 : Value).ownBlock ∧ some k_ ≠ ((.slice Ao12 t586.length co12) : Value).ownBlock) v596 t595) ∧ Aside0 (Kd.S (Kd.slice 3 (Kd.int .i64)) 24 w' w.heap.size (fun k_ => some k_ ≠ (v593 : Value).ownBlock ∧ some k_ ≠ (v596 : Value).ownBlock ∧ some k_ ≠ ((.slice Ao12 t586.length co12) : Value).ownBlock) v12 x12_2) ∧ Aside0 (Kd.R (Kd.int .i64) 3 w' w.heap.size (fun k_ => some k_ ≠ (v593 : Value).ownBlock ∧ some k_ ≠ (v596 : Value).ownBlock) (.slice Ao12 t586.length co12) t586) ∧ Aside0 (w'.heap[gb583]? = some (.cells #[.int .i64 a0_0, .int .i64 a0_1, (.slice A0_2 l0_2.length c0_2)] 26 (0, 0))) ∧ Aside0 (w'.heap[gb590]? = some (.cells #[.int .i64 t584, .int .i64 t585, (.slice Ao12 t586.length co12)] 26 (0, 0))) ∧ Aside0 (Below w.heap.size w w'))
    case atStart => exact ⟨(y598), (0), tf_, H', ⟨Nat.le_refl _⟩, HNE, ⟨tr_x HO594.out⟩, ⟨tr_x HO597.out⟩, ⟨by (with_reducible repeat (first | apply Kd.S_alloc | apply Kd.S_drewN | apply Kd.S_drew)); exact Kd.S_mono HO600.out om_⟩, ⟨by (with_reducible repeat (first | apply Kd.R_alloc | apply Kd.R_drewN | apply Kd.R_drew)); exact Kd.R_mono HO_591002.out om_⟩, ⟨tk_ BK583⟩, ⟨tk_ BK590⟩, ⟨tb_⟩⟩
    case round =>
     clear H'
     clear HNE
     try clear c1
     try clear c2
     try clear p2
     try clear c6
     try clear c9
     try clear c10
     try clear c13
     try clear c15
     try clear c18
     try clear c20
     try clear c22
     try clear hcz11_0
     try clear hcz11_1
     try clear hcz11_2
     try clear hcz16_0
     try clear hcz16_1
     try clear hcz16_2
     try clear hcz21_0
     try clear hcz21_1
     try clear hcz21_2
     try clear hcz7_0
     try clear hcz7_1
     try clear hcz7_2
     try clear hfz11_0
     try clear hfz11_1
     try clear hfz11_2
     try clear hfz16_0
     try clear hfz16_1
     try clear hfz16_2
     try clear hfz21_0
     try clear hfz21_1
     try clear hfz21_2
     try clear hfz7_0
     try clear hfz7_1
     try clear hfz7_2
     try clear p2
     obtain ⟨x12_2, x41_2, rfl, HA, HK2, HNE, HO_10, HO_11, HO_12, HO_591002, BK583, BK590, HB⟩ := hrel
     cases gk with
     | zero => exact absurd HA.out (by simp [impl_BishopsOf.l0])
     | succ k2 =>
      have H := HA.out
      clear HA
      simp only [impl_BishopsOf.l0] at H
      by_cases c25 : x41_2 < (l2.length : Int)
      ·
       rw [if_pos c25] at H
       have c25b0 := decide_eq_true c25
       clear c25
       by_cases c26 : 0 ≤ x41_2
       ·
        rw [if_pos c26] at H
        have c26b0 := decide_eq_true c26
        clear c26
        by_cases c27 : x41_2 < (l2.length : Int)
        ·
         rw [if_pos c27] at H
         have c27b0 := decide_eq_true c27
         clear c27
         by_cases c28 : (rd l2 x41_2) = (-1)
         ·
          rw [if_pos c28] at H
          have c28b0 : ((rd l2 x41_2) == (-1)) = true := beq_iff_eq.mpr c28
          have c28b1 : ((rd l2 x41_2) != (-1)) = false := bne_eq_false_iff_eq.mpr c28
          clear c28
          have H' := A_ H
          clear H
          have p601 : 0 ≤ (x41_2 : Int) := od_
          have q601 : x41_2 < (l2.length : Int) := od_
          obtain ⟨ad601, e601, hx601_0⟩ := Kd.at_int HR2.out x41_2 p601 q601
          cases e601
          (try replace hx601_0 := (HB.out.cell (World.block_lt_of_cell? w _ hx601_0)).trans hx601_0)
          replace p601 := eq_true p601
          replace q601 := eq_true q601
          go_wp2
          go_roundg k2
          case measure => have := HJ4.out; have := HK2.out; omega
          case rel => exact ⟨(x12_2), (wrap64 (x41_2 + 1)), tf_, H', ⟨by have := HJ4.out; have := HK2.out; omega⟩, HNE, ⟨tr_x HO_10.out⟩, ⟨tr_x HO_11.out⟩, ⟨ts1_x HO_12.out⟩, ⟨tr_x HO_591002.out⟩, ⟨tk_ BK583⟩, ⟨tk_ BK590⟩, ⟨tb_⟩⟩
         ·
          rw [if_neg c28] at H
          have c28b0 : ((rd l2 x41_2) == (-1)) = false := beq_eq_false_iff_ne.mpr c28
          have c28b1 : ((rd l2 x41_2) != (-1)) = true := bne_iff_ne.mpr c28
          by_cases c29 : x41_2 < (t592.length : Int)
          ·
           rw [if_pos c29] at H
           have c29b0 := decide_eq_true c29
           clear c29
           by_cases c30 : 0 ≤ (rd l2 x41_2)
           ·
            rw [if_pos c30] at H
            have c30b0 := decide_eq_true c30
            clear c30
            by_cases c31 : (rd l2 x41_2) < (t595.length : Int)
            ·
             rw [if_pos c31] at H
             have c31b0 := decide_eq_true c31
             clear c31
             replace H := Option.bind_eq_some_iff.mp H
             obtain ⟨⟨t604, t605, t606⟩, A320, H⟩ := H
             replace H : (if x12_2.length < 5864062014805 then (impl_BishopsOf.l0 k2 t592 t595 (x12_2 ++ [(([t604, t605] : List Int))]) l2 (l2.length : Int) (wrap64 (x41_2 + 1)) a0_0 a0_1 l0_2) else (none)) = some (r1, r2) := H
             have A32 := A_ A320
             clear A320
             obtain ⟨y607, hy607⟩ : ∃ y_ : List Int, y_ = (([t604, t605] : List Int)) := ⟨_, rfl⟩
             replace H : (if x12_2.length < 5864062014805 then (impl_BishopsOf.l0 k2 t592 t595 (x12_2 ++ [y607]) l2 (l2.length : Int) (wrap64 (x41_2 + 1)) a0_0 a0_1 l0_2) else (none)) = some (r1, r2) := ty_ hy607 H
             have Ny607 := A_ hy607
             clear hy607
             by_cases c33 : x12_2.length < 5864062014805
             ·
              rw [if_pos c33] at H
              have LMc33 := A_ c33
              clear c33
              obtain ⟨y610, hy610⟩ : ∃ y_ : List (List Int), y_ = (x12_2 ++ [y607]) := ⟨_, rfl⟩
              replace H : (impl_BishopsOf.l0 k2 t592 t595 y610 l2 (l2.length : Int) (wrap64 (x41_2 + 1)) a0_0 a0_1 l0_2) = some (r1, r2) := ty_ hy610 H
              have Ny610 := A_ hy610
              clear hy610
              have H' := A_ H
              clear H
              have p601 : 0 ≤ (x41_2 : Int) := od_
              have q601 : x41_2 < (l2.length : Int) := od_
              obtain ⟨ad601, e601, hx601_0⟩ := Kd.at_int HR2.out x41_2 p601 q601
              cases e601
              (try replace hx601_0 := (HB.out.cell (World.block_lt_of_cell? w _ hx601_0)).trans hx601_0)
              replace p601 := eq_true p601
              replace q601 := eq_true q601
              try go_wp2
              have n0_ := A_ (Kd.R_drew HO_10.out)
              have n1_ := A_ (Kd.R_drew HO_11.out)
              have n2_ := A_ (Kd.S_drew HO_12.out)
              have n3_ := A_ (Kd.R_drew HO_591002.out)
              have n4_ := A_ (blk_drew BK583.out)
              have n5_ := A_ (blk_drew BK590.out)
              have n6_ := A_ (below_drew1 HB.out)
              clear HO_10
              clear HO_11
              clear HO_12
              clear HO_591002
              clear BK583
              clear BK590
              clear HB
              have HO_10 := n0_
              have HO_11 := n1_
              have HO_12 := n2_
              have HO_591002 := n3_
              have BK583 := n4_
              have BK590 := n5_
              have HB := n6_
              clear n0_ n1_ n2_ n3_ n4_ n5_ n6_
              obtain ⟨Ao35, co35, eo35⟩ := Kd.R_slice HO_10.out
              (first | subst eo35 | (injection eo35 with f1_ f2_ f3_; have f4_ := f1_.symm; have f5_ := f3_.symm; clear f1_ f2_ f3_; subst f4_; subst f5_))
              have p602 : 0 ≤ (x41_2 : Int) := od_
              have q602 : x41_2 < (t592.length : Int) := od_
              obtain ⟨ad602, e602, hx602_0⟩ := Kd.at_int (Kd.R_reads' HO_10.out).2.2 x41_2 p602 q602
              cases e602
              replace p602 := eq_true p602
              replace q602 := eq_true q602
              obtain ⟨Ao36, co36, eo36⟩ := Kd.R_slice HO_11.out
              (first | subst eo36 | (injection eo36 with f1_ f2_ f3_; have f4_ := f1_.symm; have f5_ := f3_.symm; clear f1_ f2_ f3_; subst f4_; subst f5_))
              have p603 : 0 ≤ ((rd l2 x41_2) : Int) := od_
              have q603 : (rd l2 x41_2) < (t595.length : Int) := od_
              obtain ⟨ad603, e603, hx603_0⟩ := Kd.at_int (Kd.R_reads' HO_11.out).2.2 (rd l2 x41_2) p603 q603
              cases e603
              replace p603 := eq_true p603
              replace q603 := eq_true q603
              refine start_ (n := 17) (S := fun w' => w'.cell? ⟨gb583, 0, none⟩ = some (.int .i64 a0_0) ∧ w'.cell? ⟨gb583, 1, none⟩ = some (.int .i64 a0_1) ∧ w'.cell? ⟨gb583, 2, none⟩ = some (.slice A0_2 l0_2.length c0_2) ∧ w'.cell? (ad602.add (x41_2).toNat) = some (.int .i64 (rd t592 x41_2)) ∧ w'.cell? (ad603.add ((rd l2 x41_2)).toNat) = some (.int .i64 (rd t595 (rd l2 x41_2)))) (ds := []) (Fn.bl 17 0) (by kernel_rfl) rfl rfl ⟨(blk_cell BK583.out 0).trans rfl, (blk_cell BK583.out 1).trans rfl, (blk_cell BK583.out 2).trans rfl, hx602_0, hx603_0⟩ (fun hHeld => ?_); refine with_tabW impl_BishopsOf.tab10 impl_BishopsOf.bits10 (fun HT_ HW_ => ?_)
              generalize wr.drew = w34 at HO_10 HO_11 HO_12 HO_591002 BK583 BK590 HB hx602_0 hx603_0 hHeld ⊢
              refine pq_ 1 (some 50) (Fn.bl 17 2) HT_.out ?_
              refine pq_ 2 (some 51) (Fn.bl 17 6) HT_.out ?_
              refine pq_ 3 (some 52) (Fn.bl 17 14) HT_.out ?_
              refine pq_ 5 (some 54) (Fn.bl 17 46) HT_.out ?_
              refine pq_ 6 (some 55) (Fn.bl 17 110) HT_.out ?_
              refine pq_ 7 (some 56) (Fn.bl 17 238) HT_.out ?_
              refine tq_ 0 (some 49) (Fn.bl 17 239) HT_.out HW_.out hHeld ?_ (hy0 := by rintro w' ⟨s0, s1, s2, s3, s4⟩; go_simp; with_reducible rfl)
              refine tq_ 4 (some 53) (Fn.bl 17 255) HT_.out HW_.out hHeld ?_ (hy0 := by rintro w' ⟨s0, s1, s2, s3, s4⟩; go_simp; with_reducible rfl)
              refine tq_ 8 (some 57) (Fn.bl 17 511) HT_.out HW_.out hHeld ?_ (hy0 := by rintro w' ⟨s0, s1, s2, s3, s4⟩; go_simp; with_reducible rfl)
              refine one_ (i := 9) (N := some 58) (Fn.bl 17 1023) rfl rfl (one_of HT_.out (by kernel_rfl)) (by decide) (fun K hK => ?_)
              refine goes_ Try.func91 (by kernel_rfl) rfl #[.agg #[.int .i64 a0_0, .int .i64 a0_1, .slice A0_2 l0_2.length c0_2], .int .i64 (rd t592 x41_2), .int .i64 (rd t595 (rd l2 x41_2))] (by rfl) rfl rfl ta_ ?_
              with_reducible refine (impl_Board_crossing.calls a0_0 a0_1 _ _ l0_2 (rd t592 x41_2) (rd t595 (rd l2 x41_2)) t604 t605 t606 _ ?side1 ?side2 A32.out).mono ?_
              (case side1 => exact tc_ HR0_2.out)
              (case side2 => exact HC0_2.out)
              rintro e w37 ⟨rfl, hb⟩
              have HS3_ := (hb.cell (World.block_lt_of_cell? _ _ (hHeld.2.2.2.1))).trans (hHeld.2.2.2.1)
              have HS4_ := (hb.cell (World.block_lt_of_cell? _ _ (hHeld.2.2.2.2))).trans (hHeld.2.2.2.2)
              refine ⟨_, rfl, ?_⟩
              have n0_ := A_ (Kd.R_below (tr_x HO_10.out) hb)
              have n1_ := A_ (Kd.R_below (tr_x HO_11.out) hb)
              have n2_ := A_ (Kd.S_below (ts1_x HO_12.out) hb)
              have n3_ := A_ (Kd.R_below (tr_x HO_591002.out) hb)
              have n4_ := A_ (blk_below (g := gb583) (o := .cells #[.int .i64 a0_0, .int .i64 a0_1, .slice A0_2 l0_2.length c0_2] 26 (0, 0)) (tk_ BK583) hb)
              have n5_ := A_ (blk_below (g := gb590) (o := .cells #[.int .i64 t584, .int .i64 t585, .slice Ao12 t586.length co12] 26 (0, 0)) (tk_ BK590) hb)
              have n6_ := A_ (below_step tb_ hb)
              clear HO_10
              clear HO_11
              clear HO_12
              clear HO_591002
              clear BK583
              clear BK590
              clear HB
              have HO_10 := n0_
              have HO_11 := n1_
              have HO_12 := n2_
              have HO_591002 := n3_
              have BK583 := n4_
              have BK590 := n5_
              have HB := n6_
              clear n0_ n1_ n2_ n3_ n4_ n5_ n6_
              (try clear hb)
              (try clear hb2)
              (try clear hk)
              (try clear hi)
              refine hK.out _ _ ⟨(blk_cell BK583.out 0).trans rfl, (blk_cell BK583.out 1).trans rfl, (blk_cell BK583.out 2).trans rfl, HS3_, HS4_⟩ (fun hHeld => ?_)
              clear hK K
              refine norm_ (a' := ?_) ?_ ?_
              rotate_left
              ·
               show Act.put _ (some 58) _ = _
               simp only [Act.put, List.setIfInBounds_toArray, List.set_cons_zero, List.set_cons_succ, i64_w, i32_w]
               rfl
              refine pq_ 10 (some 48) (Fn.bl 17 2047) HT_.out ?_
              refine pq_ 11 (some 59) (Fn.bl 17 4095) HT_.out ?_
              refine pq_ 12 (some 60) (Fn.bl 17 8191) HT_.out ?_
              refine pq_ 13 (some 61) (Fn.bl 17 16383) HT_.out ?_
              refine pq_ 14 (some 15) (Fn.bl 17 32767) HT_.out ?_
              refine pq_ 15 (some 16) (Fn.bl 17 65535) HT_.out ?_
              refine pq_ 16 (some 17) (Fn.bl 17 131071) HT_.out ?_
              refine done_ (done_of HT_.out (by kernel_rfl)) ?_
              try go_wp2_with (first | (refine gd_ 65 ?_; refine Kd.R_lit (Kd.int .i64) _ 3 ?hg (N := 65) ?hd (xs := ([t604, t605] : List Int)) (inner := [.int .i64 t604, .int .i64 t605]) (ok := fun _ => True) (okp := fun _ => True) ?hr ?hp (fun _ hk => hk) trivial (Below.refl _ _) (Nat.le_refl _) (by simp) ?_; (case hd => rfl); (case hg => rfl); (case hr => first | (go_simp; done) | (go_simp; rfl)); (case hp => exact (Reps.one (show Kd.M (Kd.int .i64) _ _ _ t604 [.int .i64 t604] from rfl) (Reps.one (show Kd.M (Kd.int .i64) _ _ _ t605 [.int .i64 t605] from rfl) (Reps.none _ _)))); intro v608 w38 ho39 hb hg_ hnew_; clear hg_ hnew_; (first | rw [← Ny607.out] at ho39 | (simp only [Int.reduceToNat] at ho39; rw [← Ny607.out] at ho39)); replace HO_12 := A_ (Kd.S_elder' (ts1_x HO_12.out) (Kd.R_base ho39) hb); have HO609 := A_ (Kd.R_lower (Kd.R_new' (Kd.R_new' (Kd.R_new' ho39 (Kd.R_lt (tr_x HO_10.out))) (Kd.R_lt (tr_x HO_11.out))) (Kd.R_lt (tr_x HO_591002.out))) (below_size tb_)); replace HO_10 := A_ (Kd.R_elder' (tr_x HO_10.out) (Kd.R_base ho39) hb); replace HO_11 := A_ (Kd.R_elder' (tr_x HO_11.out) (Kd.R_base ho39) hb); replace HO_591002 := A_ (Kd.R_elder' (tr_x HO_591002.out) (Kd.R_base ho39) hb); replace BK583 := A_ (blk_below (g := gb583) (o := .cells #[.int .i64 a0_0, .int .i64 a0_1, .slice A0_2 l0_2.length c0_2] 26 (0, 0)) (tk_ BK583) hb); replace BK590 := A_ (blk_below (g := gb590) (o := .cells #[.int .i64 t584, .int .i64 t585, .slice Ao12 t586.length co12] 26 (0, 0)) (tk_ BK590) hb); replace HB := A_ (below_step tb_ hb); clear hb ho39; obtain ⟨Ao41, co41, eo41⟩ := Kd.R_slice HO609.out; subst eo41) | ((with_reducible refine gate_builtin (b := .append) (xs := #[.tmp 62, .tmp 66]) rfl ?_); at_builtin; refine Kd.S_append (Kd.slice 3 (Kd.int .i64)) (w0 := w) w.heap.size rfl (.tmp 62) (.tmp 66) 27 24 (.slice none 0 0) 24 rfl Try.underlying27 info24 rfl (by decide) (by omega) u12 x12_2 y607 [.slice Ao41 y607.length co41] (fun k_ => some k_ ≠ (.slice (some ad602) t592.length co35 : Value).ownBlock ∧ some k_ ≠ (.slice (some ad603) t595.length co36 : Value).ownBlock ∧ some k_ ≠ (.slice Ao12 t586.length co12 : Value).ownBlock) (fun k_ => some k_ = (.slice Ao41 y607.length co41 : Value).ownBlock) rfl rfl ?aP (fun k_ hk_ => ((Kd.R_mono (ok' := fun k_ => ((fun k_ => some k_ ≠ (.slice (some ad602) t592.length co35 : Value).ownBlock ∧ some k_ ≠ (.slice (some ad603) t595.length co36 : Value).ownBlock ∧ some k_ ≠ (.slice Ao12 t586.length co12 : Value).ownBlock)) k_ ∧ some k_ ≠ (u12 : Value).ownBlock) (Kd.R_apart' (HO609.out) (Kd.S_typed HO_12.out) (by decide)) (fun k_ hk => ⟨⟨hk.1.1.1.2, ⟨hk.1.1.2, hk.1.2⟩⟩, hk.2⟩))).1 k_ hk_.symm) ?aF ?aO ?aB ?aS ?aL ?_; (case aP => exact Kd.M_row (Kd.R_mono (Kd.R_tight rfl (Kd.R_mono (ok' := fun k_ => ((fun k_ => some k_ ≠ (.slice (some ad602) t592.length co35 : Value).ownBlock ∧ some k_ ≠ (.slice (some ad603) t595.length co36 : Value).ownBlock ∧ some k_ ≠ (.slice Ao12 t586.length co12 : Value).ownBlock)) k_ ∧ some k_ ≠ (u12 : Value).ownBlock) (Kd.R_apart' (HO609.out) (Kd.S_typed HO_12.out) (by decide)) (fun k_ hk => ⟨⟨hk.1.1.1.2, ⟨hk.1.1.2, hk.1.2⟩⟩, hk.2⟩))) (fun _ h_ => h_))); (case aB => exact tb_); (case aF => exact (fun k_ hk => ⟨Kd.fresh' (Kd.R_lt (tr_x HO_10.out)) k_ hk, Kd.fresh' (Kd.R_lt (tr_x HO_11.out)) k_ hk, Kd.fresh' (Kd.R_lt (tr_x HO_591002.out)) k_ hk⟩)); (case aO => exact (ts1_ (h := by exact Kd.S_mono HO_12.out (fun k_ hk => ⟨⟨hk.1.1, ⟨hk.1.2.1, hk.1.2.2⟩⟩, fun e_ => hk.2 e_⟩)))); (case aS => exact (below_size tb_)); (case aL => have := LMc33.out; omega); intro v611 w40 ho hb hg hat; rw [← Ny610.out] at ho; have n0_ := A_ (Kd.R_over' (tr_x HO_10.out) (Kd.S_typed (ts1_x HO_12.out)) (by decide) hg); have n1_ := A_ (Kd.R_over' (tr_x HO_11.out) (Kd.S_typed (ts1_x HO_12.out)) (by decide) hg); have n2_ := A_ (Kd.R_over' (tr_x HO_591002.out) (Kd.S_typed (ts1_x HO_12.out)) (by decide) hg); have n3_ := A_ (blk_grown (g := gb583) (o := .cells #[.int .i64 a0_0, .int .i64 a0_1, .slice A0_2 l0_2.length c0_2] 26 (0, 0)) (tk_ BK583) hg (Kd.S_ne HO_12.out BK583.out (by decide))); have n4_ := A_ (blk_grown (g := gb590) (o := .cells #[.int .i64 t584, .int .i64 t585, .slice Ao12 t586.length co12] 26 (0, 0)) (tk_ BK590) hg (Kd.S_ne HO_12.out BK590.out (by decide))); have n5_ := A_ (hb); have n6_ := A_ (ho); clear HO_10; clear HO_11; clear HO_591002; clear BK583; clear BK590; clear HB; clear HO_12; clear HO609; have HO_10 := n0_; have HO_11 := n1_; have HO_591002 := n2_; have BK583 := n3_; have BK590 := n4_; have HB := n5_; have HO612 := n6_; clear n0_ n1_ n2_ n3_ n4_ n5_ n6_; clear ho hb hg hat))
              go_roundg k2
              case measure => have := HJ4.out; have := HK2.out; omega
              case rel => exact ⟨(y610), (wrap64 (x41_2 + 1)), tf_, H', ⟨by have := HJ4.out; have := HK2.out; omega⟩, ⟨by obtain ⟨g_, c_, e_, _⟩ := Kd.S_form HO612.out (by rw [Ny610.out]; simp); rw [e_]; exact ⟨_, rfl⟩⟩, ⟨by (with_reducible repeat (first | apply Kd.R_alloc | apply Kd.R_drewN | apply Kd.R_drew)); exact Kd.R_mono HO_10.out om_⟩, ⟨by (with_reducible repeat (first | apply Kd.R_alloc | apply Kd.R_drewN | apply Kd.R_drew)); exact Kd.R_mono HO_11.out om_⟩, ⟨ts1_x HO612.out⟩, ⟨by (with_reducible repeat (first | apply Kd.R_alloc | apply Kd.R_drewN | apply Kd.R_drew)); exact Kd.R_mono HO_591002.out om_⟩, ⟨tk_ BK583⟩, ⟨tk_ BK590⟩, ⟨tb_⟩⟩
             ·
              rw [if_neg c33] at H
              exact absurd H (by simp)
            ·
             rw [if_neg c31] at H
             exact absurd H (by simp)
           ·
            rw [if_neg c30] at H
            exact absurd H (by simp)
          ·
           rw [if_neg c29] at H
           exact absurd H (by simp)
        ·
         rw [if_neg c27] at H
         exact absurd H (by simp)
       ·
        rw [if_neg c26] at H
        exact absurd H (by simp)
      ·
       rw [if_neg c25] at H
       have c25b0 := decide_eq_false c25
       clear c25
       simp only [Option.some.injEq, Prod.mk.injEq] at H
       obtain ⟨rfl, rfl⟩ := H
       have HS2 := A_ (Kd.S_mono HO_12.out (ok' := fun _ => True) (fun _ _ => trivial))
       go_wp2_with (first | (refine gc_ 141 ?_; refine goesT_ (some 70) Try.func141 #[_, .func (.func 142) #[] #[]] ?_; (with_reducible refine (HSO.out _ _ ?sideA ?sideB ?sideC).mono ?_); (case sideA => exact ts1_x HS2.out); (case sideB => exact HNE.out); (case sideC => exact tb_); rintro e w99 ⟨rfl, hS9, hB9⟩; refine ⟨_, rfl, ?_⟩; have HS9 := A_ hS9; have HB9 := A_ hB9; clear hS9 hB9))
       go_ret2
       exact ⟨_, te_, HS9.out, HB9.out⟩
theorem impl_BishopsOf.calls (k : Nat) (a0_0 : Int) (a0_1 : Int) (A0_2 : Option Addr) (c0_2 : Nat) (l0_2 : List Int) (a1 : Int) (A2 : Option Addr) (c2 : Nat) (l2 : List Int) (r1 : List (List Int)) (r2 : Bool) (w : World) (hr0_2 : Kd.C (Kd.int .i64) w A0_2 l0_2.length l0_2) (hc0_2 : l0_2.length ≤ c0_2) (hr2 : Kd.C (Kd.int .i64) w A2 l2.length l2) (hc2 : l2.length ≤ c2) (h : impl_BishopsOf.f k a0_0 a0_1 l0_2 a1 l2 = some (r1, r2)) :
  Calls Try.prog 67 #[.agg #[.int .i64 a0_0, .int .i64 a0_1, .slice A0_2 l0_2.length c0_2], .int .i64 a1, .slice A2 l2.length c2] w fun e w' => ∃ v0_ : Value, e = .returned (.tuple #[v0_, .bool r2]) ∧ Kd.S (Kd.slice 3 (Kd.int .i64)) 24 w' w.heap.size (fun _ => True) v0_ r1 ∧ Below w.heap.size w w' := by
  obtain ⟨⟨q1, q2⟩, h0, h1⟩ := Option.bind_eq_some_iff.mp h
  by_cases hok : impl_BishopsOf.okR k q1
  · rw [if_pos hok] at h1
    simp only [Option.some.injEq, Prod.mk.injEq] at h1
    obtain ⟨rfl, rfl⟩ := h1
    exact impl_BishopsOf.calls0 k k a0_0 a0_1 A0_2 c0_2 l0_2 a1 A2 c2 l2 q1 q2 w hr0_2 hc0_2 hr2 hc2 hok h0
  · rw [if_neg hok] at h1
    exact absurd h1 (by simp)

/-! ### laws_eqIntS: function 70 -/
def laws_eqIntS.l0 : Nat → List Int → List Int → Int → Option (Bool)
 | 0, _, _, _ => none
 | k + 1, x0, x1, x5 => if x5 < (x0.length : Int) then (if 0 ≤ x5 then (if x5 < (x1.length : Int) then (if (rd x0 x5) = (rd x1 x5) then (laws_eqIntS.l0 k x0 x1 (wrap64 (x5 + 1))) else (some false)) else (none)) else (none)) else (some true)
def laws_eqIntS.f (k : Nat) (l0 : List Int) (l1 : List Int) : Option (Bool) := if (l0.length : Int) = (l1.length : Int) then (laws_eqIntS.l0 k l0 l1 0) else (some false)
theorem laws_eqIntS.mono_l : ∀ k, (∀ y0 y1 y2, LeO (laws_eqIntS.l0 k y0 y1 y2) (laws_eqIntS.l0 (k + 1) y0 y1 y2))
 | 0 => fun _ _ _ r h => by simp [laws_eqIntS.l0] at h
 | k + 1 => by
  have ih0 := laws_eqIntS.mono_l k
  ·
   intro y0 y1 y2
   unfold laws_eqIntS.l0
   repeat' first | (with_reducible first | exact ih0 _ _ _ | exact LeO.refl _ | exact LeO.none _ | refine LeO.ite ?_ ?_ | refine LeO.bind ?_ (fun _ => ?_)) | exact ih0 _ _ _ | exact LeO.none _ | refine LeO.ite ?_ ?_ | refine LeO.bind ?_ (fun _ => ?_)
theorem laws_eqIntS.mono : ∀ a0 a1 k, LeO (laws_eqIntS.f k a0 a1) (laws_eqIntS.f (k + 1) a0 a1) := by
 intro a0 a1 k
 have ih0 := laws_eqIntS.mono_l k
 unfold laws_eqIntS.f
 repeat' first | (with_reducible first | exact ih0 _ _ _ | exact LeO.refl _ | exact LeO.none _ | refine LeO.ite ?_ ?_ | refine LeO.bind ?_ (fun _ => ?_)) | exact ih0 _ _ _ | exact LeO.none _ | refine LeO.ite ?_ ?_ | refine LeO.bind ?_ (fun _ => ?_)
theorem laws_eqIntS.calls (k : Nat) (A0 : Option Addr) (c0 : Nat) (l0 : List Int) (A1 : Option Addr) (c1 : Nat) (l1 : List Int) (r : Bool) (w : World) (hr0 : Kd.C (Kd.int .i64) w A0 l0.length l0) (hc0 : l0.length ≤ c0) (hr1 : Kd.C (Kd.int .i64) w A1 l1.length l1) (hc1 : l1.length ≤ c1) (h : laws_eqIntS.f k l0 l1 = some r) :
  Calls Try.prog 70 #[.slice A0 l0.length c0, .slice A1 l1.length c1] w fun e w' => e = .returned (.bool r) ∧ Drawn0 w w' := by
 have HR0 := A_ hr0
 have HC0 := A_ hc0
 clear hr0 hc0
 have HR1 := A_ hr1
 have HC1 := A_ hc1
 clear hr1 hc1
 have H : (if (l0.length : Int) = (l1.length : Int) then (laws_eqIntS.l0 k l0 l1 0) else (some false)) = some r := h
 clear h
 by_cases c3 : (l0.length : Int) = (l1.length : Int)
 ·
  rw [if_pos c3] at H
  have c3b0 : ((l0.length : Int) == (l1.length : Int)) = true := beq_iff_eq.mpr c3
  have c3b1 : ((l0.length : Int) != (l1.length : Int)) = false := bne_eq_false_iff_eq.mpr c3
  have c3b2 : (l0.length == l1.length) = true := by first | simpa using c3 | (simp at c3 ⊢; omega)
  clear c3
  have H' := A_ H
  clear H
  go_enter Try.func70, Try.ntmps70
  go_wp2
  repeat (go_quiet (fail); try go_wp2)
  go_loopg [5] k (fun kq v5 w' => ∃ (x5_1 : Int), v5 = .int .i64 x5_1 ∧ Aside0 (laws_eqIntS.l0 kq l0 l1 x5_1 = some r) ∧ Aside0 (kq ≤ k) ∧ Drawn0 w w')
  case atStart => exact ⟨(0), tf_, H', ⟨Nat.le_refl _⟩, dr_⟩
  case round =>
   clear H'
   try clear c1
   try clear p2
   try clear c3
   try clear c3b0
   try clear c3b1
   try clear c3b2
   obtain ⟨x5_1, rfl, HA, HK1, ⟨m1, rfl⟩⟩ := hrel
   cases gk with
   | zero => exact absurd HA.out (by simp [laws_eqIntS.l0])
   | succ k1 =>
    have H := HA.out
    clear HA
    simp only [laws_eqIntS.l0] at H
    by_cases c4 : x5_1 < (l0.length : Int)
    ·
     rw [if_pos c4] at H
     have c4b0 := decide_eq_true c4
     clear c4
     by_cases c5 : 0 ≤ x5_1
     ·
      rw [if_pos c5] at H
      have c5b0 := decide_eq_true c5
      clear c5
      by_cases c6 : x5_1 < (l1.length : Int)
      ·
       rw [if_pos c6] at H
       have c6b0 := decide_eq_true c6
       clear c6
       by_cases c7 : (rd l0 x5_1) = (rd l1 x5_1)
       ·
        rw [if_pos c7] at H
        have c7b0 : ((rd l0 x5_1) == (rd l1 x5_1)) = true := beq_iff_eq.mpr c7
        have c7b1 : ((rd l0 x5_1) != (rd l1 x5_1)) = false := bne_eq_false_iff_eq.mpr c7
        clear c7
        have H' := A_ H
        clear H
        have p1677 : 0 ≤ (x5_1 : Int) := od_
        have q1677 : x5_1 < (l0.length : Int) := od_
        obtain ⟨ad1677, e1677, hx1677_0⟩ := Kd.at_int HR0.out x5_1 p1677 q1677
        cases e1677
        replace p1677 := eq_true p1677
        replace q1677 := eq_true q1677
        have p1678 : 0 ≤ (x5_1 : Int) := od_
        have q1678 : x5_1 < (l1.length : Int) := od_
        obtain ⟨ad1678, e1678, hx1678_0⟩ := Kd.at_int HR1.out x5_1 p1678 q1678
        cases e1678
        replace p1678 := eq_true p1678
        replace q1678 := eq_true q1678
        go_wp2
        repeat (go_quiet (fail); try go_wp2)
        go_roundg k1
        case measure => have := HK1.out; omega
        case rel => exact ⟨(wrap64 (x5_1 + 1)), tf_, H', ⟨by have := HK1.out; omega⟩, dr_⟩
       ·
        rw [if_neg c7] at H
        have c7b0 : ((rd l0 x5_1) == (rd l1 x5_1)) = false := beq_eq_false_iff_ne.mpr c7
        have c7b1 : ((rd l0 x5_1) != (rd l1 x5_1)) = true := bne_iff_ne.mpr c7
        obtain rfl := Option.some.inj H
        have p1677 : 0 ≤ (x5_1 : Int) := od_
        have q1677 : x5_1 < (l0.length : Int) := od_
        obtain ⟨ad1677, e1677, hx1677_0⟩ := Kd.at_int HR0.out x5_1 p1677 q1677
        cases e1677
        replace p1677 := eq_true p1677
        replace q1677 := eq_true q1677
        have p1678 : 0 ≤ (x5_1 : Int) := od_
        have q1678 : x5_1 < (l1.length : Int) := od_
        obtain ⟨ad1678, e1678, hx1678_0⟩ := Kd.at_int HR1.out x5_1 p1678 q1678
        cases e1678
        replace p1678 := eq_true p1678
        replace q1678 := eq_true q1678
        go_wp2
        repeat (go_quiet (fail); try go_wp2)
        go_ret
        exact ⟨tf_, dr_⟩
      ·
       rw [if_neg c6] at H
       exact absurd H (by simp)
     ·
      rw [if_neg c5] at H
      exact absurd H (by simp)
    ·
     rw [if_neg c4] at H
     have c4b0 := decide_eq_false c4
     clear c4
     obtain rfl := Option.some.inj H
     go_wp2
     repeat (go_quiet (fail); try go_wp2)
     go_ret
     exact ⟨tf_, dr_⟩
 ·
  rw [if_neg c3] at H
  have c3b0 : ((l0.length : Int) == (l1.length : Int)) = false := beq_eq_false_iff_ne.mpr c3
  have c3b1 : ((l0.length : Int) != (l1.length : Int)) = true := bne_iff_ne.mpr c3
  have c3b2 : (l0.length == l1.length) = false := by first | simpa using c3 | (simp at c3 ⊢; omega)
  obtain rfl := Option.some.inj H
  go_enter Try.func70, Try.ntmps70
  go_wp2
  repeat (go_quiet (fail); try go_wp2)
  go_ret
  exact ⟨tf_, dr_⟩

/-! ### laws_eqIntSS: function 68 -/
def laws_eqIntSS.l0 : Nat → List (List Int) → List (List Int) → Int → Option (Bool)
 | 0, _, _, _ => none
 | k + 1, x0, x1, x5 => if x5 < (x0.length : Int) then (if 0 ≤ x5 then (if x5 < (x1.length : Int) then ((laws_eqIntS.f k (rd_L2 x0 x5) (rd_L2 x1 x5)).bind fun t1681 => (if t1681 = true then (laws_eqIntSS.l0 k x0 x1 (wrap64 (x5 + 1))) else (some false))) else (none)) else (none)) else (some true)
def laws_eqIntSS.f (k : Nat) (l0 : List (List Int)) (l1 : List (List Int)) : Option (Bool) := if (l0.length : Int) = (l1.length : Int) then (laws_eqIntSS.l0 k l0 l1 0) else (some false)
theorem laws_eqIntSS.mono_l : ∀ k, (∀ y0 y1 y2, LeO (laws_eqIntSS.l0 k y0 y1 y2) (laws_eqIntSS.l0 (k + 1) y0 y1 y2))
 | 0 => fun _ _ _ r h => by simp [laws_eqIntSS.l0] at h
 | k + 1 => by
  have ih0 := laws_eqIntSS.mono_l k
  ·
   intro y0 y1 y2
   unfold laws_eqIntSS.l0
   repeat' first | (with_reducible first | exact ih0 _ _ _ | exact laws_eqIntS.mono _ _ _ | exact LeO.refl _ | exact LeO.none _ | refine LeO.ite ?_ ?_ | refine LeO.bind ?_ (fun _ => ?_)) | exact ih0 _ _ _ | exact laws_eqIntS.mono _ _ _ | exact LeO.none _ | refine LeO.ite ?_ ?_ | refine LeO.bind ?_ (fun _ => ?_)
theorem laws_eqIntSS.mono : ∀ a0 a1 k, LeO (laws_eqIntSS.f k a0 a1) (laws_eqIntSS.f (k + 1) a0 a1) := by
 intro a0 a1 k
 have ih0 := laws_eqIntSS.mono_l k
 unfold laws_eqIntSS.f
 repeat' first | (with_reducible first | exact ih0 _ _ _ | exact laws_eqIntS.mono _ _ _ | exact LeO.refl _ | exact LeO.none _ | refine LeO.ite ?_ ?_ | refine LeO.bind ?_ (fun _ => ?_)) | exact ih0 _ _ _ | exact laws_eqIntS.mono _ _ _ | exact LeO.none _ | refine LeO.ite ?_ ?_ | refine LeO.bind ?_ (fun _ => ?_)
theorem laws_eqIntSS.calls (k : Nat) (A0 : Option Addr) (c0 : Nat) (l0 : List (List Int)) (A1 : Option Addr) (c1 : Nat) (l1 : List (List Int)) (r : Bool) (w : World) (hr0 : Kd.C (Kd.slice 3 (Kd.int .i64)) w A0 l0.length l0) (hc0 : l0.length ≤ c0) (hr1 : Kd.C (Kd.slice 3 (Kd.int .i64)) w A1 l1.length l1) (hc1 : l1.length ≤ c1) (h : laws_eqIntSS.f k l0 l1 = some r) :
  Calls Try.prog 68 #[.slice A0 l0.length c0, .slice A1 l1.length c1] w fun e w' => e = .returned (.bool r) ∧ Drawn0 w w' := by
 have HR0 := A_ hr0
 have HC0 := A_ hc0
 clear hr0 hc0
 have HR1 := A_ hr1
 have HC1 := A_ hc1
 clear hr1 hc1
 have H : (if (l0.length : Int) = (l1.length : Int) then (laws_eqIntSS.l0 k l0 l1 0) else (some false)) = some r := h
 clear h
 by_cases c3 : (l0.length : Int) = (l1.length : Int)
 ·
  rw [if_pos c3] at H
  have c3b0 : ((l0.length : Int) == (l1.length : Int)) = true := beq_iff_eq.mpr c3
  have c3b1 : ((l0.length : Int) != (l1.length : Int)) = false := bne_eq_false_iff_eq.mpr c3
  have c3b2 : (l0.length == l1.length) = true := by first | simpa using c3 | (simp at c3 ⊢; omega)
  clear c3
  have H' := A_ H
  clear H
  go_enter Try.func68, Try.ntmps68
  go_wp2
  repeat (go_quiet (fail); try go_wp2)
  go_loopg [5] k (fun kq v5 w' => ∃ (x5_1 : Int), v5 = .int .i64 x5_1 ∧ Aside0 (laws_eqIntSS.l0 kq l0 l1 x5_1 = some r) ∧ Aside0 (kq ≤ k) ∧ Drawn0 w w')
  case atStart => exact ⟨(0), tf_, H', ⟨Nat.le_refl _⟩, dr_⟩
  case round =>
   clear H'
   try clear c1
   try clear p2
   try clear c3
   try clear c3b0
   try clear c3b1
   try clear c3b2
   obtain ⟨x5_1, rfl, HA, HK1, ⟨m1, rfl⟩⟩ := hrel
   cases gk with
   | zero => exact absurd HA.out (by simp [laws_eqIntSS.l0])
   | succ k1 =>
    have H := HA.out
    clear HA
    simp only [laws_eqIntSS.l0] at H
    by_cases c4 : x5_1 < (l0.length : Int)
    ·
     rw [if_pos c4] at H
     have c4b0 := decide_eq_true c4
     clear c4
     by_cases c5 : 0 ≤ x5_1
     ·
      rw [if_pos c5] at H
      have c5b0 := decide_eq_true c5
      clear c5
      by_cases c6 : x5_1 < (l1.length : Int)
      ·
       rw [if_pos c6] at H
       have c6b0 := decide_eq_true c6
       clear c6
       replace H := Option.bind_eq_some_iff.mp H
       obtain ⟨t1681, A70, H⟩ := H
       replace H : (if t1681 = true then (laws_eqIntSS.l0 k1 l0 l1 (wrap64 (x5_1 + 1))) else (some false)) = some r := H
       have A7 := A_ A70
       clear A70
       by_cases c8 : t1681 = true
       ·
        subst c8
        have H1 : (laws_eqIntSS.l0 k1 l0 l1 (wrap64 (x5_1 + 1))) = some r := by rw [if_pos rfl] at H; exact H
        clear H
        have H := H1
        clear H1
        have H' := A_ H
        clear H
        have p1679 : 0 ≤ (x5_1 : Int) := od_
        have q1679 : x5_1 < (l0.length : Int) := od_
        obtain ⟨ad1679, A1679_0, c1679_0, e1679, hx1679_0, hl1679_0, hi1679_0⟩ := at_L2 HR0.out x5_1 p1679 q1679
        cases e1679
        have HR1679_0 := A_ hi1679_0
        have HC1679_0 := A_ hl1679_0
        clear hi1679_0 hl1679_0
        replace p1679 := eq_true p1679
        replace q1679 := eq_true q1679
        have p1680 : 0 ≤ (x5_1 : Int) := od_
        have q1680 : x5_1 < (l1.length : Int) := od_
        obtain ⟨ad1680, A1680_0, c1680_0, e1680, hx1680_0, hl1680_0, hi1680_0⟩ := at_L2 HR1.out x5_1 p1680 q1680
        cases e1680
        have HR1680_0 := A_ hi1680_0
        have HC1680_0 := A_ hl1680_0
        clear hi1680_0 hl1680_0
        replace p1680 := eq_true p1680
        replace q1680 := eq_true q1680
        go_wp2_with (first | (go_at_call 70; (with_reducible refine (laws_eqIntS.calls k1 _ _ (rd_L2 l0 x5_1) _ _ (rd_L2 l1 x5_1) true _ ?side1 ?side2 ?side3 ?side4 A7.out).mono ?_); (case side1 => exact tc0_ HR1679_0.out); (case side2 => exact HC1679_0.out); (case side3 => exact tc0_ HR1680_0.out); (case side4 => exact HC1680_0.out); rintro e w' ⟨rfl, ⟨nd, rfl⟩⟩; (try exact dn_)))
        repeat (go_quiet (first | (go_at_call 70; (with_reducible refine (laws_eqIntS.calls k1 _ _ (rd_L2 l0 x5_1) _ _ (rd_L2 l1 x5_1) true _ ?side1 ?side2 ?side3 ?side4 A7.out).mono ?_); (case side1 => exact tc0_ HR1679_0.out); (case side2 => exact HC1679_0.out); (case side3 => exact tc0_ HR1680_0.out); (case side4 => exact HC1680_0.out); rintro e w' ⟨rfl, ⟨nd, rfl⟩⟩; (try exact dn_))); try go_wp2_with (first | (go_at_call 70; (with_reducible refine (laws_eqIntS.calls k1 _ _ (rd_L2 l0 x5_1) _ _ (rd_L2 l1 x5_1) true _ ?side1 ?side2 ?side3 ?side4 A7.out).mono ?_); (case side1 => exact tc0_ HR1679_0.out); (case side2 => exact HC1679_0.out); (case side3 => exact tc0_ HR1680_0.out); (case side4 => exact HC1680_0.out); rintro e w' ⟨rfl, ⟨nd, rfl⟩⟩; (try exact dn_))))
        go_roundg k1
        case measure => have := HK1.out; omega
        case rel => exact ⟨(wrap64 (x5_1 + 1)), tf_, H', ⟨by have := HK1.out; omega⟩, dr_⟩
       ·
        replace c8 := Bool.eq_false_iff.mpr c8
        subst c8
        have H1 : (some false) = some r := by rw [if_neg (show ¬ (false = true) by decide)] at H; exact H
        clear H
        have H := H1
        clear H1
        obtain rfl := Option.some.inj H
        have p1679 : 0 ≤ (x5_1 : Int) := od_
        have q1679 : x5_1 < (l0.length : Int) := od_
        obtain ⟨ad1679, A1679_0, c1679_0, e1679, hx1679_0, hl1679_0, hi1679_0⟩ := at_L2 HR0.out x5_1 p1679 q1679
        cases e1679
        have HR1679_0 := A_ hi1679_0
        have HC1679_0 := A_ hl1679_0
        clear hi1679_0 hl1679_0
        replace p1679 := eq_true p1679
        replace q1679 := eq_true q1679
        have p1680 : 0 ≤ (x5_1 : Int) := od_
        have q1680 : x5_1 < (l1.length : Int) := od_
        obtain ⟨ad1680, A1680_0, c1680_0, e1680, hx1680_0, hl1680_0, hi1680_0⟩ := at_L2 HR1.out x5_1 p1680 q1680
        cases e1680
        have HR1680_0 := A_ hi1680_0
        have HC1680_0 := A_ hl1680_0
        clear hi1680_0 hl1680_0
        replace p1680 := eq_true p1680
        replace q1680 := eq_true q1680
        go_wp2_with (first | (go_at_call 70; (with_reducible refine (laws_eqIntS.calls k1 _ _ (rd_L2 l0 x5_1) _ _ (rd_L2 l1 x5_1) false _ ?side1 ?side2 ?side3 ?side4 A7.out).mono ?_); (case side1 => exact tc0_ HR1679_0.out); (case side2 => exact HC1679_0.out); (case side3 => exact tc0_ HR1680_0.out); (case side4 => exact HC1680_0.out); rintro e w' ⟨rfl, ⟨nd, rfl⟩⟩; (try exact dn_)))
        repeat (go_quiet (first | (go_at_call 70; (with_reducible refine (laws_eqIntS.calls k1 _ _ (rd_L2 l0 x5_1) _ _ (rd_L2 l1 x5_1) false _ ?side1 ?side2 ?side3 ?side4 A7.out).mono ?_); (case side1 => exact tc0_ HR1679_0.out); (case side2 => exact HC1679_0.out); (case side3 => exact tc0_ HR1680_0.out); (case side4 => exact HC1680_0.out); rintro e w' ⟨rfl, ⟨nd, rfl⟩⟩; (try exact dn_))); try go_wp2_with (first | (go_at_call 70; (with_reducible refine (laws_eqIntS.calls k1 _ _ (rd_L2 l0 x5_1) _ _ (rd_L2 l1 x5_1) false _ ?side1 ?side2 ?side3 ?side4 A7.out).mono ?_); (case side1 => exact tc0_ HR1679_0.out); (case side2 => exact HC1679_0.out); (case side3 => exact tc0_ HR1680_0.out); (case side4 => exact HC1680_0.out); rintro e w' ⟨rfl, ⟨nd, rfl⟩⟩; (try exact dn_))))
        go_ret
        exact ⟨tf_, dr_⟩
      ·
       rw [if_neg c6] at H
       exact absurd H (by simp)
     ·
      rw [if_neg c5] at H
      exact absurd H (by simp)
    ·
     rw [if_neg c4] at H
     have c4b0 := decide_eq_false c4
     clear c4
     obtain rfl := Option.some.inj H
     go_wp2
     repeat (go_quiet (fail); try go_wp2)
     go_ret
     exact ⟨tf_, dr_⟩
 ·
  rw [if_neg c3] at H
  have c3b0 : ((l0.length : Int) == (l1.length : Int)) = false := beq_eq_false_iff_ne.mpr c3
  have c3b1 : ((l0.length : Int) != (l1.length : Int)) = true := bne_iff_ne.mpr c3
  have c3b2 : (l0.length == l1.length) = false := by first | simpa using c3 | (simp at c3 ⊢; omega)
  obtain rfl := Option.some.inj H
  go_enter Try.func68, Try.ntmps68
  go_wp2
  repeat (go_quiet (fail); try go_wp2)
  go_ret
  exact ⟨tf_, dr_⟩

/-! ### laws_eqBoard: function 69 -/
def laws_eqBoard.f (k : Nat) (a0_0 : Int) (a0_1 : Int) (l0_2 : List Int) (a1_0 : Int) (a1_1 : Int) (l1_2 : List Int) : Option (Bool) := if a0_0 = a1_0 then (if a0_1 = a1_1 then ((laws_eqIntS.f k l0_2 l1_2).bind fun t1684 => (if t1684 = true then (some true) else (some false))) else (some false)) else (some false)
theorem laws_eqBoard.mono : ∀ a0 a1 a2 a3 a4 a5 k, LeO (laws_eqBoard.f k a0 a1 a2 a3 a4 a5) (laws_eqBoard.f (k + 1) a0 a1 a2 a3 a4 a5) := by
 intro a0 a1 a2 a3 a4 a5 k
 unfold laws_eqBoard.f
 repeat' first | (with_reducible first | exact laws_eqIntS.mono _ _ _ | exact LeO.refl _ | exact LeO.none _ | refine LeO.ite ?_ ?_ | refine LeO.bind ?_ (fun _ => ?_)) | exact laws_eqIntS.mono _ _ _ | exact LeO.none _ | refine LeO.ite ?_ ?_ | refine LeO.bind ?_ (fun _ => ?_)
theorem laws_eqBoard.calls (k : Nat) (a0_0 : Int) (a0_1 : Int) (A0_2 : Option Addr) (c0_2 : Nat) (l0_2 : List Int) (a1_0 : Int) (a1_1 : Int) (A1_2 : Option Addr) (c1_2 : Nat) (l1_2 : List Int) (r : Bool) (w : World) (hr0_2 : Kd.C (Kd.int .i64) w A0_2 l0_2.length l0_2) (hc0_2 : l0_2.length ≤ c0_2) (hr1_2 : Kd.C (Kd.int .i64) w A1_2 l1_2.length l1_2) (hc1_2 : l1_2.length ≤ c1_2) (h : laws_eqBoard.f k a0_0 a0_1 l0_2 a1_0 a1_1 l1_2 = some r) :
  Calls Try.prog 69 #[.agg #[.int .i64 a0_0, .int .i64 a0_1, .slice A0_2 l0_2.length c0_2], .agg #[.int .i64 a1_0, .int .i64 a1_1, .slice A1_2 l1_2.length c1_2]] w fun e w' => e = .returned (.bool r) ∧ Below w.heap.size w w' := by
 have hu26 := Try.underlying26
 have HR0_2 := A_ hr0_2
 have HC0_2 := A_ hc0_2
 clear hr0_2 hc0_2
 have HR1_2 := A_ hr1_2
 have HC1_2 := A_ hc1_2
 clear hr1_2 hc1_2
 have HB := A_ (Below.refl w.heap.size w)
 have H : (if a0_0 = a1_0 then (if a0_1 = a1_1 then ((laws_eqIntS.f k l0_2 l1_2).bind fun t1684 => (if t1684 = true then (some true) else (some false))) else (some false)) else (some false)) = some r := h
 clear h
 by_cases c3 : a0_0 = a1_0
 ·
  rw [if_pos c3] at H
  have c3b0 : (a0_0 == a1_0) = true := beq_iff_eq.mpr c3
  have c3b1 : (a0_0 != a1_0) = false := bne_eq_false_iff_eq.mpr c3
  clear c3
  by_cases c4 : a0_1 = a1_1
  ·
   rw [if_pos c4] at H
   have c4b0 : (a0_1 == a1_1) = true := beq_iff_eq.mpr c4
   have c4b1 : (a0_1 != a1_1) = false := bne_eq_false_iff_eq.mpr c4
   clear c4
   replace H := Option.bind_eq_some_iff.mp H
   obtain ⟨t1684, A50, H⟩ := H
   replace H : (if t1684 = true then (some true) else (some false)) = some r := H
   have A5 := A_ A50
   clear A50
   by_cases c6 : t1684 = true
   ·
    subst c6
    have H1 : (some true) = some r := by rw [if_pos rfl] at H; exact H
    clear H
    have H := H1
    clear H1
    obtain rfl := Option.some.inj H
    go_enter Try.func69, Try.ntmps69
    go_wp2_with (first | (refine gd_ 2 ?_; refine bx_ 2 #[.int .i64 a0_0, .int .i64 a0_1, .slice A0_2 l0_2.length c0_2] 26 ?_; intro gb1682 hg w7 hbox hb; have BK1682 := A_ (hbox); have GW1682 := A_ ((ts_ hg : w.heap.size ≤ gb1682)); have GE1682 := A_ ((ts_ hg : w.heap.size ≤ gb1682)); replace HB := A_ (below_step tb_ hb); clear hb hbox hg) | (refine gd_ 3 ?_; refine bx_ 3 #[.int .i64 a1_0, .int .i64 a1_1, .slice A1_2 l1_2.length c1_2] 26 ?_; intro gb1683 hg w8 hbox hb; have BK1683 := A_ (hbox); have GW1683 := A_ ((ts_ hg : w.heap.size ≤ gb1683)); have GE1683 := A_ ((ts_ hg : w.heap.size ≤ gb1683)); replace HB := A_ (below_step tb_ hb); have NB1682_1683 := A_ ((by rw [hg]; exact Nat.ne_of_lt (blk_lt (g := gb1682) (o := .cells #[.int .i64 a0_0, .int .i64 a0_1, .slice A0_2 l0_2.length c0_2] 26 (0, 0)) (tk_ BK1682)) : gb1682 ≠ gb1683)); have NB1683_1682 := A_ ((by rw [hg]; exact Nat.ne_of_gt (blk_lt (g := gb1682) (o := .cells #[.int .i64 a0_0, .int .i64 a0_1, .slice A0_2 l0_2.length c0_2] 26 (0, 0)) (tk_ BK1682)) : gb1683 ≠ gb1682)); replace BK1682 := A_ (blk_below (g := gb1682) (o := .cells #[.int .i64 a0_0, .int .i64 a0_1, .slice A0_2 l0_2.length c0_2] 26 (0, 0)) (tk_ BK1682) hb); clear hb hbox hg; have hnb9 := NB1682_1683.out; have hnc9 := NB1683_1682.out; obtain ⟨hcz10_0, hcz10_1, hcz10_2, hfz10_0, hfz10_1, hfz10_2⟩ := cf3_ BK1682.out; obtain ⟨hcz11_0, hcz11_1, hcz11_2, hfz11_0, hfz11_1, hfz11_2⟩ := cf3_ BK1683.out) | (refine gc_ 70 ?_; refine goesT_ (some 19) Try.func70 #[.slice A0_2 l0_2.length c0_2, .slice A1_2 l1_2.length c1_2] ?_; (with_reducible refine (laws_eqIntS.calls k _ _ l0_2 _ _ l1_2 true _ ?side1 ?side2 ?side3 ?side4 A5.out).mono ?_); (case side1 => exact tc_ HR0_2.out); (case side2 => exact HC0_2.out); (case side3 => exact tc_ HR1_2.out); (case side4 => exact HC1_2.out); rintro e w' ⟨rfl, ⟨nd, rfl⟩⟩; refine ⟨_, rfl, ?_⟩))
    go_ret
    exact ⟨te_, tb_⟩
   ·
    replace c6 := Bool.eq_false_iff.mpr c6
    subst c6
    have H1 : (some false) = some r := by rw [if_neg (show ¬ (false = true) by decide)] at H; exact H
    clear H
    have H := H1
    clear H1
    obtain rfl := Option.some.inj H
    go_enter Try.func69, Try.ntmps69
    go_wp2_with (first | (refine gd_ 2 ?_; refine bx_ 2 #[.int .i64 a0_0, .int .i64 a0_1, .slice A0_2 l0_2.length c0_2] 26 ?_; intro gb1682 hg w12 hbox hb; have BK1682 := A_ (hbox); have GW1682 := A_ ((ts_ hg : w.heap.size ≤ gb1682)); have GE1682 := A_ ((ts_ hg : w.heap.size ≤ gb1682)); replace HB := A_ (below_step tb_ hb); clear hb hbox hg) | (refine gd_ 3 ?_; refine bx_ 3 #[.int .i64 a1_0, .int .i64 a1_1, .slice A1_2 l1_2.length c1_2] 26 ?_; intro gb1683 hg w13 hbox hb; have BK1683 := A_ (hbox); have GW1683 := A_ ((ts_ hg : w.heap.size ≤ gb1683)); have GE1683 := A_ ((ts_ hg : w.heap.size ≤ gb1683)); replace HB := A_ (below_step tb_ hb); have NB1682_1683 := A_ ((by rw [hg]; exact Nat.ne_of_lt (blk_lt (g := gb1682) (o := .cells #[.int .i64 a0_0, .int .i64 a0_1, .slice A0_2 l0_2.length c0_2] 26 (0, 0)) (tk_ BK1682)) : gb1682 ≠ gb1683)); have NB1683_1682 := A_ ((by rw [hg]; exact Nat.ne_of_gt (blk_lt (g := gb1682) (o := .cells #[.int .i64 a0_0, .int .i64 a0_1, .slice A0_2 l0_2.length c0_2] 26 (0, 0)) (tk_ BK1682)) : gb1683 ≠ gb1682)); replace BK1682 := A_ (blk_below (g := gb1682) (o := .cells #[.int .i64 a0_0, .int .i64 a0_1, .slice A0_2 l0_2.length c0_2] 26 (0, 0)) (tk_ BK1682) hb); clear hb hbox hg; have hnb14 := NB1682_1683.out; have hnc14 := NB1683_1682.out; obtain ⟨hcz15_0, hcz15_1, hcz15_2, hfz15_0, hfz15_1, hfz15_2⟩ := cf3_ BK1682.out; obtain ⟨hcz16_0, hcz16_1, hcz16_2, hfz16_0, hfz16_1, hfz16_2⟩ := cf3_ BK1683.out) | (refine gc_ 70 ?_; refine goesT_ (some 19) Try.func70 #[.slice A0_2 l0_2.length c0_2, .slice A1_2 l1_2.length c1_2] ?_; (with_reducible refine (laws_eqIntS.calls k _ _ l0_2 _ _ l1_2 false _ ?side1 ?side2 ?side3 ?side4 A5.out).mono ?_); (case side1 => exact tc_ HR0_2.out); (case side2 => exact HC0_2.out); (case side3 => exact tc_ HR1_2.out); (case side4 => exact HC1_2.out); rintro e w' ⟨rfl, ⟨nd, rfl⟩⟩; refine ⟨_, rfl, ?_⟩))
    go_ret
    exact ⟨te_, tb_⟩
  ·
   rw [if_neg c4] at H
   have c4b0 : (a0_1 == a1_1) = false := beq_eq_false_iff_ne.mpr c4
   have c4b1 : (a0_1 != a1_1) = true := bne_iff_ne.mpr c4
   obtain rfl := Option.some.inj H
   go_enter Try.func69, Try.ntmps69
   go_wp2_with (first | (refine gd_ 2 ?_; refine bx_ 2 #[.int .i64 a0_0, .int .i64 a0_1, .slice A0_2 l0_2.length c0_2] 26 ?_; intro gb1682 hg w17 hbox hb; have BK1682 := A_ (hbox); have GW1682 := A_ ((ts_ hg : w.heap.size ≤ gb1682)); have GE1682 := A_ ((ts_ hg : w.heap.size ≤ gb1682)); replace HB := A_ (below_step tb_ hb); clear hb hbox hg) | (refine gd_ 3 ?_; refine bx_ 3 #[.int .i64 a1_0, .int .i64 a1_1, .slice A1_2 l1_2.length c1_2] 26 ?_; intro gb1683 hg w18 hbox hb; have BK1683 := A_ (hbox); have GW1683 := A_ ((ts_ hg : w.heap.size ≤ gb1683)); have GE1683 := A_ ((ts_ hg : w.heap.size ≤ gb1683)); replace HB := A_ (below_step tb_ hb); have NB1682_1683 := A_ ((by rw [hg]; exact Nat.ne_of_lt (blk_lt (g := gb1682) (o := .cells #[.int .i64 a0_0, .int .i64 a0_1, .slice A0_2 l0_2.length c0_2] 26 (0, 0)) (tk_ BK1682)) : gb1682 ≠ gb1683)); have NB1683_1682 := A_ ((by rw [hg]; exact Nat.ne_of_gt (blk_lt (g := gb1682) (o := .cells #[.int .i64 a0_0, .int .i64 a0_1, .slice A0_2 l0_2.length c0_2] 26 (0, 0)) (tk_ BK1682)) : gb1683 ≠ gb1682)); replace BK1682 := A_ (blk_below (g := gb1682) (o := .cells #[.int .i64 a0_0, .int .i64 a0_1, .slice A0_2 l0_2.length c0_2] 26 (0, 0)) (tk_ BK1682) hb); clear hb hbox hg; have hnb19 := NB1682_1683.out; have hnc19 := NB1683_1682.out; obtain ⟨hcz20_0, hcz20_1, hcz20_2, hfz20_0, hfz20_1, hfz20_2⟩ := cf3_ BK1682.out; obtain ⟨hcz21_0, hcz21_1, hcz21_2, hfz21_0, hfz21_1, hfz21_2⟩ := cf3_ BK1683.out))
   go_ret
   exact ⟨te_, tb_⟩
 ·
  rw [if_neg c3] at H
  have c3b0 : (a0_0 == a1_0) = false := beq_eq_false_iff_ne.mpr c3
  have c3b1 : (a0_0 != a1_0) = true := bne_iff_ne.mpr c3
  obtain rfl := Option.some.inj H
  go_enter Try.func69, Try.ntmps69
  go_wp2_with (first | (refine gd_ 2 ?_; refine bx_ 2 #[.int .i64 a0_0, .int .i64 a0_1, .slice A0_2 l0_2.length c0_2] 26 ?_; intro gb1682 hg w22 hbox hb; have BK1682 := A_ (hbox); have GW1682 := A_ ((ts_ hg : w.heap.size ≤ gb1682)); have GE1682 := A_ ((ts_ hg : w.heap.size ≤ gb1682)); replace HB := A_ (below_step tb_ hb); clear hb hbox hg) | (refine gd_ 3 ?_; refine bx_ 3 #[.int .i64 a1_0, .int .i64 a1_1, .slice A1_2 l1_2.length c1_2] 26 ?_; intro gb1683 hg w23 hbox hb; have BK1683 := A_ (hbox); have GW1683 := A_ ((ts_ hg : w.heap.size ≤ gb1683)); have GE1683 := A_ ((ts_ hg : w.heap.size ≤ gb1683)); replace HB := A_ (below_step tb_ hb); have NB1682_1683 := A_ ((by rw [hg]; exact Nat.ne_of_lt (blk_lt (g := gb1682) (o := .cells #[.int .i64 a0_0, .int .i64 a0_1, .slice A0_2 l0_2.length c0_2] 26 (0, 0)) (tk_ BK1682)) : gb1682 ≠ gb1683)); have NB1683_1682 := A_ ((by rw [hg]; exact Nat.ne_of_gt (blk_lt (g := gb1682) (o := .cells #[.int .i64 a0_0, .int .i64 a0_1, .slice A0_2 l0_2.length c0_2] 26 (0, 0)) (tk_ BK1682)) : gb1683 ≠ gb1682)); replace BK1682 := A_ (blk_below (g := gb1682) (o := .cells #[.int .i64 a0_0, .int .i64 a0_1, .slice A0_2 l0_2.length c0_2] 26 (0, 0)) (tk_ BK1682) hb); clear hb hbox hg; have hnb24 := NB1682_1683.out; have hnc24 := NB1683_1682.out; obtain ⟨hcz25_0, hcz25_1, hcz25_2, hfz25_0, hfz25_1, hfz25_2⟩ := cf3_ BK1682.out; obtain ⟨hcz26_0, hcz26_1, hcz26_2, hfz26_0, hfz26_1, hfz26_2⟩ := cf3_ BK1683.out))
  go_ret
  exact ⟨te_, tb_⟩

/-! ### laws_markIntS: function 72 -/
def laws_markIntS.l0 : Nat → List Int → Int → Int → Option (Int × List Int)
 | 0, _, _, _ => none
 | k + 1, x0, x1, x5 => if x5 < (x0.length : Int) then (if 0 ≤ x5 then (laws_markIntS.l0 k (x0.set (x5 : Int).toNat x1) (wrap64 (x1 + 1)) (wrap64 (x5 + 1))) else (none)) else (some (x1, x0))
def laws_markIntS.f (k : Nat) (l0 : List Int) (a1 : Int) : Option (Int × List Int) := laws_markIntS.l0 k l0 a1 0
theorem laws_markIntS.mono_l : ∀ k, (∀ y0 y1 y2, LeO (laws_markIntS.l0 k y0 y1 y2) (laws_markIntS.l0 (k + 1) y0 y1 y2))
 | 0 => fun _ _ _ r h => by simp [laws_markIntS.l0] at h
 | k + 1 => by
  have ih0 := laws_markIntS.mono_l k
  ·
   intro y0 y1 y2
   unfold laws_markIntS.l0
   repeat' first | (with_reducible first | exact ih0 _ _ _ | exact LeO.refl _ | exact LeO.none _ | refine LeO.ite ?_ ?_ | refine LeO.bind ?_ (fun _ => ?_)) | exact ih0 _ _ _ | exact LeO.none _ | refine LeO.ite ?_ ?_ | refine LeO.bind ?_ (fun _ => ?_)
theorem laws_markIntS.mono : ∀ a0 a1 k, LeO (laws_markIntS.f k a0 a1) (laws_markIntS.f (k + 1) a0 a1) := by
 intro a0 a1 k
 have ih0 := laws_markIntS.mono_l k
 unfold laws_markIntS.f
 repeat' first | (with_reducible first | exact ih0 _ _ _ | exact LeO.refl _ | exact LeO.none _ | refine LeO.ite ?_ ?_ | refine LeO.bind ?_ (fun _ => ?_)) | exact ih0 _ _ _ | exact LeO.none _ | refine LeO.ite ?_ ?_ | refine LeO.bind ?_ (fun _ => ?_)
theorem laws_markIntS.calls (k : Nat) (P0_ : Nat → Prop) (u9000_ : Value) (l0 : List Int) (a1 : Int) (r1 : Int) (r2 : List Int) (w0 w : World) (hB : Below w0.heap.size w0 w) (ho0 : Kd.R (Kd.int .i64) 3 w w0.heap.size P0_ u9000_ l0) (h : laws_markIntS.f k l0 a1 = some (r1, r2)) :
  Calls Try.prog 72 #[u9000_, .int .i64 a1] w fun e w' => e = .returned (.int .i64 r1) ∧ Kd.R (Kd.int .i64) 3 w' w0.heap.size (fun k_ => (P0_ k_ ∨ w.heap.size ≤ k_)) u9000_ r2 ∧ Below w0.heap.size w0 w' ∧ Kept w w' (fun k_ => P0_ k_) := by
 have HO0 := A_ (show Kd.R (Kd.int .i64) 3 w w0.heap.size (fun k_ => (P0_ k_ ∨ w.heap.size ≤ k_)) u9000_ l0 from Kd.R_mono ho0 (fun k_ hk => (.inl hk)))
 have HK := A_ (Kept.refl w (fun k_ => P0_ k_))
 have HW0 := A_ hB.size
 have HB := A_ hB
 clear hB
 have H : (laws_markIntS.l0 k l0 a1 0) = some (r1, r2) := h
 clear h
 have H' := A_ H
 clear H
 go_enter Try.func72, Try.ntmps72
 go_wp2
 go_loopg [1, 5] k (fun kq v1 v5 w' => ∃ (x0_1 : List Int) (x1_1 : Int) (x5_1 : Int), v1 = .int .i64 x1_1 ∧ v5 = .int .i64 x5_1 ∧ Aside0 (laws_markIntS.l0 kq x0_1 x1_1 x5_1 = some (r1, r2)) ∧ Aside0 (kq ≤ k) ∧ Aside0 (Kd.R (Kd.int .i64) 3 w' w0.heap.size (fun k_ => (P0_ k_ ∨ w.heap.size ≤ k_)) u9000_ x0_1) ∧ Aside0 (Kept w w' (fun k_ => P0_ k_)) ∧ Aside0 (Below w0.heap.size w0 w'))
 case atStart => exact ⟨(l0), (a1), (0), tf_, tf_, H', ⟨Nat.le_refl _⟩, ⟨tr_x HO0.out⟩, ⟨by repeat (first | (with_reducible first | exact HK.out | apply Kept.alloc | apply Kept.drewN | apply Kept.drew) | exact HK.out)⟩, ⟨tb_⟩⟩
 case round =>
  clear H'
  try clear p2
  obtain ⟨x0_1, x1_1, x5_1, rfl, rfl, HA, HK1, HO_0, HK, HB⟩ := hrel
  cases gk with
  | zero => exact absurd HA.out (by simp [laws_markIntS.l0])
  | succ k1 =>
   have H := HA.out
   clear HA
   simp only [laws_markIntS.l0] at H
   by_cases c3 : x5_1 < (x0_1.length : Int)
   ·
    rw [if_pos c3] at H
    have c3b0 := decide_eq_true c3
    clear c3
    by_cases c4 : 0 ≤ x5_1
    ·
     rw [if_pos c4] at H
     have c4b0 := decide_eq_true c4
     clear c4
     obtain ⟨y1685, hy1685⟩ : ∃ y_ : List Int, y_ = (x0_1.set (x5_1 : Int).toNat x1_1) := ⟨_, rfl⟩
     replace H : (laws_markIntS.l0 k1 y1685 (wrap64 (x1_1 + 1)) (wrap64 (x5_1 + 1))) = some (r1, r2) := ty_ hy1685 H
     have Ny1685 := A_ hy1685
     clear hy1685
     have H' := A_ H
     clear H
     obtain ⟨Ao6, co6, eo6⟩ := Kd.R_slice HO_0.out
     subst eo6
     have p5 : 0 ≤ (x5_1 : Int) := od_
     have q5 : (x5_1 : Int) < ((x0_1.length : Int) : Int) := od_
     obtain ⟨go5, co5, eo5, gb5, gl5, cl5, HG5⟩ := Kd.R_form HO_0.out (by omega)
     (first | cases eo5 | (injection eo5 with ea_ en_ ec_; (first | subst ea_ | (injection ea_ with ea_; subst ea_)); subst ec_; clear en_))
     have GB5 := A_ gb5
     have GG5 := A_ HG5
     clear gb5 gl5 HG5
     have HMgo5 := A_ (show (P0_ go5 ∨ w.heap.size ≤ go5) from (HO_0.out.1 _ rfl))
     obtain ⟨hx5_0, hf5_0⟩ := Kd.R_celln 0 HO_0.out (x5_1 : Int) p5 q5
     replace p5 := eq_true p5
     replace q5 := eq_true q5
     have HP7 := Kd.R_putg HO_0.out (x5_1 : Int) x1_1
     go_wp2_with (first | ((with_reducible refine gate_store (t := 3) (p := 15) rfl ?_); refine store_event (t := 3) (p := 15) (v := ?vo_w8) (w1 := (wr.setCell ⟨go5, (x5_1 : Int).toNat, none⟩ (.int .i64 x1_1))) ?hg ?ho ?hn ?hr ?_; (case ho => rfl); (case hg => rfl); (case hn => rfl); (case hr => first | (go_simp; done) | (go_simp; rfl)); intro w8 hw; have hg : wr.grownBy w8 (some go5) := (by rw [hw]; exact HP7.2); have hp_ : Kd.R (Kd.int .i64) 3 w8 w0.heap.size (fun k_ => (P0_ k_ ∨ w.heap.size ≤ k_)) (.slice (some ⟨go5, 0, none⟩) x0_1.length co6) y1685 := (by rw [hw, Ny1685.out]; exact HP7.1); clear HP7; replace HB := A_ ((by rw [hw]; exact below_set (HB.out) GB5.out : Below w0.heap.size w0 w8)); replace HK := A_ (Kept.of_grown (S := (fun k_ => P0_ k_)) hg (by repeat (first | (with_reducible first | exact HK.out | apply Kept.alloc | apply Kept.drewN | apply Kept.drew) | exact HK.out)) (fun k_ e_ => (HO_0.out.1 k_ e_))); replace HO_0 := A_ (hp_); clear hg hw hp_))
     go_roundg k1
     case measure => have := HK1.out; omega
     case rel => exact ⟨(y1685), (wrap64 (x1_1 + 1)), (wrap64 (x5_1 + 1)), tf_, tf_, H', ⟨by have := HK1.out; omega⟩, ⟨tr_x HO_0.out⟩, ⟨by repeat (first | (with_reducible first | exact HK.out | apply Kept.alloc | apply Kept.drewN | apply Kept.drew) | exact HK.out)⟩, ⟨tb_⟩⟩
    ·
     rw [if_neg c4] at H
     exact absurd H (by simp)
   ·
    rw [if_neg c3] at H
    have c3b0 := decide_eq_false c3
    clear c3
    simp only [Option.some.injEq, Prod.mk.injEq] at H
    obtain ⟨rfl, rfl⟩ := H
    obtain ⟨Ao9, co9, eo9⟩ := Kd.R_slice HO_0.out
    subst eo9
    go_wp2
    go_ret
    exact ⟨te_, tr_x HO_0.out, tb_, by repeat (first | (with_reducible first | exact HK.out | apply Kept.alloc | apply Kept.drewN | apply Kept.drew) | exact HK.out)⟩

/-! ### laws_markBoard: function 71 -/
def laws_markBoard.f (k : Nat) (a0_0 : Int) (a0_1 : Int) (l0_2 : List Int) (a1 : Int) : Option (Int × List Int) := (laws_markIntS.f k l0_2 a1).bind fun bt1687 => (some (bt1687.1, bt1687.2))
theorem laws_markBoard.mono : ∀ a0 a1 a2 a3 k, LeO (laws_markBoard.f k a0 a1 a2 a3) (laws_markBoard.f (k + 1) a0 a1 a2 a3) := by
 intro a0 a1 a2 a3 k
 unfold laws_markBoard.f
 repeat' first | (with_reducible first | exact laws_markIntS.mono _ _ _ | exact LeO.refl _ | exact LeO.none _ | refine LeO.ite ?_ ?_ | refine LeO.bind ?_ (fun _ => ?_)) | exact laws_markIntS.mono _ _ _ | exact LeO.none _ | refine LeO.ite ?_ ?_ | refine LeO.bind ?_ (fun _ => ?_)
theorem laws_markBoard.calls (k : Nat) (a0_0 : Int) (a0_1 : Int) (P0_2_ : Nat → Prop) (u9000_ : Value) (l0_2 : List Int) (a1 : Int) (r1 : Int) (r2 : List Int) (w0 w : World) (hB : Below w0.heap.size w0 w) (ho0_2 : Kd.R (Kd.int .i64) 3 w w0.heap.size P0_2_ u9000_ l0_2) (h : laws_markBoard.f k a0_0 a0_1 l0_2 a1 = some (r1, r2)) :
  Calls Try.prog 71 #[.agg #[.int .i64 a0_0, .int .i64 a0_1, u9000_], .int .i64 a1] w fun e w' => e = .returned (.int .i64 r1) ∧ Kd.R (Kd.int .i64) 3 w' w0.heap.size (fun k_ => (P0_2_ k_ ∨ w.heap.size ≤ k_)) u9000_ r2 ∧ Below w0.heap.size w0 w' ∧ Kept w w' (fun k_ => P0_2_ k_) := by
 have hu26 := Try.underlying26
 have HO0_2 := A_ (show Kd.R (Kd.int .i64) 3 w w0.heap.size (fun k_ => (P0_2_ k_ ∨ w.heap.size ≤ k_)) u9000_ l0_2 from Kd.R_mono ho0_2 (fun k_ hk => (.inl hk)))
 have HK := A_ (Kept.refl w (fun k_ => P0_2_ k_))
 have HW0 := A_ hB.size
 have HB := A_ hB
 clear hB
 have H : ((laws_markIntS.f k l0_2 a1).bind fun bt1687 => (some (bt1687.1, bt1687.2))) = some (r1, r2) := h
 clear h
 replace H := Option.bind_eq_some_iff.mp H
 obtain ⟨⟨t1687, t1688⟩, A30, H⟩ := H
 replace H : (some (t1687, t1688)) = some (r1, r2) := H
 have A3 := A_ A30
 clear A30
 simp only [Option.some.injEq, Prod.mk.injEq] at H
 obtain ⟨rfl, rfl⟩ := H
 obtain ⟨Ao4, co4, eo4⟩ := Kd.R_slice HO0_2.out
 subst eo4
 go_enter Try.func71, Try.ntmps71
 go_wp2_with (first | (refine gd_ 2 ?_; refine bx_ 2 #[.int .i64 a0_0, .int .i64 a0_1, .slice Ao4 l0_2.length co4] 26 ?_; intro gb1686 hg w5 hbox hb; replace HO0_2 := A_ (Kd.R_below (tr_x HO0_2.out) hb); have BK1686 := A_ (hbox); have GW1686 := A_ ((by rw [hg]; exact (by first | exact HK.out.1 | exact (show Kept w _ (fun k_ => P0_2_ k_) from by repeat (first | (with_reducible first | exact HK.out | apply Kept.alloc | apply Kept.drewN | apply Kept.drew) | exact HK.out)).1) : w.heap.size ≤ gb1686)); replace HK := A_ (Kept.below (S := (fun k_ => P0_2_ k_)) (by repeat (first | (with_reducible first | exact HK.out | apply Kept.alloc | apply Kept.drewN | apply Kept.drew) | exact HK.out)) hb); have GE1686 := A_ ((ts_ hg : w0.heap.size ≤ gb1686)); replace HB := A_ (below_step tb_ hb); clear hb hbox hg; obtain ⟨hcz6_0, hcz6_1, hcz6_2, hfz6_0, hfz6_1, hfz6_2⟩ := cf3_ BK1686.out) | (refine gc_ 72 ?_; refine goesT_ (some 8) Try.func72 #[.slice Ao4 l0_2.length co4, .int .i64 a1] ?_; (with_reducible refine (laws_markIntS.calls k (fun k_ => some k_ = (.slice Ao4 l0_2.length co4 : Value).ownBlock) (.slice Ao4 l0_2.length co4) l0_2 a1 t1687 t1688 w0 _ ?side1 ?side2 A3.out).mono ?_); (case side1 => repeat (first | (with_reducible first | exact HB.out | apply below_alloc | apply pw_below_drewN | apply below_drew1 | refine below_set ?_ GE1686.out) | exact HB.out)); (case side2 => exact Kd.R_tight rfl HO0_2.out); rintro e w7 ⟨rfl, hy0, hb, hkp⟩; refine ⟨_, rfl, ?_⟩; replace BK1686 := A_ (blk_kept (tk_ BK1686) hkp (fun hs_ => (fun e_ => (Kd.R_ne HO0_2.out BK1686.out (by decide)) e_) hs_)); replace HK := A_ (Kept.then_ (S := (fun k_ => P0_2_ k_)) (by repeat (first | (with_reducible first | exact HK.out | apply Kept.alloc | apply Kept.drewN | apply Kept.drew | refine Kept.setCell ?_ (.inr GW1686.out) _) | exact HK.out)) hkp (fun k_ hs_ => (fun e_ => (HO0_2.out.1 k_ e_.symm)) hs_)); replace HO0_2 := A_ (Kd.R_reok rfl hy0 (fun k_ e_ => HO0_2.out.1 k_ e_)); replace HB := A_ (hb); (try clear hb); (try clear hkp); (try clear hy0)))
 go_ret
 exact ⟨te_, tr_x HO0_2.out, tb_, by repeat (first | (with_reducible first | exact HK.out | apply Kept.alloc | apply Kept.drewN | apply Kept.drew | refine Kept.setCell ?_ (.inr GW1686.out) _) | exact HK.out)⟩

/-! ### laws_markIntSS: function 73 -/
def laws_markIntSS.l0 : Nat → List (List Int) → Int → Int → Option (Int × List (List Int))
 | 0, _, _, _ => none
 | k + 1, x0, x1, x5 => if x5 < (x0.length : Int) then (if 0 ≤ x5 then ((laws_markIntS.f k (rd_L2 x0 x5) x1).bind fun t => laws_markIntSS.l0 k (x0.set (x5 : Int).toNat t.2) t.1 (wrap64 (x5 + 1))) else none) else some (x1, x0)
def laws_markIntSS.f (k : Nat) (l0 : List (List Int)) (a1 : Int) : Option (Int × List (List Int)) := laws_markIntSS.l0 k l0 a1 0
theorem laws_markIntSS.mono_l : ∀ k, (∀ y0 y1 y2, LeO (laws_markIntSS.l0 k y0 y1 y2) (laws_markIntSS.l0 (k + 1) y0 y1 y2))
 | 0 => fun _ _ _ r h => by simp [laws_markIntSS.l0] at h
 | k + 1 => by
  have ih0 := laws_markIntSS.mono_l k
  ·
   intro y0 y1 y2
   unfold laws_markIntSS.l0
   repeat' first | (with_reducible first | exact ih0 _ _ _ | exact LeO.refl _ | exact LeO.none _ | exact laws_markIntS.mono _ _ _ | refine LeO.ite ?_ ?_ | refine LeO.bind ?_ (fun _ => ?_)) | exact ih0 _ _ _ | exact LeO.none _ | exact laws_markIntS.mono _ _ _ | refine LeO.ite ?_ ?_ | refine LeO.bind ?_ (fun _ => ?_)
theorem laws_markIntSS.mono : ∀ a0 a1 k, LeO (laws_markIntSS.f k a0 a1) (laws_markIntSS.f (k + 1) a0 a1) := fun a0 a1 k => laws_markIntSS.mono_l k _ _ _
theorem laws_markIntSS.calls (k : Nat) (P0_ : Nat → Prop) (u9000_ : Value) (l0 : List (List Int)) (a1 : Int) (r1 : Int) (r2 : List (List Int)) (w0 w : World) (hB : Below w0.heap.size w0 w) (ho0 : Kd.S (Kd.slice 3 (Kd.int .i64)) 24 w w0.heap.size P0_ u9000_ l0) (h : laws_markIntSS.f k l0 a1 = some (r1, r2)) :
  Calls Try.prog 73 #[u9000_, .int .i64 a1] w fun e w' => e = .returned (.int .i64 r1) ∧ Kd.S (Kd.slice 3 (Kd.int .i64)) 24 w' w0.heap.size (fun k_ => (P0_ k_ ∨ w.heap.size ≤ k_)) u9000_ r2 ∧ Below w0.heap.size w0 w' ∧ Kept w w' (fun k_ => P0_ k_) := by
 have HO0 := A_ (show Kd.S (Kd.slice 3 (Kd.int .i64)) 24 w w0.heap.size (fun k_ => (P0_ k_ ∨ w.heap.size ≤ k_)) u9000_ l0 from Kd.S_mono ho0 (fun k_ hk => (.inl hk)))
 have HK := A_ (Kept.refl w (fun k_ => P0_ k_))
 have HB := A_ hB
 clear hB
 have H' := A_ (show laws_markIntSS.l0 k l0 a1 0 = some (r1, r2) from h)
 clear h
 go_enter Try.func73, Try.ntmps73
 go_wp2
 go_loopg [1, 5] k (fun kq v1 v5 w' => ∃ (x0_1 : List (List Int)) (x1_1 : Int) (x5_1 : Int), v1 = .int .i64 x1_1 ∧ v5 = .int .i64 x5_1 ∧ Aside0 (laws_markIntSS.l0 kq x0_1 x1_1 x5_1 = some (r1, r2)) ∧ Aside0 (kq ≤ k) ∧ Aside0 (Kd.S (Kd.slice 3 (Kd.int .i64)) 24 w' w0.heap.size (fun k_ => (P0_ k_ ∨ w.heap.size ≤ k_)) u9000_ x0_1) ∧ Aside0 (Kept w w' (fun k_ => P0_ k_)) ∧ Aside0 (Below w0.heap.size w0 w'))
 case atStart => exact ⟨l0, a1, 0, rfl, rfl, H', ⟨Nat.le_refl _⟩, ⟨ts1_x HO0.out⟩, ⟨by repeat (first | (with_reducible first | exact HK.out | apply Kept.alloc | apply Kept.drewN | apply Kept.drew) | exact HK.out)⟩, ⟨tb_⟩⟩
 case round =>
  clear H'
  obtain ⟨x0_1, x1_1, x5_1, rfl, rfl, HA, HK1, HO_0, HK, HB⟩ := hrel
  cases gk with
  | zero => exact absurd HA.out (by simp [laws_markIntSS.l0])
  | succ k1 =>
   have H := HA.out
   clear HA
   simp only [laws_markIntSS.l0] at H
   by_cases c3 : x5_1 < (x0_1.length : Int)
   ·
    rw [if_pos c3] at H
    by_cases c4 : 0 ≤ x5_1
    ·
     rw [if_pos c4] at H
     obtain ⟨⟨t1, t2⟩, A1, H⟩ := Option.bind_eq_some_iff.mp H
     have H' := A_ H
     have A1' := A_ A1
     clear H A1
     obtain ⟨go5, co5, eo5, gb5, gl5, cl5, HG5⟩ := Kd.S_form HO_0.out (by omega)
     subst eo5
     obtain ⟨oki, ci, hcl, hM, hcc, hoki, hH⟩ := Kd.S_lend HO_0.out [] x5_1 c4 c3
     obtain ⟨ve, rfl, hR⟩ := hM
     have hx := hcc 0 _ rfl
     simp only [show (Kd.slice 3 (Kd.int .i64)).sz = 1 from rfl, Nat.mul_one, Nat.add_zero] at hx
     have HR := A_ hR
     have HH := A_ hH
     have HI := A_ hoki
     have c3b := decide_eq_true c3
     have c4b := decide_eq_true c4
     have c3' := A_ c3
     have c4' := A_ c4
     clear hR hH hoki hcl hcc gb5 gl5 HG5 c3 c4
     have p5 : (0 ≤ x5_1) = True := eq_true c4'.out
     have q5 : (x5_1 < (x0_1.length : Int)) = True := eq_true c3'.out
     go_wp2_with (first | (go_at_call 72; (with_reducible refine (laws_markIntS.calls k1 oki ve (rd_L2 x0_1 x5_1) x1_1 t1 t2 w0 _ ?sB ?sR A1'.out).mono ?_); (case sB => repeat (first | (with_reducible first | exact HB.out | apply below_alloc | apply pw_below_drewN | apply below_drew1) | exact HB.out)); (case sR => (with_reducible repeat (first | apply Kd.R_alloc | apply Kd.R_drewN | apply Kd.R_drew)); exact HR.out); rintro e w8 ⟨rfl, hy, hb, hkp⟩; have HY := A_ hy; have HB2 := A_ hb; have HKP := A_ hkp; clear hy hb hkp))
     go_roundg k1
     case measure => have := HK1.out; omega
     case rel =>
      refine ⟨x0_1.set x5_1.toNat t2, t1, wrap64 (x5_1 + 1), rfl, by first | rfl | (simp; done), H', ⟨by have := HK1.out; omega⟩, ?_, ?_, ?_⟩
      ·
       refine ⟨?_⟩
       (with_reducible repeat (first | apply Kd.S_alloc | apply Kd.S_drewN | apply Kd.S_drew))
       have hle := HKP.out.1
       have hle2 := HK.out.1
       have hsz := HB.out.size
       exact Kd.H_back (Kd.H_step (Kd.H_widen HH.out) (fun k_ hk hn hlt => HKP.out.2 k_ hlt (fun h2 => hn (.inl h2)))) (Kd.M_row HY.out) (fun k_ hk => hk.elim .inl (fun h2 => .inr ⟨.inr (Nat.le_trans hle2 h2), h2⟩))
      ·
       refine ⟨?_⟩
       repeat (first | (with_reducible first | apply Kept.alloc | apply Kept.drewN | apply Kept.drew))
       exact Kept.then_ HK.out HKP.out (fun k_ hk => (HI.out k_ hk).1)
      ·
       exact ⟨by repeat (first | (with_reducible first | exact HB2.out | apply below_alloc | apply pw_below_drewN | apply below_drew1) | exact HB2.out)⟩
    ·
     rw [if_neg c4] at H
     exact absurd H (by simp)
   ·
    rw [if_neg c3] at H
    have c3b0 := decide_eq_false c3
    clear c3
    simp only [Option.some.injEq, Prod.mk.injEq] at H
    obtain ⟨rfl, rfl⟩ := H
    obtain ⟨Ao9, co9, eo9⟩ := Kd.S_slice HO_0.out
    subst eo9
    go_wp2
    go_ret
    exact ⟨te_, by (with_reducible repeat (first | apply Kd.S_alloc | apply Kd.S_drewN | apply Kd.S_drew)); exact HO_0.out, tb_, by repeat (first | (with_reducible first | exact HK.out | apply Kept.alloc | apply Kept.drewN | apply Kept.drew) | exact HK.out)⟩

/-! ### laws_heldIntS: function 143 -/
def laws_heldIntS.l0 : Nat → List Int → Int → Int → Option (Int)
 | 0, _, _, _ => none
 | k + 1, x0, x1, x5 => if x5 < (x0.length : Int) then (if 0 ≤ x5 then (if (rd x0 x5) = x1 then (laws_heldIntS.l0 k x0 (wrap64 (x1 + 1)) (wrap64 (x5 + 1))) else (some (-1))) else (none)) else (some x1)
def laws_heldIntS.f (k : Nat) (l0 : List Int) (a1 : Int) : Option (Int) := laws_heldIntS.l0 k l0 a1 0
theorem laws_heldIntS.mono_l : ∀ k, (∀ y0 y1 y2, LeO (laws_heldIntS.l0 k y0 y1 y2) (laws_heldIntS.l0 (k + 1) y0 y1 y2))
 | 0 => fun _ _ _ r h => by simp [laws_heldIntS.l0] at h
 | k + 1 => by
  have ih0 := laws_heldIntS.mono_l k
  ·
   intro y0 y1 y2
   unfold laws_heldIntS.l0
   repeat' first | (with_reducible first | exact ih0 _ _ _ | exact LeO.refl _ | exact LeO.none _ | refine LeO.ite ?_ ?_ | refine LeO.bind ?_ (fun _ => ?_)) | exact ih0 _ _ _ | exact LeO.none _ | refine LeO.ite ?_ ?_ | refine LeO.bind ?_ (fun _ => ?_)
theorem laws_heldIntS.mono : ∀ a0 a1 k, LeO (laws_heldIntS.f k a0 a1) (laws_heldIntS.f (k + 1) a0 a1) := by
 intro a0 a1 k
 have ih0 := laws_heldIntS.mono_l k
 unfold laws_heldIntS.f
 repeat' first | (with_reducible first | exact ih0 _ _ _ | exact LeO.refl _ | exact LeO.none _ | refine LeO.ite ?_ ?_ | refine LeO.bind ?_ (fun _ => ?_)) | exact ih0 _ _ _ | exact LeO.none _ | refine LeO.ite ?_ ?_ | refine LeO.bind ?_ (fun _ => ?_)
theorem laws_heldIntS.calls (k : Nat) (A0 : Option Addr) (c0 : Nat) (l0 : List Int) (a1 : Int) (r : Int) (w : World) (hr0 : Kd.C (Kd.int .i64) w A0 l0.length l0) (hc0 : l0.length ≤ c0) (h : laws_heldIntS.f k l0 a1 = some r) :
  Calls Try.prog 143 #[.slice A0 l0.length c0, .int .i64 a1] w fun e w' => e = .returned (.int .i64 r) ∧ Drawn0 w w' := by
 have HR0 := A_ hr0
 have HC0 := A_ hc0
 clear hr0 hc0
 have H : (laws_heldIntS.l0 k l0 a1 0) = some r := h
 clear h
 have H' := A_ H
 clear H
 go_enter Try.func143, Try.ntmps143
 go_wp2
 go_loopg [1, 5] k (fun kq v1 v5 w' => ∃ (x1_1 : Int) (x5_1 : Int), v1 = .int .i64 x1_1 ∧ v5 = .int .i64 x5_1 ∧ Aside0 (laws_heldIntS.l0 kq l0 x1_1 x5_1 = some r) ∧ Aside0 (kq ≤ k) ∧ Drawn0 w w')
 case atStart => exact ⟨(a1), (0), tf_, tf_, H', ⟨Nat.le_refl _⟩, dr_⟩
 case round =>
  clear H'
  try clear c1
  try clear p2
  obtain ⟨x1_1, x5_1, rfl, rfl, HA, HK1, ⟨m1, rfl⟩⟩ := hrel
  cases gk with
  | zero => exact absurd HA.out (by simp [laws_heldIntS.l0])
  | succ k1 =>
   have H := HA.out
   clear HA
   simp only [laws_heldIntS.l0] at H
   by_cases c3 : x5_1 < (l0.length : Int)
   ·
    rw [if_pos c3] at H
    have c3b0 := decide_eq_true c3
    clear c3
    by_cases c4 : 0 ≤ x5_1
    ·
     rw [if_pos c4] at H
     have c4b0 := decide_eq_true c4
     clear c4
     by_cases c5 : (rd l0 x5_1) = x1_1
     ·
      rw [if_pos c5] at H
      have c5b0 : ((rd l0 x5_1) == x1_1) = true := beq_iff_eq.mpr c5
      have c5b1 : ((rd l0 x5_1) != x1_1) = false := bne_eq_false_iff_eq.mpr c5
      clear c5
      have H' := A_ H
      clear H
      have p1689 : 0 ≤ (x5_1 : Int) := od_
      have q1689 : x5_1 < (l0.length : Int) := od_
      obtain ⟨ad1689, e1689, hx1689_0⟩ := Kd.at_int HR0.out x5_1 p1689 q1689
      cases e1689
      replace p1689 := eq_true p1689
      replace q1689 := eq_true q1689
      go_wp2
      go_roundg k1
      case measure => have := HK1.out; omega
      case rel => exact ⟨(wrap64 (x1_1 + 1)), (wrap64 (x5_1 + 1)), tf_, tf_, H', ⟨by have := HK1.out; omega⟩, dr_⟩
     ·
      rw [if_neg c5] at H
      have c5b0 : ((rd l0 x5_1) == x1_1) = false := beq_eq_false_iff_ne.mpr c5
      have c5b1 : ((rd l0 x5_1) != x1_1) = true := bne_iff_ne.mpr c5
      obtain rfl := Option.some.inj H
      have p1689 : 0 ≤ (x5_1 : Int) := od_
      have q1689 : x5_1 < (l0.length : Int) := od_
      obtain ⟨ad1689, e1689, hx1689_0⟩ := Kd.at_int HR0.out x5_1 p1689 q1689
      cases e1689
      replace p1689 := eq_true p1689
      replace q1689 := eq_true q1689
      go_wp2
      go_ret
      exact ⟨tf_, dr_⟩
    ·
     rw [if_neg c4] at H
     exact absurd H (by simp)
   ·
    rw [if_neg c3] at H
    have c3b0 := decide_eq_false c3
    clear c3
    obtain rfl := Option.some.inj H
    go_wp2
    go_ret
    exact ⟨tf_, dr_⟩

/-! ### laws_heldIntSS: function 74 -/
def laws_heldIntSS.l0 : Nat → List (List Int) → Int → Int → Option (Int)
 | 0, _, _, _ => none
 | k + 1, x0, x1, x5 => if x5 < (x0.length : Int) then (if 0 ≤ x5 then ((laws_heldIntS.f k (rd_L2 x0 x5) x1).bind fun t1691 => (if t1691 < 0 then (some (-1)) else (laws_heldIntSS.l0 k x0 t1691 (wrap64 (x5 + 1))))) else (none)) else (some x1)
def laws_heldIntSS.f (k : Nat) (l0 : List (List Int)) (a1 : Int) : Option (Int) := laws_heldIntSS.l0 k l0 a1 0
theorem laws_heldIntSS.mono_l : ∀ k, (∀ y0 y1 y2, LeO (laws_heldIntSS.l0 k y0 y1 y2) (laws_heldIntSS.l0 (k + 1) y0 y1 y2))
 | 0 => fun _ _ _ r h => by simp [laws_heldIntSS.l0] at h
 | k + 1 => by
  have ih0 := laws_heldIntSS.mono_l k
  ·
   intro y0 y1 y2
   unfold laws_heldIntSS.l0
   repeat' first | (with_reducible first | exact ih0 _ _ _ | exact laws_heldIntS.mono _ _ _ | exact LeO.refl _ | exact LeO.none _ | refine LeO.ite ?_ ?_ | refine LeO.bind ?_ (fun _ => ?_)) | exact ih0 _ _ _ | exact laws_heldIntS.mono _ _ _ | exact LeO.none _ | refine LeO.ite ?_ ?_ | refine LeO.bind ?_ (fun _ => ?_)
theorem laws_heldIntSS.mono : ∀ a0 a1 k, LeO (laws_heldIntSS.f k a0 a1) (laws_heldIntSS.f (k + 1) a0 a1) := by
 intro a0 a1 k
 have ih0 := laws_heldIntSS.mono_l k
 unfold laws_heldIntSS.f
 repeat' first | (with_reducible first | exact ih0 _ _ _ | exact laws_heldIntS.mono _ _ _ | exact LeO.refl _ | exact LeO.none _ | refine LeO.ite ?_ ?_ | refine LeO.bind ?_ (fun _ => ?_)) | exact ih0 _ _ _ | exact laws_heldIntS.mono _ _ _ | exact LeO.none _ | refine LeO.ite ?_ ?_ | refine LeO.bind ?_ (fun _ => ?_)
theorem laws_heldIntSS.calls (k : Nat) (A0 : Option Addr) (c0 : Nat) (l0 : List (List Int)) (a1 : Int) (r : Int) (w : World) (hr0 : Kd.C (Kd.slice 3 (Kd.int .i64)) w A0 l0.length l0) (hc0 : l0.length ≤ c0) (h : laws_heldIntSS.f k l0 a1 = some r) :
  Calls Try.prog 74 #[.slice A0 l0.length c0, .int .i64 a1] w fun e w' => e = .returned (.int .i64 r) ∧ Drawn0 w w' := by
 have HR0 := A_ hr0
 have HC0 := A_ hc0
 clear hr0 hc0
 have H : (laws_heldIntSS.l0 k l0 a1 0) = some r := h
 clear h
 have H' := A_ H
 clear H
 go_enter Try.func74, Try.ntmps74
 go_wp2
 go_loopg [1, 5] k (fun kq v1 v5 w' => ∃ (x1_1 : Int) (x5_1 : Int), v1 = .int .i64 x1_1 ∧ v5 = .int .i64 x5_1 ∧ Aside0 (laws_heldIntSS.l0 kq l0 x1_1 x5_1 = some r) ∧ Aside0 (kq ≤ k) ∧ Drawn0 w w')
 case atStart => exact ⟨(a1), (0), tf_, tf_, H', ⟨Nat.le_refl _⟩, dr_⟩
 case round =>
  clear H'
  try clear p2
  obtain ⟨x1_1, x5_1, rfl, rfl, HA, HK1, ⟨m1, rfl⟩⟩ := hrel
  cases gk with
  | zero => exact absurd HA.out (by simp [laws_heldIntSS.l0])
  | succ k1 =>
   have H := HA.out
   clear HA
   simp only [laws_heldIntSS.l0] at H
   by_cases c3 : x5_1 < (l0.length : Int)
   ·
    rw [if_pos c3] at H
    have c3b0 := decide_eq_true c3
    clear c3
    by_cases c4 : 0 ≤ x5_1
    ·
     rw [if_pos c4] at H
     have c4b0 := decide_eq_true c4
     clear c4
     replace H := Option.bind_eq_some_iff.mp H
     obtain ⟨t1691, A50, H⟩ := H
     replace H : (if t1691 < 0 then (some (-1)) else (laws_heldIntSS.l0 k1 l0 t1691 (wrap64 (x5_1 + 1)))) = some r := H
     have A5 := A_ A50
     clear A50
     by_cases c6 : t1691 < 0
     ·
      rw [if_pos c6] at H
      have c6b0 := decide_eq_true c6
      clear c6
      obtain rfl := Option.some.inj H
      have p1690 : 0 ≤ (x5_1 : Int) := od_
      have q1690 : x5_1 < (l0.length : Int) := od_
      obtain ⟨ad1690, A1690_0, c1690_0, e1690, hx1690_0, hl1690_0, hi1690_0⟩ := at_L2 HR0.out x5_1 p1690 q1690
      cases e1690
      have HR1690_0 := A_ hi1690_0
      have HC1690_0 := A_ hl1690_0
      clear hi1690_0 hl1690_0
      replace p1690 := eq_true p1690
      replace q1690 := eq_true q1690
      go_wp2_with (first | (refine gc_ 143 ?_; refine goesT_ (some 17) Try.func143 #[.slice A1690_0 (rd_L2 l0 x5_1).length c1690_0, .int .i64 x1_1] ?_; (with_reducible refine (laws_heldIntS.calls k1 _ _ (rd_L2 l0 x5_1) x1_1 t1691 _ ?side1 ?side2 A5.out).mono ?_); (case side1 => exact tc0_ HR1690_0.out); (case side2 => exact HC1690_0.out); rintro e w' ⟨rfl, ⟨nd, rfl⟩⟩; refine ⟨_, rfl, ?_⟩))
      go_ret
      exact ⟨tf_, dr_⟩
     ·
      rw [if_neg c6] at H
      have c6b0 := decide_eq_false c6
      clear c6
      have H' := A_ H
      clear H
      have p1690 : 0 ≤ (x5_1 : Int) := od_
      have q1690 : x5_1 < (l0.length : Int) := od_
      obtain ⟨ad1690, A1690_0, c1690_0, e1690, hx1690_0, hl1690_0, hi1690_0⟩ := at_L2 HR0.out x5_1 p1690 q1690
      cases e1690
      have HR1690_0 := A_ hi1690_0
      have HC1690_0 := A_ hl1690_0
      clear hi1690_0 hl1690_0
      replace p1690 := eq_true p1690
      replace q1690 := eq_true q1690
      go_wp2_with (first | (refine gc_ 143 ?_; refine goesT_ (some 17) Try.func143 #[.slice A1690_0 (rd_L2 l0 x5_1).length c1690_0, .int .i64 x1_1] ?_; (with_reducible refine (laws_heldIntS.calls k1 _ _ (rd_L2 l0 x5_1) x1_1 t1691 _ ?side1 ?side2 A5.out).mono ?_); (case side1 => exact tc0_ HR1690_0.out); (case side2 => exact HC1690_0.out); rintro e w' ⟨rfl, ⟨nd, rfl⟩⟩; refine ⟨_, rfl, ?_⟩))
      go_roundg k1
      case measure => have := HK1.out; omega
      case rel => exact ⟨(t1691), (wrap64 (x5_1 + 1)), tf_, tf_, H', ⟨by have := HK1.out; omega⟩, dr_⟩
    ·
     rw [if_neg c4] at H
     exact absurd H (by simp)
   ·
    rw [if_neg c3] at H
    have c3b0 := decide_eq_false c3
    clear c3
    obtain rfl := Option.some.inj H
    go_wp2
    go_ret
    exact ⟨tf_, dr_⟩

end
end Go.Proofs.Ytdoflpghemgbdaa.P
