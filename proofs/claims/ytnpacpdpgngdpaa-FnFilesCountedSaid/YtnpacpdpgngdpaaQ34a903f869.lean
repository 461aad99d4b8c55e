-- printed functions (wip/slim.py)
import Derived.Test.YtnpacpdpgngdpaaPx0
import Derived.Test.YtnpacpdpgngdpaaQbaabd2c2bc
import Derived.Test.YtnpacpdpgngdpaaQd1950a5485
namespace Go.Proofs.Ytnpacpdpgngdpaa.P
noncomputable section
set_option maxHeartbeats 8000000
set_option maxRecDepth 100000
open Go.RowKit Go.Proofs.YtnpacpdpgngdpaaW.PrintWords Go.Proofs.YtnpacpdpgngdpaaW.PrintLast Go.Proofs.YtnpacpdpgngdpaaW.PrintMore
attribute [local go_sem] max2_int min2_int max_two min_two max_three min_three max_four min_four   -- for this text's walks alone
set_option linter.unusedVariables false
set_option linter.unusedSimpArgs false

/-! ### impl_within: function 139 -/
def impl_within.f (a0 : Int) (a1 : Int) (a2 : Int) : Option (Bool) := if a1 ≤ a0 then (some (decide (a0 ≤ a2))) else (some false)
theorem impl_within.calls (a0 : Int) (a1 : Int) (a2 : Int) (r : Bool) (w : World) (h : impl_within.f a0 a1 a2 = some r) :
  Calls Try.prog 139 #[.int .i64 a0, .int .i64 a1, .int .i64 a2] w fun e w' => e = .returned (.bool r) ∧ Drawn0 w w' := by
 have H : (if a1 ≤ a0 then (some (decide (a0 ≤ a2))) else (some false)) = some r := h
 clear h
 by_cases c4 : a1 ≤ a0
 ·
  rw [if_pos c4] at H
  have c4b0 := decide_eq_true c4
  clear c4
  obtain rfl := Option.some.inj H
  go_enter Try.func139, Try.ntmps139
  go_wp2
  go_ret
  exact ⟨tf_, dr_⟩
 ·
  rw [if_neg c4] at H
  have c4b0 := decide_eq_false c4
  clear c4
  obtain rfl := Option.some.inj H
  go_enter Try.func139, Try.ntmps139
  go_wp2
  go_ret
  exact ⟨tf_, dr_⟩

/-! ### slices_IndexFunc_int_int_257: function 257 -/
def slices_IndexFunc_int_int_257.l0 : Nat → List Int → FnT43 → Int → Int → Option (Int)
 | 0, _, _, _, _ => none
 | k + 1, x0, x1, x7, x8 => if x8 < x7 then (if 0 ≤ x8 then (if x8 < (x0.length : Int) then ((FnCall43.f (rd x0 x8) x1).bind fun t192 => (if t192 = true then (some x8) else (slices_IndexFunc_int_int_257.l0 k x0 x1 x7 (wrap64 (x8 + 1))))) else (none)) else (none)) else (some (-1))
def slices_IndexFunc_int_int_257.f (k : Nat) (l0 : List Int) (a1 : FnT43) : Option (Int) := slices_IndexFunc_int_int_257.l0 k l0 a1 (l0.length : Int) 0
theorem slices_IndexFunc_int_int_257.mono_l : ∀ k, (∀ y0 y1 y2 y3, LeO (slices_IndexFunc_int_int_257.l0 k y0 y1 y2 y3) (slices_IndexFunc_int_int_257.l0 (k + 1) y0 y1 y2 y3))
 | 0 => fun _ _ _ _ r h => by simp [slices_IndexFunc_int_int_257.l0] at h
 | k + 1 => by
  have ih0 := slices_IndexFunc_int_int_257.mono_l k
  ·
   intro y0 y1 y2 y3
   unfold slices_IndexFunc_int_int_257.l0
   repeat' first | (with_reducible first | exact ih0 _ _ _ _ | exact LeO.refl _ | exact LeO.none _ | refine LeO.ite ?_ ?_ | refine LeO.bind ?_ (fun _ => ?_)) | exact ih0 _ _ _ _ | exact LeO.none _ | refine LeO.ite ?_ ?_ | refine LeO.bind ?_ (fun _ => ?_)
theorem slices_IndexFunc_int_int_257.mono : ∀ a0 a1 k, LeO (slices_IndexFunc_int_int_257.f k a0 a1) (slices_IndexFunc_int_int_257.f (k + 1) a0 a1) := by
 intro a0 a1 k
 have ih0 := slices_IndexFunc_int_int_257.mono_l k
 unfold slices_IndexFunc_int_int_257.f
 repeat' first | (with_reducible first | exact ih0 _ _ _ _ | exact LeO.refl _ | exact LeO.none _ | refine LeO.ite ?_ ?_ | refine LeO.bind ?_ (fun _ => ?_)) | exact ih0 _ _ _ _ | exact LeO.none _ | refine LeO.ite ?_ ?_ | refine LeO.bind ?_ (fun _ => ?_)
theorem slices_IndexFunc_int_int_257.calls (k : Nat) (A0 : Option Addr) (c0 : Nat) (l0 : List Int) (v1 : Value) (a1 : FnT43) (r : Int) (w : World) (hr0 : Kd.C (Kd.int .i64) w A0 l0.length l0) (hc0 : l0.length ≤ c0) (hF1 : FnOk43 w v1 a1) (h : slices_IndexFunc_int_int_257.f k l0 a1 = some r) :
  Calls Try.prog 257 #[.slice A0 l0.length c0, v1] w fun e w' => e = .returned (.int .i64 r) ∧ Below w.heap.size w w' := by
 have HR0 := A_ hr0
 have HC0 := A_ hc0
 clear hr0 hc0
 have HF1 := A_ hF1
 clear hF1
 have HB := A_ (Below.refl w.heap.size w)
 have H : (slices_IndexFunc_int_int_257.l0 k l0 a1 (l0.length : Int) 0) = some r := h
 clear h
 have H' := A_ H
 clear H
 go_enter Try.func257, Try.ntmps257
 go_wp2
 go_loopg [8] k (fun kq v8 w' => ∃ (x8_1 : Int), v8 = .int .i64 x8_1 ∧ Aside0 (slices_IndexFunc_int_int_257.l0 kq l0 a1 (l0.length : Int) x8_1 = some r) ∧ Aside0 (kq ≤ k) ∧ Aside0 (Below w.heap.size w w'))
 case atStart => exact ⟨(0), tf_, H', ⟨Nat.le_refl _⟩, ⟨tb_⟩⟩
 case round =>
  clear H'
  try clear c2
  try clear p2
  obtain ⟨x8_1, rfl, HA, HK1, HB⟩ := hrel
  cases gk with
  | zero => exact absurd HA.out (by simp [slices_IndexFunc_int_int_257.l0])
  | succ k1 =>
   have H := HA.out
   clear HA
   simp only [slices_IndexFunc_int_int_257.l0] at H
   by_cases c3 : x8_1 < (l0.length : Int)
   ·
    rw [if_pos c3] at H
    have c3b0 := decide_eq_true c3
    clear c3
    by_cases c4 : 0 ≤ x8_1
    ·
     rw [if_pos c4] at H
     have c4b0 := decide_eq_true c4
     clear c4
     by_cases c5 : x8_1 < (l0.length : Int)
     ·
      rw [if_pos c5] at H
      have c5b0 := decide_eq_true c5
      clear c5
      replace H := Option.bind_eq_some_iff.mp H
      obtain ⟨t192, A60, H⟩ := H
      replace H : (if t192 = true then (some x8_1) else (slices_IndexFunc_int_int_257.l0 k1 l0 a1 (l0.length : Int) (wrap64 (x8_1 + 1)))) = some r := H
      have A6 := A_ A60
      clear A60
      by_cases c7 : t192 = true
      ·
       subst c7
       have H1 : (some x8_1) = some r := by rw [if_pos rfl] at H; exact H
       clear H
       have H := H1
       clear H1
       obtain rfl := Option.some.inj H
       have p191 : 0 ≤ (x8_1 : Int) := od_
       have q191 : x8_1 < (l0.length : Int) := od_
       obtain ⟨ad191, e191, hx191_0⟩ := Kd.at_int HR0.out x8_1 p191 q191
       cases e191
       (try replace hx191_0 := (HB.out.cell (World.block_lt_of_cell? w _ hx191_0)).trans hx191_0)
       replace p191 := eq_true p191
       replace q191 := eq_true q191
       go_wp2_with (first | ((with_reducible refine Fn.gate_value rfl ?_); refine Fn.goesVw_ (some 16) rfl (by first | rfl | (simp [Region.wanted, yielded]; done)) v1 rfl #[.int .i64 (rd l0 x8_1)] rfl ta_ ?_; (with_reducible refine (FnCall43.calls (rd l0 x8_1) v1 a1 true _ ?side1 A6.out).mono ?_); (case side1 => exact FnOk43.mono HF1.out tb_); rintro e w8 ⟨rfl, hb⟩; refine ⟨_, rfl, ?_⟩; replace HB := A_ (below_step tb_ hb); (try clear hb)))
       go_ret
       exact ⟨te_, tb_⟩
      ·
       replace c7 := Bool.eq_false_iff.mpr c7
       subst c7
       have H1 : (slices_IndexFunc_int_int_257.l0 k1 l0 a1 (l0.length : Int) (wrap64 (x8_1 + 1))) = some r := by rw [if_neg (show ¬ (false = true) by decide)] at H; exact H
       clear H
       have H := H1
       clear H1
       have H' := A_ H
       clear H
       have p191 : 0 ≤ (x8_1 : Int) := od_
       have q191 : x8_1 < (l0.length : Int) := od_
       obtain ⟨ad191, e191, hx191_0⟩ := Kd.at_int HR0.out x8_1 p191 q191
       cases e191
       (try replace hx191_0 := (HB.out.cell (World.block_lt_of_cell? w _ hx191_0)).trans hx191_0)
       replace p191 := eq_true p191
       replace q191 := eq_true q191
       go_wp2_with (first | ((with_reducible refine Fn.gate_value rfl ?_); refine Fn.goesVw_ (some 16) rfl (by first | rfl | (simp [Region.wanted, yielded]; done)) v1 rfl #[.int .i64 (rd l0 x8_1)] rfl ta_ ?_; (with_reducible refine (FnCall43.calls (rd l0 x8_1) v1 a1 false _ ?side1 A6.out).mono ?_); (case side1 => exact FnOk43.mono HF1.out tb_); rintro e w9 ⟨rfl, hb⟩; refine ⟨_, rfl, ?_⟩; replace HB := A_ (below_step tb_ hb); (try clear hb)))
       go_roundg k1
       case measure => have := HK1.out; omega
       case rel => exact ⟨(wrap64 (x8_1 + 1)), tf_, H', ⟨by have := HK1.out; omega⟩, ⟨tb_⟩⟩
     ·
      rw [if_neg c5] at H
      exact absurd H (by simp)
    ·
     rw [if_neg c4] at H
     exact absurd H (by simp)
   ·
    rw [if_neg c3] at H
    have c3b0 := decide_eq_false c3
    clear c3
    obtain rfl := Option.some.inj H
    go_wp2
    go_ret
    exact ⟨te_, tb_⟩

/-! ### slices_ContainsFunc_int_int_215: function 215 -/
def slices_ContainsFunc_int_int_215.f (k : Nat) (l0 : List Int) (a1 : FnT43) : Option (Bool) := (slices_IndexFunc_int_int_257.f k l0 a1).bind fun t193 => (some (decide (t193 ≥ 0)))
theorem slices_ContainsFunc_int_int_215.mono : ∀ a0 a1 k, LeO (slices_ContainsFunc_int_int_215.f k a0 a1) (slices_ContainsFunc_int_int_215.f (k + 1) a0 a1) := by
 intro a0 a1 k
 unfold slices_ContainsFunc_int_int_215.f
 repeat' first | (with_reducible first | exact slices_IndexFunc_int_int_257.mono _ _ _ | exact LeO.refl _ | exact LeO.none _ | refine LeO.ite ?_ ?_ | refine LeO.bind ?_ (fun _ => ?_)) | exact slices_IndexFunc_int_int_257.mono _ _ _ | exact LeO.none _ | refine LeO.ite ?_ ?_ | refine LeO.bind ?_ (fun _ => ?_)
theorem slices_ContainsFunc_int_int_215.calls (k : Nat) (A0 : Option Addr) (c0 : Nat) (l0 : List Int) (v1 : Value) (a1 : FnT43) (r : Bool) (w : World) (hr0 : Kd.C (Kd.int .i64) w A0 l0.length l0) (hc0 : l0.length ≤ c0) (hF1 : FnOk43 w v1 a1) (h : slices_ContainsFunc_int_int_215.f k l0 a1 = some r) :
  Calls Try.prog 215 #[.slice A0 l0.length c0, v1] w fun e w' => e = .returned (.bool r) ∧ Below w.heap.size w w' := by
 have HR0 := A_ hr0
 have HC0 := A_ hc0
 clear hr0 hc0
 have HF1 := A_ hF1
 clear hF1
 have HB := A_ (Below.refl w.heap.size w)
 have H : ((slices_IndexFunc_int_int_257.f k l0 a1).bind fun t193 => (some (decide (t193 ≥ 0)))) = some r := h
 clear h
 replace H := Option.bind_eq_some_iff.mp H
 obtain ⟨t193, A30, H⟩ := H
 replace H : (some (decide (t193 ≥ 0))) = some r := H
 have A3 := A_ A30
 clear A30
 obtain rfl := Option.some.inj H
 go_enter Try.func215, Try.ntmps215
 go_wp2_with (first | (refine gc_ 257 ?_; refine goesT_ (some 7) Try.func257 #[.slice A0 l0.length c0, v1] ?_; (with_reducible refine (slices_IndexFunc_int_int_257.calls k _ _ l0 v1 a1 t193 _ ?side1 ?side2 ?side3 A3.out).mono ?_); (case side1 => exact tc0_ HR0.out); (case side2 => exact HC0.out); (case side3 => exact FnOk43.mono HF1.out tb_); rintro e w4 ⟨rfl, hb⟩; refine ⟨_, rfl, ?_⟩; replace HB := A_ (below_step tb_ hb); (try clear hb)))
 go_ret
 exact ⟨te_, tb_⟩

/-! ### impl_isSide: function 218 -/
def impl_isSide.f (a0 : Int) : Option (Bool) := (impl_within.f a0 1 6).bind fun t194 => (some t194)
theorem impl_isSide.calls (a0 : Int) (r : Bool) (w : World) (h : impl_isSide.f a0 = some r) :
  Calls Try.prog 218 #[.int .i64 a0] w fun e w' => e = .returned (.bool r) ∧ Drawn0 w w' := by
 have H : ((impl_within.f a0 1 6).bind fun t194 => (some t194)) = some r := h
 clear h
 replace H := Option.bind_eq_some_iff.mp H
 obtain ⟨t194, A20, H⟩ := H
 replace H : (some t194) = some r := H
 have A2 := A_ A20
 clear A20
 obtain rfl := Option.some.inj H
 go_enter Try.func218, Try.ntmps218
 go_wp2_with (first | (refine gc_ 139 ?_; refine goesT_ (some 4) Try.func139 #[.int .i64 a0, .int .i64 1, .int .i64 6] ?_; (with_reducible refine (impl_within.calls a0 1 6 t194 _ A2.out).mono ?_); rintro e w' ⟨rfl, ⟨nd, rfl⟩⟩; refine ⟨_, rfl, ?_⟩))
 go_ret
 exact ⟨tf_, dr_⟩

/-! ### impl_IsBoard: function 125 -/
def boardB (rows cols : Int) (cells : List Int) : Bool := decide (1 ≤ rows ∧ rows ≤ 6) && decide (1 ≤ cols ∧ cols ≤ 6) && decide ((cells.length : Int) = rows) && cells.all fun m => decide (0 ≤ m ∧ m ≤ 2 ^ cols.toNat - 1)
def impl_IsBoard.f (a0_0 : Int) (a0_1 : Int) (l0_2 : List Int) : Option (Bool) := some (boardB a0_0 a0_1 l0_2)
theorem impl_IsBoard.closure (m cols : Int) (g : Nat) (w : World) (hc : w.cell? ⟨g, 1, none⟩ = some (.int .i64 cols)) (h0 : 1 ≤ cols) (h1 : cols ≤ 6) :
  Calls Try.prog 219 #[.int .i64 m, .pointer (some ⟨g, 0, none⟩)] w fun e w' => e = .returned (.bool (!(decide (0 ≤ m ∧ m ≤ 2 ^ cols.toNat - 1)))) ∧ w' = w := by
 have hcols : cols = 1 ∨ cols = 2 ∨ cols = 3 ∨ cols = 4 ∨ cols = 5 ∨ cols = 6 := by omega
 by_cases hm : 0 ≤ m
 ·
  rcases hcols with rfl | rfl | rfl | rfl | rfl | rfl
  all_goals
   go_enter Try.func219, Try.ntmps219
   go_wp2
   go_ret
   exact ⟨by simp [hm] <;> omega, rfl⟩
 ·
  rcases hcols with rfl | rfl | rfl | rfl | rfl | rfl
  all_goals
   go_enter Try.func219, Try.ntmps219
   go_wp2
   go_ret
   exact ⟨by simp [hm], rfl⟩
theorem impl_IsBoard.index (l : List Int) (P : Int → Bool) (hb : l.length ≤ 1152921504606846976) : ∀ (d i : Nat) (k : Nat), l.length - i = d → i ≤ l.length → d < k →
  ∃ r : Int, slices_IndexFunc_int_int_257.l0 k l (fun x => some (P x)) (l.length : Int) (i : Int) = some r ∧ decide (r ≥ 0) = (l.drop i).any P := by
 intro d
 induction d with
 | zero =>
  intro i k hd hi hk
  obtain ⟨k, rfl⟩ : ∃ m, k = m + 1 := ⟨k - 1, by omega⟩
  exact ⟨-1, by rw [slices_IndexFunc_int_int_257.l0, if_neg (by omega)], by rw [List.drop_eq_nil_of_le (by omega)]; rfl⟩
 | succ d ih =>
  intro i k hd hi hk
  obtain ⟨k, rfl⟩ : ∃ m, k = m + 1 := ⟨k - 1, by omega⟩
  have h1 : i < l.length := by omega
  have hr : rd l (i : Int) = l[i] := by unfold rd; simp [List.getD_eq_getElem?_getD, List.getElem?_eq_getElem h1]
  rw [List.drop_eq_getElem_cons h1, List.any_cons]
  by_cases hp : P l[i] = true
  ·
   refine ⟨i, ?_, ?_⟩
   ·
    rw [slices_IndexFunc_int_int_257.l0, if_pos (by omega), if_pos (by omega), if_pos (by omega), hr]
    simp only [FnCall43.f, hp, Option.bind_some, if_true]
   ·
    rw [hp, Bool.true_or]; simp
  ·
   obtain ⟨r, h2, h3⟩ := ih (i + 1) k (by omega) (by omega) (by omega)
   refine ⟨r, ?_, ?_⟩
   ·
    rw [slices_IndexFunc_int_int_257.l0, if_pos (by omega), if_pos (by omega), if_pos (by omega), hr]
    simp only [FnCall43.f, hp, Option.bind_some]
    rw [if_neg (by simp), show wrap64 ((i : Int) + 1) = ((i + 1 : Nat) : Int) by unfold wrap64; omega]
    exact h2
   ·
    rw [h3]; simp only [Bool.not_eq_true] at hp; rw [hp, Bool.false_or]
theorem impl_IsBoard.contains (l : List Int) (P : Int → Bool) (hb : l.length ≤ 1152921504606846976) : slices_ContainsFunc_int_int_215.f (l.length + 1) l (fun x => some (P x)) = some (l.any P) := by
 obtain ⟨r, h1, h2⟩ := impl_IsBoard.index l P hb l.length 0 (l.length + 1) (by omega) (by omega) (by omega)
 simp only [slices_ContainsFunc_int_int_215.f, slices_IndexFunc_int_int_257.f]
 rw [show (0 : Int) = ((0 : Nat) : Int) from rfl, h1, Option.bind_some, show (((0 : Nat) : Int)) = 0 from rfl, h2]
 simp
theorem impl_IsBoard.calls (a0_0 : Int) (a0_1 : Int) (A0_2 : Option Addr) (c0_2 : Nat) (l0_2 : List Int) (r : Bool) (w : World) (hr0_2 : Kd.C (Kd.int .i64) w A0_2 l0_2.length l0_2) (hc0_2 : l0_2.length ≤ c0_2) (h : impl_IsBoard.f a0_0 a0_1 l0_2 = some r) :
  Calls Try.prog 125 #[.agg #[.int .i64 a0_0, .int .i64 a0_1, .slice A0_2 l0_2.length c0_2]] w fun e w' => e = .returned (.bool r) ∧ Below w.heap.size w w' := by
 obtain rfl := Option.some.inj h
 clear h
 have hu := Try.underlying28
 have HR := A_ hr0_2
 have HC := A_ hc0_2
 clear hr0_2 hc0_2
 have HB := A_ (Below.refl w.heap.size w)
 have hmf_ : ∀ (fn : Go.Fn) (first cap : Array Value) (w : World), (Instr.makeFunc fn first cap).run Try.prog w = .ok (.func fn first cap) w := fun _ _ _ _ => rfl
 have early : boardB a0_0 a0_1 l0_2 = false → (1 ≤ a0_0 ∧ a0_0 ≤ 6 → 1 ≤ a0_1 ∧ a0_1 ≤ 6 → ¬ (l0_2.length : Int) = a0_0) →
   Calls Try.prog 125 #[.agg #[.int .i64 a0_0, .int .i64 a0_1, .slice A0_2 l0_2.length c0_2]] w fun e w' => e = .returned (.bool (boardB a0_0 a0_1 l0_2)) ∧ Below w.heap.size w w' := by
  intro e hno
  have E := A_ e
  clear e
  by_cases h1 : 1 ≤ a0_0
  ·
   by_cases h2 : a0_0 ≤ 6
   ·
    by_cases h3 : 1 ≤ a0_1
    ·
     by_cases h4 : a0_1 ≤ 6
     ·
      have h5 : ((l0_2.length : Int) != a0_0) = true := bne_iff_ne.mpr (hno ⟨h1, h2⟩ ⟨h3, h4⟩)
      clear hno
      go_enter Try.func125, Try.ntmps125
      go_wp2
      go_ret
      exact ⟨by rw [E.out]; rfl, below_alloc (Below.refl _ _) _⟩
     ·
      clear hno
      go_enter Try.func125, Try.ntmps125
      go_wp2
      go_ret
      exact ⟨by rw [E.out]; rfl, below_alloc (Below.refl _ _) _⟩
    ·
     clear hno
     go_enter Try.func125, Try.ntmps125
     go_wp2
     go_ret
     exact ⟨by rw [E.out]; rfl, below_alloc (Below.refl _ _) _⟩
   ·
    clear hno
    go_enter Try.func125, Try.ntmps125
    go_wp2
    go_ret
    exact ⟨by rw [E.out]; rfl, below_alloc (Below.refl _ _) _⟩
  ·
   clear hno
   go_enter Try.func125, Try.ntmps125
   go_wp2
   go_ret
   exact ⟨by rw [E.out]; rfl, below_alloc (Below.refl _ _) _⟩
 by_cases hall : (1 ≤ a0_0 ∧ a0_0 ≤ 6) ∧ (1 ≤ a0_1 ∧ a0_1 ≤ 6) ∧ (l0_2.length : Int) = a0_0
 ·
  obtain ⟨⟨h1, h2⟩, ⟨h3, h4⟩, h5⟩ := hall
  have e : boardB a0_0 a0_1 l0_2 = l0_2.all (fun m => decide (0 ≤ m ∧ m ≤ 2 ^ a0_1.toNat - 1)) := by simp [boardB, h1, h2, h3, h4, h5]
  have e2 : (l0_2.any fun m => !(decide (0 ≤ m ∧ m ≤ 2 ^ a0_1.toNat - 1))) = !(boardB a0_0 a0_1 l0_2) := by rw [e, List.not_all_eq_any_not]
  have hlen : l0_2.length ≤ 1152921504606846976 := by omega
  have HN : Aside0 (slices_ContainsFunc_int_int_215.f (l0_2.length + 1) l0_2 (fun m => some (!(decide (0 ≤ m ∧ m ≤ 2 ^ a0_1.toNat - 1)))) = some (!(boardB a0_0 a0_1 l0_2))) := ⟨(impl_IsBoard.contains l0_2 _ hlen).trans (by rw [e2])⟩
  clear e e2 early
  have h5b : ((l0_2.length : Int) != a0_0) = false := bne_eq_false_iff_eq.mpr h5
  have H3 := A_ h3
  have H4 := A_ h4
  have HF : ∀ W : World, W.cell? ⟨w.heap.size, 1, none⟩ = some (.int .i64 a0_1) → FnOk43 W (.func (.func 219) #[] #[.pointer (some ⟨w.heap.size, 0, none⟩)]) (fun m => some (!(decide (0 ≤ m ∧ m ≤ 2 ^ a0_1.toNat - 1)))) := by
   intro W hc m r W1 h hB
   obtain rfl := Option.some.inj h
   refine ⟨219, _, _, rfl, Try.func219, by kernel_rfl, rfl, ?_⟩
   refine (impl_IsBoard.closure m a0_1 w.heap.size W1 ((hB.cell (World.block_lt_of_cell? W _ hc)).trans hc) H3.out H4.out).mono ?_
   rintro e w' ⟨he, rfl⟩
   exact ⟨he, Below.refl _ _⟩
  have HF' := A_ HF
  clear HF h5 hlen
  have S1 : Aside0 (impl_isSide.f a0_0 = some true) := ⟨by unfold impl_isSide.f impl_within.f; rw [if_pos h1]; simpa using h2⟩
  have S2 : Aside0 (impl_isSide.f a0_1 = some true) := ⟨by unfold impl_isSide.f impl_within.f; rw [if_pos h3]; simpa using h4⟩
  go_enter Try.func125, Try.ntmps125
  go_wp2_with (first | (go_at_call 218; (with_reducible refine (impl_isSide.calls a0_0 true _ S1.out).mono ?_); rintro e w' ⟨rfl, ⟨nd, rfl⟩⟩) | (go_at_call 218; (with_reducible refine (impl_isSide.calls a0_1 true _ S2.out).mono ?_); rintro e w' ⟨rfl, ⟨nd, rfl⟩⟩) | (go_at_call 215; refine (slices_ContainsFunc_int_int_215.calls (l0_2.length + 1) _ _ l0_2 (.func (.func 219) #[] #[.pointer (some ⟨w.heap.size, 0, none⟩)]) (fun m => some (!(decide (0 ≤ m ∧ m ≤ 2 ^ a0_1.toNat - 1)))) _ _ ?s1 HC.out (HF'.out _ (by go_simp)) HN.out).mono ?_; (case s1 => exact tc0_ HR.out); rintro e w1 ⟨rfl, hb⟩; have HB1 := A_ hb; clear hb))
  go_ret
  exact ⟨by simp, below_then (by repeat (first | exact Below.refl _ _ | apply pw_below_drewN | apply below_alloc)) (by simp) HB1.out⟩
 ·
  refine early ?_ ?_
  ·
   simp only [boardB, Bool.and_eq_false_iff, decide_eq_false_iff_not]
   by_cases ha : 1 ≤ a0_0 ∧ a0_0 ≤ 6
   ·
    by_cases hb : 1 ≤ a0_1 ∧ a0_1 ≤ 6
    ·
     exact .inl (.inr (fun hc => hall ⟨ha, hb, hc⟩))
    ·
     exact .inl (.inl (.inr hb))
   ·
    exact .inl (.inl (.inl ha))
  ·
   exact fun ha hb hc => hall ⟨ha, hb, hc⟩

/-! ### impl_Board_has: function 127 -/
def impl_Board_has.f (a0_0 : Int) (a0_1 : Int) (l0_2 : List Int) (a1 : Int) (a2 : Int) : Option (Bool) := if 0 ≤ a1 then (if a1 < (l0_2.length : Int) then (if 0 ≤ a2 then (some ((Go.bits .and .i64 (shr .i64 (rd l0_2 a1) a2) 1) == 1)) else (none)) else (none)) else (none)
theorem impl_Board_has.calls (a0_0 : Int) (a0_1 : Int) (A0_2 : Option Addr) (c0_2 : Nat) (l0_2 : List Int) (a1 : Int) (a2 : Int) (r : Bool) (w : World) (hr0_2 : Kd.C (Kd.int .i64) w A0_2 l0_2.length l0_2) (hc0_2 : l0_2.length ≤ c0_2) (h : impl_Board_has.f a0_0 a0_1 l0_2 a1 a2 = some r) :
  Calls Try.prog 127 #[.agg #[.int .i64 a0_0, .int .i64 a0_1, .slice A0_2 l0_2.length c0_2], .int .i64 a1, .int .i64 a2] w fun e w' => e = .returned (.bool r) ∧ Below w.heap.size w w' := by
 have hu28 := Try.underlying28
 have HR0_2 := A_ hr0_2
 have HC0_2 := A_ hc0_2
 clear hr0_2 hc0_2
 have HB := A_ (Below.refl w.heap.size w)
 have H : (if 0 ≤ a1 then (if a1 < (l0_2.length : Int) then (if 0 ≤ a2 then (some ((Go.bits .and .i64 (shr .i64 (rd l0_2 a1) a2) 1) == 1)) else (none)) else (none)) else (none)) = some r := h
 clear h
 by_cases c4 : 0 ≤ a1
 ·
  rw [if_pos c4] at H
  have c4b0 := decide_eq_true c4
  clear c4
  by_cases c5 : a1 < (l0_2.length : Int)
  ·
   rw [if_pos c5] at H
   have c5b0 := decide_eq_true c5
   clear c5
   by_cases c6 : 0 ≤ a2
   ·
    rw [if_pos c6] at H
    have c6b0 := eq_true c6
    have c6b1 := decide_eq_true c6
    clear c6
    obtain ⟨ji7, hji7⟩ : ∃ j_ : Int, (shr .i64 (rd l0_2 a1) a2) = j_ := ⟨_, rfl⟩
    replace H : (some ((Go.bits .and .i64 (ji7) 1) == 1)) = some r := by first | (rw [hji7] at H; exact H) | (simp only [hji7] at H ⊢; exact H)
    have hji7_ : ((rd l0_2 a1) / 2 ^ min a2.toNat 64) = ji7 := hji7
    have hji7z : a2 ≤ 64 → ((rd l0_2 a1) / 2 ^ a2.toNat) = ji7 := shr_small hji7
    obtain rfl := Option.some.inj H
    go_enter Try.func127, Try.ntmps127
    go_wp2_with (first | (refine gd_ 3 ?_; refine bx_ 3 #[.int .i64 a0_0, .int .i64 a0_1, .slice A0_2 l0_2.length c0_2] 28 ?_; intro gb198 hg w8 hbox hb; have BK198 := A_ (hbox); have GW198 := A_ ((ts_ hg : w.heap.size ≤ gb198)); have GE198 := A_ ((ts_ hg : w.heap.size ≤ gb198)); replace HB := A_ (below_step tb_ hb); clear hb hbox hg; obtain ⟨hcz9_0, hcz9_1, hcz9_2, hfz9_0, hfz9_1, hfz9_2⟩ := cf3_ BK198.out; have p199 : 0 ≤ (a1 : Int) := od_; have q199 : a1 < (l0_2.length : Int) := od_; obtain ⟨ad199, e199, hx199_0⟩ := Kd.at_int HR0_2.out a1 p199 q199; cases e199; (try replace hx199_0 := (HB.out.cell (World.block_lt_of_cell? w _ hx199_0)).trans hx199_0); replace p199 := eq_true p199; replace q199 := eq_true q199))
    go_ret
    exact ⟨by first | rfl | (simp [errW_none, errW_some] <;> rfl) | (simp only [← hji7]; first | rfl | (simp [errW_none, errW_some] <;> rfl)) | (simp [*, errW_none, errW_some] <;> rfl), tb_⟩
   ·
    rw [if_neg c6] at H
    exact absurd H (by simp)
  ·
   rw [if_neg c5] at H
   exact absurd H (by simp)
 ·
  rw [if_neg c4] at H
  exact absurd H (by simp)

/-! ### impl_rooks: function 223 -/
def impl_rooks.l0 : Nat → Int → List Int → Int → Int → Option (Int)
 | 0, _, _, _, _ => none
 | k + 1, x3, x6, x7, x8 => if x8 < x7 then (if 0 ≤ x8 then (if x8 < (x6.length : Int) then (if (rd x6 x8) = (-1) then (impl_rooks.l0 k x3 x6 x7 (wrap64 (x8 + 1))) else (impl_rooks.l0 k (wrap64 (x3 + 1)) x6 x7 (wrap64 (x8 + 1)))) else (none)) else (none)) else (some x3)
def impl_rooks.f (k : Nat) (l0 : List Int) : Option (Int) := impl_rooks.l0 k 0 l0 (l0.length : Int) 0
theorem impl_rooks.mono_l : ∀ k, (∀ y0 y1 y2 y3, LeO (impl_rooks.l0 k y0 y1 y2 y3) (impl_rooks.l0 (k + 1) y0 y1 y2 y3))
 | 0 => fun _ _ _ _ r h => by simp [impl_rooks.l0] at h
 | k + 1 => by
  have ih0 := impl_rooks.mono_l k
  ·
   intro y0 y1 y2 y3
   unfold impl_rooks.l0
   repeat' first | (with_reducible first | exact ih0 _ _ _ _ | exact LeO.refl _ | exact LeO.none _ | refine LeO.ite ?_ ?_ | refine LeO.bind ?_ (fun _ => ?_)) | exact ih0 _ _ _ _ | exact LeO.none _ | refine LeO.ite ?_ ?_ | refine LeO.bind ?_ (fun _ => ?_)
theorem impl_rooks.mono : ∀ a0 k, LeO (impl_rooks.f k a0) (impl_rooks.f (k + 1) a0) := by
 intro a0 k
 have ih0 := impl_rooks.mono_l k
 unfold impl_rooks.f
 repeat' first | (with_reducible first | exact ih0 _ _ _ _ | exact LeO.refl _ | exact LeO.none _ | refine LeO.ite ?_ ?_ | refine LeO.bind ?_ (fun _ => ?_)) | exact ih0 _ _ _ _ | exact LeO.none _ | refine LeO.ite ?_ ?_ | refine LeO.bind ?_ (fun _ => ?_)
theorem impl_rooks.calls (k : Nat) (A0 : Option Addr) (c0 : Nat) (l0 : List Int) (r : Int) (w : World) (hr0 : Kd.C (Kd.int .i64) w A0 l0.length l0) (hc0 : l0.length ≤ c0) (h : impl_rooks.f k l0 = some r) :
  Calls Try.prog 223 #[.slice A0 l0.length c0] w fun e w' => e = .returned (.int .i64 r) ∧ Drawn0 w w' := by
 have HR0 := A_ hr0
 have HC0 := A_ hc0
 clear hr0 hc0
 have H : (impl_rooks.l0 k 0 l0 (l0.length : Int) 0) = some r := h
 clear h
 have H' := A_ H
 clear H
 go_enter Try.func223, Try.ntmps223
 go_wp2
 go_loopg [3, 8] k (fun kq v3 v8 w' => ∃ (x3_1 : Int) (x8_1 : Int), v3 = .int .i64 x3_1 ∧ v8 = .int .i64 x8_1 ∧ Aside0 (impl_rooks.l0 kq x3_1 l0 (l0.length : Int) x8_1 = some r) ∧ Aside0 (kq ≤ k) ∧ Drawn0 w w')
 case atStart => exact ⟨(0), (0), tf_, tf_, H', ⟨Nat.le_refl _⟩, dr_⟩
 case round =>
  clear H'
  obtain ⟨x3_1, x8_1, rfl, rfl, HA, HK1, ⟨m1, rfl⟩⟩ := hrel
  cases gk with
  | zero => exact absurd HA.out (by simp [impl_rooks.l0])
  | succ k1 =>
   have H := HA.out
   clear HA
   simp only [impl_rooks.l0] at H
   by_cases c2 : x8_1 < (l0.length : Int)
   ·
    rw [if_pos c2] at H
    have c2b0 := decide_eq_true c2
    clear c2
    by_cases c3 : 0 ≤ x8_1
    ·
     rw [if_pos c3] at H
     have c3b0 := decide_eq_true c3
     clear c3
     by_cases c4 : x8_1 < (l0.length : Int)
     ·
      rw [if_pos c4] at H
      have c4b0 := decide_eq_true c4
      clear c4
      by_cases c5 : (rd l0 x8_1) = (-1)
      ·
       rw [if_pos c5] at H
       have c5b0 : ((rd l0 x8_1) == (-1)) = true := beq_iff_eq.mpr c5
       have c5b1 : ((rd l0 x8_1) != (-1)) = false := bne_eq_false_iff_eq.mpr c5
       clear c5
       have H' := A_ H
       clear H
       have p226 : 0 ≤ (x8_1 : Int) := od_
       have q226 : x8_1 < (l0.length : Int) := od_
       obtain ⟨ad226, e226, hx226_0⟩ := Kd.at_int HR0.out x8_1 p226 q226
       cases e226
       replace p226 := eq_true p226
       replace q226 := eq_true q226
       go_wp2
       go_roundg k1
       case measure => have := HK1.out; omega
       case rel => exact ⟨(x3_1), (wrap64 (x8_1 + 1)), tf_, tf_, H', ⟨by have := HK1.out; omega⟩, dr_⟩
      ·
       rw [if_neg c5] at H
       have c5b0 : ((rd l0 x8_1) == (-1)) = false := beq_eq_false_iff_ne.mpr c5
       have c5b1 : ((rd l0 x8_1) != (-1)) = true := bne_iff_ne.mpr c5
       have H' := A_ H
       clear H
       have p226 : 0 ≤ (x8_1 : Int) := od_
       have q226 : x8_1 < (l0.length : Int) := od_
       obtain ⟨ad226, e226, hx226_0⟩ := Kd.at_int HR0.out x8_1 p226 q226
       cases e226
       replace p226 := eq_true p226
       replace q226 := eq_true q226
       go_wp2
       go_roundg k1
       case measure => have := HK1.out; omega
       case rel => exact ⟨(wrap64 (x3_1 + 1)), (wrap64 (x8_1 + 1)), tf_, tf_, H', ⟨by have := HK1.out; omega⟩, dr_⟩
     ·
      rw [if_neg c4] at H
      exact absurd H (by simp)
    ·
     rw [if_neg c3] at H
     exact absurd H (by simp)
   ·
    rw [if_neg c2] at H
    have c2b0 := decide_eq_false c2
    clear c2
    obtain rfl := Option.some.inj H
    go_wp2
    go_ret
    exact ⟨tf_, dr_⟩

/-! ### impl_Board_numbers_1: function 222 -/
def impl_Board_numbers_1.f (k : Nat) (p out : List Int) : Option (List Int) := (impl_rooks.f k p).bind fun i => if 0 ≤ i then (if i < (out.length : Int) then some (out.set i.toNat (wrap64 (rd out i + 1))) else none) else none
theorem impl_Board_numbers_1.calls (k : Nat) (w W : World) (go ro : Nat) (out r p : List Int) (Ap : Option Addr) (cp : Nat) (hS : Cap.Cnt 22 3 w go ro W out) (hp : Kd.C (Kd.int .i64) W Ap p.length p) (hc : p.length ≤ cp) (h : impl_Board_numbers_1.f k p out = some r) :
  Calls Try.prog 222 #[.slice Ap p.length cp, .pointer (some ⟨go, 0, none⟩)] W fun e W' => e = .returned (.bool true) ∧ Cap.Cnt 22 3 w go ro W' r ∧ W.grownBy W' (some ro) := by
 unfold impl_Board_numbers_1.f at h
 obtain ⟨i, A1, H⟩ := Option.bind_eq_some_iff.mp h
 clear h
 by_cases c1 : 0 ≤ i
 case neg =>
  rw [if_neg c1] at H
  exact absurd H (by simp)
 rw [if_pos c1] at H
 by_cases c2 : i < (out.length : Int)
 case neg =>
  rw [if_neg c2] at H
  exact absurd H (by simp)
 rw [if_pos c2] at H
 obtain rfl := Option.some.inj H
 obtain ⟨n, rfl⟩ : ∃ n : Nat, i = (n : Int) := ⟨i.toNat, by omega⟩
 have hn : n < out.length := by omega
 have hco := hS.cello
 have HS := A_ hS
 have HP := A_ hp
 have HC := A_ hc
 have HA := A_ A1
 have HN := A_ hn
 clear H hS hp hc A1
 go_enter Try.func222, Try.ntmps222
 go_wp2
 refine start_ (n := 8) (S := fun w' => w'.cell? ⟨go, 0, none⟩ = some (.slice (some ⟨ro, 0, none⟩) out.length out.length) ∧ w'.cell? ⟨ro, n, none⟩ = some (.int .i64 out[n])) (ds := [7]) (Fn.bl 8 0) (by kernel_rfl) rfl rfl ⟨(HS.out.below (below_drew (Below.refl _ _))).cello, (HS.out.below (below_drew (Below.refl _ _))).cell n HN.out⟩ (fun hHeld => ?_)
 have HS1 := A_ (HS.out.below (below_drew (Below.refl _ _)))
 have HB1 := A_ (below_drew (Below.refl W.heap.size W))
 have HP1 := A_ (Kd.C_below HP.out HB1.out)
 clear hco
 generalize W.drew = w1 at HS1 HB1 HP1 hHeld ⊢
 refine take_ (i := 0) (N := some 4) (v := ?_) (a' := ?_) (Fn.bl 8 1) rfl rfl (by kernel_rfl) (fun _ _ _ h => h) (Or.inl ⟨by rfl, ?_⟩) hHeld ?_ ?_
 rotate_left
 ·
  rintro w' ⟨s0, s1⟩
  go_simp
  with_reducible rfl
 rotate_left
 ·
  simp only [Act.put, List.setIfInBounds_toArray, List.set_cons_zero, List.set_cons_succ, i64_w, i32_w]
  rfl
 refine take_ (i := 1) (N := some 5) (v := ?_) (a' := ?_) (Fn.bl 8 3) rfl rfl (by kernel_rfl) (fun _ _ _ h => h) (Or.inl ⟨by rfl, ?_⟩) hHeld ?_ ?_
 rotate_left
 ·
  rintro w' ⟨s0, s1⟩
  go_simp
  with_reducible rfl
 rotate_left
 ·
  simp only [Act.put, List.setIfInBounds_toArray, List.set_cons_zero, List.set_cons_succ, i64_w, i32_w]
  rfl
 refine one_ (i := 2) (N := some 6) (Fn.bl 8 7) rfl rfl (by kernel_rfl) (by decide) (fun K hK => ?_)
 refine goes_ Try.func223 (by kernel_rfl) rfl #[.slice Ap p.length cp] (by rfl) rfl rfl (by (try simp only [List.map_toArray, List.map_cons, List.map_nil]); first | done | rfl) ?_
 with_reducible refine (impl_rooks.calls k Ap cp p (n : Int) _ HP1.out HC.out HA.out).mono ?_
 rintro e w2 ⟨rfl, hd⟩
 refine ⟨_, rfl, ?_⟩
 have HB2 := A_ (below_step HB1.out hd.below)
 have HS2 := A_ (HS1.out.below hd.below)
 clear hd
 refine hK.out _ _ ⟨HS2.out.cello, HS2.out.cell n HN.out⟩ (fun hHeld => ?_)
 clear hK K
 refine norm_ (a' := ?_) ?_ ?_
 rotate_left
 ·
  show Act.put _ (some 6) _ = _
  simp only [Act.put, List.setIfInBounds_toArray, List.set_cons_zero, List.set_cons_succ, i64_w, i32_w]
  rfl
 have p0 : (0 ≤ (n : Int)) = True := eq_true (by omega)
 have p1 : ((n : Int) < (out.length : Int)) = True := eq_true (by have := HN.out; omega)
 have p2 : (n < out.length) = True := eq_true HN.out
 refine take_ (i := 3) (N := some 7) (v := .pointer (some ⟨ro, n, none⟩)) (a' := ?_) (Fn.bl 8 15) rfl rfl (by kernel_rfl) (fun _ _ _ h => h) (Or.inl ⟨by rfl, ?_⟩) hHeld ?_ ?_
 ·
  rintro w' ⟨s0, s1⟩
  go_simp
  done
 rotate_left
 ·
  simp only [Act.put, List.setIfInBounds_toArray, List.set_cons_zero, List.set_cons_succ, i64_w, i32_w]
  rfl
 refine take_ (i := 4) (N := some 8) (v := .int .i64 out[n]) (a' := ?_) (Fn.bl 8 31) rfl rfl (by kernel_rfl) (fun _ _ _ h => h) (Or.inl ⟨by rfl, ?_⟩) hHeld ?_ ?_
 ·
  rintro w' ⟨s0, s1⟩
  go_simp
  done
 rotate_left
 ·
  simp only [Act.put, List.setIfInBounds_toArray, List.set_cons_zero, List.set_cons_succ, i64_w, i32_w]
  rfl
 refine take_ (i := 5) (N := some 9) (v := ?_) (a' := ?_) (Fn.bl 8 63) rfl rfl (by kernel_rfl) (fun _ _ _ h => h) (Or.inl ⟨by rfl, ?_⟩) hHeld ?_ ?_
 rotate_left
 ·
  rintro w' ⟨s0, s1⟩
  go_simp
  with_reducible rfl
 rotate_left
 ·
  simp only [Act.put, List.setIfInBounds_toArray, List.set_cons_zero, List.set_cons_succ, i64_w, i32_w]
  rfl
 refine take_ (i := 6) (N := some 10) (v := .pointer (some ⟨ro, n, none⟩)) (a' := ?_) (Fn.bl 8 127) rfl rfl (by kernel_rfl) (fun _ _ _ h => h) (Or.inl ⟨by rfl, ?_⟩) hHeld ?_ ?_
 ·
  rintro w' ⟨s0, s1⟩
  go_simp
  done
 rotate_left
 ·
  simp only [Act.put, List.setIfInBounds_toArray, List.set_cons_zero, List.set_cons_succ, i64_w, i32_w]
  rfl
 have hcn := HS2.out.cell n HN.out
 have hfn := HS2.out.free n
 refine last_ (i := 7) (N := none) (Fn.bl 8 255) rfl rfl (by kernel_rfl) (by decide) (fun K hK => ?_)
 refine skip_ (w1 := w2.setCell ⟨ro, n, none⟩ (.int .i64 (wrap64 (out[n] + 1)))) (by rfl) rfl ?_ ?_
 ·
  go_simp
  done
 refine hK.out _ _ ?_
 clear hK K
 have HS3 := A_ (HS2.out.put n (wrap64 (out[n] + 1)))
 have HG3 := A_ (Cap.grown_put (grown_of_below HB2.out (some ro)) (p := ⟨ro, n, none⟩) rfl (.int .i64 (wrap64 (out[n] + 1))))
 clear hcn hfn
 generalize w2.setCell ⟨ro, n, none⟩ (.int .i64 (wrap64 (out[n] + 1))) = w3 at HS3 HG3 ⊢
 refine done_ (by kernel_rfl) ?_
 go_wp2
 go_ret
 refine ⟨rfl, ?_, HG3.out⟩
 have e : rd out (n : Int) = out[n] := by unfold rd; simp [HN.out]
 rw [e, Int.toNat_natCast]
 exact HS3.out

/-! ### impl_Board_walk_1: function 258 -/
def impl_Board_walk_1.more (t c : Int) : Int := if c ≥ 0 then Go.bits .or .i64 t (wrap64 (2 ^ min c.toNat 64)) else t
def impl_Board_walk_1.skips (R C : Int) (lb : List Int) (r t c : Int) : Option Bool := if c ≥ 0 then ((impl_Board_has.f R C lb r c).bind fun b => some (if b = true then (Go.bits .and .i64 (shr .i64 t c) 1 == 1) else true)) else some false
mutual
def impl_Board_walk_1.f : Nat → Int → Int → List Int → Int → Int → List Int → List Int → Option (List Int × List Int)
 | 0, _, _, _, _, _, _, _ => none
 | k + 1, R, C, lb, r, t, p, out => if r = R then ((impl_Board_numbers_1.f k p out).bind fun o => some (p, o)) else impl_Board_walk_1.l0 k R C lb r t p out (-1)
def impl_Board_walk_1.l0 : Nat → Int → Int → List Int → Int → Int → List Int → List Int → Int → Option (List Int × List Int)
 | 0, _, _, _, _, _, _, _, _ => none
 | k + 1, R, C, lb, r, t, p, out, c => if c < C then ((impl_Board_walk_1.skips R C lb r t c).bind fun b => if b = true then impl_Board_walk_1.l0 k R C lb r t p out (wrap64 (c + 1)) else (if 0 ≤ r then (if r < (p.length : Int) then ((impl_Board_walk_1.f k R C lb (wrap64 (r + 1)) (impl_Board_walk_1.more t c) (p.set r.toNat c) out).bind fun q => impl_Board_walk_1.l0 k R C lb r t q.1 q.2 (wrap64 (c + 1))) else none) else none)) else some (p, out)
end
theorem impl_Board_walk_1.mono_l : ∀ k, (∀ R C lb r t p o, LeO (impl_Board_walk_1.f k R C lb r t p o) (impl_Board_walk_1.f (k + 1) R C lb r t p o)) ∧ (∀ R C lb r t p o c, LeO (impl_Board_walk_1.l0 k R C lb r t p o c) (impl_Board_walk_1.l0 (k + 1) R C lb r t p o c))
 | 0 => ⟨fun _ _ _ _ _ _ _ r h => by simp [impl_Board_walk_1.f] at h, fun _ _ _ _ _ _ _ _ r h => by simp [impl_Board_walk_1.l0] at h⟩
 | k + 1 => by
  obtain ⟨i0, i1⟩ := impl_Board_walk_1.mono_l k
  refine ⟨?_, ?_⟩
  ·
   intro R C lb r t p o
   unfold impl_Board_walk_1.f
   exact LeO.ite (LeO.bind (LeO.bind (impl_rooks.mono _ _) (fun _ => LeO.refl _)) (fun _ => LeO.refl _)) (i1 _ _ _ _ _ _ _ _)
  ·
   intro R C lb r t p o c
   unfold impl_Board_walk_1.l0
   refine LeO.ite ?_ (LeO.refl _)
   refine LeO.bind (LeO.refl _) (fun b => ?_)
   refine LeO.ite (i1 _ _ _ _ _ _ _ _) ?_
   refine LeO.ite ?_ (LeO.refl _)
   refine LeO.ite ?_ (LeO.refl _)
   exact LeO.bind (i0 _ _ _ _ _ _ _) (fun _ => i1 _ _ _ _ _ _ _ _)
theorem impl_Board_walk_1.mono : ∀ R C lb r t p o k, LeO (impl_Board_walk_1.f k R C lb r t p o) (impl_Board_walk_1.f (k + 1) R C lb r t p o) := fun R C lb r t p o k => (impl_Board_walk_1.mono_l k).1 _ _ _ _ _ _ _
def impl_Board_walk_1.self (gb gd gp gg gx : Nat) : Value := .func (.func 258) #[] #[.pointer (some ⟨gb, 0, none⟩), .pointer (some ⟨gd, 0, none⟩), .pointer (some ⟨gp, 0, none⟩), .pointer (some ⟨gg, 0, none⟩), .pointer (some ⟨gx, 0, none⟩)]
def impl_Board_walk_1.done (go : Nat) : Value := .func (.func 222) #[] #[.pointer (some ⟨go, 0, none⟩)]
abbrev impl_Board_walk_1.St (w : World) (gb gd gp gg gx go rp ro : Nat) (R C : Int) (Ab : Option Addr) (lb : List Int) (cb : Nat) (W : World) (p out : List Int) : Prop :=
 Cap.Wst 28 50 22 4 162 3 w gb gd gp gg gx go rp ro R C Ab lb cb (impl_Board_walk_1.done go) (impl_Board_walk_1.self gb gd gp gg gx) W p out
theorem impl_Board_walk_1.enters (gb gd gp gg gx : Nat) {r t : Int} {w : World} {Q : Ending → World → Prop} (h : Calls Try.prog 258 #[.int .i64 r, .int .i64 t, .pointer (some ⟨gb, 0, none⟩), .pointer (some ⟨gd, 0, none⟩), .pointer (some ⟨gp, 0, none⟩), .pointer (some ⟨gg, 0, none⟩), .pointer (some ⟨gx, 0, none⟩)] w Q) :
  Fn.CallsV Try.prog (impl_Board_walk_1.self gb gd gp gg gx) #[.int .i64 r, .int .i64 t] w Q := ⟨258, _, _, rfl, Try.func258, by kernel_rfl, rfl, by simpa using h⟩
theorem impl_Board_walk_1.tells (go : Nat) {v : Value} {w : World} {Q : Ending → World → Prop} (h : Calls Try.prog 222 #[v, .pointer (some ⟨go, 0, none⟩)] w Q) :
  Fn.CallsV Try.prog (impl_Board_walk_1.done go) #[v] w Q := ⟨222, _, _, rfl, Try.func222, by kernel_rfl, rfl, by simpa using h⟩
theorem impl_Board_walk_1.calls (k : Nat) : ∀ (w : World) (gb gd gp gg gx go rp ro : Nat) (R C : Int) (Ab : Option Addr) (lb : List Int) (cb : Nat) (W : World) (r t : Int) (p out p2 out2 : List Int) (hS : impl_Board_walk_1.St w gb gd gp gg gx go rp ro R C Ab lb cb W p out) (h : impl_Board_walk_1.f k R C lb r t p out = some (p2, out2)),
  Calls Try.prog 258 #[.int .i64 r, .int .i64 t, .pointer (some ⟨gb, 0, none⟩), .pointer (some ⟨gd, 0, none⟩), .pointer (some ⟨gp, 0, none⟩), .pointer (some ⟨gg, 0, none⟩), .pointer (some ⟨gx, 0, none⟩)] W fun e W' => e = .returned (.tuple #[]) ∧ impl_Board_walk_1.St w gb gd gp gg gx go rp ro R C Ab lb cb W' p2 out2 := by
 induction k using Nat.strongRecOn with
 | _ k ih =>
 intro w gb gd gp gg gx go rp ro R C Ab lb cb W r t p out p2 out2 hS h
 cases k with
 | zero => exact absurd h (by simp [impl_Board_walk_1.f])
 | succ k =>
 simp only [impl_Board_walk_1.f] at h
 have hu28 := Try.underlying28
 have hb0 := hS.b0
 have hb1 := hS.b1
 have hcd := hS.celld
 have hcp := hS.cellp
 have hcg := hS.cellg
 have hfg := hS.freeg
 have HS := A_ hS
 clear hS
 by_cases c1 : r = R
 ·
  rw [if_pos c1] at h
  have c1b0 : (r == R) = true := beq_iff_eq.mpr c1
  have c1b1 : (r != R) = false := bne_eq_false_iff_eq.mpr c1
  clear c1
  obtain ⟨o, A1, H⟩ := Option.bind_eq_some_iff.mp h
  obtain ⟨rfl, rfl⟩ := Prod.mk.inj (Option.some.inj H)
  clear h H
  replace A1 := A_ A1
  go_enter Try.func258, Try.ntmps258
  go_wp2_with (first | ((with_reducible refine Fn.gate_value rfl ?_); refine Fn.goesVw_ (some 17) rfl (by first | rfl | (simp [Region.wanted, yielded]; done)) (impl_Board_walk_1.done go) rfl #[.slice (some ⟨rp, 0, none⟩) p.length p.length] rfl (by (try simp only [List.map_toArray, List.map_cons, List.map_nil]); first | done | rfl) ?_; refine impl_Board_walk_1.tells go ?_; (with_reducible refine (impl_Board_numbers_1.calls k w _ go ro out o p (some ⟨rp, 0, none⟩) p.length HS.out.cnt HS.out.pC (Nat.le_refl _) A1.out).mono ?_); rintro e w8 ⟨rfl, hc, hg⟩; refine ⟨_, rfl, ?_⟩; have HS8 := A_ (HS.out.count hc hg); have hcg8 := HS8.out.cellg; have hfg8 := HS8.out.freeg; clear hc hg hcg hfg))
  (try simp only [Exit.inBlock, Exit.then]); refine bodyPost_ret (results_none rfl _ _ _) rfl ?_
  exact ⟨rfl, HS8.out.flag⟩
 ·
  rw [if_neg c1] at h
  have c1b0 : (r == R) = false := beq_eq_false_iff_ne.mpr c1
  have c1b1 : (r != R) = true := bne_iff_ne.mpr c1
  clear c1
  replace h := A_ h
  go_enter Try.func258, Try.ntmps258
  go_wp2
  go_loopg [9] k (fun kq v9 W' => ∃ (c : Int) (p1 o1 : List Int), v9 = .int .i64 c ∧ Aside0 (impl_Board_walk_1.l0 kq R C lb r t p1 o1 c = some (p2, out2)) ∧ Aside0 (kq ≤ k) ∧ Aside0 (impl_Board_walk_1.St w gb gd gp gg gx go rp ro R C Ab lb cb W' p1 o1))
  case atStart => exact ⟨-1, p, out, rfl, h, ⟨Nat.le_refl _⟩, HS⟩
  case round =>
   clear h HS hb0 hb1 hcd hcp hcg hfg
   obtain ⟨c, p1, o1, rfl, HA, HK1, HS⟩ := hrel
   have hb0 := HS.out.b0
   have hb1 := HS.out.b1
   have hb2 := HS.out.b2
   have hcp := HS.out.cellp
   have hcg := HS.out.cellg
   have hcx := HS.out.cellx
   cases gk with
   | zero => exact absurd HA.out (by simp [impl_Board_walk_1.l0])
   | succ k1 =>
    have H := HA.out
    clear HA
    simp only [impl_Board_walk_1.l0] at H
    by_cases c4 : c < C
    ·
     rw [if_pos c4] at H
     have c4b := decide_eq_true c4
     clear c4
     obtain ⟨b, A2, H⟩ := Option.bind_eq_some_iff.mp H
     by_cases c5 : c ≥ 0
     ·
      have c5b : decide (c ≥ 0) = true := decide_eq_true c5
      have c5c : (0 ≤ c) = True := eq_true c5
      simp only [impl_Board_walk_1.skips, if_pos c5] at A2
      obtain ⟨hb, A3, A4⟩ := Option.bind_eq_some_iff.mp A2
      clear A2
      replace A3 := A_ A3
      have A4 := Option.some.inj A4
      cases hb with
      | false =>
       simp only [Bool.false_eq_true, if_false] at A4
       subst A4
       rw [if_pos rfl] at H
       clear c5
       replace H := A_ H
       go_wp2_with (first | (go_at_call 127; (with_reducible refine (impl_Board_has.calls R C Ab cb lb r c false _ HS.out.bC HS.out.hcb A3.out).mono ?_); rintro e w5 ⟨rfl, hd⟩; have HS5 := A_ (HS.out.below hd); clear hd))
       go_roundg k1
       case measure => have := HK1.out; omega
       case rel => exact ⟨wrap64 (c + 1), p1, o1, tf_, H, ⟨by have := HK1.out; omega⟩, HS5⟩
      | true =>
       have A4b : (Go.bits .and .i64 (t / 2 ^ min c.toNat 64) 1 == 1) = b := A4
       clear A4
       cases b with
       | true =>
        rw [if_pos rfl] at H
        clear c5
        replace H := A_ H
        go_wp2_with (first | (go_at_call 127; (with_reducible refine (impl_Board_has.calls R C Ab cb lb r c true _ HS.out.bC HS.out.hcb A3.out).mono ?_); rintro e w5 ⟨rfl, hd⟩; have HS5 := A_ (HS.out.below hd); clear hd))
        go_roundg k1
        case measure => have := HK1.out; omega
        case rel => exact ⟨wrap64 (c + 1), p1, o1, tf_, H, ⟨by have := HK1.out; omega⟩, HS5⟩
       | false =>
        simp only [Bool.false_eq_true, if_false] at H
        by_cases c7 : 0 ≤ r
        case neg =>
         rw [if_neg c7] at H
         exact absurd H (by simp)
        rw [if_pos c7] at H
        by_cases c8 : r < (p1.length : Int)
        case neg =>
         rw [if_neg c8] at H
         exact absurd H (by simp)
        rw [if_pos c8] at H
        obtain ⟨n, rfl⟩ : ∃ n : Nat, r = (n : Int) := ⟨r.toNat, by omega⟩
        have hn : Aside0 (n < p1.length) := ⟨by omega⟩
        have q0 : (0 ≤ (n : Int)) = True := eq_true (by omega)
        have q1' : ((n : Int) < (p1.length : Int)) = True := eq_true c8
        have q2' : (n < p1.length) = True := eq_true hn.out
        clear c7 c8
        obtain ⟨⟨q1, q2⟩, A5, H⟩ := Option.bind_eq_some_iff.mp H
        replace A5 := A_ A5
        rw [Int.toNat_natCast, show impl_Board_walk_1.more t c = (Go.bits .or .i64 t (wrap64 (2 ^ min c.toNat 64))) from by unfold impl_Board_walk_1.more; rw [if_pos c5]] at A5
        replace H := A_ H
        clear c5
        go_wp2_with (first | (go_at_call 127; (with_reducible refine (impl_Board_has.calls R C Ab cb lb (n : Int) c true _ HS.out.bC HS.out.hcb A3.out).mono ?_); rintro e w5 ⟨rfl, hd⟩; have HS5 := A_ (HS.out.below hd); clear hd; have hcp5 := HS5.out.cellp; have hcn5 := HS5.out.cell n hn.out; have hfn5 := HS5.out.free n; have HP5 := A_ (HS5.out.put n c); have hcx5 := HP5.out.cellx) | ((with_reducible refine Fn.gate_value rfl ?_); refine Fn.goesVw_ (some 58) rfl (by first | rfl | (simp [Region.wanted, yielded]; done)) (impl_Board_walk_1.self gb gd gp gg gx) rfl #[.int .i64 (wrap64 ((n : Int) + 1)), .int .i64 (Go.bits .or .i64 t (wrap64 (2 ^ min c.toNat 64)))] rfl (by (try simp only [List.map_toArray, List.map_cons, List.map_nil]); first | done | rfl) ?_; refine impl_Board_walk_1.enters gb gd gp gg gx ?_; (with_reducible refine (ih k1 (by have := HK1.out; omega) w gb gd gp gg gx go rp ro R C Ab lb cb _ (wrap64 ((n : Int) + 1)) (Go.bits .or .i64 t (wrap64 (2 ^ min c.toNat 64))) (p1.set n c) o1 q1 q2 HP5.out A5.out).mono ?_); rintro e w8 ⟨rfl, hs⟩; refine ⟨_, rfl, ?_⟩; have HS8 := A_ hs; clear hs hcx5 hcp5 hcn5 hfn5))
        go_roundg k1
        case measure => have := HK1.out; omega
        case rel => exact ⟨wrap64 (c + 1), q1, q2, tf_, H, ⟨by have := HK1.out; omega⟩, HS8⟩
     ·
      have c5b : decide (c ≥ 0) = false := decide_eq_false c5
      simp only [impl_Board_walk_1.skips, if_neg c5, Option.some.injEq] at A2
      subst A2
      simp only [Bool.false_eq_true, if_false] at H
      by_cases c7 : 0 ≤ r
      case neg =>
       rw [if_neg c7] at H
       exact absurd H (by simp)
      rw [if_pos c7] at H
      by_cases c8 : r < (p1.length : Int)
      case neg =>
       rw [if_neg c8] at H
       exact absurd H (by simp)
      rw [if_pos c8] at H
      obtain ⟨n, rfl⟩ : ∃ n : Nat, r = (n : Int) := ⟨r.toNat, by omega⟩
      have hn : Aside0 (n < p1.length) := ⟨by omega⟩
      have q0 : (0 ≤ (n : Int)) = True := eq_true (by omega)
      have q1' : ((n : Int) < (p1.length : Int)) = True := eq_true c8
      have q2' : (n < p1.length) = True := eq_true hn.out
      clear c7 c8
      obtain ⟨⟨q1, q2⟩, A5, H⟩ := Option.bind_eq_some_iff.mp H
      replace A5 := A_ A5
      rw [Int.toNat_natCast, show impl_Board_walk_1.more t c = t from by unfold impl_Board_walk_1.more; rw [if_neg c5]] at A5
      replace H := A_ H
      clear c5
      have hcp5 := HS.out.cellp
      have hcn5 := HS.out.cell n hn.out
      have hfn5 := HS.out.free n
      have HP5 := A_ (HS.out.put n c)
      have hcx5 := HP5.out.cellx
      go_wp2_with (first | ((with_reducible refine Fn.gate_value rfl ?_); refine Fn.goesVw_ (some 58) rfl (by first | rfl | (simp [Region.wanted, yielded]; done)) (impl_Board_walk_1.self gb gd gp gg gx) rfl #[.int .i64 (wrap64 ((n : Int) + 1)), .int .i64 t] rfl (by (try simp only [List.map_toArray, List.map_cons, List.map_nil]); first | done | rfl) ?_; refine impl_Board_walk_1.enters gb gd gp gg gx ?_; (with_reducible refine (ih k1 (by have := HK1.out; omega) w gb gd gp gg gx go rp ro R C Ab lb cb _ (wrap64 ((n : Int) + 1)) t (p1.set n c) o1 q1 q2 HP5.out A5.out).mono ?_); rintro e w8 ⟨rfl, hs⟩; refine ⟨_, rfl, ?_⟩; have HS8 := A_ hs; clear hs hcx5 hcp5 hcn5 hfn5))
      go_roundg k1
      case measure => have := HK1.out; omega
      case rel => exact ⟨wrap64 (c + 1), q1, q2, tf_, H, ⟨by have := HK1.out; omega⟩, HS8⟩
    ·
     rw [if_neg c4] at H
     have c4b := decide_eq_false c4
     clear c4
     obtain ⟨rfl, rfl⟩ := Prod.mk.inj (Option.some.inj H)
     clear H
     go_wp2
     go_end0
     exact ⟨rfl, HS.out⟩

/-! ### impl_Board_walk: function 221 -/
def impl_Board_walk.f (k : Nat) (R C : Int) (lb out : List Int) : Option (List Int) := if 0 ≤ R then (if R ≤ 1000 then ((impl_Board_walk_1.f k R C lb 0 0 (List.replicate R.toNat 0) out).bind fun q => some q.2) else none) else none
theorem impl_Board_walk.calls (k : Nat) (w W : World) (go ro : Nat) (R C : Int) (Ab : Option Addr) (lb : List Int) (cb : Nat) (out r : List Int) (hS : Cap.Cnt 22 3 w go ro W out) (hC : Kd.C (Kd.int .i64) w Ab lb.length lb) (hcb : lb.length ≤ cb) (h : impl_Board_walk.f k R C lb out = some r) :
  Calls Try.prog 221 #[.agg #[.int .i64 R, .int .i64 C, .slice Ab lb.length cb], impl_Board_walk_1.done go] W fun e W' => e = .returned (.tuple #[]) ∧ Cap.Cnt 22 3 w go ro W' r := by
 unfold impl_Board_walk.f at h
 by_cases c1 : 0 ≤ R
 case neg =>
  rw [if_neg c1] at h
  exact absurd h (by simp)
 rw [if_pos c1] at h
 by_cases c2 : R ≤ 1000
 case neg =>
  rw [if_neg c2] at h
  exact absurd h (by simp)
 rw [if_pos c2] at h
 obtain ⟨n, rfl⟩ : ∃ n : Nat, R = (n : Int) := ⟨R.toNat, by omega⟩
 rw [Int.toNat_natCast] at h
 obtain ⟨⟨p2, out2⟩, A1, H⟩ := Option.bind_eq_some_iff.mp h
 obtain rfl := Option.some.inj H
 clear h H
 have HS := A_ hS
 have HC := A_ hC
 have HCb := A_ hcb
 have HA := A_ A1
 have HN : Aside0 (n ≤ 1000) := ⟨by omega⟩
 clear hS hC hcb A1 c1 c2
 have hu28 := Try.underlying28
 have hmf_ : ∀ (fn : Go.Fn) (first cap : Array Value) (w : World), (Instr.makeFunc fn first cap).run Try.prog w = .ok (.func fn first cap) w := fun _ _ _ _ => rfl
 have hmk := print_make_int (P := Try.prog) 22 3 (.int .i64 0) 8 Try.underlying22 info3 rfl (by decide) (n : Int) (by omega) (by have := HN.out; omega)
 simp only [Int.toNat_natCast] at hmk
 go_enter Try.func221, Try.ntmps221
 go_wp2_with (first | ((with_reducible refine Fn.gate_value rfl ?_); refine Fn.goesVw_ (some 12) rfl (by first | rfl | (simp [Region.wanted, yielded]; done)) (impl_Board_walk_1.self W.heap.size (W.heap.size + 1) (W.heap.size + 1 + 1 + 1) (W.heap.size + 1 + 1 + 1 + 1) (W.heap.size + 1 + 1 + 1 + 1 + 1)) rfl #[.int .i64 0, .int .i64 0] rfl (by (try simp only [List.map_toArray, List.map_cons, List.map_nil]); first | done | rfl) ?_; refine impl_Board_walk_1.enters _ _ _ _ _ ?_; (with_reducible refine (impl_Board_walk_1.calls k w _ _ _ _ _ go (W.heap.size + 1 + 1) ro (n : Int) C Ab lb cb _ 0 0 (List.replicate n 0) out p2 out2 ?q1 HA.out).mono ?_); (case q1 => exact Cap.Wst.start HS.out HC.out HCb.out HN.out); rintro e w8 ⟨rfl, hs⟩; refine ⟨_, rfl, ?_⟩; have HS8 := A_ hs.cnt; clear hs))
 go_end0
 exact ⟨rfl, HS8.out⟩

/-! ### impl_Board_numbers: function 130 -/
def impl_Board_numbers.f (k : Nat) (a0_0 : Int) (a0_1 : Int) (l0_2 : List Int) : Option (List Int) := if 0 ≤ wrap64 (mn a0_0 a0_1 + 1) then (if wrap64 (mn a0_0 a0_1 + 1) ≤ 1000 then impl_Board_walk.f k a0_0 a0_1 l0_2 (List.replicate (wrap64 (mn a0_0 a0_1 + 1)).toNat 0) else none) else none
theorem impl_Board_numbers.mono : ∀ a b l k, LeO (impl_Board_numbers.f k a b l) (impl_Board_numbers.f (k + 1) a b l) := by
 intro a b l k
 unfold impl_Board_numbers.f
 refine LeO.ite ?_ (LeO.refl _)
 refine LeO.ite ?_ (LeO.refl _)
 unfold impl_Board_walk.f
 refine LeO.ite ?_ (LeO.refl _)
 refine LeO.ite ?_ (LeO.refl _)
 exact LeO.bind (impl_Board_walk_1.mono _ _ _ _ _ _ _ _) (fun _ => LeO.refl _)
theorem impl_Board_numbers.calls (k : Nat) (a0_0 : Int) (a0_1 : Int) (A0_2 : Option Addr) (c0_2 : Nat) (l0_2 : List Int) (r : List Int) (w : World) (hr0_2 : Kd.C (Kd.int .i64) w A0_2 l0_2.length l0_2) (hc0_2 : l0_2.length ≤ c0_2) (h : impl_Board_numbers.f k a0_0 a0_1 l0_2 = some r) :
  Calls Try.prog 130 #[.agg #[.int .i64 a0_0, .int .i64 a0_1, .slice A0_2 l0_2.length c0_2]] w fun e w' => ∃ v0_ : Value, e = .returned (v0_) ∧ (Kd.int .i64).R 3 w' w.heap.size (fun _ => True) v0_ r ∧ Below w.heap.size w w' := by
 unfold impl_Board_numbers.f at h
 by_cases c3 : a0_1 < a0_0
 case pos =>
  have e : mn a0_0 a0_1 = a0_1 := by unfold mn; rw [if_pos c3]
  have c3' : (a0_1 < a0_0) = True := eq_true c3
  rw [e] at h
  clear e c3
  by_cases c1 : 0 ≤ wrap64 (a0_1 + 1)
  case neg =>
   rw [if_neg c1] at h
   exact absurd h (by simp)
  rw [if_pos c1] at h
  by_cases c2 : wrap64 (a0_1 + 1) ≤ 1000
  case neg =>
   rw [if_neg c2] at h
   exact absurd h (by simp)
  rw [if_pos c2] at h
  have HR := A_ hr0_2
  have HC := A_ hc0_2
  have HA := A_ h
  have HN : Aside0 ((wrap64 (a0_1 + 1)).toNat ≤ 1000) := ⟨by omega⟩
  have hu28 := Try.underlying28
  have hmf_ : ∀ (fn : Go.Fn) (first cap : Array Value) (w : World), (Instr.makeFunc fn first cap).run Try.prog w = .ok (.func fn first cap) w := fun _ _ _ _ => rfl
  have hmk := print_make_int (P := Try.prog) 22 3 (.int .i64 0) 8 Try.underlying22 info3 rfl (by decide) (wrap64 (a0_1 + 1)) c1 (by have := HN.out; omega)
  clear hr0_2 hc0_2 h c1 c2
  go_enter Try.func130, Try.ntmps130
  go_wp2_with (first | (go_at_call 221; (have HS := A_ (Cap.Cnt.start (tB := 28) (tI := 22) (tR := 3) (w := w) (bs := #[.int .i64 a0_0, .int .i64 a0_1, .slice A0_2 l0_2.length c0_2]) (n := (wrap64 (a0_1 + 1)).toNat) (by have := HN.out; omega))); (refine (impl_Board_walk.calls k w _ (w.heap.size + 1 + 1) (w.heap.size + 1) a0_0 a0_1 A0_2 l0_2 c0_2 (List.replicate (wrap64 (a0_1 + 1)).toNat 0) r HS.out HR.out HC.out HA.out).mono ?_); rintro e w8 ⟨rfl, hs⟩; have HS8 := A_ hs; have hco8 := HS8.out.cello; clear hs))
  go_ret
  exact ⟨_, rfl, HS8.out.row, HS8.out.bel⟩
 case neg =>
  have e : mn a0_0 a0_1 = a0_0 := by unfold mn; rw [if_neg c3]
  have c3' : (a0_1 < a0_0) = False := eq_false c3
  rw [e] at h
  clear e c3
  by_cases c1 : 0 ≤ wrap64 (a0_0 + 1)
  case neg =>
   rw [if_neg c1] at h
   exact absurd h (by simp)
  rw [if_pos c1] at h
  by_cases c2 : wrap64 (a0_0 + 1) ≤ 1000
  case neg =>
   rw [if_neg c2] at h
   exact absurd h (by simp)
  rw [if_pos c2] at h
  have HR := A_ hr0_2
  have HC := A_ hc0_2
  have HA := A_ h
  have HN : Aside0 ((wrap64 (a0_0 + 1)).toNat ≤ 1000) := ⟨by omega⟩
  have hu28 := Try.underlying28
  have hmf_ : ∀ (fn : Go.Fn) (first cap : Array Value) (w : World), (Instr.makeFunc fn first cap).run Try.prog w = .ok (.func fn first cap) w := fun _ _ _ _ => rfl
  have hmk := print_make_int (P := Try.prog) 22 3 (.int .i64 0) 8 Try.underlying22 info3 rfl (by decide) (wrap64 (a0_0 + 1)) c1 (by have := HN.out; omega)
  clear hr0_2 hc0_2 h c1 c2
  go_enter Try.func130, Try.ntmps130
  go_wp2_with (first | (go_at_call 221; (have HS := A_ (Cap.Cnt.start (tB := 28) (tI := 22) (tR := 3) (w := w) (bs := #[.int .i64 a0_0, .int .i64 a0_1, .slice A0_2 l0_2.length c0_2]) (n := (wrap64 (a0_0 + 1)).toNat) (by have := HN.out; omega))); (refine (impl_Board_walk.calls k w _ (w.heap.size + 1 + 1) (w.heap.size + 1) a0_0 a0_1 A0_2 l0_2 c0_2 (List.replicate (wrap64 (a0_0 + 1)).toNat 0) r HS.out HR.out HC.out HA.out).mono ?_); rintro e w8 ⟨rfl, hs⟩; have HS8 := A_ hs; have hco8 := HS8.out.cello; clear hs))
  go_ret
  exact ⟨_, rfl, HS8.out.row, HS8.out.bel⟩

/-! ### impl_newBoard: function 228 -/
def impl_newBoard.f (a0 : Int) (a1 : Int) : Option (Int × Int × List Int) := if 0 ≤ a0 then (if (a0 : Int).toNat ≤ 35184372088832 then (some (a0, a1, (List.replicate (a0 : Int).toNat 0))) else (none)) else (none)
theorem impl_newBoard.calls (a0 : Int) (a1 : Int) (r1 : Int) (r2 : Int) (r3 : List Int) (w : World) (h : impl_newBoard.f a0 a1 = some (r1, r2, r3)) :
  Calls Try.prog 228 #[.int .i64 a0, .int .i64 a1] w fun e w' => ∃ v2_ : Value, e = .returned (.agg #[.int .i64 r1, .int .i64 r2, v2_]) ∧ Kd.R (Kd.int .i64) 3 w' w.heap.size (fun _ => True) v2_ r3 ∧ Below w.heap.size w w' := by
 have hu28 := Try.underlying28
 have HB := A_ (Below.refl w.heap.size w)
 have H : (if 0 ≤ a0 then (if (a0 : Int).toNat ≤ 35184372088832 then (some (a0, a1, (List.replicate (a0 : Int).toNat 0))) else (none)) else (none)) = some (r1, r2, r3) := h
 clear h
 by_cases c3 : 0 ≤ a0
 ·
  rw [if_pos c3] at H
  have c3b0 := eq_true c3
  have c3b1 := decide_eq_true c3
  clear c3
  by_cases c4 : (a0 : Int).toNat ≤ 35184372088832
  ·
   rw [if_pos c4] at H
   have c4b0 := eq_true c4
   have c4b1 := decide_eq_true c4
   clear c4
   obtain ⟨y431, hy431⟩ : ∃ y_ : List Int, y_ = (List.replicate (a0 : Int).toNat 0) := ⟨_, rfl⟩
   replace H : (some (a0, a1, y431)) = some (r1, r2, r3) := ty_ hy431 H
   have Ny431 := A_ hy431
   clear hy431
   simp only [Option.some.injEq, Prod.mk.injEq] at H
   obtain ⟨rfl, rfl, rfl⟩ := H
   go_enter Try.func228, Try.ntmps228
   go_wp2_with (first | (refine gd_ 4 ?_; refine bx_ 4 #[.int .i64 0, .int .i64 0, .slice none 0 0] 28 ?_; intro gb430 hg w5 hbox hb; have BK430 := A_ (hbox); have GW430 := A_ ((ts_ hg : w.heap.size ≤ gb430)); have GE430 := A_ ((ts_ hg : w.heap.size ≤ gb430)); replace HB := A_ (below_step tb_ hb); clear hb hbox hg) | (refine gd_ 8 ?_; refine Kd.R_make (Kd.int .i64) _ 3 rfl (N := 8) rfl 22 _ _ rfl a0 rfl rfl Try.underlying22 (.int .i64 0) 8 info3 rfl (by decide) (by omega) 0 (ok := fun _ => True) (okp := fun _ => True) rfl (fun _ hk => hk) trivial (od_) (Nat.le_trans (Nat.mul_le_mul_right _ (od_ : a0.toNat ≤ 35184372088832)) (by omega)) (Below.refl _ _) (Nat.le_refl _) ?_; intro v432 w6 ho7 hb hg_ hnew_; clear hg_ hnew_; (first | rw [← Ny431.out] at ho7 | (simp only [Int.reduceToNat] at ho7; rw [← Ny431.out] at ho7)); have HO433 := A_ (Kd.R_lower ho7 (below_size tb_)); replace BK430 := A_ (blk_below (g := gb430) (o := .cells #[.int .i64 0, .int .i64 0, .slice none 0 0] 28 (0, 0)) (tk_ BK430) hb); replace HB := A_ (below_step tb_ hb); clear hb ho7; obtain ⟨Ao8, co8, eo8⟩ := Kd.R_slice HO433.out; subst eo8; obtain ⟨hcz9_0, hcz9_1, hcz9_2, hfz9_0, hfz9_1, hfz9_2⟩ := cf3_ BK430.out))
   refine bodyPost_ret (results_cell_row rfl _ _ gb430 28 #[.int .i64 a0, .int .i64 a1, .slice Ao8 y431.length co8] (0, 0) _ rfl (by (with_reducible repeat (first | refine blk_drewN ?_ _ | refine blk_drew ?_ | refine blk_alloc ?_ _)); refine blk_put (cs := #[.int .i64 a0, .int .i64 a1, .slice none 0 0]) ?_ 2 _ rfl; (with_reducible repeat (first | refine blk_drewN ?_ _ | refine blk_drew ?_ | refine blk_alloc ?_ _)); refine blk_put (cs := #[.int .i64 a0, .int .i64 0, .slice none 0 0]) ?_ 1 _ rfl; (with_reducible repeat (first | refine blk_drewN ?_ _ | refine blk_drew ?_ | refine blk_alloc ?_ _)); refine blk_put (cs := #[.int .i64 0, .int .i64 0, .slice none 0 0]) ?_ 0 _ rfl; (with_reducible repeat (first | refine blk_drewN ?_ _ | refine blk_drew ?_ | refine blk_alloc ?_ _)); exact BK430.out) Try.underlying28 rfl (by kernel_rfl)) rfl ?_
   exact ⟨_, te_, by (with_reducible repeat (first | apply Kd.R_alloc | apply Kd.R_drewN | apply Kd.R_drew)); exact Kd.R_mono (Kd.R_far (p := ⟨gb430, 2, none⟩) (Kd.R_far (p := ⟨gb430, 1, none⟩) (Kd.R_far (p := ⟨gb430, 0, none⟩) (Kd.R_types HO433.out BK430.out (by decide)) (fun _ hk => hk.2) (.int .i64 a0)) (fun _ hk => hk.2) (.int .i64 a1)) (fun _ hk => hk.2) (.slice Ao8 y431.length co8)) (fun _ hk => trivial), tb_⟩
  ·
   rw [if_neg c4] at H
   exact absurd H (by simp)
 ·
  rw [if_neg c3] at H
  exact absurd H (by simp)

/-! ### bits_OnesCount64: function 268 -/
def bits_OnesCount64.f (a0 : Int) : Option (Int) := some (Go.bits .and .i64 (wrap64 (IntKind.u64.wrap ((IntKind.u64.wrap ((IntKind.u64.wrap ((Go.bits .and .u64 (IntKind.u64.wrap (((IntKind.u64.wrap ((Go.bits .and .u64 ((IntKind.u64.wrap ((Go.bits .and .u64 (a0 / 2) 6148914691236517205) + (Go.bits .and .u64 a0 6148914691236517205))) / 4) 3689348814741910323) + (Go.bits .and .u64 (IntKind.u64.wrap ((Go.bits .and .u64 (a0 / 2) 6148914691236517205) + (Go.bits .and .u64 a0 6148914691236517205))) 3689348814741910323))) / 16) + (IntKind.u64.wrap ((Go.bits .and .u64 ((IntKind.u64.wrap ((Go.bits .and .u64 (a0 / 2) 6148914691236517205) + (Go.bits .and .u64 a0 6148914691236517205))) / 4) 3689348814741910323) + (Go.bits .and .u64 (IntKind.u64.wrap ((Go.bits .and .u64 (a0 / 2) 6148914691236517205) + (Go.bits .and .u64 a0 6148914691236517205))) 3689348814741910323))))) 1085102592571150095) + ((Go.bits .and .u64 (IntKind.u64.wrap (((IntKind.u64.wrap ((Go.bits .and .u64 ((IntKind.u64.wrap ((Go.bits .and .u64 (a0 / 2) 6148914691236517205) + (Go.bits .and .u64 a0 6148914691236517205))) / 4) 3689348814741910323) + (Go.bits .and .u64 (IntKind.u64.wrap ((Go.bits .and .u64 (a0 / 2) 6148914691236517205) + (Go.bits .and .u64 a0 6148914691236517205))) 3689348814741910323))) / 16) + (IntKind.u64.wrap ((Go.bits .and .u64 ((IntKind.u64.wrap ((Go.bits .and .u64 (a0 / 2) 6148914691236517205) + (Go.bits .and .u64 a0 6148914691236517205))) / 4) 3689348814741910323) + (Go.bits .and .u64 (IntKind.u64.wrap ((Go.bits .and .u64 (a0 / 2) 6148914691236517205) + (Go.bits .and .u64 a0 6148914691236517205))) 3689348814741910323))))) 1085102592571150095) / 256))) + ((IntKind.u64.wrap ((Go.bits .and .u64 (IntKind.u64.wrap (((IntKind.u64.wrap ((Go.bits .and .u64 ((IntKind.u64.wrap ((Go.bits .and .u64 (a0 / 2) 6148914691236517205) + (Go.bits .and .u64 a0 6148914691236517205))) / 4) 3689348814741910323) + (Go.bits .and .u64 (IntKind.u64.wrap ((Go.bits .and .u64 (a0 / 2) 6148914691236517205) + (Go.bits .and .u64 a0 6148914691236517205))) 3689348814741910323))) / 16) + (IntKind.u64.wrap ((Go.bits .and .u64 ((IntKind.u64.wrap ((Go.bits .and .u64 (a0 / 2) 6148914691236517205) + (Go.bits .and .u64 a0 6148914691236517205))) / 4) 3689348814741910323) + (Go.bits .and .u64 (IntKind.u64.wrap ((Go.bits .and .u64 (a0 / 2) 6148914691236517205) + (Go.bits .and .u64 a0 6148914691236517205))) 3689348814741910323))))) 1085102592571150095) + ((Go.bits .and .u64 (IntKind.u64.wrap (((IntKind.u64.wrap ((Go.bits .and .u64 ((IntKind.u64.wrap ((Go.bits .and .u64 (a0 / 2) 6148914691236517205) + (Go.bits .and .u64 a0 6148914691236517205))) / 4) 3689348814741910323) + (Go.bits .and .u64 (IntKind.u64.wrap ((Go.bits .and .u64 (a0 / 2) 6148914691236517205) + (Go.bits .and .u64 a0 6148914691236517205))) 3689348814741910323))) / 16) + (IntKind.u64.wrap ((Go.bits .and .u64 ((IntKind.u64.wrap ((Go.bits .and .u64 (a0 / 2) 6148914691236517205) + (Go.bits .and .u64 a0 6148914691236517205))) / 4) 3689348814741910323) + (Go.bits .and .u64 (IntKind.u64.wrap ((Go.bits .and .u64 (a0 / 2) 6148914691236517205) + (Go.bits .and .u64 a0 6148914691236517205))) 3689348814741910323))))) 1085102592571150095) / 256))) / 65536))) + ((IntKind.u64.wrap ((IntKind.u64.wrap ((Go.bits .and .u64 (IntKind.u64.wrap (((IntKind.u64.wrap ((Go.bits .and .u64 ((IntKind.u64.wrap ((Go.bits .and .u64 (a0 / 2) 6148914691236517205) + (Go.bits .and .u64 a0 6148914691236517205))) / 4) 3689348814741910323) + (Go.bits .and .u64 (IntKind.u64.wrap ((Go.bits .and .u64 (a0 / 2) 6148914691236517205) + (Go.bits .and .u64 a0 6148914691236517205))) 3689348814741910323))) / 16) + (IntKind.u64.wrap ((Go.bits .and .u64 ((IntKind.u64.wrap ((Go.bits .and .u64 (a0 / 2) 6148914691236517205) + (Go.bits .and .u64 a0 6148914691236517205))) / 4) 3689348814741910323) + (Go.bits .and .u64 (IntKind.u64.wrap ((Go.bits .and .u64 (a0 / 2) 6148914691236517205) + (Go.bits .and .u64 a0 6148914691236517205))) 3689348814741910323))))) 1085102592571150095) + ((Go.bits .and .u64 (IntKind.u64.wrap (((IntKind.u64.wrap ((Go.bits .and .u64 ((IntKind.u64.wrap ((Go.bits .and .u64 (a0 / 2) 6148914691236517205) + (Go.bits .and .u64 a0 6148914691236517205))) / 4) 3689348814741910323) + (Go.bits .and .u64 (IntKind.u64.wrap ((Go.bits .and .u64 (a0 / 2) 6148914691236517205) + (Go.bits .and .u64 a0 6148914691236517205))) 3689348814741910323))) / 16) + (IntKind.u64.wrap ((Go.bits .and .u64 ((IntKind.u64.wrap ((Go.bits .and .u64 (a0 / 2) 6148914691236517205) + (Go.bits .and .u64 a0 6148914691236517205))) / 4) 3689348814741910323) + (Go.bits .and .u64 (IntKind.u64.wrap ((Go.bits .and .u64 (a0 / 2) 6148914691236517205) + (Go.bits .and .u64 a0 6148914691236517205))) 3689348814741910323))))) 1085102592571150095) / 256))) + ((IntKind.u64.wrap ((Go.bits .and .u64 (IntKind.u64.wrap (((IntKind.u64.wrap ((Go.bits .and .u64 ((IntKind.u64.wrap ((Go.bits .and .u64 (a0 / 2) 6148914691236517205) + (Go.bits .and .u64 a0 6148914691236517205))) / 4) 3689348814741910323) + (Go.bits .and .u64 (IntKind.u64.wrap ((Go.bits .and .u64 (a0 / 2) 6148914691236517205) + (Go.bits .and .u64 a0 6148914691236517205))) 3689348814741910323))) / 16) + (IntKind.u64.wrap ((Go.bits .and .u64 ((IntKind.u64.wrap ((Go.bits .and .u64 (a0 / 2) 6148914691236517205) + (Go.bits .and .u64 a0 6148914691236517205))) / 4) 3689348814741910323) + (Go.bits .and .u64 (IntKind.u64.wrap ((Go.bits .and .u64 (a0 / 2) 6148914691236517205) + (Go.bits .and .u64 a0 6148914691236517205))) 3689348814741910323))))) 1085102592571150095) + ((Go.bits .and .u64 (IntKind.u64.wrap (((IntKind.u64.wrap ((Go.bits .and .u64 ((IntKind.u64.wrap ((Go.bits .and .u64 (a0 / 2) 6148914691236517205) + (Go.bits .and .u64 a0 6148914691236517205))) / 4) 3689348814741910323) + (Go.bits .and .u64 (IntKind.u64.wrap ((Go.bits .and .u64 (a0 / 2) 6148914691236517205) + (Go.bits .and .u64 a0 6148914691236517205))) 3689348814741910323))) / 16) + (IntKind.u64.wrap ((Go.bits .and .u64 ((IntKind.u64.wrap ((Go.bits .and .u64 (a0 / 2) 6148914691236517205) + (Go.bits .and .u64 a0 6148914691236517205))) / 4) 3689348814741910323) + (Go.bits .and .u64 (IntKind.u64.wrap ((Go.bits .and .u64 (a0 / 2) 6148914691236517205) + (Go.bits .and .u64 a0 6148914691236517205))) 3689348814741910323))))) 1085102592571150095) / 256))) / 65536))) / 4294967296)))) 127)
theorem bits_OnesCount64.calls (a0 : Int) (r : Int) (w : World) (h : bits_OnesCount64.f a0 = some r) :
  Calls Try.prog 268 #[.int .u64 a0] w fun e w' => e = .returned (.int .i64 r) ∧ Drawn0 w w' := by
 have H : (some (Go.bits .and .i64 (wrap64 (IntKind.u64.wrap ((IntKind.u64.wrap ((IntKind.u64.wrap ((Go.bits .and .u64 (IntKind.u64.wrap (((IntKind.u64.wrap ((Go.bits .and .u64 ((IntKind.u64.wrap ((Go.bits .and .u64 (a0 / 2) 6148914691236517205) + (Go.bits .and .u64 a0 6148914691236517205))) / 4) 3689348814741910323) + (Go.bits .and .u64 (IntKind.u64.wrap ((Go.bits .and .u64 (a0 / 2) 6148914691236517205) + (Go.bits .and .u64 a0 6148914691236517205))) 3689348814741910323))) / 16) + (IntKind.u64.wrap ((Go.bits .and .u64 ((IntKind.u64.wrap ((Go.bits .and .u64 (a0 / 2) 6148914691236517205) + (Go.bits .and .u64 a0 6148914691236517205))) / 4) 3689348814741910323) + (Go.bits .and .u64 (IntKind.u64.wrap ((Go.bits .and .u64 (a0 / 2) 6148914691236517205) + (Go.bits .and .u64 a0 6148914691236517205))) 3689348814741910323))))) 1085102592571150095) + ((Go.bits .and .u64 (IntKind.u64.wrap (((IntKind.u64.wrap ((Go.bits .and .u64 ((IntKind.u64.wrap ((Go.bits .and .u64 (a0 / 2) 6148914691236517205) + (Go.bits .and .u64 a0 6148914691236517205))) / 4) 3689348814741910323) + (Go.bits .and .u64 (IntKind.u64.wrap ((Go.bits .and .u64 (a0 / 2) 6148914691236517205) + (Go.bits .and .u64 a0 6148914691236517205))) 3689348814741910323))) / 16) + (IntKind.u64.wrap ((Go.bits .and .u64 ((IntKind.u64.wrap ((Go.bits .and .u64 (a0 / 2) 6148914691236517205) + (Go.bits .and .u64 a0 6148914691236517205))) / 4) 3689348814741910323) + (Go.bits .and .u64 (IntKind.u64.wrap ((Go.bits .and .u64 (a0 / 2) 6148914691236517205) + (Go.bits .and .u64 a0 6148914691236517205))) 3689348814741910323))))) 1085102592571150095) / 256))) + ((IntKind.u64.wrap ((Go.bits .and .u64 (IntKind.u64.wrap (((IntKind.u64.wrap ((Go.bits .and .u64 ((IntKind.u64.wrap ((Go.bits .and .u64 (a0 / 2) 6148914691236517205) + (Go.bits .and .u64 a0 6148914691236517205))) / 4) 3689348814741910323) + (Go.bits .and .u64 (IntKind.u64.wrap ((Go.bits .and .u64 (a0 / 2) 6148914691236517205) + (Go.bits .and .u64 a0 6148914691236517205))) 3689348814741910323))) / 16) + (IntKind.u64.wrap ((Go.bits .and .u64 ((IntKind.u64.wrap ((Go.bits .and .u64 (a0 / 2) 6148914691236517205) + (Go.bits .and .u64 a0 6148914691236517205))) / 4) 3689348814741910323) + (Go.bits .and .u64 (IntKind.u64.wrap ((Go.bits .and .u64 (a0 / 2) 6148914691236517205) + (Go.bits .and .u64 a0 6148914691236517205))) 3689348814741910323))))) 1085102592571150095) + ((Go.bits .and .u64 (IntKind.u64.wrap (((IntKind.u64.wrap ((Go.bits .and .u64 ((IntKind.u64.wrap ((Go.bits .and .u64 (a0 / 2) 6148914691236517205) + (Go.bits .and .u64 a0 6148914691236517205))) / 4) 3689348814741910323) + (Go.bits .and .u64 (IntKind.u64.wrap ((Go.bits .and .u64 (a0 / 2) 6148914691236517205) + (Go.bits .and .u64 a0 6148914691236517205))) 3689348814741910323))) / 16) + (IntKind.u64.wrap ((Go.bits .and .u64 ((IntKind.u64.wrap ((Go.bits .and .u64 (a0 / 2) 6148914691236517205) + (Go.bits .and .u64 a0 6148914691236517205))) / 4) 3689348814741910323) + (Go.bits .and .u64 (IntKind.u64.wrap ((Go.bits .and .u64 (a0 / 2) 6148914691236517205) + (Go.bits .and .u64 a0 6148914691236517205))) 3689348814741910323))))) 1085102592571150095) / 256))) / 65536))) + ((IntKind.u64.wrap ((IntKind.u64.wrap ((Go.bits .and .u64 (IntKind.u64.wrap (((IntKind.u64.wrap ((Go.bits .and .u64 ((IntKind.u64.wrap ((Go.bits .and .u64 (a0 / 2) 6148914691236517205) + (Go.bits .and .u64 a0 6148914691236517205))) / 4) 3689348814741910323) + (Go.bits .and .u64 (IntKind.u64.wrap ((Go.bits .and .u64 (a0 / 2) 6148914691236517205) + (Go.bits .and .u64 a0 6148914691236517205))) 3689348814741910323))) / 16) + (IntKind.u64.wrap ((Go.bits .and .u64 ((IntKind.u64.wrap ((Go.bits .and .u64 (a0 / 2) 6148914691236517205) + (Go.bits .and .u64 a0 6148914691236517205))) / 4) 3689348814741910323) + (Go.bits .and .u64 (IntKind.u64.wrap ((Go.bits .and .u64 (a0 / 2) 6148914691236517205) + (Go.bits .and .u64 a0 6148914691236517205))) 3689348814741910323))))) 1085102592571150095) + ((Go.bits .and .u64 (IntKind.u64.wrap (((IntKind.u64.wrap ((Go.bits .and .u64 ((IntKind.u64.wrap ((Go.bits .and .u64 (a0 / 2) 6148914691236517205) + (Go.bits .and .u64 a0 6148914691236517205))) / 4) 3689348814741910323) + (Go.bits .and .u64 (IntKind.u64.wrap ((Go.bits .and .u64 (a0 / 2) 6148914691236517205) + (Go.bits .and .u64 a0 6148914691236517205))) 3689348814741910323))) / 16) + (IntKind.u64.wrap ((Go.bits .and .u64 ((IntKind.u64.wrap ((Go.bits .and .u64 (a0 / 2) 6148914691236517205) + (Go.bits .and .u64 a0 6148914691236517205))) / 4) 3689348814741910323) + (Go.bits .and .u64 (IntKind.u64.wrap ((Go.bits .and .u64 (a0 / 2) 6148914691236517205) + (Go.bits .and .u64 a0 6148914691236517205))) 3689348814741910323))))) 1085102592571150095) / 256))) + ((IntKind.u64.wrap ((Go.bits .and .u64 (IntKind.u64.wrap (((IntKind.u64.wrap ((Go.bits .and .u64 ((IntKind.u64.wrap ((Go.bits .and .u64 (a0 / 2) 6148914691236517205) + (Go.bits .and .u64 a0 6148914691236517205))) / 4) 3689348814741910323) + (Go.bits .and .u64 (IntKind.u64.wrap ((Go.bits .and .u64 (a0 / 2) 6148914691236517205) + (Go.bits .and .u64 a0 6148914691236517205))) 3689348814741910323))) / 16) + (IntKind.u64.wrap ((Go.bits .and .u64 ((IntKind.u64.wrap ((Go.bits .and .u64 (a0 / 2) 6148914691236517205) + (Go.bits .and .u64 a0 6148914691236517205))) / 4) 3689348814741910323) + (Go.bits .and .u64 (IntKind.u64.wrap ((Go.bits .and .u64 (a0 / 2) 6148914691236517205) + (Go.bits .and .u64 a0 6148914691236517205))) 3689348814741910323))))) 1085102592571150095) + ((Go.bits .and .u64 (IntKind.u64.wrap (((IntKind.u64.wrap ((Go.bits .and .u64 ((IntKind.u64.wrap ((Go.bits .and .u64 (a0 / 2) 6148914691236517205) + (Go.bits .and .u64 a0 6148914691236517205))) / 4) 3689348814741910323) + (Go.bits .and .u64 (IntKind.u64.wrap ((Go.bits .and .u64 (a0 / 2) 6148914691236517205) + (Go.bits .and .u64 a0 6148914691236517205))) 3689348814741910323))) / 16) + (IntKind.u64.wrap ((Go.bits .and .u64 ((IntKind.u64.wrap ((Go.bits .and .u64 (a0 / 2) 6148914691236517205) + (Go.bits .and .u64 a0 6148914691236517205))) / 4) 3689348814741910323) + (Go.bits .and .u64 (IntKind.u64.wrap ((Go.bits .and .u64 (a0 / 2) 6148914691236517205) + (Go.bits .and .u64 a0 6148914691236517205))) 3689348814741910323))))) 1085102592571150095) / 256))) / 65536))) / 4294967296)))) 127)) = some r := h
 clear h
 obtain rfl := Option.some.inj H
 go_enter Try.func268, Try.ntmps268
 go_wp2
 go_ret
 exact ⟨tf_, dr_⟩

/-! ### bits_OnesCount: function 259 -/
def bits_OnesCount.f (a0 : Int) : Option (Int) := (bits_OnesCount64.f a0).bind fun t495 => (some t495)
theorem bits_OnesCount.calls (a0 : Int) (r : Int) (w : World) (h : bits_OnesCount.f a0 = some r) :
  Calls Try.prog 259 #[.int .u64 a0] w fun e w' => e = .returned (.int .i64 r) ∧ Drawn0 w w' := by
 have H : ((bits_OnesCount64.f a0).bind fun t495 => (some t495)) = some r := h
 clear h
 replace H := Option.bind_eq_some_iff.mp H
 obtain ⟨t495, A20, H⟩ := H
 replace H : (some t495) = some r := H
 have A2 := A_ A20
 clear A20
 obtain rfl := Option.some.inj H
 go_enter Try.func259, Try.ntmps259
 go_wp2_with (first | (refine gc_ 268 ?_; refine goesT_ (some 7) Try.func268 #[.int .u64 a0] ?_; (with_reducible refine (bits_OnesCount64.calls a0 t495 _ A2.out).mono ?_); rintro e w' ⟨rfl, ⟨nd, rfl⟩⟩; refine ⟨_, rfl, ?_⟩))
 go_ret
 exact ⟨tf_, dr_⟩

/-! ### spec_fiThings: function 147 -/
def spec_fiThings.f (a0 : Int) : Option (Bool) := (spec_l1In.f a0 1 6).bind fun t524 => (some t524)
theorem spec_fiThings.calls (a0 : Int) (r : Bool) (w : World) (h : spec_fiThings.f a0 = some r) :
  Calls Try.prog 147 #[.int .i64 a0] w fun e w' => e = .returned (.bool r) ∧ Drawn0 w w' := by
 have H : ((spec_l1In.f a0 1 6).bind fun t524 => (some t524)) = some r := h
 clear h
 replace H := Option.bind_eq_some_iff.mp H
 obtain ⟨t524, A20, H⟩ := H
 replace H : (some t524) = some r := H
 have A2 := A_ A20
 clear A20
 obtain rfl := Option.some.inj H
 go_enter Try.func147, Try.ntmps147
 go_wp2_with (first | (refine gc_ 137 ?_; refine goesT_ (some 4) Try.func137 #[.int .i64 a0, .int .i64 1, .int .i64 6] ?_; (with_reducible refine (spec_l1In.calls a0 1 6 t524 _ A2.out).mono ?_); rintro e w' ⟨rfl, ⟨nd, rfl⟩⟩; refine ⟨_, rfl, ?_⟩))
 go_ret
 exact ⟨tf_, dr_⟩

/-! ### spec_fiGood: function 148 -/
mutual
def spec_fiGood.j0 : Nat → List Int → Bool → Int → Int → List Int → Option (Bool)
 | 0, _, _, _, _, _ => none
 | k + 1, x1, x19, x526000, x526001, x526002 => if x19 = true then (some false) else (spec_fiGood.l0 k x1 (x1.length : Int) 0 x526000 x526001 x526002)
def spec_fiGood.l0 : Nat → List Int → Int → Int → Int → Int → List Int → Option (Bool)
 | 0, _, _, _, _, _, _ => none
 | k + 1, x20, x21, x22, x526000, x526001, x526002 => if x22 < x21 then (if 0 ≤ x22 then (if x22 < (x20.length : Int) then (if (rd x20 x22) ≥ 0 then ((spec_boHas.f x526000 x526001 x526002 (rd x20 x22) x22).bind fun t528 => (if t528 = true then (spec_fiGood.l0 k x20 x21 (wrap64 (x22 + 1)) x526000 x526001 x526002) else (some false))) else (spec_fiGood.l0 k x20 x21 (wrap64 (x22 + 1)) x526000 x526001 x526002)) else (none)) else (none)) else (some true)
end
def spec_fiGood.f (k : Nat) (a0_0 : Int) (a0_1 : Int) (l0_2 : List Int) (l1 : List Int) : Option (Bool) := if (l1.length : Int) = a0_1 then ((spec_l1All.f k l1 (-1) (wrap64 (a0_0 - 1))).bind fun t526 => (spec_fiGood.j0 k l1 (!t526) a0_0 a0_1 l0_2)) else (spec_fiGood.j0 k l1 true a0_0 a0_1 l0_2)
theorem spec_fiGood.mono_l : ∀ k, (∀ y0 y1 y2 y3 y4, LeO (spec_fiGood.j0 k y0 y1 y2 y3 y4) (spec_fiGood.j0 (k + 1) y0 y1 y2 y3 y4)) ∧ (∀ y0 y1 y2 y3 y4 y5, LeO (spec_fiGood.l0 k y0 y1 y2 y3 y4 y5) (spec_fiGood.l0 (k + 1) y0 y1 y2 y3 y4 y5))
 | 0 => ⟨fun _ _ _ _ _ r h => by simp [spec_fiGood.j0] at h, fun _ _ _ _ _ _ r h => by simp [spec_fiGood.l0] at h⟩
 | k + 1 => by
  obtain ⟨ih0, ih1⟩ := spec_fiGood.mono_l k
  refine ⟨?_, ?_⟩
  ·
   intro y0 y1 y2 y3 y4
   unfold spec_fiGood.j0
   repeat' first | (with_reducible first | exact ih0 _ _ _ _ _ | exact ih1 _ _ _ _ _ _ | exact spec_l1All.mono _ _ _ _ | exact LeO.refl _ | exact LeO.none _ | refine LeO.ite ?_ ?_ | refine LeO.bind ?_ (fun _ => ?_)) | exact ih0 _ _ _ _ _ | exact ih1 _ _ _ _ _ _ | exact spec_l1All.mono _ _ _ _ | exact LeO.none _ | refine LeO.ite ?_ ?_ | refine LeO.bind ?_ (fun _ => ?_)
  ·
   intro y0 y1 y2 y3 y4 y5
   unfold spec_fiGood.l0
   repeat' first | (with_reducible first | exact ih0 _ _ _ _ _ | exact ih1 _ _ _ _ _ _ | exact spec_l1All.mono _ _ _ _ | exact LeO.refl _ | exact LeO.none _ | refine LeO.ite ?_ ?_ | refine LeO.bind ?_ (fun _ => ?_)) | exact ih0 _ _ _ _ _ | exact ih1 _ _ _ _ _ _ | exact spec_l1All.mono _ _ _ _ | exact LeO.none _ | refine LeO.ite ?_ ?_ | refine LeO.bind ?_ (fun _ => ?_)
theorem spec_fiGood.mono : ∀ a0 a1 a2 a3 k, LeO (spec_fiGood.f k a0 a1 a2 a3) (spec_fiGood.f (k + 1) a0 a1 a2 a3) := by
 intro a0 a1 a2 a3 k
 obtain ⟨ih0, ih1⟩ := spec_fiGood.mono_l k
 unfold spec_fiGood.f
 repeat' first | (with_reducible first | exact ih0 _ _ _ _ _ | exact ih1 _ _ _ _ _ _ | exact spec_l1All.mono _ _ _ _ | exact LeO.refl _ | exact LeO.none _ | refine LeO.ite ?_ ?_ | refine LeO.bind ?_ (fun _ => ?_)) | exact ih0 _ _ _ _ _ | exact ih1 _ _ _ _ _ _ | exact spec_l1All.mono _ _ _ _ | exact LeO.none _ | refine LeO.ite ?_ ?_ | refine LeO.bind ?_ (fun _ => ?_)
theorem spec_fiGood.calls (k : Nat) (a0_0 : Int) (a0_1 : Int) (A0_2 : Option Addr) (c0_2 : Nat) (l0_2 : List Int) (A1 : Option Addr) (c1 : Nat) (l1 : List Int) (r : Bool) (w : World) (hr0_2 : Kd.C (Kd.int .i64) w A0_2 l0_2.length l0_2) (hc0_2 : l0_2.length ≤ c0_2) (hr1 : Kd.C (Kd.int .i64) w A1 l1.length l1) (hc1 : l1.length ≤ c1) (h : spec_fiGood.f k a0_0 a0_1 l0_2 l1 = some r) :
  Calls Try.prog 148 #[.agg #[.int .i64 a0_0, .int .i64 a0_1, .slice A0_2 l0_2.length c0_2], .slice A1 l1.length c1] w fun e w' => e = .returned (.bool r) ∧ Below w.heap.size w w' := by
 have hu28 := Try.underlying28
 have HR0_2 := A_ hr0_2
 have HC0_2 := A_ hc0_2
 clear hr0_2 hc0_2
 have HR1 := A_ hr1
 have HC1 := A_ hc1
 clear hr1 hc1
 have HB := A_ (Below.refl w.heap.size w)
 have H : (if (l1.length : Int) = a0_1 then ((spec_l1All.f k l1 (-1) (wrap64 (a0_0 - 1))).bind fun t526 => (spec_fiGood.j0 k l1 (!t526) a0_0 a0_1 l0_2)) else (spec_fiGood.j0 k l1 true a0_0 a0_1 l0_2)) = some r := h
 clear h
 have HC3 := A_ H
 clear H
 go_enter Try.func148, Try.ntmps148
 go_upto_region 1 with (first | (refine gd_ 2 ?_; refine bx_ 2 #[.int .i64 a0_0, .int .i64 a0_1, .slice A0_2 l0_2.length c0_2] 28 ?_; intro gb525 hg w4 hbox hb; have BK525 := A_ (hbox); have GW525 := A_ ((ts_ hg : w.heap.size ≤ gb525)); have GE525 := A_ ((ts_ hg : w.heap.size ≤ gb525)); replace HB := A_ (below_step tb_ hb); clear hb hbox hg))
 (try simp only [Act.put, List.setIfInBounds_toArray, List.set_cons_zero, List.set_cons_succ])
 go_cut [19] (fun v19 wc => ∃ (kq : Nat) (x19_2 : Bool), v19 = .bool x19_2 ∧ Aside0 (spec_fiGood.j0 kq l1 x19_2 a0_0 a0_1 l0_2 = some r) ∧ Aside0 (kq ≤ k) ∧ Aside0 (wc.heap[gb525]? = some (.cells #[.int .i64 a0_0, .int .i64 a0_1, (.slice A0_2 l0_2.length c0_2)] 28 (0, 0))) ∧ Aside0 (Below w.heap.size w wc))
 case first =>
  have H := HC3.out
  clear HC3
  by_cases c5 : (l1.length : Int) = a0_1
  ·
   rw [if_pos c5] at H
   have c5b0 : ((l1.length : Int) == a0_1) = true := beq_iff_eq.mpr c5
   have c5b1 : ((l1.length : Int) != a0_1) = false := bne_eq_false_iff_eq.mpr c5
   clear c5
   (first | rw [c5b0] | (simp only [i64_w, i32_w]; rw [c5b0]) | skip)
   replace H := Option.bind_eq_some_iff.mp H
   obtain ⟨t526, A60, H⟩ := H
   replace H : (spec_fiGood.j0 k l1 (!t526) a0_0 a0_1 l0_2) = some r := H
   have A6 := A_ A60
   clear A60
   have H' := A_ H
   clear H
   obtain ⟨hcz7_0, hcz7_1, hcz7_2, hfz7_0, hfz7_1, hfz7_2⟩ := cf3_ BK525.out
   go_wp2_with (first | (go_at_call 168; (with_reducible refine (spec_l1All.calls k _ _ l1 (-1) (wrap64 (a0_0 - 1)) t526 _ ?side1 ?side2 A6.out).mono ?_); (case side1 => exact tc_ HR1.out); (case side2 => exact HC1.out); rintro e w' ⟨rfl, ⟨nd, rfl⟩⟩))
   go_meet
   case rel => exact ⟨_, (!t526), tf_, H', ⟨by first | omega | exact Nat.le_refl _⟩, ⟨tk_ BK525⟩, ⟨tb_⟩⟩
  ·
   rw [if_neg c5] at H
   have c5b0 : ((l1.length : Int) == a0_1) = false := beq_eq_false_iff_ne.mpr c5
   have c5b1 : ((l1.length : Int) != a0_1) = true := bne_iff_ne.mpr c5
   (first | rw [c5b0] | (simp only [i64_w, i32_w]; rw [c5b0]) | skip)
   have H' := A_ H
   clear H
   obtain ⟨hcz8_0, hcz8_1, hcz8_2, hfz8_0, hfz8_1, hfz8_2⟩ := cf3_ BK525.out
   go_wp2
   go_meet
   case rel => exact ⟨_, (true), tf_, H', ⟨by first | omega | exact Nat.le_refl _⟩, ⟨tk_ BK525⟩, ⟨tb_⟩⟩
 case rest =>
  clear HC3
  try clear c1
  try clear p2
  try clear c5
  try clear c5b0
  try clear c5b1
  try clear p6
  try clear hcz7_0
  try clear hcz7_1
  try clear hcz7_2
  try clear hcz8_0
  try clear hcz8_1
  try clear hcz8_2
  try clear hfz7_0
  try clear hfz7_1
  try clear hfz7_2
  try clear hfz8_0
  try clear hfz8_1
  try clear hfz8_2
  obtain ⟨kq, x19_2, rfl, HA, HJ2, BK525, HB⟩ := hcut
  cases kq with
  | zero => exact absurd HA.out (by simp [spec_fiGood.j0])
  | succ kj2 =>
   have H := HA.out
   clear HA
   simp only [spec_fiGood.j0] at H
   by_cases c9 : x19_2 = true
   ·
    subst c9
    have H1 : (some false) = some r := by rw [if_pos rfl] at H; exact H
    clear H
    have H := H1
    clear H1
    obtain rfl := Option.some.inj H
    go_wp2
    go_ret
    exact ⟨te_, tb_⟩
   ·
    replace c9 := Bool.eq_false_iff.mpr c9
    subst c9
    have H1 : (spec_fiGood.l0 kj2 l1 (l1.length : Int) 0 a0_0 a0_1 l0_2) = some r := by rw [if_neg (show ¬ (false = true) by decide)] at H; exact H
    clear H
    have H := H1
    clear H1
    have H' := A_ H
    clear H
    go_wp2
    go_loopg [22] kj2 (fun kq v22 w' => ∃ (x22_2 : Int), v22 = .int .i64 x22_2 ∧ Aside0 (spec_fiGood.l0 kq l1 (l1.length : Int) x22_2 a0_0 a0_1 l0_2 = some r) ∧ Aside0 (kq ≤ kj2) ∧ Aside0 (w'.heap[gb525]? = some (.cells #[.int .i64 a0_0, .int .i64 a0_1, (.slice A0_2 l0_2.length c0_2)] 28 (0, 0))) ∧ Aside0 (Below w.heap.size w w'))
    case atStart => exact ⟨(0), tf_, H', ⟨Nat.le_refl _⟩, ⟨tk_ BK525⟩, ⟨tb_⟩⟩
    case round =>
     clear H'
     try clear c1
     try clear p2
     try clear c5
     try clear c5b0
     try clear c5b1
     try clear p6
     try clear c9
     try clear hcz7_0
     try clear hcz7_1
     try clear hcz7_2
     try clear hcz8_0
     try clear hcz8_1
     try clear hcz8_2
     try clear hfz7_0
     try clear hfz7_1
     try clear hfz7_2
     try clear hfz8_0
     try clear hfz8_1
     try clear hfz8_2
     try clear p2
     try clear p6
     obtain ⟨x22_2, rfl, HA, HK2, BK525, HB⟩ := hrel
     cases gk with
     | zero => exact absurd HA.out (by simp [spec_fiGood.l0])
     | succ k2 =>
      have H := HA.out
      clear HA
      simp only [spec_fiGood.l0] at H
      by_cases c10 : x22_2 < (l1.length : Int)
      ·
       rw [if_pos c10] at H
       have c10b0 := decide_eq_true c10
       clear c10
       by_cases c11 : 0 ≤ x22_2
       ·
        rw [if_pos c11] at H
        have c11b0 := decide_eq_true c11
        clear c11
        by_cases c12 : x22_2 < (l1.length : Int)
        ·
         rw [if_pos c12] at H
         have c12b0 := decide_eq_true c12
         clear c12
         by_cases c13 : (rd l1 x22_2) ≥ 0
         ·
          rw [if_pos c13] at H
          have c13b0 := decide_eq_true c13
          clear c13
          replace H := Option.bind_eq_some_iff.mp H
          obtain ⟨t528, A140, H⟩ := H
          replace H : (if t528 = true then (spec_fiGood.l0 k2 l1 (l1.length : Int) (wrap64 (x22_2 + 1)) a0_0 a0_1 l0_2) else (some false)) = some r := H
          have A14 := A_ A140
          clear A140
          by_cases c15 : t528 = true
          ·
           subst c15
           have H1 : (spec_fiGood.l0 k2 l1 (l1.length : Int) (wrap64 (x22_2 + 1)) a0_0 a0_1 l0_2) = some r := by rw [if_pos rfl] at H; exact H
           clear H
           have H := H1
           clear H1
           have H' := A_ H
           clear H
           have p527 : 0 ≤ (x22_2 : Int) := od_
           have q527 : x22_2 < (l1.length : Int) := od_
           obtain ⟨ad527, e527, hx527_0⟩ := Kd.at_int HR1.out x22_2 p527 q527
           cases e527
           (try replace hx527_0 := (HB.out.cell (World.block_lt_of_cell? w _ hx527_0)).trans hx527_0)
           replace p527 := eq_true p527
           replace q527 := eq_true q527
           obtain ⟨hcz16_0, hcz16_1, hcz16_2, hfz16_0, hfz16_1, hfz16_2⟩ := cf3_ BK525.out
           go_wp2_with (first | (go_at_call 121; (with_reducible refine (spec_boHas.calls a0_0 a0_1 _ _ l0_2 (rd l1 x22_2) x22_2 true _ ?side1 ?side2 A14.out).mono ?_); (case side1 => exact tc_ HR0_2.out); (case side2 => exact HC0_2.out); rintro e w17 ⟨rfl, hb⟩; replace BK525 := A_ (blk_below (g := gb525) (o := .cells #[.int .i64 a0_0, .int .i64 a0_1, .slice A0_2 l0_2.length c0_2] 28 (0, 0)) (tk_ BK525) hb); replace HB := A_ (below_step tb_ hb); (try clear hb)))
           go_roundg k2
           case measure => have := HJ2.out; have := HK2.out; omega
           case rel => exact ⟨(wrap64 (x22_2 + 1)), tf_, H', ⟨by have := HJ2.out; have := HK2.out; omega⟩, ⟨tk_ BK525⟩, ⟨tb_⟩⟩
          ·
           replace c15 := Bool.eq_false_iff.mpr c15
           subst c15
           have H1 : (some false) = some r := by rw [if_neg (show ¬ (false = true) by decide)] at H; exact H
           clear H
           have H := H1
           clear H1
           obtain rfl := Option.some.inj H
           have p527 : 0 ≤ (x22_2 : Int) := od_
           have q527 : x22_2 < (l1.length : Int) := od_
           obtain ⟨ad527, e527, hx527_0⟩ := Kd.at_int HR1.out x22_2 p527 q527
           cases e527
           (try replace hx527_0 := (HB.out.cell (World.block_lt_of_cell? w _ hx527_0)).trans hx527_0)
           replace p527 := eq_true p527
           replace q527 := eq_true q527
           obtain ⟨hcz18_0, hcz18_1, hcz18_2, hfz18_0, hfz18_1, hfz18_2⟩ := cf3_ BK525.out
           go_wp2_with (first | (go_at_call 121; (with_reducible refine (spec_boHas.calls a0_0 a0_1 _ _ l0_2 (rd l1 x22_2) x22_2 false _ ?side1 ?side2 A14.out).mono ?_); (case side1 => exact tc_ HR0_2.out); (case side2 => exact HC0_2.out); rintro e w19 ⟨rfl, hb⟩; replace BK525 := A_ (blk_below (g := gb525) (o := .cells #[.int .i64 a0_0, .int .i64 a0_1, .slice A0_2 l0_2.length c0_2] 28 (0, 0)) (tk_ BK525) hb); replace HB := A_ (below_step tb_ hb); (try clear hb)))
           go_ret
           exact ⟨te_, tb_⟩
         ·
          rw [if_neg c13] at H
          have c13b0 := decide_eq_false c13
          clear c13
          have H' := A_ H
          clear H
          have p527 : 0 ≤ (x22_2 : Int) := od_
          have q527 : x22_2 < (l1.length : Int) := od_
          obtain ⟨ad527, e527, hx527_0⟩ := Kd.at_int HR1.out x22_2 p527 q527
          cases e527
          (try replace hx527_0 := (HB.out.cell (World.block_lt_of_cell? w _ hx527_0)).trans hx527_0)
          replace p527 := eq_true p527
          replace q527 := eq_true q527
          go_wp2
          go_roundg k2
          case measure => have := HJ2.out; have := HK2.out; omega
          case rel => exact ⟨(wrap64 (x22_2 + 1)), tf_, H', ⟨by have := HJ2.out; have := HK2.out; omega⟩, ⟨tk_ BK525⟩, ⟨tb_⟩⟩
        ·
         rw [if_neg c12] at H
         exact absurd H (by simp)
       ·
        rw [if_neg c11] at H
        exact absurd H (by simp)
      ·
       rw [if_neg c10] at H
       have c10b0 := decide_eq_false c10
       clear c10
       obtain rfl := Option.some.inj H
       go_wp2
       go_ret
       exact ⟨te_, tb_⟩

/-! ### spec_fiArrow: function 149 -/
def spec_fiArrow.l0 : Nat → Int → Int → Int → Int → Int → List Int → Option (Int × Int × List Int)
 | 0, _, _, _, _, _, _ => none
 | k + 1, x0, x10, x11, x540000, x540001, x540002 => if x11 < x10 then (if 0 ≤ x0 then (if 0 ≤ (wrap64 (x11 + 1)) then (if 0 ≤ x11 then (if x11 < (x540002.length : Int) then (spec_fiArrow.l0 k x0 x10 (wrap64 (x11 + 1)) x540000 x540001 (x540002.set (x11 : Int).toNat (wrap64 ((shl .i64 1 x0) - (shl .i64 1 (wrap64 (x11 + 1))))))) else (none)) else (none)) else (none)) else (none)) else (some (x540000, x540001, x540002))
def spec_fiArrow.f (k : Nat) (a0 : Int) : Option (Int × Int × List Int) := (spec_boEmpty.f a0 a0).bind fun bt534 => (spec_fiArrow.l0 k a0 (bt534.2.2.length : Int) 0 bt534.1 bt534.2.1 bt534.2.2)
theorem spec_fiArrow.mono_l : ∀ k, (∀ y0 y1 y2 y3 y4 y5, LeO (spec_fiArrow.l0 k y0 y1 y2 y3 y4 y5) (spec_fiArrow.l0 (k + 1) y0 y1 y2 y3 y4 y5))
 | 0 => fun _ _ _ _ _ _ r h => by simp [spec_fiArrow.l0] at h
 | k + 1 => by
  have ih0 := spec_fiArrow.mono_l k
  ·
   intro y0 y1 y2 y3 y4 y5
   unfold spec_fiArrow.l0
   repeat' first | (with_reducible first | exact ih0 _ _ _ _ _ _ | exact LeO.refl _ | exact LeO.none _ | refine LeO.ite ?_ ?_ | refine LeO.bind ?_ (fun _ => ?_)) | exact ih0 _ _ _ _ _ _ | exact LeO.none _ | refine LeO.ite ?_ ?_ | refine LeO.bind ?_ (fun _ => ?_)
theorem spec_fiArrow.mono : ∀ a0 k, LeO (spec_fiArrow.f k a0) (spec_fiArrow.f (k + 1) a0) := by
 intro a0 k
 have ih0 := spec_fiArrow.mono_l k
 unfold spec_fiArrow.f
 repeat' first | (with_reducible first | exact ih0 _ _ _ _ _ _ | exact LeO.refl _ | exact LeO.none _ | refine LeO.ite ?_ ?_ | refine LeO.bind ?_ (fun _ => ?_)) | exact ih0 _ _ _ _ _ _ | exact LeO.none _ | refine LeO.ite ?_ ?_ | refine LeO.bind ?_ (fun _ => ?_)
def spec_fiArrow.T5 : Bool × List (List Nat × List Nat) := (true, [([], []), ([0], [0]), ([], []), ([], []), ([3], [3]), ([], []), ([5], [5]), ([6], [6]), ([4, 7], [4, 7]), ([1, 2, 0, 1, 2, 3, 4, 5, 6, 7, 8], [1, 2]), ([9, 8, 0, 1, 2, 3, 4, 5, 6, 7, 8], [8, 9])])
def spec_fiArrow.B5 : List Nat := [0, 1, 0, 0, 8, 0, 32, 96, 248, 511, 1023]
theorem spec_fiArrow.tab5 : rtab .any (opsOf Try.f149 5) = spec_fiArrow.T5 := by kernel_rfl
theorem spec_fiArrow.bits5 : waitsOk spec_fiArrow.T5.2 spec_fiArrow.B5 = true := by kernel_rfl
theorem spec_fiArrow.calls (k : Nat) (a0 : Int) (r1 : Int) (r2 : Int) (r3 : List Int) (w : World) (h : spec_fiArrow.f k a0 = some (r1, r2, r3)) :
  Calls Try.prog 149 #[.int .i64 a0] w fun e w' => ∃ v2_ : Value, e = .returned (.agg #[.int .i64 r1, .int .i64 r2, v2_]) ∧ Kd.R (Kd.int .i64) 3 w' w.heap.size (fun _ => True) v2_ r3 ∧ Below w.heap.size w w' := by
 have hu28 := Try.underlying28
 have HB := A_ (Below.refl w.heap.size w)
 have H : ((spec_boEmpty.f a0 a0).bind fun bt534 => (spec_fiArrow.l0 k a0 (bt534.2.2.length : Int) 0 bt534.1 bt534.2.1 bt534.2.2)) = some (r1, r2, r3) := h
 clear h
 replace H := Option.bind_eq_some_iff.mp H
 obtain ⟨⟨t534, t535, t536⟩, A20, H⟩ := H
 replace H : (spec_fiArrow.l0 k a0 (t536.length : Int) 0 t534 t535 t536) = some (r1, r2, r3) := H
 have A2 := A_ A20
 clear A20
 have H' := A_ H
 clear H
 go_enter Try.func149, Try.ntmps149
 go_wp2_with (first | (refine gd_ 2 ?_; refine bx_ 2 #[.int .i64 0, .int .i64 0, .slice none 0 0] 28 ?_; intro gb533 hg w3 hbox hb; have BK533 := A_ (hbox); have GW533 := A_ ((ts_ hg : w.heap.size ≤ gb533)); have GE533 := A_ ((ts_ hg : w.heap.size ≤ gb533)); replace HB := A_ (below_step tb_ hb); clear hb hbox hg) | (refine gc_ 234 ?_; refine goesT_ (some 7) Try.func234 #[.int .i64 a0, .int .i64 a0] ?_; (with_reducible refine (spec_boEmpty.calls a0 a0 t534 t535 t536 _ A2.out).mono ?_); rintro e w4 ⟨v537, rfl, ho0, hb⟩; refine ⟨_, rfl, ?_⟩; have HO538 := A_ (Kd.R_lower ho0 (below_size tb_)); replace BK533 := A_ (blk_below (g := gb533) (o := .cells #[.int .i64 0, .int .i64 0, .slice none 0 0] 28 (0, 0)) (tk_ BK533) hb); replace HB := A_ (below_step tb_ hb); (try clear hb); (try clear ho0)) | (refine gd_ 3 ?_; refine bx_ 3 #[.int .i64 0, .int .i64 0, .slice none 0 0] 28 ?_; intro gb539 hg w5 hbox hb; replace HO538 := A_ (Kd.R_below (tr_x HO538.out) hb); have BK539 := A_ (hbox); have GW539 := A_ ((ts_ hg : w.heap.size ≤ gb539)); have GE539 := A_ ((ts_ hg : w.heap.size ≤ gb539)); replace HB := A_ (below_step tb_ hb); have NB533_539 := A_ ((by rw [hg]; exact Nat.ne_of_lt (blk_lt (g := gb533) (o := .cells #[.int .i64 0, .int .i64 0, .slice none 0 0] 28 (0, 0)) (tk_ BK533)) : gb533 ≠ gb539)); have NB539_533 := A_ ((by rw [hg]; exact Nat.ne_of_gt (blk_lt (g := gb533) (o := .cells #[.int .i64 0, .int .i64 0, .slice none 0 0] 28 (0, 0)) (tk_ BK533)) : gb539 ≠ gb533)); replace BK533 := A_ (blk_below (g := gb533) (o := .cells #[.int .i64 0, .int .i64 0, .slice none 0 0] 28 (0, 0)) (tk_ BK533) hb); clear hb hbox hg; have hnb6 := NB539_533.out; have hnc6 := NB533_539.out; obtain ⟨hcz7_0, hcz7_1, hcz7_2, hfz7_0, hfz7_1, hfz7_2⟩ := cf3_ BK539.out; obtain ⟨Ao8, co8, eo8⟩ := Kd.R_slice HO538.out; subst eo8))
 go_loopg [11] k (fun kq v11 w' => ∃ (x11_1 : Int) (x540002_1 : List Int) (u540002 : Value), v11 = .int .i64 x11_1 ∧ Aside0 (spec_fiArrow.l0 kq a0 (t536.length : Int) x11_1 t534 t535 x540002_1 = some (r1, r2, r3)) ∧ Aside0 (kq ≤ k) ∧ Aside0 (Kd.R (Kd.int .i64) 3 w' w.heap.size (fun _ => True) u540002 x540002_1) ∧ Aside0 (w'.heap[gb533]? = some (.cells #[.int .i64 0, .int .i64 0, (.slice none 0 0)] 28 (0, 0))) ∧ Aside0 (w'.heap[gb539]? = some (.cells #[.int .i64 t534, .int .i64 t535, u540002] 28 (0, 0))) ∧ Aside0 (Below w.heap.size w w'))
 case atStart => exact ⟨(0), (t536), (.slice Ao8 t536.length co8), tf_, H', ⟨Nat.le_refl _⟩, ⟨by (with_reducible repeat (first | apply Kd.R_alloc | apply Kd.R_drewN | apply Kd.R_drew)); exact Kd.R_mono (Kd.R_far (p := ⟨gb539, 2, none⟩) (Kd.R_far (p := ⟨gb539, 1, none⟩) (Kd.R_far (p := ⟨gb539, 0, none⟩) (Kd.R_types HO538.out BK539.out (by decide)) (fun _ hk => hk.2) (.int .i64 t534)) (fun _ hk => hk.2) (.int .i64 t535)) (fun _ hk => hk.2) (.slice Ao8 t536.length co8)) (fun _ hk => trivial)⟩, ⟨tk_ BK533⟩, ⟨by (with_reducible repeat (first | refine blk_drewN ?_ _ | refine blk_drew ?_ | refine blk_alloc ?_ _)); refine blk_put (cs := #[.int .i64 t534, .int .i64 t535, .slice none 0 0]) ?_ 2 _ rfl; (with_reducible repeat (first | refine blk_drewN ?_ _ | refine blk_drew ?_ | refine blk_alloc ?_ _)); refine blk_put (cs := #[.int .i64 t534, .int .i64 0, .slice none 0 0]) ?_ 1 _ rfl; (with_reducible repeat (first | refine blk_drewN ?_ _ | refine blk_drew ?_ | refine blk_alloc ?_ _)); refine blk_put (cs := #[.int .i64 0, .int .i64 0, .slice none 0 0]) ?_ 0 _ rfl; (with_reducible repeat (first | refine blk_drewN ?_ _ | refine blk_drew ?_ | refine blk_alloc ?_ _)); exact BK539.out⟩, ⟨tb_⟩⟩
 case round =>
  clear H'
  try clear c1
  try clear c2
  try clear p2
  try clear c6
  try clear hcz7_0
  try clear hcz7_1
  try clear hcz7_2
  try clear hfz7_0
  try clear hfz7_1
  try clear hfz7_2
  obtain ⟨x11_1, x540002_1, u540002, rfl, HA, HK1, HO_540002, BK533, BK539, HB⟩ := hrel
  cases gk with
  | zero => exact absurd HA.out (by simp [spec_fiArrow.l0])
  | succ k1 =>
   have H := HA.out
   clear HA
   simp only [spec_fiArrow.l0] at H
   by_cases c9 : x11_1 < (t536.length : Int)
   ·
    rw [if_pos c9] at H
    have c9b0 := decide_eq_true c9
    clear c9
    by_cases c10 : 0 ≤ a0
    ·
     rw [if_pos c10] at H
     have c10b0 := eq_true c10
     have c10b1 := decide_eq_true c10
     clear c10
     obtain ⟨ji11, hji11⟩ : ∃ j_ : Int, (shl .i64 1 a0) = j_ := ⟨_, rfl⟩
     replace H : (if 0 ≤ (wrap64 (x11_1 + 1)) then (if 0 ≤ x11_1 then (if x11_1 < (x540002_1.length : Int) then (spec_fiArrow.l0 k1 a0 (t536.length : Int) (wrap64 (x11_1 + 1)) t534 t535 (x540002_1.set (x11_1 : Int).toNat (wrap64 ((ji11) - (shl .i64 1 (wrap64 (x11_1 + 1))))))) else (none)) else (none)) else (none)) = some (r1, r2, r3) := by first | (rw [hji11] at H; exact H) | (simp only [hji11] at H ⊢; exact H)
     have hji11_ : (IntKind.i64.wrap (1 * 2 ^ min a0.toNat 64)) = ji11 := hji11
     have hji11z : a0 ≤ 64 → (IntKind.i64.wrap (1 * 2 ^ a0.toNat)) = ji11 := shl_small hji11
     have hji11u : (IntKind.i64.wrap (2 ^ min a0.toNat 64)) = ji11 := by have h_ := hji11_; rw [Int.one_mul] at h_; exact h_
     have hji11v : a0 ≤ 64 → (IntKind.i64.wrap (2 ^ a0.toNat)) = ji11 := fun hle_ => by have h_ := hji11z hle_; rw [Int.one_mul] at h_; exact h_
     have hji11y : (wrap64 (1 * 2 ^ min a0.toNat 64)) = ji11 := (i64_w _).symm.trans hji11_
     have hji11x : a0 ≤ 64 → (wrap64 (1 * 2 ^ a0.toNat)) = ji11 := fun h_ => (i64_w _).symm.trans (hji11z h_)
     obtain ⟨ji12, hji12⟩ : ∃ j_ : Int, (wrap64 (x11_1 + 1)) = j_ := ⟨_, rfl⟩
     replace H : (if 0 ≤ (ji12) then (if 0 ≤ x11_1 then (if x11_1 < (x540002_1.length : Int) then (spec_fiArrow.l0 k1 a0 (t536.length : Int) ji12 t534 t535 (x540002_1.set (x11_1 : Int).toNat (wrap64 ((ji11) - (shl .i64 1 (ji12)))))) else (none)) else (none)) else (none)) = some (r1, r2, r3) := by first | (rw [hji12] at H; exact H) | (simp only [hji12] at H ⊢; exact H)
     have hji12w : (IntKind.i64.wrap (x11_1 + 1)) = ji12 := (i64_w _).trans hji12
     by_cases c13 : 0 ≤ (ji12)
     ·
      rw [if_pos c13] at H
      have c13b0 := eq_true c13
      have c13b1 := decide_eq_true c13
      clear c13
      obtain ⟨ji14, hji14⟩ : ∃ j_ : Int, (shl .i64 1 (ji12)) = j_ := ⟨_, rfl⟩
      replace H : (if 0 ≤ x11_1 then (if x11_1 < (x540002_1.length : Int) then (spec_fiArrow.l0 k1 a0 (t536.length : Int) ji12 t534 t535 (x540002_1.set (x11_1 : Int).toNat (wrap64 ((ji11) - (ji14))))) else (none)) else (none)) = some (r1, r2, r3) := by first | (rw [hji14] at H; exact H) | (simp only [hji14] at H ⊢; exact H)
      have hji14_ : (IntKind.i64.wrap (1 * 2 ^ min (ji12).toNat 64)) = ji14 := hji14
      have hji14z : (ji12) ≤ 64 → (IntKind.i64.wrap (1 * 2 ^ (ji12).toNat)) = ji14 := shl_small hji14
      have hji14u : (IntKind.i64.wrap (2 ^ min (ji12).toNat 64)) = ji14 := by have h_ := hji14_; rw [Int.one_mul] at h_; exact h_
      have hji14v : (ji12) ≤ 64 → (IntKind.i64.wrap (2 ^ (ji12).toNat)) = ji14 := fun hle_ => by have h_ := hji14z hle_; rw [Int.one_mul] at h_; exact h_
      have hji14y : (wrap64 (1 * 2 ^ min (ji12).toNat 64)) = ji14 := (i64_w _).symm.trans hji14_
      have hji14x : (ji12) ≤ 64 → (wrap64 (1 * 2 ^ (ji12).toNat)) = ji14 := fun h_ => (i64_w _).symm.trans (hji14z h_)
      by_cases c15 : 0 ≤ x11_1
      ·
       rw [if_pos c15] at H
       have c15b0 := decide_eq_true c15
       clear c15
       by_cases c16 : x11_1 < (x540002_1.length : Int)
       ·
        rw [if_pos c16] at H
        have c16b0 := decide_eq_true c16
        clear c16
        obtain ⟨y540, hy540⟩ : ∃ y_ : List Int, y_ = (x540002_1.set (x11_1 : Int).toNat (wrap64 ((ji11) - (ji14)))) := ⟨_, rfl⟩
        replace H : (spec_fiArrow.l0 k1 a0 (t536.length : Int) ji12 t534 t535 y540) = some (r1, r2, r3) := ty_ hy540 H
        have Ny540 := A_ hy540
        clear hy540
        have H' := A_ H
        clear H
        try go_wp2
        have n0_ := A_ (Kd.R_drew HO_540002.out)
        have n1_ := A_ (blk_drew BK533.out)
        have n2_ := A_ (blk_drew BK539.out)
        have n3_ := A_ (below_drew1 HB.out)
        clear HO_540002
        clear BK533
        clear BK539
        clear HB
        have HO_540002 := n0_
        have BK533 := n1_
        have BK539 := n2_
        have HB := n3_
        clear n0_ n1_ n2_ n3_
        have p17 : 0 ≤ (x11_1 : Int) := od_
        have q17 : (x11_1 : Int) < ((x540002_1.length : Int) : Int) := od_
        obtain ⟨go17, co17, eo17, gb17, gl17, cl17, HG17⟩ := Kd.R_form HO_540002.out (by omega)
        (first | cases eo17 | (injection eo17 with ea_ en_ ec_; (first | subst ea_ | (injection ea_ with ea_; subst ea_)); subst ec_; clear en_))
        have GB17 := A_ gb17
        have GG17 := A_ HG17
        clear gb17 gl17 HG17
        obtain ⟨hx17_0, hf17_0⟩ := Kd.R_celln 0 HO_540002.out (x11_1 : Int) p17 q17
        replace p17 := eq_true p17
        replace q17 := eq_true q17
        have HP19 := Kd.R_putn HO_540002.out (x11_1 : Int) (wrap64 ((ji11) - (ji14)))
        rw [← Ny540.out] at HP19
        have HQ19 := A_ HP19
        clear HP19
        refine start_ (n := 11) (S := fun w' => w'.cell? ⟨gb539, 0, none⟩ = some (.int .i64 t534) ∧ w'.cell? ⟨gb539, 1, none⟩ = some (.int .i64 t535) ∧ w'.cell? ⟨gb539, 2, none⟩ = some (.slice (some ⟨go17, 0, none⟩) x540002_1.length co17)) (ds := [10]) (Fn.bl 11 0) (by kernel_rfl) rfl rfl ⟨(blk_cell BK539.out 0).trans rfl, (blk_cell BK539.out 1).trans rfl, (blk_cell BK539.out 2).trans rfl⟩ (fun hHeld => ?_); refine with_tabW spec_fiArrow.tab5 spec_fiArrow.bits5 (fun HT_ HW_ => ?_)
        generalize wr.drew = w18 at HO_540002 BK533 BK539 HB GG17 HQ19 hf17_0 hx17_0 hHeld ⊢
        refine pq_ 0 (some 14) (Fn.bl 11 1) HT_.out ?_
        refine pq_ 2 (some 16) (Fn.bl 11 5) HT_.out ?_
        refine pq_ 3 (some 17) (Fn.bl 11 13) HT_.out ?_
        refine pq_ 4 (some 18) (Fn.bl 11 29) HT_.out ?_
        refine pq_ 5 (some 19) (Fn.bl 11 61) HT_.out ?_
        refine pq_ 6 (some 20) (Fn.bl 11 125) HT_.out ?_
        refine pq_ 7 (some 21) (Fn.bl 11 253) HT_.out ?_
        refine pq_ 8 (some 22) (Fn.bl 11 509) HT_.out ?_
        refine tq_ 1 (some 15) (Fn.bl 11 511) HT_.out HW_.out hHeld ?_ (hy0 := by rintro w' ⟨s0, s1, s2⟩; go_simp; with_reducible rfl)
        refine pq_ 9 (some 23) (Fn.bl 11 1023) HT_.out ?_
        refine last_ (i := 10) (N := none) (Fn.bl 11 2047) rfl rfl (one_of HT_.out (by kernel_rfl)) (by decide) (fun K hK => ?_)
        refine skip_ (w1 := ?_) (by rfl) rfl ?_ ?_
        rotate_left
        ·
         go_simp
         rfl
        refine hK.out _ _ ?_
        clear hK K
        refine done_ (done_of HT_.out (by kernel_rfl)) ?_
        try go_wp2
        go_roundg k1
        case measure => have := HK1.out; omega
        case rel => exact ⟨(ji12), (y540), (.slice (some ⟨go17, 0, none⟩) x540002_1.length co17), (by first | rfl | (simp; done) | (simp only [← hji12] <;> (first | rfl | simp)) | (simp [*]; done)), H', ⟨by have := HK1.out; omega⟩, ⟨tr_x HQ19.out⟩, ⟨by (with_reducible repeat (first | refine blk_drewN ?_ _ | refine blk_drew ?_ | refine blk_alloc ?_ _)); refine blk_far ?_ (by have h_ := Kd.R_ne HO_540002.out BK533.out (by decide); intro e_; exact h_ (by rw [e_]; rfl)) _; (with_reducible repeat (first | refine blk_drewN ?_ _ | refine blk_drew ?_ | refine blk_alloc ?_ _)); exact BK533.out⟩, ⟨by (with_reducible repeat (first | refine blk_drewN ?_ _ | refine blk_drew ?_ | refine blk_alloc ?_ _)); refine blk_far ?_ (by have h_ := Kd.R_ne HO_540002.out BK539.out (by decide); intro e_; exact h_ (by rw [e_]; rfl)) _; (with_reducible repeat (first | refine blk_drewN ?_ _ | refine blk_drew ?_ | refine blk_alloc ?_ _)); exact BK539.out⟩, ⟨tb_⟩⟩
       ·
        rw [if_neg c16] at H
        exact absurd H (by simp)
      ·
       rw [if_neg c15] at H
       exact absurd H (by simp)
     ·
      rw [if_neg c13] at H
      exact absurd H (by simp)
    ·
     rw [if_neg c10] at H
     exact absurd H (by simp)
   ·
    rw [if_neg c9] at H
    have c9b0 := decide_eq_false c9
    clear c9
    simp only [Option.some.injEq, Prod.mk.injEq] at H
    obtain ⟨rfl, rfl, rfl⟩ := H
    have hnb20 := NB539_533.out
    have hnc20 := NB533_539.out
    obtain ⟨hcz21_0, hcz21_1, hcz21_2, hfz21_0, hfz21_1, hfz21_2⟩ := cf3_ BK539.out
    obtain ⟨hcz22_0, hcz22_1, hcz22_2, hfz22_0, hfz22_1, hfz22_2⟩ := cf3_ BK533.out
    obtain ⟨Ao23, co23, eo23⟩ := Kd.R_slice HO_540002.out
    subst eo23
    go_wp2
    refine bodyPost_ret (results_cell_row rfl _ _ gb533 28 #[.int .i64 t534, .int .i64 t535, .slice Ao23 x540002_1.length co23] (0, 0) _ rfl (by (with_reducible repeat (first | refine blk_drewN ?_ _ | refine blk_drew ?_ | refine blk_alloc ?_ _)); refine blk_put (cs := #[.int .i64 t534, .int .i64 t535, .slice none 0 0]) ?_ 2 _ rfl; (with_reducible repeat (first | refine blk_drewN ?_ _ | refine blk_drew ?_ | refine blk_alloc ?_ _)); refine blk_put (cs := #[.int .i64 t534, .int .i64 0, .slice none 0 0]) ?_ 1 _ rfl; (with_reducible repeat (first | refine blk_drewN ?_ _ | refine blk_drew ?_ | refine blk_alloc ?_ _)); refine blk_put (cs := #[.int .i64 0, .int .i64 0, .slice none 0 0]) ?_ 0 _ rfl; (with_reducible repeat (first | refine blk_drewN ?_ _ | refine blk_drew ?_ | refine blk_alloc ?_ _)); exact BK533.out) Try.underlying28 rfl (by kernel_rfl)) rfl ?_
    exact ⟨_, te_, by (with_reducible repeat (first | apply Kd.R_alloc | apply Kd.R_drewN | apply Kd.R_drew)); exact Kd.R_mono (Kd.R_far (p := ⟨gb533, 2, none⟩) (Kd.R_far (p := ⟨gb533, 1, none⟩) (Kd.R_far (p := ⟨gb533, 0, none⟩) (Kd.R_types HO_540002.out BK533.out (by decide)) (fun _ hk => hk.2) (.int .i64 t534)) (fun _ hk => hk.2) (.int .i64 t535)) (fun _ hk => hk.2) (.slice Ao23 x540002_1.length co23)) (fun _ hk => trivial), tb_⟩

/-! ### impl_isThings: function 213 -/
def impl_isThings.f (a0 : Int) : Option (Bool) := (impl_within.f a0 1 6).bind fun t575 => (some t575)
theorem impl_isThings.calls (a0 : Int) (r : Bool) (w : World) (h : impl_isThings.f a0 = some r) :
  Calls Try.prog 213 #[.int .i64 a0] w fun e w' => e = .returned (.bool r) ∧ Drawn0 w w' := by
 have H : ((impl_within.f a0 1 6).bind fun t575 => (some t575)) = some r := h
 clear h
 replace H := Option.bind_eq_some_iff.mp H
 obtain ⟨t575, A20, H⟩ := H
 replace H : (some t575) = some r := H
 have A2 := A_ A20
 clear A20
 obtain rfl := Option.some.inj H
 go_enter Try.func213, Try.ntmps213
 go_wp2_with (first | (refine gc_ 139 ?_; refine goesT_ (some 4) Try.func139 #[.int .i64 a0, .int .i64 1, .int .i64 6] ?_; (with_reducible refine (impl_within.calls a0 1 6 t575 _ A2.out).mono ?_); rintro e w' ⟨rfl, ⟨nd, rfl⟩⟩; refine ⟨_, rfl, ?_⟩))
 go_ret
 exact ⟨tf_, dr_⟩

end
end Go.Proofs.Ytnpacpdpgngdpaa.P
