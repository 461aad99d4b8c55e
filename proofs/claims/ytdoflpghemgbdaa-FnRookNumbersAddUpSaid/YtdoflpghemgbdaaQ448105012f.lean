-- printed functions (wip/slim.py)
import Derived.Test.YtdoflpghemgbdaaPx0
import Derived.Test.YtdoflpghemgbdaaQb4b6e93975
import Derived.Test.YtdoflpghemgbdaaQ09fbc47fe5
import Derived.Test.YtdoflpghemgbdaaQaaef31bd9a
namespace Go.Proofs.Ytdoflpghemgbdaa.P
noncomputable section
set_option maxHeartbeats 8000000
set_option maxRecDepth 100000
open Go.RowKit Go.Proofs.YtdoflpghemgbdaaW.PrintWords Go.Proofs.YtdoflpghemgbdaaW.PrintLast Go.Proofs.YtdoflpghemgbdaaW.PrintMore
attribute [local go_sem] max2_int min2_int max_two min_two max_three min_three max_four min_four   -- for this text's walks alone
set_option linter.unusedVariables false
set_option linter.unusedSimpArgs false

/-! ### laws_big: function 8 -/
def laws_big.f (l0 : List Int) (l1 : List Int) : Option (Bool) := if (l0.length : Int) > 1048576 then (some true) else (some (decide ((l1.length : Int) > (wrap64 (1048576 - (l0.length : Int))))))
theorem laws_big.calls (A0 : Option Addr) (c0 : Nat) (l0 : List Int) (A1 : Option Addr) (c1 : Nat) (l1 : List Int) (r : Bool) (w : World) (hr0 : Kd.C (Kd.int .u8) w A0 l0.length l0) (hc0 : l0.length ≤ c0) (hr1 : Kd.C (Kd.int .u8) w A1 l1.length l1) (hc1 : l1.length ≤ c1) (h : laws_big.f l0 l1 = some r) :
  Calls Try.prog 8 #[.slice A0 l0.length c0, .slice A1 l1.length c1] w fun e w' => e = .returned (.bool r) ∧ Drawn0 w w' := by
 have HR0 := A_ hr0; have HC0 := A_ hc0; clear hr0 hc0; have HR1 := A_ hr1; have HC1 := A_ hc1; clear hr1 hc1; have H : (if (l0.length : Int) > 1048576 then (some true) else (some (decide ((l1.length : Int) > (wrap64 (1048576 - (l0.length : Int))))))) = some r := h; clear h; by_cases c3 : (l0.length : Int) > 1048576
 ·
  rw [if_pos c3] at H; have c3b0 := decide_eq_true c3; have c3b1 : decide (1048576 < l0.length) = true := decide_eq_true (by omega); clear c3; obtain rfl := Option.some.inj H; go_enter Try.func8, Try.ntmps8; go_wp2; go_ret; exact ⟨tf_, dr_⟩
 ·
  rw [if_neg c3] at H; have c3b0 := decide_eq_false c3; have c3b1 : decide (1048576 < l0.length) = false := decide_eq_false (by omega); clear c3; obtain rfl := Option.some.inj H; go_enter Try.func8, Try.ntmps8; go_wp2; go_ret; exact ⟨tf_, dr_⟩

/-! ### impl_within: function 104 -/
def impl_within.f (a0 : Int) (a1 : Int) (a2 : Int) : Option (Bool) := if a1 ≤ a0 then (some (decide (a0 ≤ a2))) else (some false)
theorem impl_within.calls (a0 : Int) (a1 : Int) (a2 : Int) (r : Bool) (w : World) (h : impl_within.f a0 a1 a2 = some r) :
  Calls Try.prog 104 #[.int .i64 a0, .int .i64 a1, .int .i64 a2] w fun e w' => e = .returned (.bool r) ∧ Drawn0 w w' := by
 have H : (if a1 ≤ a0 then (some (decide (a0 ≤ a2))) else (some false)) = some r := h; clear h; by_cases c4 : a1 ≤ a0
 ·
  rw [if_pos c4] at H; have c4b0 := decide_eq_true c4; clear c4; obtain rfl := Option.some.inj H; go_enter Try.func104, Try.ntmps104; go_wp2; go_ret; exact ⟨tf_, dr_⟩
 ·
  rw [if_neg c4] at H; have c4b0 := decide_eq_false c4; clear c4; obtain rfl := Option.some.inj H; go_enter Try.func104, Try.ntmps104; go_wp2; go_ret; exact ⟨tf_, dr_⟩

/-! ### slices_IndexFunc_int_int: function 183 -/
def slices_IndexFunc_int_int.l0 : Nat → List Int → FnT93 → Int → Int → Option (Int)
 | 0, _, _, _, _ => none
 | k + 1, x0, x1, x7, x8 => if x8 < x7 then (if 0 ≤ x8 then (if x8 < (x0.length : Int) then ((FnCall93.f (rd x0 x8) x1).bind fun t225 => (if t225 = true then (some x8) else (slices_IndexFunc_int_int.l0 k x0 x1 x7 (wrap64 (x8 + 1))))) else (none)) else (none)) else (some (-1))
def slices_IndexFunc_int_int.f (k : Nat) (l0 : List Int) (a1 : FnT93) : Option (Int) := slices_IndexFunc_int_int.l0 k l0 a1 (l0.length : Int) 0
theorem slices_IndexFunc_int_int.mono_l : ∀ k, (∀ y0 y1 y2 y3, LeO (slices_IndexFunc_int_int.l0 k y0 y1 y2 y3) (slices_IndexFunc_int_int.l0 (k + 1) y0 y1 y2 y3))
 | 0 => fun _ _ _ _ r h => by simp [slices_IndexFunc_int_int.l0] at h
 | k + 1 => by
  have ih0 := slices_IndexFunc_int_int.mono_l k
  ·
   intro y0 y1 y2 y3; unfold slices_IndexFunc_int_int.l0
   repeat' first | (with_reducible first | exact ih0 _ _ _ _ | exact LeO.refl _ | exact LeO.none _ | refine LeO.ite ?_ ?_ | refine LeO.bind ?_ (fun _ => ?_)) | exact ih0 _ _ _ _ | exact LeO.none _ | refine LeO.ite ?_ ?_ | refine LeO.bind ?_ (fun _ => ?_)
theorem slices_IndexFunc_int_int.mono : ∀ a0 a1 k, LeO (slices_IndexFunc_int_int.f k a0 a1) (slices_IndexFunc_int_int.f (k + 1) a0 a1) := by
 intro a0 a1 k; have ih0 := slices_IndexFunc_int_int.mono_l k; unfold slices_IndexFunc_int_int.f
 repeat' first | (with_reducible first | exact ih0 _ _ _ _ | exact LeO.refl _ | exact LeO.none _ | refine LeO.ite ?_ ?_ | refine LeO.bind ?_ (fun _ => ?_)) | exact ih0 _ _ _ _ | exact LeO.none _ | refine LeO.ite ?_ ?_ | refine LeO.bind ?_ (fun _ => ?_)
theorem slices_IndexFunc_int_int.calls (k : Nat) (A0 : Option Addr) (c0 : Nat) (l0 : List Int) (v1 : Value) (a1 : FnT93) (r : Int) (w : World) (hr0 : Kd.C (Kd.int .i64) w A0 l0.length l0) (hc0 : l0.length ≤ c0) (hF1 : FnOk93 w v1 a1) (h : slices_IndexFunc_int_int.f k l0 a1 = some r) :
  Calls Try.prog 183 #[.slice A0 l0.length c0, v1] w fun e w' => e = .returned (.int .i64 r) ∧ Below w.heap.size w w' := by
 have HR0 := A_ hr0; have HC0 := A_ hc0; clear hr0 hc0; have HF1 := A_ hF1; clear hF1; have HB := A_ (Below.refl w.heap.size w); have H : (slices_IndexFunc_int_int.l0 k l0 a1 (l0.length : Int) 0) = some r := h; clear h; have H' := A_ H; clear H; go_enter Try.func183, Try.ntmps183; go_wp2; go_loopg [8] k (fun kq v8 w' => ∃ (x8_1 : Int), v8 = .int .i64 x8_1 ∧ Aside0 (slices_IndexFunc_int_int.l0 kq l0 a1 (l0.length : Int) x8_1 = some r) ∧ Aside0 (kq ≤ k) ∧ Aside0 (Below w.heap.size w w'))
 case atStart => exact ⟨(0), tf_, H', ⟨Nat.le_refl _⟩, ⟨tb_⟩⟩
 case round =>
  clear H'; (try clear c1); (try clear p2); obtain ⟨x8_1, rfl, HA, HK1, HB⟩ := hrel; cases gk with
  | zero => exact absurd HA.out (by simp [slices_IndexFunc_int_int.l0])
  | succ k1 =>
   have H := HA.out; clear HA; simp only [slices_IndexFunc_int_int.l0] at H; by_cases c3 : x8_1 < (l0.length : Int)
   ·
    rw [if_pos c3] at H; have c3b0 := decide_eq_true c3; clear c3; by_cases c4 : 0 ≤ x8_1
    ·
     rw [if_pos c4] at H; have c4b0 := decide_eq_true c4; clear c4; by_cases c5 : x8_1 < (l0.length : Int)
     ·
      rw [if_pos c5] at H; have c5b0 := decide_eq_true c5; clear c5; replace H := Option.bind_eq_some_iff.mp H; obtain ⟨t225, A60, H⟩ := H; (try dsimp only at H); have A6 := A_ A60; clear A60; by_cases c7 : t225 = true
      ·
       subst c7; rw [if_pos rfl] at H; obtain rfl := Option.some.inj H; have p224 : 0 ≤ (x8_1 : Int) := od_; have q224 : x8_1 < (l0.length : Int) := od_; obtain ⟨ad224, e224, hx224_0⟩ := Kd.at_int HR0.out x8_1 p224 q224; cases e224; (try replace hx224_0 := (HB.out.cell (World.block_lt_of_cell? w _ hx224_0)).trans hx224_0); replace p224 := eq_true p224; replace q224 := eq_true q224; go_wp2_with (first | ((with_reducible refine Fn.gate_value rfl ?_); refine Fn.goesVw_ (some 16) rfl (by first | rfl | (simp [Region.wanted, yielded]; done)) v1 rfl #[.int .i64 (rd l0 x8_1)] rfl ta_ ?_; (with_reducible refine (FnCall93.calls (rd l0 x8_1) v1 a1 true _ ?side1 A6.out).mono ?_); (case side1 => exact FnOk93.mono HF1.out tb_); rintro e w8 ⟨rfl, hb⟩; refine ⟨_, rfl, ?_⟩; replace HB := A_ (below_step tb_ hb); (try clear hb)))
       go_ret; exact ⟨te_, tb_⟩
      ·
       replace c7 := Bool.eq_false_iff.mpr c7; subst c7; rw [if_neg (show ¬ (false = true) by decide)] at H; have H' := A_ H; clear H; have p224 : 0 ≤ (x8_1 : Int) := od_; have q224 : x8_1 < (l0.length : Int) := od_; obtain ⟨ad224, e224, hx224_0⟩ := Kd.at_int HR0.out x8_1 p224 q224; cases e224; (try replace hx224_0 := (HB.out.cell (World.block_lt_of_cell? w _ hx224_0)).trans hx224_0); replace p224 := eq_true p224; replace q224 := eq_true q224; go_wp2_with (first | ((with_reducible refine Fn.gate_value rfl ?_); refine Fn.goesVw_ (some 16) rfl (by first | rfl | (simp [Region.wanted, yielded]; done)) v1 rfl #[.int .i64 (rd l0 x8_1)] rfl ta_ ?_; (with_reducible refine (FnCall93.calls (rd l0 x8_1) v1 a1 false _ ?side1 A6.out).mono ?_); (case side1 => exact FnOk93.mono HF1.out tb_); rintro e w9 ⟨rfl, hb⟩; refine ⟨_, rfl, ?_⟩; replace HB := A_ (below_step tb_ hb); (try clear hb)))
       go_roundg k1
       case measure => have := HK1.out; omega
       case rel => exact ⟨(wrap64 (x8_1 + 1)), tf_, H', ⟨by have := HK1.out; omega⟩, ⟨tb_⟩⟩
     ·
      exact nx_ c5 H
    ·
     exact nx_ c4 H
   ·
    rw [if_neg c3] at H; have c3b0 := decide_eq_false c3; clear c3; obtain rfl := Option.some.inj H; go_wp2; go_ret; exact ⟨te_, tb_⟩

/-! ### slices_ContainsFunc_int_int: function 146 -/
def slices_ContainsFunc_int_int.f (k : Nat) (l0 : List Int) (a1 : FnT93) : Option (Bool) := (slices_IndexFunc_int_int.f k l0 a1).bind fun t226 => (some (decide (t226 ≥ 0)))
theorem slices_ContainsFunc_int_int.mono : ∀ a0 a1 k, LeO (slices_ContainsFunc_int_int.f k a0 a1) (slices_ContainsFunc_int_int.f (k + 1) a0 a1) := by
 intro a0 a1 k; unfold slices_ContainsFunc_int_int.f
 repeat' first | (with_reducible first | exact slices_IndexFunc_int_int.mono _ _ _ | exact LeO.refl _ | exact LeO.none _ | refine LeO.ite ?_ ?_ | refine LeO.bind ?_ (fun _ => ?_)) | exact slices_IndexFunc_int_int.mono _ _ _ | exact LeO.none _ | refine LeO.ite ?_ ?_ | refine LeO.bind ?_ (fun _ => ?_)
theorem slices_ContainsFunc_int_int.calls (k : Nat) (A0 : Option Addr) (c0 : Nat) (l0 : List Int) (v1 : Value) (a1 : FnT93) (r : Bool) (w : World) (hr0 : Kd.C (Kd.int .i64) w A0 l0.length l0) (hc0 : l0.length ≤ c0) (hF1 : FnOk93 w v1 a1) (h : slices_ContainsFunc_int_int.f k l0 a1 = some r) :
  Calls Try.prog 146 #[.slice A0 l0.length c0, v1] w fun e w' => e = .returned (.bool r) ∧ Below w.heap.size w w' := by
 have HR0 := A_ hr0; have HC0 := A_ hc0; clear hr0 hc0; have HF1 := A_ hF1; clear hF1; have HB := A_ (Below.refl w.heap.size w); have H : ((slices_IndexFunc_int_int.f k l0 a1).bind fun t226 => (some (decide (t226 ≥ 0)))) = some r := h; clear h; replace H := Option.bind_eq_some_iff.mp H; obtain ⟨t226, A30, H⟩ := H; replace H : (some (decide (t226 ≥ 0))) = some r := H; have A3 := A_ A30; clear A30; obtain rfl := Option.some.inj H; go_enter Try.func146, Try.ntmps146; go_wp2_with (first | (refine gc_ 183 ?_; refine goesT_ (some 7) Try.func183 #[.slice A0 l0.length c0, v1] ?_; (with_reducible refine (slices_IndexFunc_int_int.calls k _ _ l0 v1 a1 t226 _ ?side1 ?side2 ?side3 A3.out).mono ?_); (case side1 => exact tc0_ HR0.out); (case side2 => exact HC0.out); (case side3 => exact FnOk93.mono HF1.out tb_); rintro e w4 ⟨rfl, hb⟩; refine ⟨_, rfl, ?_⟩; replace HB := A_ (below_step tb_ hb); (try clear hb)))
 go_ret; exact ⟨te_, tb_⟩

/-! ### impl_isSide: function 145 -/
def impl_isSide.f (a0 : Int) : Option (Bool) := (impl_within.f a0 1 6).bind fun t227 => (some t227)
theorem impl_isSide.calls (a0 : Int) (r : Bool) (w : World) (h : impl_isSide.f a0 = some r) :
  Calls Try.prog 145 #[.int .i64 a0] w fun e w' => e = .returned (.bool r) ∧ Drawn0 w w' := by
 have H : ((impl_within.f a0 1 6).bind fun t227 => (some t227)) = some r := h; clear h; replace H := Option.bind_eq_some_iff.mp H; obtain ⟨t227, A20, H⟩ := H; replace H : (some t227) = some r := H; have A2 := A_ A20; clear A20; obtain rfl := Option.some.inj H; go_enter Try.func145, Try.ntmps145; go_wp2_with (first | (refine gc_ 104 ?_; refine goesT_ (some 4) Try.func104 #[.int .i64 a0, .int .i64 1, .int .i64 6] ?_; (with_reducible refine (impl_within.calls a0 1 6 t227 _ A2.out).mono ?_); rintro e w' ⟨rfl, ⟨nd, rfl⟩⟩; refine ⟨_, rfl, ?_⟩))
 go_ret; exact ⟨tf_, dr_⟩

/-! ### impl_IsBoard: function 76 -/
def boardB (rows cols : Int) (cells : List Int) : Bool := decide (1 ≤ rows ∧ rows ≤ 6) && decide (1 ≤ cols ∧ cols ≤ 6) && decide ((cells.length : Int) = rows) && cells.all fun m => decide (0 ≤ m ∧ m ≤ 2 ^ cols.toNat - 1)
def impl_IsBoard.f (a0_0 : Int) (a0_1 : Int) (l0_2 : List Int) : Option (Bool) := some (boardB a0_0 a0_1 l0_2)
theorem impl_IsBoard.closure (m cols : Int) (g : Nat) (w : World) (hc : w.cell? ⟨g, 1, none⟩ = some (.int .i64 cols)) (h0 : 1 ≤ cols) (h1 : cols ≤ 6) :
  Calls Try.prog 147 #[.int .i64 m, .pointer (some ⟨g, 0, none⟩)] w fun e w' => e = .returned (.bool (!(decide (0 ≤ m ∧ m ≤ 2 ^ cols.toNat - 1)))) ∧ w' = w := by
 have hcols : cols = 1 ∨ cols = 2 ∨ cols = 3 ∨ cols = 4 ∨ cols = 5 ∨ cols = 6 := by omega
 by_cases hm : 0 ≤ m
 ·
  rcases hcols with rfl | rfl | rfl | rfl | rfl | rfl
  all_goals
   go_enter Try.func147, Try.ntmps147; go_wp2; go_ret; exact ⟨by simp [hm] <;> omega, rfl⟩
 ·
  rcases hcols with rfl | rfl | rfl | rfl | rfl | rfl
  all_goals
   go_enter Try.func147, Try.ntmps147; go_wp2; go_ret; exact ⟨by simp [hm], rfl⟩
theorem impl_IsBoard.index (l : List Int) (P : Int → Bool) (hb : l.length ≤ 1152921504606846976) : ∀ (d i : Nat) (k : Nat), l.length - i = d → i ≤ l.length → d < k →
  ∃ r : Int, slices_IndexFunc_int_int.l0 k l (fun x => some (P x)) (l.length : Int) (i : Int) = some r ∧ decide (r ≥ 0) = (l.drop i).any P := by
 intro d
 induction d with
 | zero =>
  intro i k hd hi hk; obtain ⟨k, rfl⟩ : ∃ m, k = m + 1 := ⟨k - 1, by omega⟩
  exact ⟨-1, by rw [slices_IndexFunc_int_int.l0, if_neg (by omega)], by rw [List.drop_eq_nil_of_le (by omega)]; rfl⟩
 | succ d ih =>
  intro i k hd hi hk; obtain ⟨k, rfl⟩ : ∃ m, k = m + 1 := ⟨k - 1, by omega⟩
  have h1 : i < l.length := by omega
  have hr : rd l (i : Int) = l[i] := by unfold rd; simp [List.getD_eq_getElem?_getD, List.getElem?_eq_getElem h1]
  rw [List.drop_eq_getElem_cons h1, List.any_cons]; by_cases hp : P l[i] = true
  ·
   refine ⟨i, ?_, ?_⟩
   ·
    rw [slices_IndexFunc_int_int.l0, if_pos (by omega), if_pos (by omega), if_pos (by omega), hr]; simp only [FnCall93.f, hp, Option.bind_some, if_true]
   ·
    rw [hp, Bool.true_or]; simp
  ·
   obtain ⟨r, h2, h3⟩ := ih (i + 1) k (by omega) (by omega) (by omega); refine ⟨r, ?_, ?_⟩
   ·
    rw [slices_IndexFunc_int_int.l0, if_pos (by omega), if_pos (by omega), if_pos (by omega), hr]; simp only [FnCall93.f, hp, Option.bind_some]; rw [if_neg (by simp), show wrap64 ((i : Int) + 1) = ((i + 1 : Nat) : Int) by unfold wrap64; omega]; exact h2
   ·
    rw [h3]; simp only [Bool.not_eq_true] at hp; rw [hp, Bool.false_or]
theorem impl_IsBoard.contains (l : List Int) (P : Int → Bool) (hb : l.length ≤ 1152921504606846976) : slices_ContainsFunc_int_int.f (l.length + 1) l (fun x => some (P x)) = some (l.any P) := by
 obtain ⟨r, h1, h2⟩ := impl_IsBoard.index l P hb l.length 0 (l.length + 1) (by omega) (by omega) (by omega); simp only [slices_ContainsFunc_int_int.f, slices_IndexFunc_int_int.f]; rw [show (0 : Int) = ((0 : Nat) : Int) from rfl, h1, Option.bind_some, show (((0 : Nat) : Int)) = 0 from rfl, h2]; simp
theorem impl_IsBoard.calls (a0_0 : Int) (a0_1 : Int) (A0_2 : Option Addr) (c0_2 : Nat) (l0_2 : List Int) (r : Bool) (w : World) (hr0_2 : Kd.C (Kd.int .i64) w A0_2 l0_2.length l0_2) (hc0_2 : l0_2.length ≤ c0_2) (h : impl_IsBoard.f a0_0 a0_1 l0_2 = some r) :
  Calls Try.prog 76 #[.agg #[.int .i64 a0_0, .int .i64 a0_1, .slice A0_2 l0_2.length c0_2]] w fun e w' => e = .returned (.bool r) ∧ Below w.heap.size w w' := by
 obtain rfl := Option.some.inj h; clear h; have hu := Try.underlying26; have HR := A_ hr0_2; have HC := A_ hc0_2; clear hr0_2 hc0_2; have HB := A_ (Below.refl w.heap.size w); have hmf_ : ∀ (fn : Go.Fn) (first cap : Array Value) (w : World), (Instr.makeFunc fn first cap).run Try.prog w = .ok (.func fn first cap) w := fun _ _ _ _ => rfl
 have early : boardB a0_0 a0_1 l0_2 = false → (1 ≤ a0_0 ∧ a0_0 ≤ 6 → 1 ≤ a0_1 ∧ a0_1 ≤ 6 → ¬ (l0_2.length : Int) = a0_0) →
   Calls Try.prog 76 #[.agg #[.int .i64 a0_0, .int .i64 a0_1, .slice A0_2 l0_2.length c0_2]] w fun e w' => e = .returned (.bool (boardB a0_0 a0_1 l0_2)) ∧ Below w.heap.size w w' := by
  intro e hno; have E := A_ e; clear e; by_cases h1 : 1 ≤ a0_0
  ·
   by_cases h2 : a0_0 ≤ 6
   ·
    by_cases h3 : 1 ≤ a0_1
    ·
     by_cases h4 : a0_1 ≤ 6
     ·
      have h5 : ((l0_2.length : Int) != a0_0) = true := bne_iff_ne.mpr (hno ⟨h1, h2⟩ ⟨h3, h4⟩); clear hno; go_enter Try.func76, Try.ntmps76; go_wp2; go_ret; exact ⟨by rw [E.out]; rfl, below_alloc (Below.refl _ _) _⟩
     ·
      clear hno; go_enter Try.func76, Try.ntmps76; go_wp2; go_ret; exact ⟨by rw [E.out]; rfl, below_alloc (Below.refl _ _) _⟩
    ·
     clear hno; go_enter Try.func76, Try.ntmps76; go_wp2; go_ret; exact ⟨by rw [E.out]; rfl, below_alloc (Below.refl _ _) _⟩
   ·
    clear hno; go_enter Try.func76, Try.ntmps76; go_wp2; go_ret; exact ⟨by rw [E.out]; rfl, below_alloc (Below.refl _ _) _⟩
  ·
   clear hno; go_enter Try.func76, Try.ntmps76; go_wp2; go_ret; exact ⟨by rw [E.out]; rfl, below_alloc (Below.refl _ _) _⟩
 by_cases hall : (1 ≤ a0_0 ∧ a0_0 ≤ 6) ∧ (1 ≤ a0_1 ∧ a0_1 ≤ 6) ∧ (l0_2.length : Int) = a0_0
 ·
  obtain ⟨⟨h1, h2⟩, ⟨h3, h4⟩, h5⟩ := hall; have e : boardB a0_0 a0_1 l0_2 = l0_2.all (fun m => decide (0 ≤ m ∧ m ≤ 2 ^ a0_1.toNat - 1)) := by simp [boardB, h1, h2, h3, h4, h5]
  have e2 : (l0_2.any fun m => !(decide (0 ≤ m ∧ m ≤ 2 ^ a0_1.toNat - 1))) = !(boardB a0_0 a0_1 l0_2) := by rw [e, List.not_all_eq_any_not]
  have hlen : l0_2.length ≤ 1152921504606846976 := by omega
  have HN : Aside0 (slices_ContainsFunc_int_int.f (l0_2.length + 1) l0_2 (fun m => some (!(decide (0 ≤ m ∧ m ≤ 2 ^ a0_1.toNat - 1)))) = some (!(boardB a0_0 a0_1 l0_2))) := ⟨(impl_IsBoard.contains l0_2 _ hlen).trans (by rw [e2])⟩
  clear e e2 early; have h5b : ((l0_2.length : Int) != a0_0) = false := bne_eq_false_iff_eq.mpr h5; have H3 := A_ h3; have H4 := A_ h4; have HF : ∀ W : World, W.cell? ⟨w.heap.size, 1, none⟩ = some (.int .i64 a0_1) → FnOk93 W (.func (.func 147) #[] #[.pointer (some ⟨w.heap.size, 0, none⟩)]) (fun m => some (!(decide (0 ≤ m ∧ m ≤ 2 ^ a0_1.toNat - 1)))) := by
   intro W hc m r W1 h hB; obtain rfl := Option.some.inj h; refine ⟨147, _, _, rfl, Try.func147, by kernel_rfl, rfl, ?_⟩; refine (impl_IsBoard.closure m a0_1 w.heap.size W1 ((hB.cell (World.block_lt_of_cell? W _ hc)).trans hc) H3.out H4.out).mono ?_; rintro e w' ⟨he, rfl⟩; exact ⟨he, Below.refl _ _⟩
  have HF' := A_ HF; clear HF h5 hlen; have S1 : Aside0 (impl_isSide.f a0_0 = some true) := ⟨by unfold impl_isSide.f impl_within.f; rw [if_pos h1]; simpa using h2⟩
  have S2 : Aside0 (impl_isSide.f a0_1 = some true) := ⟨by unfold impl_isSide.f impl_within.f; rw [if_pos h3]; simpa using h4⟩
  go_enter Try.func76, Try.ntmps76; go_wp2_with (first | (go_at_call 145; (with_reducible refine (impl_isSide.calls a0_0 true _ S1.out).mono ?_); rintro e w' ⟨rfl, ⟨nd, rfl⟩⟩) | (go_at_call 145; (with_reducible refine (impl_isSide.calls a0_1 true _ S2.out).mono ?_); rintro e w' ⟨rfl, ⟨nd, rfl⟩⟩) | (go_at_call 146; refine (slices_ContainsFunc_int_int.calls (l0_2.length + 1) _ _ l0_2 (.func (.func 147) #[] #[.pointer (some ⟨w.heap.size, 0, none⟩)]) (fun m => some (!(decide (0 ≤ m ∧ m ≤ 2 ^ a0_1.toNat - 1)))) _ _ ?s1 HC.out (HF'.out _ (by go_simp)) HN.out).mono ?_; (case s1 => exact tc0_ HR.out); rintro e w1 ⟨rfl, hb⟩; have HB1 := A_ hb; clear hb))
  go_ret; exact ⟨by simp, below_then (by repeat (first | exact Below.refl _ _ | apply pw_below_drewN | apply below_alloc)) (by simp) HB1.out⟩
 ·
  refine early ?_ ?_
  ·
   simp only [boardB, Bool.and_eq_false_iff, decide_eq_false_iff_not]; by_cases ha : 1 ≤ a0_0 ∧ a0_0 ≤ 6
   ·
    by_cases hb : 1 ≤ a0_1 ∧ a0_1 ≤ 6
    ·
     exact .inl (.inr (fun hc => hall ⟨ha, hb, hc⟩))
    ·
     exact .inl (.inl (.inr hb))
   ·
    exact .inl (.inl (.inl ha))
  ·
   exact fun ha hb hc => hall ⟨ha, hb, hc⟩

/-! ### impl_Board_place: function 81 -/
def impl_Board_place.f (a0_0 : Int) (a0_1 : Int) (l0_2 : List Int) (a1 : Int) (a2 : Int) : Option (Bool) := (impl_within.f a1 0 (wrap64 (a0_0 - 1))).bind fun t229 => (if t229 = true then ((impl_within.f a2 0 (wrap64 (a0_1 - 1))).bind fun t230 => (some t230)) else (some false))
theorem impl_Board_place.calls (a0_0 : Int) (a0_1 : Int) (A0_2 : Option Addr) (c0_2 : Nat) (l0_2 : List Int) (a1 : Int) (a2 : Int) (r : Bool) (w : World) (hr0_2 : Kd.C (Kd.int .i64) w A0_2 l0_2.length l0_2) (hc0_2 : l0_2.length ≤ c0_2) (h : impl_Board_place.f a0_0 a0_1 l0_2 a1 a2 = some r) :
  Calls Try.prog 81 #[.agg #[.int .i64 a0_0, .int .i64 a0_1, .slice A0_2 l0_2.length c0_2], .int .i64 a1, .int .i64 a2] w fun e w' => e = .returned (.bool r) ∧ Below w.heap.size w w' := by
 have hu26 := Try.underlying26; have HR0_2 := A_ hr0_2; have HC0_2 := A_ hc0_2; clear hr0_2 hc0_2; have HB := A_ (Below.refl w.heap.size w); have H : ((impl_within.f a1 0 (wrap64 (a0_0 - 1))).bind fun t229 => (if t229 = true then ((impl_within.f a2 0 (wrap64 (a0_1 - 1))).bind fun t230 => (some t230)) else (some false))) = some r := h; clear h; replace H := Option.bind_eq_some_iff.mp H; obtain ⟨t229, A40, H⟩ := H; (try dsimp only at H); have A4 := A_ A40; clear A40; by_cases c5 : t229 = true
 ·
  subst c5; rw [if_pos rfl] at H; replace H := Option.bind_eq_some_iff.mp H; obtain ⟨t230, A60, H⟩ := H; replace H : (some t230) = some r := H; have A6 := A_ A60; clear A60; obtain rfl := Option.some.inj H; go_enter Try.func81, Try.ntmps81; go_wp2_with (first | (refine gd_ 3 ?_; refine bx_ 3 #[.int .i64 a0_0, .int .i64 a0_1, .slice A0_2 l0_2.length c0_2] 26 ?_; intro gb228 hg w7 hbox hb; have BK228 := A_ (hbox); have GW228 := A_ ((ts_ hg : w.heap.size ≤ gb228)); have GE228 := A_ ((ts_ hg : w.heap.size ≤ gb228)); replace HB := A_ (below_step tb_ hb); clear hb hbox hg; obtain ⟨hcz8_0, hcz8_1, hcz8_2, hfz8_0, hfz8_1, hfz8_2⟩ := cf3_ BK228.out) | (refine gc_ 104 ?_; refine goesT_ (some 11) Try.func104 #[.int .i64 a1, .int .i64 0, .int .i64 (wrap64 (a0_0 - 1))] ?_; (with_reducible refine (impl_within.calls a1 0 (wrap64 (a0_0 - 1)) true _ A4.out).mono ?_); rintro e w' ⟨rfl, ⟨nd, rfl⟩⟩; refine ⟨_, rfl, ?_⟩) | (go_at_call 104; (with_reducible refine (impl_within.calls a2 0 (wrap64 (a0_1 - 1)) t230 _ A6.out).mono ?_); rintro e w' ⟨rfl, ⟨nd, rfl⟩⟩))
  go_ret; exact ⟨te_, tb_⟩
 ·
  replace c5 := Bool.eq_false_iff.mpr c5; subst c5; rw [if_neg (show ¬ (false = true) by decide)] at H; obtain rfl := Option.some.inj H; go_enter Try.func81, Try.ntmps81; go_wp2_with (first | (refine gd_ 3 ?_; refine bx_ 3 #[.int .i64 a0_0, .int .i64 a0_1, .slice A0_2 l0_2.length c0_2] 26 ?_; intro gb228 hg w9 hbox hb; have BK228 := A_ (hbox); have GW228 := A_ ((ts_ hg : w.heap.size ≤ gb228)); have GE228 := A_ ((ts_ hg : w.heap.size ≤ gb228)); replace HB := A_ (below_step tb_ hb); clear hb hbox hg; obtain ⟨hcz10_0, hcz10_1, hcz10_2, hfz10_0, hfz10_1, hfz10_2⟩ := cf3_ BK228.out) | (refine gc_ 104 ?_; refine goesT_ (some 11) Try.func104 #[.int .i64 a1, .int .i64 0, .int .i64 (wrap64 (a0_0 - 1))] ?_; (with_reducible refine (impl_within.calls a1 0 (wrap64 (a0_0 - 1)) false _ A4.out).mono ?_); rintro e w' ⟨rfl, ⟨nd, rfl⟩⟩; refine ⟨_, rfl, ?_⟩))
  go_ret; exact ⟨te_, tb_⟩

/-! ### impl_Board_has: function 119 -/
def impl_Board_has.f (a0_0 : Int) (a0_1 : Int) (l0_2 : List Int) (a1 : Int) (a2 : Int) : Option (Bool) := if 0 ≤ a1 then (if a1 < (l0_2.length : Int) then (if 0 ≤ a2 then (some ((Go.bits .and .i64 (shr .i64 (rd l0_2 a1) a2) 1) == 1)) else (none)) else (none)) else (none)
theorem impl_Board_has.calls (a0_0 : Int) (a0_1 : Int) (A0_2 : Option Addr) (c0_2 : Nat) (l0_2 : List Int) (a1 : Int) (a2 : Int) (r : Bool) (w : World) (hr0_2 : Kd.C (Kd.int .i64) w A0_2 l0_2.length l0_2) (hc0_2 : l0_2.length ≤ c0_2) (h : impl_Board_has.f a0_0 a0_1 l0_2 a1 a2 = some r) :
  Calls Try.prog 119 #[.agg #[.int .i64 a0_0, .int .i64 a0_1, .slice A0_2 l0_2.length c0_2], .int .i64 a1, .int .i64 a2] w fun e w' => e = .returned (.bool r) ∧ Below w.heap.size w w' := by
 have hu26 := Try.underlying26; have HR0_2 := A_ hr0_2; have HC0_2 := A_ hc0_2; clear hr0_2 hc0_2; have HB := A_ (Below.refl w.heap.size w); have H : (if 0 ≤ a1 then (if a1 < (l0_2.length : Int) then (if 0 ≤ a2 then (some ((Go.bits .and .i64 (shr .i64 (rd l0_2 a1) a2) 1) == 1)) else (none)) else (none)) else (none)) = some r := h; clear h; by_cases c4 : 0 ≤ a1
 ·
  rw [if_pos c4] at H; have c4b0 := decide_eq_true c4; clear c4; by_cases c5 : a1 < (l0_2.length : Int)
  ·
   rw [if_pos c5] at H; have c5b0 := decide_eq_true c5; clear c5; by_cases c6 : 0 ≤ a2
   ·
    rw [if_pos c6] at H; have c6b0 := eq_true c6; have c6b1 := decide_eq_true c6; clear c6; obtain ⟨ji7, hji7⟩ : ∃ j_ : Int, (shr .i64 (rd l0_2 a1) a2) = j_ := ⟨_, rfl⟩
    replace H : (some ((Go.bits .and .i64 (ji7) 1) == 1)) = some r := by first | (rw [hji7] at H; exact H) | (simp only [hji7] at H ⊢; exact H)
    have hji7_ : ((rd l0_2 a1) / 2 ^ min a2.toNat 64) = ji7 := hji7; have hji7z : a2 ≤ 64 → ((rd l0_2 a1) / 2 ^ a2.toNat) = ji7 := shr_small hji7; obtain rfl := Option.some.inj H; go_enter Try.func119, Try.ntmps119; go_wp2_with (first | (refine gd_ 3 ?_; refine bx_ 3 #[.int .i64 a0_0, .int .i64 a0_1, .slice A0_2 l0_2.length c0_2] 26 ?_; intro gb231 hg w8 hbox hb; have BK231 := A_ (hbox); have GW231 := A_ ((ts_ hg : w.heap.size ≤ gb231)); have GE231 := A_ ((ts_ hg : w.heap.size ≤ gb231)); replace HB := A_ (below_step tb_ hb); clear hb hbox hg; obtain ⟨hcz9_0, hcz9_1, hcz9_2, hfz9_0, hfz9_1, hfz9_2⟩ := cf3_ BK231.out; have p232 : 0 ≤ (a1 : Int) := od_; have q232 : a1 < (l0_2.length : Int) := od_; obtain ⟨ad232, e232, hx232_0⟩ := Kd.at_int HR0_2.out a1 p232 q232; cases e232; (try replace hx232_0 := (HB.out.cell (World.block_lt_of_cell? w _ hx232_0)).trans hx232_0); replace p232 := eq_true p232; replace q232 := eq_true q232))
    go_ret; exact ⟨by first | rfl | (simp [errW_none, errW_some] <;> rfl) | (simp only [← hji7]; first | rfl | (simp [errW_none, errW_some] <;> rfl)) | (simp [*, errW_none, errW_some] <;> rfl), tb_⟩
   ·
    exact nx_ c6 H
  ·
   exact nx_ c5 H
 ·
  exact nx_ c4 H

/-! ### spec_boPlace: function 85 -/
def spec_boPlace.f (k : Nat) (a0_0 : Int) (a0_1 : Int) (l0_2 : List Int) (a1 : Int) (a2 : Int) : Option (Bool) := (spec_boGood.f k a0_0 a0_1 l0_2).bind fun t262 => (if t262 = true then ((spec_l1In.f a1 0 (wrap64 (a0_0 - 1))).bind fun t263 => (if t263 = true then ((spec_l1In.f a2 0 (wrap64 (a0_1 - 1))).bind fun t264 => (some t264)) else (some false))) else (some false))
theorem spec_boPlace.mono : ∀ a0 a1 a2 a3 a4 k, LeO (spec_boPlace.f k a0 a1 a2 a3 a4) (spec_boPlace.f (k + 1) a0 a1 a2 a3 a4) := by
 intro a0 a1 a2 a3 a4 k; unfold spec_boPlace.f
 repeat' first | (with_reducible first | exact spec_boGood.mono _ _ _ _ | exact LeO.refl _ | exact LeO.none _ | refine LeO.ite ?_ ?_ | refine LeO.bind ?_ (fun _ => ?_)) | exact spec_boGood.mono _ _ _ _ | exact LeO.none _ | refine LeO.ite ?_ ?_ | refine LeO.bind ?_ (fun _ => ?_)
theorem spec_boPlace.calls (k : Nat) (a0_0 : Int) (a0_1 : Int) (A0_2 : Option Addr) (c0_2 : Nat) (l0_2 : List Int) (a1 : Int) (a2 : Int) (r : Bool) (w : World) (hr0_2 : Kd.C (Kd.int .i64) w A0_2 l0_2.length l0_2) (hc0_2 : l0_2.length ≤ c0_2) (h : spec_boPlace.f k a0_0 a0_1 l0_2 a1 a2 = some r) :
  Calls Try.prog 85 #[.agg #[.int .i64 a0_0, .int .i64 a0_1, .slice A0_2 l0_2.length c0_2], .int .i64 a1, .int .i64 a2] w fun e w' => e = .returned (.bool r) ∧ Below w.heap.size w w' := by
 have hu26 := Try.underlying26; have HR0_2 := A_ hr0_2; have HC0_2 := A_ hc0_2; clear hr0_2 hc0_2; have HB := A_ (Below.refl w.heap.size w); have H : ((spec_boGood.f k a0_0 a0_1 l0_2).bind fun t262 => (if t262 = true then ((spec_l1In.f a1 0 (wrap64 (a0_0 - 1))).bind fun t263 => (if t263 = true then ((spec_l1In.f a2 0 (wrap64 (a0_1 - 1))).bind fun t264 => (some t264)) else (some false))) else (some false))) = some r := h; clear h; replace H := Option.bind_eq_some_iff.mp H; obtain ⟨t262, A40, H⟩ := H; (try dsimp only at H); have A4 := A_ A40; clear A40; by_cases c5 : t262 = true
 ·
  subst c5; rw [if_pos rfl] at H; replace H := Option.bind_eq_some_iff.mp H; obtain ⟨t263, A60, H⟩ := H; (try dsimp only at H); have A6 := A_ A60; clear A60; by_cases c7 : t263 = true
  ·
   subst c7; rw [if_pos rfl] at H; replace H := Option.bind_eq_some_iff.mp H; obtain ⟨t264, A80, H⟩ := H; replace H : (some t264) = some r := H; have A8 := A_ A80; clear A80; obtain rfl := Option.some.inj H; go_enter Try.func85, Try.ntmps85; go_wp2_with (first | (refine gd_ 3 ?_; refine bx_ 3 #[.int .i64 a0_0, .int .i64 a0_1, .slice A0_2 l0_2.length c0_2] 26 ?_; intro gb261 hg w9 hbox hb; have BK261 := A_ (hbox); have GW261 := A_ ((ts_ hg : w.heap.size ≤ gb261)); have GE261 := A_ ((ts_ hg : w.heap.size ≤ gb261)); replace HB := A_ (below_step tb_ hb); clear hb hbox hg; obtain ⟨hcz10_0, hcz10_1, hcz10_2, hfz10_0, hfz10_1, hfz10_2⟩ := cf3_ BK261.out) | (refine gc_ 79 ?_; refine goesT_ (some 8) Try.func79 #[.agg #[.int .i64 a0_0, .int .i64 a0_1, .slice A0_2 l0_2.length c0_2]] ?_; (with_reducible refine (spec_boGood.calls k a0_0 a0_1 _ _ l0_2 true _ ?side1 ?side2 A4.out).mono ?_); (case side1 => exact tc_ HR0_2.out); (case side2 => exact HC0_2.out); rintro e w11 ⟨rfl, hb⟩; refine ⟨_, rfl, ?_⟩; replace BK261 := A_ (blk_below (g := gb261) (o := .cells #[.int .i64 a0_0, .int .i64 a0_1, .slice A0_2 l0_2.length c0_2] 26 (0, 0)) (tk_ BK261) hb); replace HB := A_ (below_step tb_ hb); (try clear hb); obtain ⟨hcz12_0, hcz12_1, hcz12_2, hfz12_0, hfz12_1, hfz12_2⟩ := cf3_ BK261.out) | (go_at_call 105; (with_reducible refine (spec_l1In.calls a1 0 (wrap64 (a0_0 - 1)) true _ A6.out).mono ?_); rintro e w' ⟨rfl, ⟨nd, rfl⟩⟩) | (go_at_call 105; (with_reducible refine (spec_l1In.calls a2 0 (wrap64 (a0_1 - 1)) t264 _ A8.out).mono ?_); rintro e w' ⟨rfl, ⟨nd, rfl⟩⟩))
   go_ret; exact ⟨te_, tb_⟩
  ·
   replace c7 := Bool.eq_false_iff.mpr c7; subst c7; rw [if_neg (show ¬ (false = true) by decide)] at H; obtain rfl := Option.some.inj H; go_enter Try.func85, Try.ntmps85; go_wp2_with (first | (refine gd_ 3 ?_; refine bx_ 3 #[.int .i64 a0_0, .int .i64 a0_1, .slice A0_2 l0_2.length c0_2] 26 ?_; intro gb261 hg w13 hbox hb; have BK261 := A_ (hbox); have GW261 := A_ ((ts_ hg : w.heap.size ≤ gb261)); have GE261 := A_ ((ts_ hg : w.heap.size ≤ gb261)); replace HB := A_ (below_step tb_ hb); clear hb hbox hg; obtain ⟨hcz14_0, hcz14_1, hcz14_2, hfz14_0, hfz14_1, hfz14_2⟩ := cf3_ BK261.out) | (refine gc_ 79 ?_; refine goesT_ (some 8) Try.func79 #[.agg #[.int .i64 a0_0, .int .i64 a0_1, .slice A0_2 l0_2.length c0_2]] ?_; (with_reducible refine (spec_boGood.calls k a0_0 a0_1 _ _ l0_2 true _ ?side1 ?side2 A4.out).mono ?_); (case side1 => exact tc_ HR0_2.out); (case side2 => exact HC0_2.out); rintro e w15 ⟨rfl, hb⟩; refine ⟨_, rfl, ?_⟩; replace BK261 := A_ (blk_below (g := gb261) (o := .cells #[.int .i64 a0_0, .int .i64 a0_1, .slice A0_2 l0_2.length c0_2] 26 (0, 0)) (tk_ BK261) hb); replace HB := A_ (below_step tb_ hb); (try clear hb); obtain ⟨hcz16_0, hcz16_1, hcz16_2, hfz16_0, hfz16_1, hfz16_2⟩ := cf3_ BK261.out) | (go_at_call 105; (with_reducible refine (spec_l1In.calls a1 0 (wrap64 (a0_0 - 1)) false _ A6.out).mono ?_); rintro e w' ⟨rfl, ⟨nd, rfl⟩⟩))
   go_ret; exact ⟨te_, tb_⟩
 ·
  replace c5 := Bool.eq_false_iff.mpr c5; subst c5; rw [if_neg (show ¬ (false = true) by decide)] at H; obtain rfl := Option.some.inj H; go_enter Try.func85, Try.ntmps85; go_wp2_with (first | (refine gd_ 3 ?_; refine bx_ 3 #[.int .i64 a0_0, .int .i64 a0_1, .slice A0_2 l0_2.length c0_2] 26 ?_; intro gb261 hg w17 hbox hb; have BK261 := A_ (hbox); have GW261 := A_ ((ts_ hg : w.heap.size ≤ gb261)); have GE261 := A_ ((ts_ hg : w.heap.size ≤ gb261)); replace HB := A_ (below_step tb_ hb); clear hb hbox hg; obtain ⟨hcz18_0, hcz18_1, hcz18_2, hfz18_0, hfz18_1, hfz18_2⟩ := cf3_ BK261.out) | (refine gc_ 79 ?_; refine goesT_ (some 8) Try.func79 #[.agg #[.int .i64 a0_0, .int .i64 a0_1, .slice A0_2 l0_2.length c0_2]] ?_; (with_reducible refine (spec_boGood.calls k a0_0 a0_1 _ _ l0_2 false _ ?side1 ?side2 A4.out).mono ?_); (case side1 => exact tc_ HR0_2.out); (case side2 => exact HC0_2.out); rintro e w19 ⟨rfl, hb⟩; refine ⟨_, rfl, ?_⟩; replace BK261 := A_ (blk_below (g := gb261) (o := .cells #[.int .i64 a0_0, .int .i64 a0_1, .slice A0_2 l0_2.length c0_2] 26 (0, 0)) (tk_ BK261) hb); replace HB := A_ (below_step tb_ hb); (try clear hb)))
  go_ret; exact ⟨te_, tb_⟩

/-! ### impl_HasCell: function 82 -/
def impl_HasCell.f (a0_0 : Int) (a0_1 : Int) (l0_2 : List Int) (a1 : Int) (a2 : Int) : Option (Bool × Bool) := (impl_IsBoard.f a0_0 a0_1 l0_2).bind fun t286 => (if t286 = true then ((impl_Board_place.f a0_0 a0_1 l0_2 a1 a2).bind fun t287 => (if t287 = true then ((impl_Board_has.f a0_0 a0_1 l0_2 a1 a2).bind fun t288 => (some (t288, true))) else (some (false, false)))) else (some (false, false)))
theorem impl_HasCell.calls (a0_0 : Int) (a0_1 : Int) (A0_2 : Option Addr) (c0_2 : Nat) (l0_2 : List Int) (a1 : Int) (a2 : Int) (r1 : Bool) (r2 : Bool) (w : World) (hr0_2 : Kd.C (Kd.int .i64) w A0_2 l0_2.length l0_2) (hc0_2 : l0_2.length ≤ c0_2) (h : impl_HasCell.f a0_0 a0_1 l0_2 a1 a2 = some (r1, r2)) :
  Calls Try.prog 82 #[.agg #[.int .i64 a0_0, .int .i64 a0_1, .slice A0_2 l0_2.length c0_2], .int .i64 a1, .int .i64 a2] w fun e w' => e = .returned (.tuple #[.bool r1, .bool r2]) ∧ Below w.heap.size w w' := by
 have hu26 := Try.underlying26; have HR0_2 := A_ hr0_2; have HC0_2 := A_ hc0_2; clear hr0_2 hc0_2; have HB := A_ (Below.refl w.heap.size w); have H : ((impl_IsBoard.f a0_0 a0_1 l0_2).bind fun t286 => (if t286 = true then ((impl_Board_place.f a0_0 a0_1 l0_2 a1 a2).bind fun t287 => (if t287 = true then ((impl_Board_has.f a0_0 a0_1 l0_2 a1 a2).bind fun t288 => (some (t288, true))) else (some (false, false)))) else (some (false, false)))) = some (r1, r2) := h; clear h; replace H := Option.bind_eq_some_iff.mp H; obtain ⟨t286, A40, H⟩ := H; (try dsimp only at H); have A4 := A_ A40; clear A40; by_cases c5 : t286 = true
 ·
  subst c5; rw [if_pos rfl] at H; replace H := Option.bind_eq_some_iff.mp H; obtain ⟨t287, A60, H⟩ := H; (try dsimp only at H); have A6 := A_ A60; clear A60; by_cases c7 : t287 = true
  ·
   subst c7; rw [if_pos rfl] at H; replace H := Option.bind_eq_some_iff.mp H; obtain ⟨t288, A80, H⟩ := H; replace H : (some (t288, true)) = some (r1, r2) := H; have A8 := A_ A80; clear A80; simp only [Option.some.injEq, Prod.mk.injEq] at H; obtain ⟨rfl, rfl⟩ := H; go_enter Try.func82, Try.ntmps82; go_wp2_with (first | (refine gd_ 3 ?_; refine bx_ 3 #[.int .i64 a0_0, .int .i64 a0_1, .slice A0_2 l0_2.length c0_2] 26 ?_; intro gb285 hg w9 hbox hb; have BK285 := A_ (hbox); have GW285 := A_ ((ts_ hg : w.heap.size ≤ gb285)); have GE285 := A_ ((ts_ hg : w.heap.size ≤ gb285)); replace HB := A_ (below_step tb_ hb); clear hb hbox hg; obtain ⟨hcz10_0, hcz10_1, hcz10_2, hfz10_0, hfz10_1, hfz10_2⟩ := cf3_ BK285.out) | (refine gc_ 76 ?_; refine goesT_ (some 9) Try.func76 #[.agg #[.int .i64 a0_0, .int .i64 a0_1, .slice A0_2 l0_2.length c0_2]] ?_; (with_reducible refine (impl_IsBoard.calls a0_0 a0_1 _ _ l0_2 true _ ?side1 ?side2 A4.out).mono ?_); (case side1 => exact tc_ HR0_2.out); (case side2 => exact HC0_2.out); rintro e w11 ⟨rfl, hb⟩; refine ⟨_, rfl, ?_⟩; replace BK285 := A_ (blk_below (g := gb285) (o := .cells #[.int .i64 a0_0, .int .i64 a0_1, .slice A0_2 l0_2.length c0_2] 26 (0, 0)) (tk_ BK285) hb); replace HB := A_ (below_step tb_ hb); (try clear hb); obtain ⟨hcz12_0, hcz12_1, hcz12_2, hfz12_0, hfz12_1, hfz12_2⟩ := cf3_ BK285.out) | (go_at_call 81; (with_reducible refine (impl_Board_place.calls a0_0 a0_1 _ _ l0_2 a1 a2 true _ ?side1 ?side2 A6.out).mono ?_); (case side1 => exact tc_ HR0_2.out); (case side2 => exact HC0_2.out); rintro e w13 ⟨rfl, hb⟩; replace BK285 := A_ (blk_below (g := gb285) (o := .cells #[.int .i64 a0_0, .int .i64 a0_1, .slice A0_2 l0_2.length c0_2] 26 (0, 0)) (tk_ BK285) hb); replace HB := A_ (below_step tb_ hb); (try clear hb); obtain ⟨hcz14_0, hcz14_1, hcz14_2, hfz14_0, hfz14_1, hfz14_2⟩ := cf3_ BK285.out) | (refine gc_ 119 ?_; refine goesT_ (some 21) Try.func119 #[.agg #[.int .i64 a0_0, .int .i64 a0_1, .slice A0_2 l0_2.length c0_2], .int .i64 a1, .int .i64 a2] ?_; (with_reducible refine (impl_Board_has.calls a0_0 a0_1 _ _ l0_2 a1 a2 t288 _ ?side1 ?side2 A8.out).mono ?_); (case side1 => exact tc_ HR0_2.out); (case side2 => exact HC0_2.out); rintro e w15 ⟨rfl, hb⟩; refine ⟨_, rfl, ?_⟩; replace BK285 := A_ (blk_below (g := gb285) (o := .cells #[.int .i64 a0_0, .int .i64 a0_1, .slice A0_2 l0_2.length c0_2] 26 (0, 0)) (tk_ BK285) hb); replace HB := A_ (below_step tb_ hb); (try clear hb)))
   go_ret2; exact ⟨te_, tb_⟩
  ·
   replace c7 := Bool.eq_false_iff.mpr c7; subst c7; rw [if_neg (show ¬ (false = true) by decide)] at H; simp only [Option.some.injEq, Prod.mk.injEq] at H; obtain ⟨rfl, rfl⟩ := H; go_enter Try.func82, Try.ntmps82; go_wp2_with (first | (refine gd_ 3 ?_; refine bx_ 3 #[.int .i64 a0_0, .int .i64 a0_1, .slice A0_2 l0_2.length c0_2] 26 ?_; intro gb285 hg w16 hbox hb; have BK285 := A_ (hbox); have GW285 := A_ ((ts_ hg : w.heap.size ≤ gb285)); have GE285 := A_ ((ts_ hg : w.heap.size ≤ gb285)); replace HB := A_ (below_step tb_ hb); clear hb hbox hg; obtain ⟨hcz17_0, hcz17_1, hcz17_2, hfz17_0, hfz17_1, hfz17_2⟩ := cf3_ BK285.out) | (refine gc_ 76 ?_; refine goesT_ (some 9) Try.func76 #[.agg #[.int .i64 a0_0, .int .i64 a0_1, .slice A0_2 l0_2.length c0_2]] ?_; (with_reducible refine (impl_IsBoard.calls a0_0 a0_1 _ _ l0_2 true _ ?side1 ?side2 A4.out).mono ?_); (case side1 => exact tc_ HR0_2.out); (case side2 => exact HC0_2.out); rintro e w18 ⟨rfl, hb⟩; refine ⟨_, rfl, ?_⟩; replace BK285 := A_ (blk_below (g := gb285) (o := .cells #[.int .i64 a0_0, .int .i64 a0_1, .slice A0_2 l0_2.length c0_2] 26 (0, 0)) (tk_ BK285) hb); replace HB := A_ (below_step tb_ hb); (try clear hb); obtain ⟨hcz19_0, hcz19_1, hcz19_2, hfz19_0, hfz19_1, hfz19_2⟩ := cf3_ BK285.out) | (go_at_call 81; (with_reducible refine (impl_Board_place.calls a0_0 a0_1 _ _ l0_2 a1 a2 false _ ?side1 ?side2 A6.out).mono ?_); (case side1 => exact tc_ HR0_2.out); (case side2 => exact HC0_2.out); rintro e w20 ⟨rfl, hb⟩; replace BK285 := A_ (blk_below (g := gb285) (o := .cells #[.int .i64 a0_0, .int .i64 a0_1, .slice A0_2 l0_2.length c0_2] 26 (0, 0)) (tk_ BK285) hb); replace HB := A_ (below_step tb_ hb); (try clear hb)))
   go_ret2; exact ⟨te_, tb_⟩
 ·
  replace c5 := Bool.eq_false_iff.mpr c5; subst c5; rw [if_neg (show ¬ (false = true) by decide)] at H; simp only [Option.some.injEq, Prod.mk.injEq] at H; obtain ⟨rfl, rfl⟩ := H; go_enter Try.func82, Try.ntmps82; go_wp2_with (first | (refine gd_ 3 ?_; refine bx_ 3 #[.int .i64 a0_0, .int .i64 a0_1, .slice A0_2 l0_2.length c0_2] 26 ?_; intro gb285 hg w21 hbox hb; have BK285 := A_ (hbox); have GW285 := A_ ((ts_ hg : w.heap.size ≤ gb285)); have GE285 := A_ ((ts_ hg : w.heap.size ≤ gb285)); replace HB := A_ (below_step tb_ hb); clear hb hbox hg; obtain ⟨hcz22_0, hcz22_1, hcz22_2, hfz22_0, hfz22_1, hfz22_2⟩ := cf3_ BK285.out) | (refine gc_ 76 ?_; refine goesT_ (some 9) Try.func76 #[.agg #[.int .i64 a0_0, .int .i64 a0_1, .slice A0_2 l0_2.length c0_2]] ?_; (with_reducible refine (impl_IsBoard.calls a0_0 a0_1 _ _ l0_2 false _ ?side1 ?side2 A4.out).mono ?_); (case side1 => exact tc_ HR0_2.out); (case side2 => exact HC0_2.out); rintro e w23 ⟨rfl, hb⟩; refine ⟨_, rfl, ?_⟩; replace BK285 := A_ (blk_below (g := gb285) (o := .cells #[.int .i64 a0_0, .int .i64 a0_1, .slice A0_2 l0_2.length c0_2] 26 (0, 0)) (tk_ BK285) hb); replace HB := A_ (below_step tb_ hb); (try clear hb)))
  go_ret2; exact ⟨te_, tb_⟩

/-! ### laws_rOn: function 13 -/
def laws_rOn.f (a0_0 : Int) (a0_1 : Int) (l0_2 : List Int) (a1 : Int) (a2 : Int) : Option (Bool) := (impl_HasCell.f a0_0 a0_1 l0_2 a1 a2).bind fun bt290 => (if bt290.2 = true then (some bt290.1) else (some false))
theorem laws_rOn.calls (a0_0 : Int) (a0_1 : Int) (A0_2 : Option Addr) (c0_2 : Nat) (l0_2 : List Int) (a1 : Int) (a2 : Int) (r : Bool) (w : World) (hr0_2 : Kd.C (Kd.int .i64) w A0_2 l0_2.length l0_2) (hc0_2 : l0_2.length ≤ c0_2) (h : laws_rOn.f a0_0 a0_1 l0_2 a1 a2 = some r) :
  Calls Try.prog 13 #[.agg #[.int .i64 a0_0, .int .i64 a0_1, .slice A0_2 l0_2.length c0_2], .int .i64 a1, .int .i64 a2] w fun e w' => e = .returned (.bool r) ∧ Below w.heap.size w w' := by
 have hu26 := Try.underlying26; have HR0_2 := A_ hr0_2; have HC0_2 := A_ hc0_2; clear hr0_2 hc0_2; have HB := A_ (Below.refl w.heap.size w); have H : ((impl_HasCell.f a0_0 a0_1 l0_2 a1 a2).bind fun bt290 => (if bt290.2 = true then (some bt290.1) else (some false))) = some r := h; clear h; replace H := Option.bind_eq_some_iff.mp H; obtain ⟨⟨t290, t291⟩, A40, H⟩ := H; (try dsimp only at H); have A4 := A_ A40; clear A40; by_cases c5 : t291 = true
 ·
  subst c5; rw [if_pos rfl] at H; obtain rfl := Option.some.inj H; go_enter Try.func13, Try.ntmps13; go_wp2_with (first | (refine gd_ 3 ?_; refine bx_ 3 #[.int .i64 a0_0, .int .i64 a0_1, .slice A0_2 l0_2.length c0_2] 26 ?_; intro gb289 hg w6 hbox hb; have BK289 := A_ (hbox); have GW289 := A_ ((ts_ hg : w.heap.size ≤ gb289)); have GE289 := A_ ((ts_ hg : w.heap.size ≤ gb289)); replace HB := A_ (below_step tb_ hb); clear hb hbox hg; obtain ⟨hcz7_0, hcz7_1, hcz7_2, hfz7_0, hfz7_1, hfz7_2⟩ := cf3_ BK289.out) | (refine gc_ 82 ?_; refine goesT_ (some 13) Try.func82 #[.agg #[.int .i64 a0_0, .int .i64 a0_1, .slice A0_2 l0_2.length c0_2], .int .i64 a1, .int .i64 a2] ?_; (with_reducible refine (impl_HasCell.calls a0_0 a0_1 _ _ l0_2 a1 a2 t290 true _ ?side1 ?side2 A4.out).mono ?_); (case side1 => exact tc_ HR0_2.out); (case side2 => exact HC0_2.out); rintro e w8 ⟨rfl, hb⟩; refine ⟨_, rfl, ?_⟩; replace BK289 := A_ (blk_below (g := gb289) (o := .cells #[.int .i64 a0_0, .int .i64 a0_1, .slice A0_2 l0_2.length c0_2] 26 (0, 0)) (tk_ BK289) hb); replace HB := A_ (below_step tb_ hb); (try clear hb)))
  go_ret; exact ⟨te_, tb_⟩
 ·
  replace c5 := Bool.eq_false_iff.mpr c5; subst c5; rw [if_neg (show ¬ (false = true) by decide)] at H; obtain rfl := Option.some.inj H; go_enter Try.func13, Try.ntmps13; go_wp2_with (first | (refine gd_ 3 ?_; refine bx_ 3 #[.int .i64 a0_0, .int .i64 a0_1, .slice A0_2 l0_2.length c0_2] 26 ?_; intro gb289 hg w9 hbox hb; have BK289 := A_ (hbox); have GW289 := A_ ((ts_ hg : w.heap.size ≤ gb289)); have GE289 := A_ ((ts_ hg : w.heap.size ≤ gb289)); replace HB := A_ (below_step tb_ hb); clear hb hbox hg; obtain ⟨hcz10_0, hcz10_1, hcz10_2, hfz10_0, hfz10_1, hfz10_2⟩ := cf3_ BK289.out) | (refine gc_ 82 ?_; refine goesT_ (some 13) Try.func82 #[.agg #[.int .i64 a0_0, .int .i64 a0_1, .slice A0_2 l0_2.length c0_2], .int .i64 a1, .int .i64 a2] ?_; (with_reducible refine (impl_HasCell.calls a0_0 a0_1 _ _ l0_2 a1 a2 t290 false _ ?side1 ?side2 A4.out).mono ?_); (case side1 => exact tc_ HR0_2.out); (case side2 => exact HC0_2.out); rintro e w11 ⟨rfl, hb⟩; refine ⟨_, rfl, ?_⟩; replace BK289 := A_ (blk_below (g := gb289) (o := .cells #[.int .i64 a0_0, .int .i64 a0_1, .slice A0_2 l0_2.length c0_2] 26 (0, 0)) (tk_ BK289) hb); replace HB := A_ (below_step tb_ hb); (try clear hb)))
  go_ret; exact ⟨te_, tb_⟩

/-! ### impl_newBoard: function 157 -/
def impl_newBoard.f (a0 : Int) (a1 : Int) : Option (Int × Int × List Int) := if 0 ≤ a0 then (if (a0 : Int).toNat ≤ 35184372088832 then (some (a0, a1, (List.replicate (a0 : Int).toNat 0))) else (none)) else (none)
theorem impl_newBoard.calls (a0 : Int) (a1 : Int) (r1 : Int) (r2 : Int) (r3 : List Int) (w : World) (h : impl_newBoard.f a0 a1 = some (r1, r2, r3)) :
  Calls Try.prog 157 #[.int .i64 a0, .int .i64 a1] w fun e w' => ∃ v2_ : Value, e = .returned (.agg #[.int .i64 r1, .int .i64 r2, v2_]) ∧ Kd.R (Kd.int .i64) 3 w' w.heap.size (fun _ => True) v2_ r3 ∧ Below w.heap.size w w' := by
 have hu26 := Try.underlying26; have HB := A_ (Below.refl w.heap.size w); have H : (if 0 ≤ a0 then (if (a0 : Int).toNat ≤ 35184372088832 then (some (a0, a1, (List.replicate (a0 : Int).toNat 0))) else (none)) else (none)) = some (r1, r2, r3) := h; clear h; by_cases c3 : 0 ≤ a0
 ·
  rw [if_pos c3] at H; have c3b0 := eq_true c3; have c3b1 := decide_eq_true c3; clear c3; by_cases c4 : (a0 : Int).toNat ≤ 35184372088832
  ·
   rw [if_pos c4] at H; have c4b0 := eq_true c4; have c4b1 := decide_eq_true c4; clear c4; obtain ⟨y523, hy523⟩ : ∃ y_ : List Int, y_ = (List.replicate (a0 : Int).toNat 0) := ⟨_, rfl⟩
   replace H : (some (a0, a1, y523)) = some (r1, r2, r3) := ty_ hy523 H; have Ny523 := A_ hy523; clear hy523; simp only [Option.some.injEq, Prod.mk.injEq] at H; obtain ⟨rfl, rfl, rfl⟩ := H; go_enter Try.func157, Try.ntmps157; go_wp2_with (first | (refine gd_ 4 ?_; refine bx_ 4 #[.int .i64 0, .int .i64 0, .slice none 0 0] 26 ?_; intro gb522 hg w5 hbox hb; have BK522 := A_ (hbox); have GW522 := A_ ((ts_ hg : w.heap.size ≤ gb522)); have GE522 := A_ ((ts_ hg : w.heap.size ≤ gb522)); replace HB := A_ (below_step tb_ hb); clear hb hbox hg) | (refine gd_ 8 ?_; refine Kd.R_make (Kd.int .i64) _ 3 rfl (N := 8) rfl 24 _ _ rfl a0 rfl rfl Try.underlying24 (.int .i64 0) 8 info3 rfl (by decide) (by omega) 0 (ok := fun _ => True) (okp := fun _ => True) rfl (fun _ hk => hk) trivial (od_) (Nat.le_trans (Nat.mul_le_mul_right _ (od_ : a0.toNat ≤ 35184372088832)) (by omega)) (Below.refl _ _) (Nat.le_refl _) ?_; intro v524 w6 ho7 hb hg_ hnew_; clear hg_ hnew_; (first | rw [← Ny523.out] at ho7 | (simp only [Int.reduceToNat] at ho7; rw [← Ny523.out] at ho7)); have HO525 := A_ (Kd.R_lower ho7 (below_size tb_)); replace BK522 := A_ (blk_below (g := gb522) (o := .cells #[.int .i64 0, .int .i64 0, .slice none 0 0] 26 (0, 0)) (tk_ BK522) hb); replace HB := A_ (below_step tb_ hb); clear hb ho7; obtain ⟨Ao8, co8, eo8⟩ := Kd.R_slice HO525.out; subst eo8; obtain ⟨hcz9_0, hcz9_1, hcz9_2, hfz9_0, hfz9_1, hfz9_2⟩ := cf3_ BK522.out))
   refine bodyPost_ret (results_cell_row rfl _ _ gb522 26 #[.int .i64 a0, .int .i64 a1, .slice Ao8 y523.length co8] (0, 0) _ rfl (by (with_reducible repeat (first | refine blk_drewN ?_ _ | refine blk_drew ?_ | refine blk_alloc ?_ _)); refine blk_put (cs := #[.int .i64 a0, .int .i64 a1, .slice none 0 0]) ?_ 2 _ rfl; (with_reducible repeat (first | refine blk_drewN ?_ _ | refine blk_drew ?_ | refine blk_alloc ?_ _)); refine blk_put (cs := #[.int .i64 a0, .int .i64 0, .slice none 0 0]) ?_ 1 _ rfl; (with_reducible repeat (first | refine blk_drewN ?_ _ | refine blk_drew ?_ | refine blk_alloc ?_ _)); refine blk_put (cs := #[.int .i64 0, .int .i64 0, .slice none 0 0]) ?_ 0 _ rfl; (with_reducible repeat (first | refine blk_drewN ?_ _ | refine blk_drew ?_ | refine blk_alloc ?_ _)); exact BK522.out) Try.underlying26 rfl (by kernel_rfl)) rfl ?_; exact ⟨_, te_, by (with_reducible repeat (first | apply Kd.R_alloc | apply Kd.R_drewN | apply Kd.R_drew)); exact Kd.R_mono (Kd.R_far (p := ⟨gb522, 2, none⟩) (Kd.R_far (p := ⟨gb522, 1, none⟩) (Kd.R_far (p := ⟨gb522, 0, none⟩) (Kd.R_types HO525.out BK522.out (by decide)) (fun _ hk => hk.2) (.int .i64 a0)) (fun _ hk => hk.2) (.int .i64 a1)) (fun _ hk => hk.2) (.slice Ao8 y523.length co8)) (fun _ hk => trivial), tb_⟩
  ·
   exact nx_ c4 H
 ·
  exact nx_ c3 H

/-! ### slices_Clone_int_int: function 107 -/
def slices_Clone_int_int.f (l0 : List Int) : Option (List Int) := if l0.length < 17592186044416 then some l0 else none
theorem slices_Clone_int_int.calls (A0 : Option Addr) (c0 : Nat) (l0 : List Int) (r : List Int) (w : World) (hr0 : Kd.C (Kd.int .i64) w A0 l0.length l0) (hc0 : l0.length ≤ c0) (h : slices_Clone_int_int.f l0 = some r) :
  Calls Try.prog 107 #[.slice A0 l0.length c0] w fun e w' => ∃ v0_ : Value, e = .returned (v0_) ∧ Kd.R (Kd.int .i64) 3 w' w.heap.size (fun _ => True) v0_ r ∧ Below w.heap.size w w' := by
 have hr : l0.length < 17592186044416 ∧ l0 = r := by
  unfold slices_Clone_int_int.f at h
  split at h
  ·
   exact ⟨‹_›, Option.some.inj h⟩
  ·
   cases h
 clear h; obtain ⟨hlim, rfl⟩ := hr; have hnil := fun (W : World) (A : Option Addr) (n c : Nat) => Lib.run_eql_slice_nil (P := Try.prog) W 24 3 A n c 0 0 Try.underlying24
 have HB := A_ (Below.refl w.heap.size w); cases A0 with
 | none =>
  have h0 : l0 = [] := by
   cases l0 with
   | nil => rfl
   | cons x l =>
    obtain ⟨ad, hh, _⟩ := hr0.2.2 (by simp); cases hh
  subst h0; clear hlim hr0; go_enter Try.func107, Try.ntmps107; go_wp2; go_ret; exact ⟨.slice none 0 0, rfl, Kd.R_nil _ _ _ _ _, Below.refl _ _⟩
 | some ad0 =>
  have HR0 := A_ hr0; have HC0 := A_ hc0; clear hr0 hc0; obtain ⟨y408, hy408⟩ : ∃ y_ : List Int, y_ = (([] : List Int)) := ⟨_, rfl⟩
  have hy411 : l0 = y408 ++ l0 := by rw [hy408]; rfl
  have LMc2 : Aside0 (y408.length + l0.length < 17592186044416) := ⟨by rw [hy408]; simpa using hlim⟩
  have Ny408 := A_ hy408; have Ny411 := A_ hy411; clear hy408 hy411 hlim; go_enter Try.func107, Try.ntmps107; go_wp2_with (first | (refine gd_ 5 ?_; refine Kd.R_lit (Kd.int .i64) _ 3 ?hg (N := 5) ?hd (xs := ([] : List Int)) (inner := []) (ok := fun _ => True) (okp := fun _ => True) ?hr ?hp (fun _ hk => hk) trivial (Below.refl _ _) (Nat.le_refl _) (by simp) ?_; (case hd => rfl); (case hg => rfl); (case hr => first | (go_simp; done) | (go_simp; rfl)); (case hp => exact (Reps.none _ _)); intro v409 w3 ho4 hb hg_ hnew_; clear hg_ hnew_; (first | rw [← Ny408.out] at ho4 | (simp only [Int.reduceToNat] at ho4; rw [← Ny408.out] at ho4)); have HO410 := A_ (Kd.R_lower ho4 (below_size tb_)); replace HB := A_ (below_step tb_ hb); clear hb ho4) | ((with_reducible refine gate_builtin (b := .append) (xs := #[.tmp 5, .tmp 6]) rfl ?_); at_builtin; refine Kd.R_append_rows (Kd.int .i64) (w0 := w) w.heap.size rfl (.tmp 5) (.tmp 6) 24 3 (.int .i64 0) 8 rfl Try.underlying24 info3 rfl (by decide) (by omega) v409 y408 l0 _ _ _ (fun _ => True) (fun _ => False) rfl rfl ?aO ?aR (fun _ _ h => h) (fun _ h => h.elim) ?aF ?aB ?aS ?aL ?_; (case aR => repeat (first | exact (Kd.C_below HR0.out HB.out) | (with_reducible refine Kd.C_alloc ?_ _) | (with_reducible refine Kd.C_drewN ?_ _) | (with_reducible refine Kd.C_drew ?_))); (case aB => exact tb_); (case aF => exact (fun _ _ => trivial)); (case aO => exact (tr_x HO410.out)); (case aS => exact (below_size tb_)); (case aL => have := LMc2.out; omega); intro v412 w5 ho hb hg hat; rw [← Ny411.out] at ho; have n0_ := A_ (hb); have n1_ := A_ (ho); clear HB; clear HO410; have HB := n0_; have HO413 := n1_; clear n0_ n1_; clear ho hb hg hat))
  go_ret; exact ⟨_, te_, tr_x HO413.out, tb_⟩

/-! ### spec_l1Own: function 158 -/
def spec_l1Own.f (l0 : List Int) : Option (List Int) := (some (([] : List Int) : List Int)).bind fun y840 => (if y840.length + l0.length < 17592186044416 then (some (y840 ++ l0)) else (none))
theorem spec_l1Own.calls (A0 : Option Addr) (c0 : Nat) (l0 : List Int) (r : List Int) (w : World) (hr0 : Kd.C (Kd.int .i64) w A0 l0.length l0) (hc0 : l0.length ≤ c0) (h : spec_l1Own.f l0 = some r) :
  Calls Try.prog 158 #[.slice A0 l0.length c0] w fun e w' => ∃ v0_ : Value, e = .returned (v0_) ∧ Kd.R (Kd.int .i64) 3 w' w.heap.size (fun _ => True) v0_ r ∧ Below w.heap.size w w' := by
 have HR0 := A_ hr0; have HC0 := A_ hc0; clear hr0 hc0; have HB := A_ (Below.refl w.heap.size w); have H : ((some (([] : List Int) : List Int)).bind fun y840 => (if y840.length + l0.length < 17592186044416 then (some (y840 ++ l0)) else (none))) = some r := h; clear h; obtain ⟨y840, hy840⟩ : ∃ y_ : List Int, y_ = (([] : List Int)) := ⟨_, rfl⟩
 replace H : (if y840.length + l0.length < 17592186044416 then (some (y840 ++ l0)) else (none)) = some r := ty_ hy840 H; have Ny840 := A_ hy840; clear hy840; by_cases c2 : y840.length + l0.length < 17592186044416
 ·
  rw [if_pos c2] at H; have LMc2 := A_ c2; clear c2; obtain ⟨y843, hy843⟩ : ∃ y_ : List Int, y_ = (y840 ++ l0) := ⟨_, rfl⟩
  replace H : (some y843) = some r := ty_ hy843 H; have Ny843 := A_ hy843; clear hy843; obtain rfl := Option.some.inj H; go_enter Try.func158, Try.ntmps158; go_wp2_with (first | (refine gd_ 3 ?_; refine Kd.R_lit (Kd.int .i64) _ 3 ?hg (N := 3) ?hd (xs := ([] : List Int)) (inner := []) (ok := fun _ => True) (okp := fun _ => True) ?hr ?hp (fun _ hk => hk) trivial (Below.refl _ _) (Nat.le_refl _) (by simp) ?_; (case hd => rfl); (case hg => rfl); (case hr => first | (go_simp; done) | (go_simp; rfl)); (case hp => exact (Reps.none _ _)); intro v841 w3 ho4 hb hg_ hnew_; clear hg_ hnew_; (first | rw [← Ny840.out] at ho4 | (simp only [Int.reduceToNat] at ho4; rw [← Ny840.out] at ho4)); have HO842 := A_ (Kd.R_lower ho4 (below_size tb_)); replace HB := A_ (below_step tb_ hb); clear hb ho4) | ((with_reducible refine gate_builtin (b := .append) (xs := #[.tmp 3, .tmp 4]) rfl ?_); at_builtin; refine Kd.R_append_rows (Kd.int .i64) (w0 := w) w.heap.size rfl (.tmp 3) (.tmp 4) 24 3 (.int .i64 0) 8 rfl Try.underlying24 info3 rfl (by decide) (by omega) v841 y840 l0 _ _ _ (fun _ => True) (fun _ => False) rfl rfl ?aO ?aR (fun _ _ h => h) (fun _ h => h.elim) ?aF ?aB ?aS ?aL ?_; (case aR => exact tc_ HR0.out); (case aB => exact tb_); (case aF => exact (fun _ _ => trivial)); (case aO => exact (tr_x HO842.out)); (case aS => exact (below_size tb_)); (case aL => have := LMc2.out; omega); intro v844 w5 ho hb hg hat; rw [← Ny843.out] at ho; have n0_ := A_ (hb); have n1_ := A_ (ho); clear HB; clear HO842; have HB := n0_; have HO845 := n1_; clear n0_ n1_; clear ho hb hg hat))
  go_ret; exact ⟨_, te_, tr_x HO845.out, tb_⟩
 ·
  exact nx_ c2 H

/-! ### spec_DrawIsBoard: function 112 -/
def spec_DrawIsBoard.f (k : Nat) (l0 : List Int) : Option (Int × Int × List Int) := (spec_l1Cur_board.f k l0 0 0).bind fun bt943 => (some (bt943.1, bt943.2.1, bt943.2.2.1))
theorem spec_DrawIsBoard.mono : ∀ a0 k, LeO (spec_DrawIsBoard.f k a0) (spec_DrawIsBoard.f (k + 1) a0) := by
 intro a0 k; unfold spec_DrawIsBoard.f
 repeat' first | (with_reducible first | exact spec_l1Cur_board.mono _ _ _ _ | exact LeO.refl _ | exact LeO.none _ | refine LeO.ite ?_ ?_ | refine LeO.bind ?_ (fun _ => ?_)) | exact spec_l1Cur_board.mono _ _ _ _ | exact LeO.none _ | refine LeO.ite ?_ ?_ | refine LeO.bind ?_ (fun _ => ?_)
theorem spec_DrawIsBoard.calls (k : Nat) (A0 : Option Addr) (c0 : Nat) (l0 : List Int) (r1 : Int) (r2 : Int) (r3 : List Int) (w : World) (hr0 : Kd.C (Kd.int .u8) w A0 l0.length l0) (hc0 : l0.length ≤ c0) (h : spec_DrawIsBoard.f k l0 = some (r1, r2, r3)) :
  Calls Try.prog 112 #[.slice A0 l0.length c0] w fun e w' => ∃ v2_ : Value, e = .returned (.agg #[.int .i64 r1, .int .i64 r2, v2_]) ∧ Kd.R (Kd.int .i64) 3 w' w.heap.size (fun _ => True) v2_ r3 ∧ Below w.heap.size w w' := by
 have hu26 := Try.underlying26; have hu79 := Try.underlying79; have HR0 := A_ hr0; have HC0 := A_ hc0; clear hr0 hc0; have HB := A_ (Below.refl w.heap.size w); have H : ((spec_l1Cur_board.f k l0 0 0).bind fun bt943 => (some (bt943.1, bt943.2.1, bt943.2.2.1))) = some (r1, r2, r3) := h; clear h; replace H := Option.bind_eq_some_iff.mp H; obtain ⟨⟨t943, t944, t945, t948, t949⟩, A20, H⟩ := H; (try dsimp only at H); have A2 := A_ A20; clear A20; simp only [Option.some.injEq, Prod.mk.injEq] at H; obtain ⟨rfl, rfl, rfl⟩ := H; go_enter Try.func112, Try.ntmps112; go_wp2_with (first | (refine gd_ 2 ?_; refine bx_ 2 #[.int .i64 0, .int .i64 0, .slice none 0 0] 26 ?_; intro gb941 hg w3 hbox hb; have BK941 := A_ (hbox); have GW941 := A_ ((ts_ hg : w.heap.size ≤ gb941)); have GE941 := A_ ((ts_ hg : w.heap.size ≤ gb941)); replace HB := A_ (below_step tb_ hb); clear hb hbox hg) | (refine gd_ 6 ?_; refine bx_ 6 #[.slice A0 l0.length c0, .int .i64 0, .int .u64 0] 79 ?_; intro gb942 hg w4 hbox hb; have NB941_942 := A_ ((by rw [hg]; exact Nat.ne_of_lt (blk_lt (g := gb941) (o := .cells #[.int .i64 0, .int .i64 0, .slice none 0 0] 26 (0, 0)) (tk_ BK941)) : gb941 ≠ gb942)); have NB942_941 := A_ ((by rw [hg]; exact Nat.ne_of_gt (blk_lt (g := gb941) (o := .cells #[.int .i64 0, .int .i64 0, .slice none 0 0] 26 (0, 0)) (tk_ BK941)) : gb942 ≠ gb941)); replace BK941 := A_ (blk_below (g := gb941) (o := .cells #[.int .i64 0, .int .i64 0, .slice none 0 0] 26 (0, 0)) (tk_ BK941) hb); have HI942 := A_ ((⟨_, _, hbox, (by rw [hg]; exact (below_size tb_)), HR0.out⟩ : IsS79 w w4 gb942 l0 0 0)); replace HB := A_ (below_step tb_ hb); clear hb hbox hg) | (refine gc_ 87 ?_; refine goesT_ (some 8) Try.func87 #[.pointer (some ⟨gb942, 0, none⟩)] ?_; (with_reducible refine (spec_l1Cur_board.calls k gb942 l0 0 0 t943 t944 t945 t948 t949 w _ ?side1 ?side2 A2.out).mono ?_); (case side1 => repeat (first | (with_reducible first | exact HI942.out | apply IsS79.alloc | apply IsS79.drewN | apply IsS79.drew | apply IsS79.set_1 | apply IsS79.set_2 | refine IsS79.far ?_ NB942_941.out _) | exact HI942.out)); (case side2 => repeat (first | (with_reducible first | exact HB.out | apply below_alloc | apply pw_below_drewN | apply below_drew1 | refine below_set ?_ (IsS79.ge HI942.out) | refine below_set ?_ GE941.out) | exact HB.out)); rintro e w5 ⟨v946, rfl, ho0, hi, hb, hk⟩; refine ⟨_, rfl, ?_⟩; replace BK941 := A_ (KeepBut.blk hk (g' := gb941) (o := .cells #[.int .i64 0, .int .i64 0, .slice none 0 0] 26 (0, 0)) (tk_ BK941) NB941_942.out (by simp)); have HO947 := A_ (Kd.R_lower ho0 (below_size (by repeat (first | (with_reducible first | exact HB.out | apply below_alloc | apply pw_below_drewN | apply below_drew1 | refine below_set ?_ (IsS79.ge HI942.out) | refine below_set ?_ GE941.out) | exact HB.out)))); replace HB := A_ (hb); replace HI942 := A_ (hi); (try clear hb); (try clear hb2); (try clear hk); (try clear hi); (try clear ho0); have hnb6 := NB941_942.out; have hnc6 := NB942_941.out; obtain ⟨hcz7_0, hcz7_1, hcz7_2, hfz7_0, hfz7_1, hfz7_2⟩ := cf3_ BK941.out; obtain ⟨Ao8, co8, eo8⟩ := Kd.R_slice HO947.out; subst eo8))
 refine bodyPost_ret (results_cell_row rfl _ _ gb941 26 #[.int .i64 t943, .int .i64 t944, .slice Ao8 t945.length co8] (0, 0) _ rfl (by (with_reducible repeat (first | refine blk_drewN ?_ _ | refine blk_drew ?_ | refine blk_alloc ?_ _)); refine blk_put (cs := #[.int .i64 t943, .int .i64 t944, .slice none 0 0]) ?_ 2 _ rfl; (with_reducible repeat (first | refine blk_drewN ?_ _ | refine blk_drew ?_ | refine blk_alloc ?_ _)); refine blk_put (cs := #[.int .i64 t943, .int .i64 0, .slice none 0 0]) ?_ 1 _ rfl; (with_reducible repeat (first | refine blk_drewN ?_ _ | refine blk_drew ?_ | refine blk_alloc ?_ _)); refine blk_put (cs := #[.int .i64 0, .int .i64 0, .slice none 0 0]) ?_ 0 _ rfl; (with_reducible repeat (first | refine blk_drewN ?_ _ | refine blk_drew ?_ | refine blk_alloc ?_ _)); exact BK941.out) Try.underlying26 rfl (by kernel_rfl)) rfl ?_; exact ⟨_, te_, by (with_reducible repeat (first | apply Kd.R_alloc | apply Kd.R_drewN | apply Kd.R_drew)); exact Kd.R_mono (Kd.R_far (p := ⟨gb941, 2, none⟩) (Kd.R_far (p := ⟨gb941, 1, none⟩) (Kd.R_far (p := ⟨gb941, 0, none⟩) (Kd.R_types HO947.out BK941.out (by decide)) (fun _ hk => hk.2) (.int .i64 t943)) (fun _ hk => hk.2) (.int .i64 t944)) (fun _ hk => hk.2) (.slice Ao8 t945.length co8)) (fun _ hk => trivial), by repeat (first | (with_reducible first | exact HB.out | apply below_alloc | apply pw_below_drewN | apply below_drew1 | refine below_set ?_ (IsS79.ge HI942.out) | refine below_set ?_ GE941.out) | exact HB.out)⟩

/-! ### spec_DrawRookNumbers: function 38 -/
def spec_DrawRookNumbers.f (k : Nat) (l0 : List Int) : Option (Int × Int × List Int) := (spec_DrawIsBoard.f k l0).bind fun bt951 => (some (bt951.1, bt951.2.1, bt951.2.2))
theorem spec_DrawRookNumbers.mono : ∀ a0 k, LeO (spec_DrawRookNumbers.f k a0) (spec_DrawRookNumbers.f (k + 1) a0) := by
 intro a0 k; unfold spec_DrawRookNumbers.f
 repeat' first | (with_reducible first | exact spec_DrawIsBoard.mono _ _ | exact LeO.refl _ | exact LeO.none _ | refine LeO.ite ?_ ?_ | refine LeO.bind ?_ (fun _ => ?_)) | exact spec_DrawIsBoard.mono _ _ | exact LeO.none _ | refine LeO.ite ?_ ?_ | refine LeO.bind ?_ (fun _ => ?_)
theorem spec_DrawRookNumbers.calls (k : Nat) (A0 : Option Addr) (c0 : Nat) (l0 : List Int) (r1 : Int) (r2 : Int) (r3 : List Int) (w : World) (hr0 : Kd.C (Kd.int .u8) w A0 l0.length l0) (hc0 : l0.length ≤ c0) (h : spec_DrawRookNumbers.f k l0 = some (r1, r2, r3)) :
  Calls Try.prog 38 #[.slice A0 l0.length c0] w fun e w' => ∃ v2_ : Value, e = .returned (.agg #[.int .i64 r1, .int .i64 r2, v2_]) ∧ Kd.R (Kd.int .i64) 3 w' w.heap.size (fun _ => True) v2_ r3 ∧ Below w.heap.size w w' := by
 have hu26 := Try.underlying26; have HR0 := A_ hr0; have HC0 := A_ hc0; clear hr0 hc0; have HB := A_ (Below.refl w.heap.size w); have H : ((spec_DrawIsBoard.f k l0).bind fun bt951 => (some (bt951.1, bt951.2.1, bt951.2.2))) = some (r1, r2, r3) := h; clear h; replace H := Option.bind_eq_some_iff.mp H; obtain ⟨⟨t951, t952, t953⟩, A20, H⟩ := H; (try dsimp only at H); have A2 := A_ A20; clear A20; simp only [Option.some.injEq, Prod.mk.injEq] at H; obtain ⟨rfl, rfl, rfl⟩ := H; go_enter Try.func38, Try.ntmps38; go_wp2_with (first | (refine gd_ 2 ?_; refine bx_ 2 #[.int .i64 0, .int .i64 0, .slice none 0 0] 26 ?_; intro gb950 hg w3 hbox hb; have BK950 := A_ (hbox); have GW950 := A_ ((ts_ hg : w.heap.size ≤ gb950)); have GE950 := A_ ((ts_ hg : w.heap.size ≤ gb950)); replace HB := A_ (below_step tb_ hb); clear hb hbox hg) | (refine gc_ 112 ?_; refine goesT_ (some 4) Try.func112 #[.slice A0 l0.length c0] ?_; (with_reducible refine (spec_DrawIsBoard.calls k _ _ l0 t951 t952 t953 _ ?side1 ?side2 A2.out).mono ?_); (case side1 => exact tc_ HR0.out); (case side2 => exact HC0.out); rintro e w4 ⟨v954, rfl, ho0, hb⟩; refine ⟨_, rfl, ?_⟩; have HO955 := A_ (Kd.R_lower ho0 (below_size tb_)); replace BK950 := A_ (blk_below (g := gb950) (o := .cells #[.int .i64 0, .int .i64 0, .slice none 0 0] 26 (0, 0)) (tk_ BK950) hb); replace HB := A_ (below_step tb_ hb); (try clear hb); (try clear ho0); obtain ⟨hcz5_0, hcz5_1, hcz5_2, hfz5_0, hfz5_1, hfz5_2⟩ := cf3_ BK950.out; obtain ⟨Ao6, co6, eo6⟩ := Kd.R_slice HO955.out; subst eo6))
 refine bodyPost_ret (results_cell_row rfl _ _ gb950 26 #[.int .i64 t951, .int .i64 t952, .slice Ao6 t953.length co6] (0, 0) _ rfl (by (with_reducible repeat (first | refine blk_drewN ?_ _ | refine blk_drew ?_ | refine blk_alloc ?_ _)); refine blk_put (cs := #[.int .i64 t951, .int .i64 t952, .slice none 0 0]) ?_ 2 _ rfl; (with_reducible repeat (first | refine blk_drewN ?_ _ | refine blk_drew ?_ | refine blk_alloc ?_ _)); refine blk_put (cs := #[.int .i64 t951, .int .i64 0, .slice none 0 0]) ?_ 1 _ rfl; (with_reducible repeat (first | refine blk_drewN ?_ _ | refine blk_drew ?_ | refine blk_alloc ?_ _)); refine blk_put (cs := #[.int .i64 0, .int .i64 0, .slice none 0 0]) ?_ 0 _ rfl; (with_reducible repeat (first | refine blk_drewN ?_ _ | refine blk_drew ?_ | refine blk_alloc ?_ _)); exact BK950.out) Try.underlying26 rfl (by kernel_rfl)) rfl ?_; exact ⟨_, te_, by (with_reducible repeat (first | apply Kd.R_alloc | apply Kd.R_drewN | apply Kd.R_drew)); exact Kd.R_mono (Kd.R_far (p := ⟨gb950, 2, none⟩) (Kd.R_far (p := ⟨gb950, 1, none⟩) (Kd.R_far (p := ⟨gb950, 0, none⟩) (Kd.R_types HO955.out BK950.out (by decide)) (fun _ hk => hk.2) (.int .i64 t951)) (fun _ hk => hk.2) (.int .i64 t952)) (fun _ hk => hk.2) (.slice Ao6 t953.length co6)) (fun _ hk => trivial), tb_⟩

/-! ### impl_rooks: function 167 -/
def impl_rooks.l0 : Nat → Int → List Int → Int → Int → Option (Int)
 | 0, _, _, _, _ => none
 | k + 1, x3, x6, x7, x8 => if x8 < x7 then (if 0 ≤ x8 then (if x8 < (x6.length : Int) then (if (rd x6 x8) = (-1) then (impl_rooks.l0 k x3 x6 x7 (wrap64 (x8 + 1))) else (impl_rooks.l0 k (wrap64 (x3 + 1)) x6 x7 (wrap64 (x8 + 1)))) else (none)) else (none)) else (some x3)
def impl_rooks.f (k : Nat) (l0 : List Int) : Option (Int) := impl_rooks.l0 k 0 l0 (l0.length : Int) 0
theorem impl_rooks.mono_l : ∀ k, (∀ y0 y1 y2 y3, LeO (impl_rooks.l0 k y0 y1 y2 y3) (impl_rooks.l0 (k + 1) y0 y1 y2 y3))
 | 0 => fun _ _ _ _ r h => by simp [impl_rooks.l0] at h
 | k + 1 => by
  have ih0 := impl_rooks.mono_l k
  ·
   intro y0 y1 y2 y3; unfold impl_rooks.l0
   repeat' first | (with_reducible first | exact ih0 _ _ _ _ | exact LeO.refl _ | exact LeO.none _ | refine LeO.ite ?_ ?_ | refine LeO.bind ?_ (fun _ => ?_)) | exact ih0 _ _ _ _ | exact LeO.none _ | refine LeO.ite ?_ ?_ | refine LeO.bind ?_ (fun _ => ?_)
theorem impl_rooks.mono : ∀ a0 k, LeO (impl_rooks.f k a0) (impl_rooks.f (k + 1) a0) := by
 intro a0 k; have ih0 := impl_rooks.mono_l k; unfold impl_rooks.f
 repeat' first | (with_reducible first | exact ih0 _ _ _ _ | exact LeO.refl _ | exact LeO.none _ | refine LeO.ite ?_ ?_ | refine LeO.bind ?_ (fun _ => ?_)) | exact ih0 _ _ _ _ | exact LeO.none _ | refine LeO.ite ?_ ?_ | refine LeO.bind ?_ (fun _ => ?_)
theorem impl_rooks.calls (k : Nat) (A0 : Option Addr) (c0 : Nat) (l0 : List Int) (r : Int) (w : World) (hr0 : Kd.C (Kd.int .i64) w A0 l0.length l0) (hc0 : l0.length ≤ c0) (h : impl_rooks.f k l0 = some r) :
  Calls Try.prog 167 #[.slice A0 l0.length c0] w fun e w' => e = .returned (.int .i64 r) ∧ Drawn0 w w' := by
 have HR0 := A_ hr0; have HC0 := A_ hc0; clear hr0 hc0; have H : (impl_rooks.l0 k 0 l0 (l0.length : Int) 0) = some r := h; clear h; have H' := A_ H; clear H; go_enter Try.func167, Try.ntmps167; go_wp2; go_loopg [3, 8] k (fun kq v3 v8 w' => ∃ (x3_1 : Int) (x8_1 : Int), v3 = .int .i64 x3_1 ∧ v8 = .int .i64 x8_1 ∧ Aside0 (impl_rooks.l0 kq x3_1 l0 (l0.length : Int) x8_1 = some r) ∧ Aside0 (kq ≤ k) ∧ Drawn0 w w')
 case atStart => exact ⟨(0), (0), tf_, tf_, H', ⟨Nat.le_refl _⟩, dr_⟩
 case round =>
  clear H'; (try clear c1); obtain ⟨x3_1, x8_1, rfl, rfl, HA, HK1, ⟨m1, rfl⟩⟩ := hrel; cases gk with
  | zero => exact absurd HA.out (by simp [impl_rooks.l0])
  | succ k1 =>
   have H := HA.out; clear HA; simp only [impl_rooks.l0] at H; by_cases c2 : x8_1 < (l0.length : Int)
   ·
    rw [if_pos c2] at H; have c2b0 := decide_eq_true c2; clear c2; by_cases c3 : 0 ≤ x8_1
    ·
     rw [if_pos c3] at H; have c3b0 := decide_eq_true c3; clear c3; by_cases c4 : x8_1 < (l0.length : Int)
     ·
      rw [if_pos c4] at H; have c4b0 := decide_eq_true c4; clear c4; by_cases c5 : (rd l0 x8_1) = (-1)
      ·
       rw [if_pos c5] at H; have c5b0 : ((rd l0 x8_1) == (-1)) = true := beq_iff_eq.mpr c5; have c5b1 : ((rd l0 x8_1) != (-1)) = false := bne_eq_false_iff_eq.mpr c5; clear c5; have H' := A_ H; clear H; have p956 : 0 ≤ (x8_1 : Int) := od_; have q956 : x8_1 < (l0.length : Int) := od_; obtain ⟨ad956, e956, hx956_0⟩ := Kd.at_int HR0.out x8_1 p956 q956; cases e956; replace p956 := eq_true p956; replace q956 := eq_true q956; go_wp2; go_roundg k1
       case measure => have := HK1.out; omega
       case rel => exact ⟨(x3_1), (wrap64 (x8_1 + 1)), tf_, tf_, H', ⟨by have := HK1.out; omega⟩, dr_⟩
      ·
       rw [if_neg c5] at H; have c5b0 : ((rd l0 x8_1) == (-1)) = false := beq_eq_false_iff_ne.mpr c5; have c5b1 : ((rd l0 x8_1) != (-1)) = true := bne_iff_ne.mpr c5; have H' := A_ H; clear H; have p956 : 0 ≤ (x8_1 : Int) := od_; have q956 : x8_1 < (l0.length : Int) := od_; obtain ⟨ad956, e956, hx956_0⟩ := Kd.at_int HR0.out x8_1 p956 q956; cases e956; replace p956 := eq_true p956; replace q956 := eq_true q956; go_wp2; go_roundg k1
       case measure => have := HK1.out; omega
       case rel => exact ⟨(wrap64 (x3_1 + 1)), (wrap64 (x8_1 + 1)), tf_, tf_, H', ⟨by have := HK1.out; omega⟩, dr_⟩
     ·
      exact nx_ c4 H
    ·
     exact nx_ c3 H
   ·
    rw [if_neg c2] at H; have c2b0 := decide_eq_false c2; clear c2; obtain rfl := Option.some.inj H; go_wp2; go_ret; exact ⟨tf_, dr_⟩

/-! ### impl_Board_numbers_1: function 166 -/
def impl_Board_numbers_1.f (k : Nat) (p out : List Int) : Option (List Int) := (impl_rooks.f k p).bind fun i => if 0 ≤ i then (if i < (out.length : Int) then some (out.set i.toNat (wrap64 (rd out i + 1))) else none) else none
theorem impl_Board_numbers_1.calls (k : Nat) (w W : World) (go ro : Nat) (out r p : List Int) (Ap : Option Addr) (cp : Nat) (hS : Cap.Cnt 24 3 w go ro W out) (hp : Kd.C (Kd.int .i64) W Ap p.length p) (hc : p.length ≤ cp) (h : impl_Board_numbers_1.f k p out = some r) :
  Calls Try.prog 166 #[.slice Ap p.length cp, .pointer (some ⟨go, 0, none⟩)] W fun e W' => e = .returned (.bool true) ∧ Cap.Cnt 24 3 w go ro W' r ∧ W.grownBy W' (some ro) := by
 unfold impl_Board_numbers_1.f at h; obtain ⟨i, A1, H⟩ := Option.bind_eq_some_iff.mp h; clear h; by_cases c1 : 0 ≤ i
 case neg =>
  exact nx_ c1 H
 rw [if_pos c1] at H; by_cases c2 : i < (out.length : Int)
 case neg =>
  exact nx_ c2 H
 rw [if_pos c2] at H; obtain rfl := Option.some.inj H; obtain ⟨n, rfl⟩ : ∃ n : Nat, i = (n : Int) := ⟨i.toNat, by omega⟩
 have hn : n < out.length := by omega
 have hco := hS.cello; have HS := A_ hS; have HP := A_ hp; have HC := A_ hc; have HA := A_ A1; have HN := A_ hn; clear H hS hp hc A1; go_enter Try.func166, Try.ntmps166; go_wp2; refine start_ (n := 8) (S := fun w' => w'.cell? ⟨go, 0, none⟩ = some (.slice (some ⟨ro, 0, none⟩) out.length out.length) ∧ w'.cell? ⟨ro, n, none⟩ = some (.int .i64 out[n])) (ds := [7]) (Fn.bl 8 0) (by kernel_rfl) rfl rfl ⟨(HS.out.below (below_drew (Below.refl _ _))).cello, (HS.out.below (below_drew (Below.refl _ _))).cell n HN.out⟩ (fun hHeld => ?_); have HS1 := A_ (HS.out.below (below_drew (Below.refl _ _))); have HB1 := A_ (below_drew (Below.refl W.heap.size W)); have HP1 := A_ (Kd.C_below HP.out HB1.out); clear hco; generalize W.drew = w1 at HS1 HB1 HP1 hHeld ⊢; refine take_ (i := 0) (N := some 4) (v := ?_) (a' := ?_) (Fn.bl 8 1) rfl rfl (by kernel_rfl) (fun _ _ _ h => h) (Or.inl ⟨by rfl, ?_⟩) hHeld ?_ ?_; rotate_left
 ·
  rintro w' ⟨s0, s1⟩; go_simp
  with_reducible rfl
 rotate_left
 ·
  simp only [Act.put, List.setIfInBounds_toArray, List.set_cons_zero, List.set_cons_succ, i64_w, i32_w]; rfl
 refine take_ (i := 1) (N := some 5) (v := ?_) (a' := ?_) (Fn.bl 8 3) rfl rfl (by kernel_rfl) (fun _ _ _ h => h) (Or.inl ⟨by rfl, ?_⟩) hHeld ?_ ?_; rotate_left
 ·
  rintro w' ⟨s0, s1⟩; go_simp
  with_reducible rfl
 rotate_left
 ·
  simp only [Act.put, List.setIfInBounds_toArray, List.set_cons_zero, List.set_cons_succ, i64_w, i32_w]; rfl
 refine one_ (i := 2) (N := some 6) (Fn.bl 8 7) rfl rfl (by kernel_rfl) (by decide) (fun K hK => ?_); refine goes_ Try.func167 (by kernel_rfl) rfl #[.slice Ap p.length cp] (by rfl) rfl rfl (by (try simp only [List.map_toArray, List.map_cons, List.map_nil]); first | done | rfl) ?_; with_reducible refine (impl_rooks.calls k Ap cp p (n : Int) _ HP1.out HC.out HA.out).mono ?_
 rintro e w2 ⟨rfl, hd⟩; refine ⟨_, rfl, ?_⟩; have HB2 := A_ (below_step HB1.out hd.below); have HS2 := A_ (HS1.out.below hd.below); clear hd; refine hK.out _ _ ⟨HS2.out.cello, HS2.out.cell n HN.out⟩ (fun hHeld => ?_); clear hK K; refine norm_ (a' := ?_) ?_ ?_; rotate_left
 ·
  show Act.put _ (some 6) _ = _; simp only [Act.put, List.setIfInBounds_toArray, List.set_cons_zero, List.set_cons_succ, i64_w, i32_w]; rfl
 have p0 : (0 ≤ (n : Int)) = True := eq_true (by omega); have p1 : ((n : Int) < (out.length : Int)) = True := eq_true (by have := HN.out; omega); have p2 : (n < out.length) = True := eq_true HN.out; refine take_ (i := 3) (N := some 7) (v := .pointer (some ⟨ro, n, none⟩)) (a' := ?_) (Fn.bl 8 15) rfl rfl (by kernel_rfl) (fun _ _ _ h => h) (Or.inl ⟨by rfl, ?_⟩) hHeld ?_ ?_
 ·
  rintro w' ⟨s0, s1⟩; go_simp
  done
 rotate_left
 ·
  simp only [Act.put, List.setIfInBounds_toArray, List.set_cons_zero, List.set_cons_succ, i64_w, i32_w]; rfl
 refine take_ (i := 4) (N := some 8) (v := .int .i64 out[n]) (a' := ?_) (Fn.bl 8 31) rfl rfl (by kernel_rfl) (fun _ _ _ h => h) (Or.inl ⟨by rfl, ?_⟩) hHeld ?_ ?_
 ·
  rintro w' ⟨s0, s1⟩; go_simp
  done
 rotate_left
 ·
  simp only [Act.put, List.setIfInBounds_toArray, List.set_cons_zero, List.set_cons_succ, i64_w, i32_w]; rfl
 refine take_ (i := 5) (N := some 9) (v := ?_) (a' := ?_) (Fn.bl 8 63) rfl rfl (by kernel_rfl) (fun _ _ _ h => h) (Or.inl ⟨by rfl, ?_⟩) hHeld ?_ ?_; rotate_left
 ·
  rintro w' ⟨s0, s1⟩; go_simp
  with_reducible rfl
 rotate_left
 ·
  simp only [Act.put, List.setIfInBounds_toArray, List.set_cons_zero, List.set_cons_succ, i64_w, i32_w]; rfl
 refine take_ (i := 6) (N := some 10) (v := .pointer (some ⟨ro, n, none⟩)) (a' := ?_) (Fn.bl 8 127) rfl rfl (by kernel_rfl) (fun _ _ _ h => h) (Or.inl ⟨by rfl, ?_⟩) hHeld ?_ ?_
 ·
  rintro w' ⟨s0, s1⟩; go_simp
  done
 rotate_left
 ·
  simp only [Act.put, List.setIfInBounds_toArray, List.set_cons_zero, List.set_cons_succ, i64_w, i32_w]; rfl
 have hcn := HS2.out.cell n HN.out; have hfn := HS2.out.free n; refine last_ (i := 7) (N := none) (Fn.bl 8 255) rfl rfl (by kernel_rfl) (by decide) (fun K hK => ?_); refine skip_ (w1 := w2.setCell ⟨ro, n, none⟩ (.int .i64 (wrap64 (out[n] + 1)))) (by rfl) rfl ?_ ?_
 ·
  go_simp
  done
 refine hK.out _ _ ?_; clear hK K; have HS3 := A_ (HS2.out.put n (wrap64 (out[n] + 1))); have HG3 := A_ (Cap.grown_put (grown_of_below HB2.out (some ro)) (p := ⟨ro, n, none⟩) rfl (.int .i64 (wrap64 (out[n] + 1)))); clear hcn hfn; generalize w2.setCell ⟨ro, n, none⟩ (.int .i64 (wrap64 (out[n] + 1))) = w3 at HS3 HG3 ⊢; refine done_ (by kernel_rfl) ?_; go_wp2; go_ret; refine ⟨rfl, ?_, HG3.out⟩; have e : rd out (n : Int) = out[n] := by unfold rd; simp [HN.out]
 rw [e, Int.toNat_natCast]; exact HS3.out

/-! ### impl_Board_walk_1: function 189 -/
def impl_Board_walk_1.more (t c : Int) : Int := if c ≥ 0 then Go.bits .or .i64 t (wrap64 (2 ^ min c.toNat 64)) else t
def impl_Board_walk_1.skips (R C : Int) (lb : List Int) (r t c : Int) : Option Bool := if c ≥ 0 then ((impl_Board_has.f R C lb r c).bind fun b => some (if b = true then (Go.bits .and .i64 (shr .i64 t c) 1 == 1) else true)) else some false
mutual
def impl_Board_walk_1.f : Nat → Int → Int → List Int → Int → Int → List Int → List Int → Option (List Int × List Int)
 | 0, _, _, _, _, _, _, _ => none
 | k + 1, R, C, lb, r, t, p, out => if r = R then ((impl_Board_numbers_1.f k p out).bind fun o => some (p, o)) else impl_Board_walk_1.l0 k R C lb r t p out (-1)
def impl_Board_walk_1.l0 : Nat → Int → Int → List Int → Int → Int → List Int → List Int → Int → Option (List Int × List Int)
 | 0, _, _, _, _, _, _, _, _ => none
 | k + 1, R, C, lb, r, t, p, out, c => if c < C then ((impl_Board_walk_1.skips R C lb r t c).bind fun b => if b = true then impl_Board_walk_1.l0 k R C lb r t p out (wrap64 (c + 1)) else (if 0 ≤ r then (if r < (p.length : Int) then ((impl_Board_walk_1.f k R C lb (wrap64 (r + 1)) (impl_Board_walk_1.more t c) (p.set r.toNat c) out).bind fun q => impl_Board_walk_1.l0 k R C lb r t q.1 q.2 (wrap64 (c + 1))) else none) else none)) else some (p, out)
end
theorem impl_Board_walk_1.mono_l : ∀ k, (∀ R C lb r t p o, LeO (impl_Board_walk_1.f k R C lb r t p o) (impl_Board_walk_1.f (k + 1) R C lb r t p o)) ∧ (∀ R C lb r t p o c, LeO (impl_Board_walk_1.l0 k R C lb r t p o c) (impl_Board_walk_1.l0 (k + 1) R C lb r t p o c))
 | 0 => ⟨fun _ _ _ _ _ _ _ r h => by simp [impl_Board_walk_1.f] at h, fun _ _ _ _ _ _ _ _ r h => by simp [impl_Board_walk_1.l0] at h⟩
 | k + 1 => by
  obtain ⟨i0, i1⟩ := impl_Board_walk_1.mono_l k; refine ⟨?_, ?_⟩
  ·
   intro R C lb r t p o; unfold impl_Board_walk_1.f; exact LeO.ite (LeO.bind (LeO.bind (impl_rooks.mono _ _) (fun _ => LeO.refl _)) (fun _ => LeO.refl _)) (i1 _ _ _ _ _ _ _ _)
  ·
   intro R C lb r t p o c; unfold impl_Board_walk_1.l0; refine LeO.ite ?_ (LeO.refl _); refine LeO.bind (LeO.refl _) (fun b => ?_); refine LeO.ite (i1 _ _ _ _ _ _ _ _) ?_; refine LeO.ite ?_ (LeO.refl _); refine LeO.ite ?_ (LeO.refl _); exact LeO.bind (i0 _ _ _ _ _ _ _) (fun _ => i1 _ _ _ _ _ _ _ _)
theorem impl_Board_walk_1.mono : ∀ R C lb r t p o k, LeO (impl_Board_walk_1.f k R C lb r t p o) (impl_Board_walk_1.f (k + 1) R C lb r t p o) := fun R C lb r t p o k => (impl_Board_walk_1.mono_l k).1 _ _ _ _ _ _ _
def impl_Board_walk_1.self (gb gd gp gg gx : Nat) : Value := .func (.func 189) #[] #[.pointer (some ⟨gb, 0, none⟩), .pointer (some ⟨gd, 0, none⟩), .pointer (some ⟨gp, 0, none⟩), .pointer (some ⟨gg, 0, none⟩), .pointer (some ⟨gx, 0, none⟩)]
def impl_Board_walk_1.done (go : Nat) : Value := .func (.func 166) #[] #[.pointer (some ⟨go, 0, none⟩)]
abbrev impl_Board_walk_1.St (w : World) (gb gd gp gg gx go rp ro : Nat) (R C : Int) (Ab : Option Addr) (lb : List Int) (cb : Nat) (W : World) (p out : List Int) : Prop :=
 Cap.Wst 26 118 24 4 143 3 w gb gd gp gg gx go rp ro R C Ab lb cb (impl_Board_walk_1.done go) (impl_Board_walk_1.self gb gd gp gg gx) W p out
theorem impl_Board_walk_1.enters (gb gd gp gg gx : Nat) {r t : Int} {w : World} {Q : Ending → World → Prop} (h : Calls Try.prog 189 #[.int .i64 r, .int .i64 t, .pointer (some ⟨gb, 0, none⟩), .pointer (some ⟨gd, 0, none⟩), .pointer (some ⟨gp, 0, none⟩), .pointer (some ⟨gg, 0, none⟩), .pointer (some ⟨gx, 0, none⟩)] w Q) :
  Fn.CallsV Try.prog (impl_Board_walk_1.self gb gd gp gg gx) #[.int .i64 r, .int .i64 t] w Q := ⟨189, _, _, rfl, Try.func189, by kernel_rfl, rfl, by simpa using h⟩
theorem impl_Board_walk_1.tells (go : Nat) {v : Value} {w : World} {Q : Ending → World → Prop} (h : Calls Try.prog 166 #[v, .pointer (some ⟨go, 0, none⟩)] w Q) :
  Fn.CallsV Try.prog (impl_Board_walk_1.done go) #[v] w Q := ⟨166, _, _, rfl, Try.func166, by kernel_rfl, rfl, by simpa using h⟩
theorem impl_Board_walk_1.calls (k : Nat) : ∀ (w : World) (gb gd gp gg gx go rp ro : Nat) (R C : Int) (Ab : Option Addr) (lb : List Int) (cb : Nat) (W : World) (r t : Int) (p out p2 out2 : List Int) (hS : impl_Board_walk_1.St w gb gd gp gg gx go rp ro R C Ab lb cb W p out) (h : impl_Board_walk_1.f k R C lb r t p out = some (p2, out2)),
  Calls Try.prog 189 #[.int .i64 r, .int .i64 t, .pointer (some ⟨gb, 0, none⟩), .pointer (some ⟨gd, 0, none⟩), .pointer (some ⟨gp, 0, none⟩), .pointer (some ⟨gg, 0, none⟩), .pointer (some ⟨gx, 0, none⟩)] W fun e W' => e = .returned (.tuple #[]) ∧ impl_Board_walk_1.St w gb gd gp gg gx go rp ro R C Ab lb cb W' p2 out2 := by
 induction k using Nat.strongRecOn with
 | _ k ih =>
 intro w gb gd gp gg gx go rp ro R C Ab lb cb W r t p out p2 out2 hS h; cases k with
 | zero => exact absurd h (by simp [impl_Board_walk_1.f])
 | succ k =>
 simp only [impl_Board_walk_1.f] at h; have hu28 := Try.underlying26; have hb0 := hS.b0; have hb1 := hS.b1; have hcd := hS.celld; have hcp := hS.cellp; have hcg := hS.cellg; have hfg := hS.freeg; have HS := A_ hS; clear hS; by_cases c1 : r = R
 ·
  rw [if_pos c1] at h; have c1b0 : (r == R) = true := beq_iff_eq.mpr c1; have c1b1 : (r != R) = false := bne_eq_false_iff_eq.mpr c1; clear c1; obtain ⟨o, A1, H⟩ := Option.bind_eq_some_iff.mp h; obtain ⟨rfl, rfl⟩ := Prod.mk.inj (Option.some.inj H); clear h H; replace A1 := A_ A1; go_enter Try.func189, Try.ntmps189; go_wp2_with (first | ((with_reducible refine Fn.gate_value rfl ?_); refine Fn.goesVw_ (some 17) rfl (by first | rfl | (simp [Region.wanted, yielded]; done)) (impl_Board_walk_1.done go) rfl #[.slice (some ⟨rp, 0, none⟩) p.length p.length] rfl (by (try simp only [List.map_toArray, List.map_cons, List.map_nil]); first | done | rfl) ?_; refine impl_Board_walk_1.tells go ?_; (with_reducible refine (impl_Board_numbers_1.calls k w _ go ro out o p (some ⟨rp, 0, none⟩) p.length HS.out.cnt HS.out.pC (Nat.le_refl _) A1.out).mono ?_); rintro e w8 ⟨rfl, hc, hg⟩; refine ⟨_, rfl, ?_⟩; have HS8 := A_ (HS.out.count hc hg); have hcg8 := HS8.out.cellg; have hfg8 := HS8.out.freeg; clear hc hg hcg hfg))
  (try simp only [Exit.inBlock, Exit.then]); refine bodyPost_ret (results_none rfl _ _ _) rfl ?_; exact ⟨rfl, HS8.out.flag⟩
 ·
  rw [if_neg c1] at h; have c1b0 : (r == R) = false := beq_eq_false_iff_ne.mpr c1; have c1b1 : (r != R) = true := bne_iff_ne.mpr c1; clear c1; replace h := A_ h; go_enter Try.func189, Try.ntmps189; go_wp2; go_loopg [9] k (fun kq v9 W' => ∃ (c : Int) (p1 o1 : List Int), v9 = .int .i64 c ∧ Aside0 (impl_Board_walk_1.l0 kq R C lb r t p1 o1 c = some (p2, out2)) ∧ Aside0 (kq ≤ k) ∧ Aside0 (impl_Board_walk_1.St w gb gd gp gg gx go rp ro R C Ab lb cb W' p1 o1))
  case atStart => exact ⟨-1, p, out, rfl, h, ⟨Nat.le_refl _⟩, HS⟩
  case round =>
   clear h HS hb0 hb1 hcd hcp hcg hfg; obtain ⟨c, p1, o1, rfl, HA, HK1, HS⟩ := hrel; have hb0 := HS.out.b0; have hb1 := HS.out.b1; have hb2 := HS.out.b2; have hcp := HS.out.cellp; have hcg := HS.out.cellg; have hcx := HS.out.cellx; cases gk with
   | zero => exact absurd HA.out (by simp [impl_Board_walk_1.l0])
   | succ k1 =>
    have H := HA.out; clear HA; simp only [impl_Board_walk_1.l0] at H; by_cases c4 : c < C
    ·
     rw [if_pos c4] at H; have c4b := decide_eq_true c4; clear c4; obtain ⟨b, A2, H⟩ := Option.bind_eq_some_iff.mp H; by_cases c5 : c ≥ 0
     ·
      have c5b : decide (c ≥ 0) = true := decide_eq_true c5; have c5c : (0 ≤ c) = True := eq_true c5; simp only [impl_Board_walk_1.skips, if_pos c5] at A2; obtain ⟨hb, A3, A4⟩ := Option.bind_eq_some_iff.mp A2; clear A2; replace A3 := A_ A3; have A4 := Option.some.inj A4; cases hb with
      | false =>
       simp only [Bool.false_eq_true, if_false] at A4; subst A4; rw [if_pos rfl] at H; clear c5; replace H := A_ H; go_wp2_with (first | (go_at_call 119; (with_reducible refine (impl_Board_has.calls R C Ab cb lb r c false _ HS.out.bC HS.out.hcb A3.out).mono ?_); rintro e w5 ⟨rfl, hd⟩; have HS5 := A_ (HS.out.below hd); clear hd))
       go_roundg k1
       case measure => have := HK1.out; omega
       case rel => exact ⟨wrap64 (c + 1), p1, o1, tf_, H, ⟨by have := HK1.out; omega⟩, HS5⟩
      | true =>
       have A4b : (Go.bits .and .i64 (t / 2 ^ min c.toNat 64) 1 == 1) = b := A4; clear A4; cases b with
       | true =>
        rw [if_pos rfl] at H; clear c5; replace H := A_ H; go_wp2_with (first | (go_at_call 119; (with_reducible refine (impl_Board_has.calls R C Ab cb lb r c true _ HS.out.bC HS.out.hcb A3.out).mono ?_); rintro e w5 ⟨rfl, hd⟩; have HS5 := A_ (HS.out.below hd); clear hd))
        go_roundg k1
        case measure => have := HK1.out; omega
        case rel => exact ⟨wrap64 (c + 1), p1, o1, tf_, H, ⟨by have := HK1.out; omega⟩, HS5⟩
       | false =>
        simp only [Bool.false_eq_true, if_false] at H; by_cases c7 : 0 ≤ r
        case neg =>
         exact nx_ c7 H
        rw [if_pos c7] at H; by_cases c8 : r < (p1.length : Int)
        case neg =>
         exact nx_ c8 H
        rw [if_pos c8] at H; obtain ⟨n, rfl⟩ : ∃ n : Nat, r = (n : Int) := ⟨r.toNat, by omega⟩
        have hn : Aside0 (n < p1.length) := ⟨by omega⟩
        have q0 : (0 ≤ (n : Int)) = True := eq_true (by omega); have q1' : ((n : Int) < (p1.length : Int)) = True := eq_true c8; have q2' : (n < p1.length) = True := eq_true hn.out; clear c7 c8; obtain ⟨⟨q1, q2⟩, A5, H⟩ := Option.bind_eq_some_iff.mp H; replace A5 := A_ A5; rw [Int.toNat_natCast, show impl_Board_walk_1.more t c = (Go.bits .or .i64 t (wrap64 (2 ^ min c.toNat 64))) from by unfold impl_Board_walk_1.more; rw [if_pos c5]] at A5; replace H := A_ H; clear c5; go_wp2_with (first | (go_at_call 119; (with_reducible refine (impl_Board_has.calls R C Ab cb lb (n : Int) c true _ HS.out.bC HS.out.hcb A3.out).mono ?_); rintro e w5 ⟨rfl, hd⟩; have HS5 := A_ (HS.out.below hd); clear hd; have hcp5 := HS5.out.cellp; have hcn5 := HS5.out.cell n hn.out; have hfn5 := HS5.out.free n; have HP5 := A_ (HS5.out.put n c); have hcx5 := HP5.out.cellx) | ((with_reducible refine Fn.gate_value rfl ?_); refine Fn.goesVw_ (some 58) rfl (by first | rfl | (simp [Region.wanted, yielded]; done)) (impl_Board_walk_1.self gb gd gp gg gx) rfl #[.int .i64 (wrap64 ((n : Int) + 1)), .int .i64 (Go.bits .or .i64 t (wrap64 (2 ^ min c.toNat 64)))] rfl (by (try simp only [List.map_toArray, List.map_cons, List.map_nil]); first | done | rfl) ?_; refine impl_Board_walk_1.enters gb gd gp gg gx ?_; (with_reducible refine (ih k1 (by have := HK1.out; omega) w gb gd gp gg gx go rp ro R C Ab lb cb _ (wrap64 ((n : Int) + 1)) (Go.bits .or .i64 t (wrap64 (2 ^ min c.toNat 64))) (p1.set n c) o1 q1 q2 HP5.out A5.out).mono ?_); rintro e w8 ⟨rfl, hs⟩; refine ⟨_, rfl, ?_⟩; have HS8 := A_ hs; clear hs hcx5 hcp5 hcn5 hfn5))
        go_roundg k1
        case measure => have := HK1.out; omega
        case rel => exact ⟨wrap64 (c + 1), q1, q2, tf_, H, ⟨by have := HK1.out; omega⟩, HS8⟩
     ·
      have c5b : decide (c ≥ 0) = false := decide_eq_false c5; simp only [impl_Board_walk_1.skips, if_neg c5, Option.some.injEq] at A2; subst A2; simp only [Bool.false_eq_true, if_false] at H; by_cases c7 : 0 ≤ r
      case neg =>
       exact nx_ c7 H
      rw [if_pos c7] at H; by_cases c8 : r < (p1.length : Int)
      case neg =>
       exact nx_ c8 H
      rw [if_pos c8] at H; obtain ⟨n, rfl⟩ : ∃ n : Nat, r = (n : Int) := ⟨r.toNat, by omega⟩
      have hn : Aside0 (n < p1.length) := ⟨by omega⟩
      have q0 : (0 ≤ (n : Int)) = True := eq_true (by omega); have q1' : ((n : Int) < (p1.length : Int)) = True := eq_true c8; have q2' : (n < p1.length) = True := eq_true hn.out; clear c7 c8; obtain ⟨⟨q1, q2⟩, A5, H⟩ := Option.bind_eq_some_iff.mp H; replace A5 := A_ A5; rw [Int.toNat_natCast, show impl_Board_walk_1.more t c = t from by unfold impl_Board_walk_1.more; rw [if_neg c5]] at A5; replace H := A_ H; clear c5; have hcp5 := HS.out.cellp; have hcn5 := HS.out.cell n hn.out; have hfn5 := HS.out.free n; have HP5 := A_ (HS.out.put n c); have hcx5 := HP5.out.cellx; go_wp2_with (first | ((with_reducible refine Fn.gate_value rfl ?_); refine Fn.goesVw_ (some 58) rfl (by first | rfl | (simp [Region.wanted, yielded]; done)) (impl_Board_walk_1.self gb gd gp gg gx) rfl #[.int .i64 (wrap64 ((n : Int) + 1)), .int .i64 t] rfl (by (try simp only [List.map_toArray, List.map_cons, List.map_nil]); first | done | rfl) ?_; refine impl_Board_walk_1.enters gb gd gp gg gx ?_; (with_reducible refine (ih k1 (by have := HK1.out; omega) w gb gd gp gg gx go rp ro R C Ab lb cb _ (wrap64 ((n : Int) + 1)) t (p1.set n c) o1 q1 q2 HP5.out A5.out).mono ?_); rintro e w8 ⟨rfl, hs⟩; refine ⟨_, rfl, ?_⟩; have HS8 := A_ hs; clear hs hcx5 hcp5 hcn5 hfn5))
      go_roundg k1
      case measure => have := HK1.out; omega
      case rel => exact ⟨wrap64 (c + 1), q1, q2, tf_, H, ⟨by have := HK1.out; omega⟩, HS8⟩
    ·
     rw [if_neg c4] at H; have c4b := decide_eq_false c4; clear c4; obtain ⟨rfl, rfl⟩ := Prod.mk.inj (Option.some.inj H); clear H; go_wp2; go_end0; exact ⟨rfl, HS.out⟩

/-! ### impl_Board_walk: function 165 -/
def impl_Board_walk.f (k : Nat) (R C : Int) (lb out : List Int) : Option (List Int) := if 0 ≤ R then (if R ≤ 1000 then ((impl_Board_walk_1.f k R C lb 0 0 (List.replicate R.toNat 0) out).bind fun q => some q.2) else none) else none
theorem impl_Board_walk.calls (k : Nat) (w W : World) (go ro : Nat) (R C : Int) (Ab : Option Addr) (lb : List Int) (cb : Nat) (out r : List Int) (hS : Cap.Cnt 24 3 w go ro W out) (hC : Kd.C (Kd.int .i64) w Ab lb.length lb) (hcb : lb.length ≤ cb) (h : impl_Board_walk.f k R C lb out = some r) :
  Calls Try.prog 165 #[.agg #[.int .i64 R, .int .i64 C, .slice Ab lb.length cb], impl_Board_walk_1.done go] W fun e W' => e = .returned (.tuple #[]) ∧ Cap.Cnt 24 3 w go ro W' r := by
 unfold impl_Board_walk.f at h; by_cases c1 : 0 ≤ R
 case neg =>
  rw [if_neg c1] at h; exact absurd h (by simp)
 rw [if_pos c1] at h; by_cases c2 : R ≤ 1000
 case neg =>
  rw [if_neg c2] at h; exact absurd h (by simp)
 rw [if_pos c2] at h; obtain ⟨n, rfl⟩ : ∃ n : Nat, R = (n : Int) := ⟨R.toNat, by omega⟩
 rw [Int.toNat_natCast] at h; obtain ⟨⟨p2, out2⟩, A1, H⟩ := Option.bind_eq_some_iff.mp h; obtain rfl := Option.some.inj H; clear h H; have HS := A_ hS; have HC := A_ hC; have HCb := A_ hcb; have HA := A_ A1; have HN : Aside0 (n ≤ 1000) := ⟨by omega⟩
 clear hS hC hcb A1 c1 c2; have hu28 := Try.underlying26; have hmf_ : ∀ (fn : Go.Fn) (first cap : Array Value) (w : World), (Instr.makeFunc fn first cap).run Try.prog w = .ok (.func fn first cap) w := fun _ _ _ _ => rfl
 have hmk := print_make_int (P := Try.prog) 24 3 (.int .i64 0) 8 Try.underlying24 info3 rfl (by decide) (n : Int) (by omega) (by have := HN.out; omega); simp only [Int.toNat_natCast] at hmk; go_enter Try.func165, Try.ntmps165; go_wp2_with (first | ((with_reducible refine Fn.gate_value rfl ?_); refine Fn.goesVw_ (some 12) rfl (by first | rfl | (simp [Region.wanted, yielded]; done)) (impl_Board_walk_1.self W.heap.size (W.heap.size + 1) (W.heap.size + 1 + 1 + 1) (W.heap.size + 1 + 1 + 1 + 1) (W.heap.size + 1 + 1 + 1 + 1 + 1)) rfl #[.int .i64 0, .int .i64 0] rfl (by (try simp only [List.map_toArray, List.map_cons, List.map_nil]); first | done | rfl) ?_; refine impl_Board_walk_1.enters _ _ _ _ _ ?_; (with_reducible refine (impl_Board_walk_1.calls k w _ _ _ _ _ go (W.heap.size + 1 + 1) ro (n : Int) C Ab lb cb _ 0 0 (List.replicate n 0) out p2 out2 ?q1 HA.out).mono ?_); (case q1 => exact Cap.Wst.start HS.out HC.out HCb.out HN.out); rintro e w8 ⟨rfl, hs⟩; refine ⟨_, rfl, ?_⟩; have HS8 := A_ hs.cnt; clear hs))
 go_end0; exact ⟨rfl, HS8.out⟩

/-! ### impl_Board_numbers: function 113 -/
def impl_Board_numbers.f (k : Nat) (a0_0 : Int) (a0_1 : Int) (l0_2 : List Int) : Option (List Int) := if 0 ≤ wrap64 (mn a0_0 a0_1 + 1) then (if wrap64 (mn a0_0 a0_1 + 1) ≤ 1000 then impl_Board_walk.f k a0_0 a0_1 l0_2 (List.replicate (wrap64 (mn a0_0 a0_1 + 1)).toNat 0) else none) else none
theorem impl_Board_numbers.mono : ∀ a b l k, LeO (impl_Board_numbers.f k a b l) (impl_Board_numbers.f (k + 1) a b l) := by
 intro a b l k; unfold impl_Board_numbers.f; refine LeO.ite ?_ (LeO.refl _); refine LeO.ite ?_ (LeO.refl _); unfold impl_Board_walk.f; refine LeO.ite ?_ (LeO.refl _); refine LeO.ite ?_ (LeO.refl _); exact LeO.bind (impl_Board_walk_1.mono _ _ _ _ _ _ _ _) (fun _ => LeO.refl _)
theorem impl_Board_numbers.calls (k : Nat) (a0_0 : Int) (a0_1 : Int) (A0_2 : Option Addr) (c0_2 : Nat) (l0_2 : List Int) (r : List Int) (w : World) (hr0_2 : Kd.C (Kd.int .i64) w A0_2 l0_2.length l0_2) (hc0_2 : l0_2.length ≤ c0_2) (h : impl_Board_numbers.f k a0_0 a0_1 l0_2 = some r) :
  Calls Try.prog 113 #[.agg #[.int .i64 a0_0, .int .i64 a0_1, .slice A0_2 l0_2.length c0_2]] w fun e w' => ∃ v0_ : Value, e = .returned (v0_) ∧ (Kd.int .i64).R 3 w' w.heap.size (fun _ => True) v0_ r ∧ Below w.heap.size w w' := by
 unfold impl_Board_numbers.f at h; by_cases c3 : a0_1 < a0_0
 case pos =>
  have e : mn a0_0 a0_1 = a0_1 := by unfold mn; rw [if_pos c3]
  have c3' : (a0_1 < a0_0) = True := eq_true c3; rw [e] at h; clear e c3; by_cases c1 : 0 ≤ wrap64 (a0_1 + 1)
  case neg =>
   rw [if_neg c1] at h; exact absurd h (by simp)
  rw [if_pos c1] at h; by_cases c2 : wrap64 (a0_1 + 1) ≤ 1000
  case neg =>
   rw [if_neg c2] at h; exact absurd h (by simp)
  rw [if_pos c2] at h; have HR := A_ hr0_2; have HC := A_ hc0_2; have HA := A_ h; have HN : Aside0 ((wrap64 (a0_1 + 1)).toNat ≤ 1000) := ⟨by omega⟩
  have hu28 := Try.underlying26; have hmf_ : ∀ (fn : Go.Fn) (first cap : Array Value) (w : World), (Instr.makeFunc fn first cap).run Try.prog w = .ok (.func fn first cap) w := fun _ _ _ _ => rfl
  have hmk := print_make_int (P := Try.prog) 24 3 (.int .i64 0) 8 Try.underlying24 info3 rfl (by decide) (wrap64 (a0_1 + 1)) c1 (by have := HN.out; omega); clear hr0_2 hc0_2 h c1 c2; go_enter Try.func113, Try.ntmps113; go_wp2_with (first | (go_at_call 165; (have HS := A_ (Cap.Cnt.start (tB := 26) (tI := 24) (tR := 3) (w := w) (bs := #[.int .i64 a0_0, .int .i64 a0_1, .slice A0_2 l0_2.length c0_2]) (n := (wrap64 (a0_1 + 1)).toNat) (by have := HN.out; omega))); (refine (impl_Board_walk.calls k w _ (w.heap.size + 1 + 1) (w.heap.size + 1) a0_0 a0_1 A0_2 l0_2 c0_2 (List.replicate (wrap64 (a0_1 + 1)).toNat 0) r HS.out HR.out HC.out HA.out).mono ?_); rintro e w8 ⟨rfl, hs⟩; have HS8 := A_ hs; have hco8 := HS8.out.cello; clear hs))
  go_ret; exact ⟨_, rfl, HS8.out.row, HS8.out.bel⟩
 case neg =>
  have e : mn a0_0 a0_1 = a0_0 := by unfold mn; rw [if_neg c3]
  have c3' : (a0_1 < a0_0) = False := eq_false c3; rw [e] at h; clear e c3; by_cases c1 : 0 ≤ wrap64 (a0_0 + 1)
  case neg =>
   rw [if_neg c1] at h; exact absurd h (by simp)
  rw [if_pos c1] at h; by_cases c2 : wrap64 (a0_0 + 1) ≤ 1000
  case neg =>
   rw [if_neg c2] at h; exact absurd h (by simp)
  rw [if_pos c2] at h; have HR := A_ hr0_2; have HC := A_ hc0_2; have HA := A_ h; have HN : Aside0 ((wrap64 (a0_0 + 1)).toNat ≤ 1000) := ⟨by omega⟩
  have hu28 := Try.underlying26; have hmf_ : ∀ (fn : Go.Fn) (first cap : Array Value) (w : World), (Instr.makeFunc fn first cap).run Try.prog w = .ok (.func fn first cap) w := fun _ _ _ _ => rfl
  have hmk := print_make_int (P := Try.prog) 24 3 (.int .i64 0) 8 Try.underlying24 info3 rfl (by decide) (wrap64 (a0_0 + 1)) c1 (by have := HN.out; omega); clear hr0_2 hc0_2 h c1 c2; go_enter Try.func113, Try.ntmps113; go_wp2_with (first | (go_at_call 165; (have HS := A_ (Cap.Cnt.start (tB := 26) (tI := 24) (tR := 3) (w := w) (bs := #[.int .i64 a0_0, .int .i64 a0_1, .slice A0_2 l0_2.length c0_2]) (n := (wrap64 (a0_0 + 1)).toNat) (by have := HN.out; omega))); (refine (impl_Board_walk.calls k w _ (w.heap.size + 1 + 1) (w.heap.size + 1) a0_0 a0_1 A0_2 l0_2 c0_2 (List.replicate (wrap64 (a0_0 + 1)).toNat 0) r HS.out HR.out HC.out HA.out).mono ?_); rintro e w8 ⟨rfl, hs⟩; have HS8 := A_ hs; have hco8 := HS8.out.cello; clear hs))
  go_ret; exact ⟨_, rfl, HS8.out.row, HS8.out.bel⟩

/-! ### impl_RookNumbers: function 39 -/
def impl_RookNumbers.f (k : Nat) (a0_0 : Int) (a0_1 : Int) (l0_2 : List Int) : Option (List Int × Bool) := (impl_IsBoard.f a0_0 a0_1 l0_2).bind fun t958 => (if t958 = true then ((impl_Board_numbers.f k a0_0 a0_1 l0_2).bind fun t959 => (some (t959, true))) else (some (([] : List Int), false)))
theorem impl_RookNumbers.mono : ∀ a0 a1 a2 k, LeO (impl_RookNumbers.f k a0 a1 a2) (impl_RookNumbers.f (k + 1) a0 a1 a2) := by
 intro a0 a1 a2 k; unfold impl_RookNumbers.f
 repeat' first | (with_reducible first | exact impl_Board_numbers.mono _ _ _ _ | exact LeO.refl _ | exact LeO.none _ | refine LeO.ite ?_ ?_ | refine LeO.bind ?_ (fun _ => ?_)) | exact impl_Board_numbers.mono _ _ _ _ | exact LeO.none _ | refine LeO.ite ?_ ?_ | refine LeO.bind ?_ (fun _ => ?_)
theorem impl_RookNumbers.calls (k : Nat) (a0_0 : Int) (a0_1 : Int) (A0_2 : Option Addr) (c0_2 : Nat) (l0_2 : List Int) (r1 : List Int) (r2 : Bool) (w : World) (hr0_2 : Kd.C (Kd.int .i64) w A0_2 l0_2.length l0_2) (hc0_2 : l0_2.length ≤ c0_2) (h : impl_RookNumbers.f k a0_0 a0_1 l0_2 = some (r1, r2)) :
  Calls Try.prog 39 #[.agg #[.int .i64 a0_0, .int .i64 a0_1, .slice A0_2 l0_2.length c0_2]] w fun e w' => ∃ v0_ : Value, e = .returned (.tuple #[v0_, .bool r2]) ∧ Kd.R (Kd.int .i64) 3 w' w.heap.size (fun _ => True) v0_ r1 ∧ Below w.heap.size w w' := by
 have hu26 := Try.underlying26; have HR0_2 := A_ hr0_2; have HC0_2 := A_ hc0_2; clear hr0_2 hc0_2; have HB := A_ (Below.refl w.heap.size w); have H : ((impl_IsBoard.f a0_0 a0_1 l0_2).bind fun t958 => (if t958 = true then ((impl_Board_numbers.f k a0_0 a0_1 l0_2).bind fun t959 => (some (t959, true))) else (some (([] : List Int), false)))) = some (r1, r2) := h; clear h; replace H := Option.bind_eq_some_iff.mp H; obtain ⟨t958, A20, H⟩ := H; (try dsimp only at H); have A2 := A_ A20; clear A20; by_cases c3 : t958 = true
 ·
  subst c3; rw [if_pos rfl] at H; replace H := Option.bind_eq_some_iff.mp H; obtain ⟨t959, A40, H⟩ := H; replace H : (some (t959, true)) = some (r1, r2) := H; have A4 := A_ A40; clear A40; simp only [Option.some.injEq, Prod.mk.injEq] at H; obtain ⟨rfl, rfl⟩ := H; go_enter Try.func39, Try.ntmps39; go_wp2_with (first | (refine gd_ 1 ?_; refine bx_ 1 #[.int .i64 a0_0, .int .i64 a0_1, .slice A0_2 l0_2.length c0_2] 26 ?_; intro gb957 hg w5 hbox hb; have BK957 := A_ (hbox); have GW957 := A_ ((ts_ hg : w.heap.size ≤ gb957)); have GE957 := A_ ((ts_ hg : w.heap.size ≤ gb957)); replace HB := A_ (below_step tb_ hb); clear hb hbox hg; obtain ⟨hcz6_0, hcz6_1, hcz6_2, hfz6_0, hfz6_1, hfz6_2⟩ := cf3_ BK957.out) | (refine gc_ 76 ?_; refine goesT_ (some 5) Try.func76 #[.agg #[.int .i64 a0_0, .int .i64 a0_1, .slice A0_2 l0_2.length c0_2]] ?_; (with_reducible refine (impl_IsBoard.calls a0_0 a0_1 _ _ l0_2 true _ ?side1 ?side2 A2.out).mono ?_); (case side1 => exact tc_ HR0_2.out); (case side2 => exact HC0_2.out); rintro e w7 ⟨rfl, hb⟩; refine ⟨_, rfl, ?_⟩; replace BK957 := A_ (blk_below (g := gb957) (o := .cells #[.int .i64 a0_0, .int .i64 a0_1, .slice A0_2 l0_2.length c0_2] 26 (0, 0)) (tk_ BK957) hb); replace HB := A_ (below_step tb_ hb); (try clear hb); obtain ⟨hcz8_0, hcz8_1, hcz8_2, hfz8_0, hfz8_1, hfz8_2⟩ := cf3_ BK957.out) | (refine gc_ 113 ?_; refine goesT_ (some 8) Try.func113 #[.agg #[.int .i64 a0_0, .int .i64 a0_1, .slice A0_2 l0_2.length c0_2]] ?_; (with_reducible refine (impl_Board_numbers.calls k a0_0 a0_1 _ _ l0_2 t959 _ ?side1 ?side2 A4.out).mono ?_); (case side1 => exact tc_ HR0_2.out); (case side2 => exact HC0_2.out); rintro e w9 ⟨v960, rfl, ho0, hb⟩; refine ⟨_, rfl, ?_⟩; have HO961 := A_ (Kd.R_lower ho0 (below_size tb_)); replace BK957 := A_ (blk_below (g := gb957) (o := .cells #[.int .i64 a0_0, .int .i64 a0_1, .slice A0_2 l0_2.length c0_2] 26 (0, 0)) (tk_ BK957) hb); replace HB := A_ (below_step tb_ hb); (try clear hb); (try clear ho0)))
  go_ret2; exact ⟨_, te_, tr_x HO961.out, tb_⟩
 ·
  replace c3 := Bool.eq_false_iff.mpr c3; subst c3; rw [if_neg (show ¬ (false = true) by decide)] at H; simp only [Option.some.injEq, Prod.mk.injEq] at H; obtain ⟨rfl, rfl⟩ := H; go_enter Try.func39, Try.ntmps39; go_wp2_with (first | (refine gd_ 1 ?_; refine bx_ 1 #[.int .i64 a0_0, .int .i64 a0_1, .slice A0_2 l0_2.length c0_2] 26 ?_; intro gb957 hg w10 hbox hb; have BK957 := A_ (hbox); have GW957 := A_ ((ts_ hg : w.heap.size ≤ gb957)); have GE957 := A_ ((ts_ hg : w.heap.size ≤ gb957)); replace HB := A_ (below_step tb_ hb); clear hb hbox hg; obtain ⟨hcz11_0, hcz11_1, hcz11_2, hfz11_0, hfz11_1, hfz11_2⟩ := cf3_ BK957.out) | (refine gc_ 76 ?_; refine goesT_ (some 5) Try.func76 #[.agg #[.int .i64 a0_0, .int .i64 a0_1, .slice A0_2 l0_2.length c0_2]] ?_; (with_reducible refine (impl_IsBoard.calls a0_0 a0_1 _ _ l0_2 false _ ?side1 ?side2 A2.out).mono ?_); (case side1 => exact tc_ HR0_2.out); (case side2 => exact HC0_2.out); rintro e w12 ⟨rfl, hb⟩; refine ⟨_, rfl, ?_⟩; replace BK957 := A_ (blk_below (g := gb957) (o := .cells #[.int .i64 a0_0, .int .i64 a0_1, .slice A0_2 l0_2.length c0_2] 26 (0, 0)) (tk_ BK957) hb); replace HB := A_ (below_step tb_ hb); (try clear hb)))
  go_ret2; exact ⟨_, te_, by first | exact Kd.R_nil _ _ _ _ _ | exact Kd.N_nil _ _ _ _ _ | exact Kd.V_nil _ _ _ _ _ | exact Kd.Q_nil _ _ _ _ _ | exact Kd.S_nil _ _ _ _ _, tb_⟩

/-! ### spec_l1Least: function 190 -/
def spec_l1Least.f (a0 : Int) (a1 : Int) : Option (Int) := if a0 < a1 then (some a0) else (some a1)
theorem spec_l1Least.calls (a0 : Int) (a1 : Int) (r : Int) (w : World) (h : spec_l1Least.f a0 a1 = some r) :
  Calls Try.prog 190 #[.int .i64 a0, .int .i64 a1] w fun e w' => e = .returned (.int .i64 r) ∧ Drawn0 w w' := by
 have H : (if a0 < a1 then (some a0) else (some a1)) = some r := h; clear h; by_cases c3 : a0 < a1
 ·
  rw [if_pos c3] at H; have c3b0 := decide_eq_true c3; clear c3; obtain rfl := Option.some.inj H; go_enter Try.func190, Try.ntmps190; go_wp2; go_ret; exact ⟨tf_, dr_⟩
 ·
  rw [if_neg c3] at H; have c3b0 := decide_eq_false c3; clear c3; obtain rfl := Option.some.inj H; go_enter Try.func190, Try.ntmps190; go_wp2; go_ret; exact ⟨tf_, dr_⟩

end
end Go.Proofs.Ytdoflpghemgbdaa.P
