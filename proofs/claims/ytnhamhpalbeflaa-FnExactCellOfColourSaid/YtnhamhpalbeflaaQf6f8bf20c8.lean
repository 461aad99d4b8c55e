-- printed functions (wip/slim.py)
import Derived.Test.YtnhamhpalbeflaaPx0
import Derived.Test.YtnhamhpalbeflaaQ5c71cf2213
namespace Go.Proofs.Ytnhamhpalbeflaa.P
noncomputable section
set_option maxHeartbeats 8000000
set_option maxRecDepth 100000
open Go.RowKit Go.Proofs.YtnhamhpalbeflaaW.PrintWords Go.Proofs.YtnhamhpalbeflaaW.PrintLast Go.Proofs.YtnhamhpalbeflaaW.PrintMore
attribute [local go_sem] max2_int min2_int max_two min_two max_three min_three max_four min_four   -- for this text's walks alone
set_option linter.unusedVariables false
set_option linter.unusedSimpArgs false

/-! ### slices_IndexFunc_int_int_203: function 203 -/
def slices_IndexFunc_int_int_203.l0 : Nat → List Int → FnT87 → Int → Int → Option (Int)
 | 0, _, _, _, _ => none
 | k + 1, x0, x1, x7, x8 => if x8 < x7 then (if 0 ≤ x8 then (if x8 < (x0.length : Int) then ((FnCall87.f (rd x0 x8) x1).bind fun t203 => (if t203 = true then (some x8) else (slices_IndexFunc_int_int_203.l0 k x0 x1 x7 (wrap64 (x8 + 1))))) else (none)) else (none)) else (some (-1))
def slices_IndexFunc_int_int_203.f (k : Nat) (l0 : List Int) (a1 : FnT87) : Option (Int) := slices_IndexFunc_int_int_203.l0 k l0 a1 (l0.length : Int) 0
theorem slices_IndexFunc_int_int_203.mono_l : ∀ k, (∀ y0 y1 y2 y3, LeO (slices_IndexFunc_int_int_203.l0 k y0 y1 y2 y3) (slices_IndexFunc_int_int_203.l0 (k + 1) y0 y1 y2 y3))
 | 0 => fun _ _ _ _ r h => by simp [slices_IndexFunc_int_int_203.l0] at h
 | k + 1 => by
  have ih0 := slices_IndexFunc_int_int_203.mono_l k
  ·
   intro y0 y1 y2 y3
   unfold slices_IndexFunc_int_int_203.l0
   repeat' first | (with_reducible first | exact ih0 _ _ _ _ | exact LeO.refl _ | exact LeO.none _ | refine LeO.ite ?_ ?_ | refine LeO.bind ?_ (fun _ => ?_)) | exact ih0 _ _ _ _ | exact LeO.none _ | refine LeO.ite ?_ ?_ | refine LeO.bind ?_ (fun _ => ?_)
theorem slices_IndexFunc_int_int_203.mono : ∀ a0 a1 k, LeO (slices_IndexFunc_int_int_203.f k a0 a1) (slices_IndexFunc_int_int_203.f (k + 1) a0 a1) := by
 intro a0 a1 k
 have ih0 := slices_IndexFunc_int_int_203.mono_l k
 unfold slices_IndexFunc_int_int_203.f
 repeat' first | (with_reducible first | exact ih0 _ _ _ _ | exact LeO.refl _ | exact LeO.none _ | refine LeO.ite ?_ ?_ | refine LeO.bind ?_ (fun _ => ?_)) | exact ih0 _ _ _ _ | exact LeO.none _ | refine LeO.ite ?_ ?_ | refine LeO.bind ?_ (fun _ => ?_)
theorem slices_IndexFunc_int_int_203.calls (k : Nat) (A0 : Option Addr) (c0 : Nat) (l0 : List Int) (v1 : Value) (a1 : FnT87) (r : Int) (w : World) (hr0 : Kd.C (Kd.int .i64) w A0 l0.length l0) (hc0 : l0.length ≤ c0) (hF1 : FnOk87 w v1 a1) (h : slices_IndexFunc_int_int_203.f k l0 a1 = some r) :
  Calls Try.prog 203 #[.slice A0 l0.length c0, v1] w fun e w' => e = .returned (.int .i64 r) ∧ Below w.heap.size w w' := by
 have HR0 := A_ hr0
 have HC0 := A_ hc0
 clear hr0 hc0
 have HF1 := A_ hF1
 clear hF1
 have HB := A_ (Below.refl w.heap.size w)
 have H : (slices_IndexFunc_int_int_203.l0 k l0 a1 (l0.length : Int) 0) = some r := h
 clear h
 have H' := A_ H
 clear H
 go_enter Try.func203, Try.ntmps203
 go_wp2
 go_loopg [8] k (fun kq v8 w' => ∃ (x8_1 : Int), v8 = .int .i64 x8_1 ∧ Aside0 (slices_IndexFunc_int_int_203.l0 kq l0 a1 (l0.length : Int) x8_1 = some r) ∧ Aside0 (kq ≤ k) ∧ Aside0 (Below w.heap.size w w'))
 case atStart => exact ⟨(0), tf_, H', ⟨Nat.le_refl _⟩, ⟨tb_⟩⟩
 case round =>
  clear H'
  try clear c2
  try clear p2
  obtain ⟨x8_1, rfl, HA, HK1, HB⟩ := hrel
  cases gk with
  | zero => exact absurd HA.out (by simp [slices_IndexFunc_int_int_203.l0])
  | succ k1 =>
   have H := HA.out
   clear HA
   simp only [slices_IndexFunc_int_int_203.l0] at H
   by_cases c3 : x8_1 < (l0.length : Int)
   ·
    rw [if_pos c3] at H
    have c3b0 := decide_eq_true c3
    clear c3
    by_cases c4 : 0 ≤ x8_1
    ·
     rw [if_pos c4] at H
     have c4b0 := decide_eq_true c4
     clear c4
     by_cases c5 : x8_1 < (l0.length : Int)
     ·
      rw [if_pos c5] at H
      have c5b0 := decide_eq_true c5
      clear c5
      replace H := Option.bind_eq_some_iff.mp H
      obtain ⟨t203, A60, H⟩ := H
      replace H : (if t203 = true then (some x8_1) else (slices_IndexFunc_int_int_203.l0 k1 l0 a1 (l0.length : Int) (wrap64 (x8_1 + 1)))) = some r := H
      have A6 := A_ A60
      clear A60
      by_cases c7 : t203 = true
      ·
       subst c7
       have H1 : (some x8_1) = some r := by rw [if_pos rfl] at H; exact H
       clear H
       have H := H1
       clear H1
       obtain rfl := Option.some.inj H
       have p202 : 0 ≤ (x8_1 : Int) := od_
       have q202 : x8_1 < (l0.length : Int) := od_
       obtain ⟨ad202, e202, hx202_0⟩ := Kd.at_int HR0.out x8_1 p202 q202
       cases e202
       (try replace hx202_0 := (HB.out.cell (World.block_lt_of_cell? w _ hx202_0)).trans hx202_0)
       replace p202 := eq_true p202
       replace q202 := eq_true q202
       go_wp2_with (first | ((with_reducible refine Fn.gate_value rfl ?_); refine Fn.goesVw_ (some 16) rfl (by first | rfl | (simp [Region.wanted, yielded]; done)) v1 rfl #[.int .i64 (rd l0 x8_1)] rfl ta_ ?_; (with_reducible refine (FnCall87.calls (rd l0 x8_1) v1 a1 true _ ?side1 A6.out).mono ?_); (case side1 => exact FnOk87.mono HF1.out tb_); rintro e w8 ⟨rfl, hb⟩; refine ⟨_, rfl, ?_⟩; replace HB := A_ (below_step tb_ hb); (try clear hb)))
       go_ret
       exact ⟨te_, tb_⟩
      ·
       replace c7 := Bool.eq_false_iff.mpr c7
       subst c7
       have H1 : (slices_IndexFunc_int_int_203.l0 k1 l0 a1 (l0.length : Int) (wrap64 (x8_1 + 1))) = some r := by rw [if_neg (show ¬ (false = true) by decide)] at H; exact H
       clear H
       have H := H1
       clear H1
       have H' := A_ H
       clear H
       have p202 : 0 ≤ (x8_1 : Int) := od_
       have q202 : x8_1 < (l0.length : Int) := od_
       obtain ⟨ad202, e202, hx202_0⟩ := Kd.at_int HR0.out x8_1 p202 q202
       cases e202
       (try replace hx202_0 := (HB.out.cell (World.block_lt_of_cell? w _ hx202_0)).trans hx202_0)
       replace p202 := eq_true p202
       replace q202 := eq_true q202
       go_wp2_with (first | ((with_reducible refine Fn.gate_value rfl ?_); refine Fn.goesVw_ (some 16) rfl (by first | rfl | (simp [Region.wanted, yielded]; done)) v1 rfl #[.int .i64 (rd l0 x8_1)] rfl ta_ ?_; (with_reducible refine (FnCall87.calls (rd l0 x8_1) v1 a1 false _ ?side1 A6.out).mono ?_); (case side1 => exact FnOk87.mono HF1.out tb_); rintro e w9 ⟨rfl, hb⟩; refine ⟨_, rfl, ?_⟩; replace HB := A_ (below_step tb_ hb); (try clear hb)))
       go_roundg k1
       case measure => have := HK1.out; omega
       case rel => exact ⟨(wrap64 (x8_1 + 1)), tf_, H', ⟨by have := HK1.out; omega⟩, ⟨tb_⟩⟩
     ·
      rw [if_neg c5] at H
      exact absurd H (by simp)
    ·
     rw [if_neg c4] at H
     exact absurd H (by simp)
   ·
    rw [if_neg c3] at H
    have c3b0 := decide_eq_false c3
    clear c3
    obtain rfl := Option.some.inj H
    go_wp2
    go_ret
    exact ⟨te_, tb_⟩

/-! ### slices_ContainsFunc_int_int_156: function 156 -/
def slices_ContainsFunc_int_int_156.f (k : Nat) (l0 : List Int) (a1 : FnT87) : Option (Bool) := (slices_IndexFunc_int_int_203.f k l0 a1).bind fun t204 => (some (decide (t204 ≥ 0)))
theorem slices_ContainsFunc_int_int_156.mono : ∀ a0 a1 k, LeO (slices_ContainsFunc_int_int_156.f k a0 a1) (slices_ContainsFunc_int_int_156.f (k + 1) a0 a1) := by
 intro a0 a1 k
 unfold slices_ContainsFunc_int_int_156.f
 repeat' first | (with_reducible first | exact slices_IndexFunc_int_int_203.mono _ _ _ | exact LeO.refl _ | exact LeO.none _ | refine LeO.ite ?_ ?_ | refine LeO.bind ?_ (fun _ => ?_)) | exact slices_IndexFunc_int_int_203.mono _ _ _ | exact LeO.none _ | refine LeO.ite ?_ ?_ | refine LeO.bind ?_ (fun _ => ?_)
theorem slices_ContainsFunc_int_int_156.calls (k : Nat) (A0 : Option Addr) (c0 : Nat) (l0 : List Int) (v1 : Value) (a1 : FnT87) (r : Bool) (w : World) (hr0 : Kd.C (Kd.int .i64) w A0 l0.length l0) (hc0 : l0.length ≤ c0) (hF1 : FnOk87 w v1 a1) (h : slices_ContainsFunc_int_int_156.f k l0 a1 = some r) :
  Calls Try.prog 156 #[.slice A0 l0.length c0, v1] w fun e w' => e = .returned (.bool r) ∧ Below w.heap.size w w' := by
 have HR0 := A_ hr0
 have HC0 := A_ hc0
 clear hr0 hc0
 have HF1 := A_ hF1
 clear hF1
 have HB := A_ (Below.refl w.heap.size w)
 have H : ((slices_IndexFunc_int_int_203.f k l0 a1).bind fun t204 => (some (decide (t204 ≥ 0)))) = some r := h
 clear h
 replace H := Option.bind_eq_some_iff.mp H
 obtain ⟨t204, A30, H⟩ := H
 replace H : (some (decide (t204 ≥ 0))) = some r := H
 have A3 := A_ A30
 clear A30
 obtain rfl := Option.some.inj H
 go_enter Try.func156, Try.ntmps156
 go_wp2_with (first | (refine gc_ 203 ?_; refine goesT_ (some 7) Try.func203 #[.slice A0 l0.length c0, v1] ?_; (with_reducible refine (slices_IndexFunc_int_int_203.calls k _ _ l0 v1 a1 t204 _ ?side1 ?side2 ?side3 A3.out).mono ?_); (case side1 => exact tc0_ HR0.out); (case side2 => exact HC0.out); (case side3 => exact FnOk87.mono HF1.out tb_); rintro e w4 ⟨rfl, hb⟩; refine ⟨_, rfl, ?_⟩; replace HB := A_ (below_step tb_ hb); (try clear hb)))
 go_ret
 exact ⟨te_, tb_⟩

/-! ### impl_isSide: function 160 -/
def impl_isSide.f (a0 : Int) : Option (Bool) := (impl_within.f a0 1 6).bind fun t205 => (some t205)
theorem impl_isSide.calls (a0 : Int) (r : Bool) (w : World) (h : impl_isSide.f a0 = some r) :
  Calls Try.prog 160 #[.int .i64 a0] w fun e w' => e = .returned (.bool r) ∧ Drawn0 w w' := by
 have H : ((impl_within.f a0 1 6).bind fun t205 => (some t205)) = some r := h
 clear h
 replace H := Option.bind_eq_some_iff.mp H
 obtain ⟨t205, A20, H⟩ := H
 replace H : (some t205) = some r := H
 have A2 := A_ A20
 clear A20
 obtain rfl := Option.some.inj H
 go_enter Try.func160, Try.ntmps160
 go_wp2_with (first | (refine gc_ 102 ?_; refine goesT_ (some 4) Try.func102 #[.int .i64 a0, .int .i64 1, .int .i64 6] ?_; (with_reducible refine (impl_within.calls a0 1 6 t205 _ A2.out).mono ?_); rintro e w' ⟨rfl, ⟨nd, rfl⟩⟩; refine ⟨_, rfl, ?_⟩))
 go_ret
 exact ⟨tf_, dr_⟩

/-! ### impl_IsBoard: function 84 -/
def boardB (rows cols : Int) (cells : List Int) : Bool := decide (1 ≤ rows ∧ rows ≤ 6) && decide (1 ≤ cols ∧ cols ≤ 6) && decide ((cells.length : Int) = rows) && cells.all fun m => decide (0 ≤ m ∧ m ≤ 2 ^ cols.toNat - 1)
def impl_IsBoard.f (a0_0 : Int) (a0_1 : Int) (l0_2 : List Int) : Option (Bool) := some (boardB a0_0 a0_1 l0_2)
theorem impl_IsBoard.closure (m cols : Int) (g : Nat) (w : World) (hc : w.cell? ⟨g, 1, none⟩ = some (.int .i64 cols)) (h0 : 1 ≤ cols) (h1 : cols ≤ 6) :
  Calls Try.prog 161 #[.int .i64 m, .pointer (some ⟨g, 0, none⟩)] w fun e w' => e = .returned (.bool (!(decide (0 ≤ m ∧ m ≤ 2 ^ cols.toNat - 1)))) ∧ w' = w := by
 have hcols : cols = 1 ∨ cols = 2 ∨ cols = 3 ∨ cols = 4 ∨ cols = 5 ∨ cols = 6 := by omega
 by_cases hm : 0 ≤ m
 ·
  rcases hcols with rfl | rfl | rfl | rfl | rfl | rfl
  all_goals
   go_enter Try.func161, Try.ntmps161
   go_wp2
   go_ret
   exact ⟨by simp [hm] <;> omega, rfl⟩
 ·
  rcases hcols with rfl | rfl | rfl | rfl | rfl | rfl
  all_goals
   go_enter Try.func161, Try.ntmps161
   go_wp2
   go_ret
   exact ⟨by simp [hm], rfl⟩
theorem impl_IsBoard.index (l : List Int) (P : Int → Bool) (hb : l.length ≤ 1152921504606846976) : ∀ (d i : Nat) (k : Nat), l.length - i = d → i ≤ l.length → d < k →
  ∃ r : Int, slices_IndexFunc_int_int_203.l0 k l (fun x => some (P x)) (l.length : Int) (i : Int) = some r ∧ decide (r ≥ 0) = (l.drop i).any P := by
 intro d
 induction d with
 | zero =>
  intro i k hd hi hk
  obtain ⟨k, rfl⟩ : ∃ m, k = m + 1 := ⟨k - 1, by omega⟩
  exact ⟨-1, by rw [slices_IndexFunc_int_int_203.l0, if_neg (by omega)], by rw [List.drop_eq_nil_of_le (by omega)]; rfl⟩
 | succ d ih =>
  intro i k hd hi hk
  obtain ⟨k, rfl⟩ : ∃ m, k = m + 1 := ⟨k - 1, by omega⟩
  have h1 : i < l.length := by omega
  have hr : rd l (i : Int) = l[i] := by unfold rd; simp [List.getD_eq_getElem?_getD, List.getElem?_eq_getElem h1]
  rw [List.drop_eq_getElem_cons h1, List.any_cons]
  by_cases hp : P l[i] = true
  ·
   refine ⟨i, ?_, ?_⟩
   ·
    rw [slices_IndexFunc_int_int_203.l0, if_pos (by omega), if_pos (by omega), if_pos (by omega), hr]
    simp only [FnCall87.f, hp, Option.bind_some, if_true]
   ·
    rw [hp, Bool.true_or]; simp
  ·
   obtain ⟨r, h2, h3⟩ := ih (i + 1) k (by omega) (by omega) (by omega)
   refine ⟨r, ?_, ?_⟩
   ·
    rw [slices_IndexFunc_int_int_203.l0, if_pos (by omega), if_pos (by omega), if_pos (by omega), hr]
    simp only [FnCall87.f, hp, Option.bind_some]
    rw [if_neg (by simp), show wrap64 ((i : Int) + 1) = ((i + 1 : Nat) : Int) by unfold wrap64; omega]
    exact h2
   ·
    rw [h3]; simp only [Bool.not_eq_true] at hp; rw [hp, Bool.false_or]
theorem impl_IsBoard.contains (l : List Int) (P : Int → Bool) (hb : l.length ≤ 1152921504606846976) : slices_ContainsFunc_int_int_156.f (l.length + 1) l (fun x => some (P x)) = some (l.any P) := by
 obtain ⟨r, h1, h2⟩ := impl_IsBoard.index l P hb l.length 0 (l.length + 1) (by omega) (by omega) (by omega)
 simp only [slices_ContainsFunc_int_int_156.f, slices_IndexFunc_int_int_203.f]
 rw [show (0 : Int) = ((0 : Nat) : Int) from rfl, h1, Option.bind_some, show (((0 : Nat) : Int)) = 0 from rfl, h2]
 simp
theorem impl_IsBoard.calls (a0_0 : Int) (a0_1 : Int) (A0_2 : Option Addr) (c0_2 : Nat) (l0_2 : List Int) (r : Bool) (w : World) (hr0_2 : Kd.C (Kd.int .i64) w A0_2 l0_2.length l0_2) (hc0_2 : l0_2.length ≤ c0_2) (h : impl_IsBoard.f a0_0 a0_1 l0_2 = some r) :
  Calls Try.prog 84 #[.agg #[.int .i64 a0_0, .int .i64 a0_1, .slice A0_2 l0_2.length c0_2]] w fun e w' => e = .returned (.bool r) ∧ Below w.heap.size w w' := by
 obtain rfl := Option.some.inj h
 clear h
 have hu := Try.underlying26
 have HR := A_ hr0_2
 have HC := A_ hc0_2
 clear hr0_2 hc0_2
 have HB := A_ (Below.refl w.heap.size w)
 have hmf_ : ∀ (fn : Go.Fn) (first cap : Array Value) (w : World), (Instr.makeFunc fn first cap).run Try.prog w = .ok (.func fn first cap) w := fun _ _ _ _ => rfl
 have early : boardB a0_0 a0_1 l0_2 = false → (1 ≤ a0_0 ∧ a0_0 ≤ 6 → 1 ≤ a0_1 ∧ a0_1 ≤ 6 → ¬ (l0_2.length : Int) = a0_0) →
   Calls Try.prog 84 #[.agg #[.int .i64 a0_0, .int .i64 a0_1, .slice A0_2 l0_2.length c0_2]] w fun e w' => e = .returned (.bool (boardB a0_0 a0_1 l0_2)) ∧ Below w.heap.size w w' := by
  intro e hno
  have E := A_ e
  clear e
  by_cases h1 : 1 ≤ a0_0
  ·
   by_cases h2 : a0_0 ≤ 6
   ·
    by_cases h3 : 1 ≤ a0_1
    ·
     by_cases h4 : a0_1 ≤ 6
     ·
      have h5 : ((l0_2.length : Int) != a0_0) = true := bne_iff_ne.mpr (hno ⟨h1, h2⟩ ⟨h3, h4⟩)
      clear hno
      go_enter Try.func84, Try.ntmps84
      go_wp2
      go_ret
      exact ⟨by rw [E.out]; rfl, below_alloc (Below.refl _ _) _⟩
     ·
      clear hno
      go_enter Try.func84, Try.ntmps84
      go_wp2
      go_ret
      exact ⟨by rw [E.out]; rfl, below_alloc (Below.refl _ _) _⟩
    ·
     clear hno
     go_enter Try.func84, Try.ntmps84
     go_wp2
     go_ret
     exact ⟨by rw [E.out]; rfl, below_alloc (Below.refl _ _) _⟩
   ·
    clear hno
    go_enter Try.func84, Try.ntmps84
    go_wp2
    go_ret
    exact ⟨by rw [E.out]; rfl, below_alloc (Below.refl _ _) _⟩
  ·
   clear hno
   go_enter Try.func84, Try.ntmps84
   go_wp2
   go_ret
   exact ⟨by rw [E.out]; rfl, below_alloc (Below.refl _ _) _⟩
 by_cases hall : (1 ≤ a0_0 ∧ a0_0 ≤ 6) ∧ (1 ≤ a0_1 ∧ a0_1 ≤ 6) ∧ (l0_2.length : Int) = a0_0
 ·
  obtain ⟨⟨h1, h2⟩, ⟨h3, h4⟩, h5⟩ := hall
  have e : boardB a0_0 a0_1 l0_2 = l0_2.all (fun m => decide (0 ≤ m ∧ m ≤ 2 ^ a0_1.toNat - 1)) := by simp [boardB, h1, h2, h3, h4, h5]
  have e2 : (l0_2.any fun m => !(decide (0 ≤ m ∧ m ≤ 2 ^ a0_1.toNat - 1))) = !(boardB a0_0 a0_1 l0_2) := by rw [e, List.not_all_eq_any_not]
  have hlen : l0_2.length ≤ 1152921504606846976 := by omega
  have HN : Aside0 (slices_ContainsFunc_int_int_156.f (l0_2.length + 1) l0_2 (fun m => some (!(decide (0 ≤ m ∧ m ≤ 2 ^ a0_1.toNat - 1)))) = some (!(boardB a0_0 a0_1 l0_2))) := ⟨(impl_IsBoard.contains l0_2 _ hlen).trans (by rw [e2])⟩
  clear e e2 early
  have h5b : ((l0_2.length : Int) != a0_0) = false := bne_eq_false_iff_eq.mpr h5
  have H3 := A_ h3
  have H4 := A_ h4
  have HF : ∀ W : World, W.cell? ⟨w.heap.size, 1, none⟩ = some (.int .i64 a0_1) → FnOk87 W (.func (.func 161) #[] #[.pointer (some ⟨w.heap.size, 0, none⟩)]) (fun m => some (!(decide (0 ≤ m ∧ m ≤ 2 ^ a0_1.toNat - 1)))) := by
   intro W hc m r W1 h hB
   obtain rfl := Option.some.inj h
   refine ⟨161, _, _, rfl, Try.func161, by kernel_rfl, rfl, ?_⟩
   refine (impl_IsBoard.closure m a0_1 w.heap.size W1 ((hB.cell (World.block_lt_of_cell? W _ hc)).trans hc) H3.out H4.out).mono ?_
   rintro e w' ⟨he, rfl⟩
   exact ⟨he, Below.refl _ _⟩
  have HF' := A_ HF
  clear HF h5 hlen
  have S1 : Aside0 (impl_isSide.f a0_0 = some true) := ⟨by unfold impl_isSide.f impl_within.f; rw [if_pos h1]; simpa using h2⟩
  have S2 : Aside0 (impl_isSide.f a0_1 = some true) := ⟨by unfold impl_isSide.f impl_within.f; rw [if_pos h3]; simpa using h4⟩
  go_enter Try.func84, Try.ntmps84
  go_wp2_with (first | (go_at_call 160; (with_reducible refine (impl_isSide.calls a0_0 true _ S1.out).mono ?_); rintro e w' ⟨rfl, ⟨nd, rfl⟩⟩) | (go_at_call 160; (with_reducible refine (impl_isSide.calls a0_1 true _ S2.out).mono ?_); rintro e w' ⟨rfl, ⟨nd, rfl⟩⟩) | (go_at_call 156; refine (slices_ContainsFunc_int_int_156.calls (l0_2.length + 1) _ _ l0_2 (.func (.func 161) #[] #[.pointer (some ⟨w.heap.size, 0, none⟩)]) (fun m => some (!(decide (0 ≤ m ∧ m ≤ 2 ^ a0_1.toNat - 1)))) _ _ ?s1 HC.out (HF'.out _ (by go_simp)) HN.out).mono ?_; (case s1 => exact tc0_ HR.out); rintro e w1 ⟨rfl, hb⟩; have HB1 := A_ hb; clear hb))
  go_ret
  exact ⟨by simp, below_then (by repeat (first | exact Below.refl _ _ | apply pw_below_drewN | apply below_alloc)) (by simp) HB1.out⟩
 ·
  refine early ?_ ?_
  ·
   simp only [boardB, Bool.and_eq_false_iff, decide_eq_false_iff_not]
   by_cases ha : 1 ≤ a0_0 ∧ a0_0 ≤ 6
   ·
    by_cases hb : 1 ≤ a0_1 ∧ a0_1 ≤ 6
    ·
     exact .inl (.inr (fun hc => hall ⟨ha, hb, hc⟩))
    ·
     exact .inl (.inl (.inr hb))
   ·
    exact .inl (.inl (.inl ha))
  ·
   exact fun ha hb hc => hall ⟨ha, hb, hc⟩

/-! ### spec_l1In: function 105 -/
def spec_l1In.f (a0 : Int) (a1 : Int) (a2 : Int) : Option (Bool) := if a0 ≥ a1 then (some (decide (a0 ≤ a2))) else (some false)
theorem spec_l1In.calls (a0 : Int) (a1 : Int) (a2 : Int) (r : Bool) (w : World) (h : spec_l1In.f a0 a1 a2 = some r) :
  Calls Try.prog 105 #[.int .i64 a0, .int .i64 a1, .int .i64 a2] w fun e w' => e = .returned (.bool r) ∧ Drawn0 w w' := by
 have H : (if a0 ≥ a1 then (some (decide (a0 ≤ a2))) else (some false)) = some r := h
 clear h
 by_cases c4 : a0 ≥ a1
 ·
  rw [if_pos c4] at H
  have c4b0 := decide_eq_true c4
  clear c4
  obtain rfl := Option.some.inj H
  go_enter Try.func105, Try.ntmps105
  go_wp2
  go_ret
  exact ⟨tf_, dr_⟩
 ·
  rw [if_neg c4] at H
  have c4b0 := decide_eq_false c4
  clear c4
  obtain rfl := Option.some.inj H
  go_enter Try.func105, Try.ntmps105
  go_wp2
  go_ret
  exact ⟨tf_, dr_⟩

/-! ### spec_boSide: function 165 -/
def spec_boSide.f (a0 : Int) : Option (Bool) := (spec_l1In.f a0 1 6).bind fun t214 => (some t214)
theorem spec_boSide.calls (a0 : Int) (r : Bool) (w : World) (h : spec_boSide.f a0 = some r) :
  Calls Try.prog 165 #[.int .i64 a0] w fun e w' => e = .returned (.bool r) ∧ Drawn0 w w' := by
 have H : ((spec_l1In.f a0 1 6).bind fun t214 => (some t214)) = some r := h
 clear h
 replace H := Option.bind_eq_some_iff.mp H
 obtain ⟨t214, A20, H⟩ := H
 replace H : (some t214) = some r := H
 have A2 := A_ A20
 clear A20
 obtain rfl := Option.some.inj H
 go_enter Try.func165, Try.ntmps165
 go_wp2_with (first | (refine gc_ 105 ?_; refine goesT_ (some 4) Try.func105 #[.int .i64 a0, .int .i64 1, .int .i64 6] ?_; (with_reducible refine (spec_l1In.calls a0 1 6 t214 _ A2.out).mono ?_); rintro e w' ⟨rfl, ⟨nd, rfl⟩⟩; refine ⟨_, rfl, ?_⟩))
 go_ret
 exact ⟨tf_, dr_⟩

/-! ### spec_l1All: function 166 -/
def spec_l1All.l0 : Nat → Int → Int → List Int → Int → Int → Option (Bool)
 | 0, _, _, _, _, _ => none
 | k + 1, x1, x2, x9, x10, x11 => if x11 < x10 then (if 0 ≤ x11 then (if x11 < (x9.length : Int) then ((spec_l1In.f (rd x9 x11) x1 x2).bind fun t216 => (if t216 = true then (spec_l1All.l0 k x1 x2 x9 x10 (wrap64 (x11 + 1))) else (some false))) else (none)) else (none)) else (some true)
def spec_l1All.f (k : Nat) (l0 : List Int) (a1 : Int) (a2 : Int) : Option (Bool) := spec_l1All.l0 k a1 a2 l0 (l0.length : Int) 0
theorem spec_l1All.mono_l : ∀ k, (∀ y0 y1 y2 y3 y4, LeO (spec_l1All.l0 k y0 y1 y2 y3 y4) (spec_l1All.l0 (k + 1) y0 y1 y2 y3 y4))
 | 0 => fun _ _ _ _ _ r h => by simp [spec_l1All.l0] at h
 | k + 1 => by
  have ih0 := spec_l1All.mono_l k
  ·
   intro y0 y1 y2 y3 y4
   unfold spec_l1All.l0
   repeat' first | (with_reducible first | exact ih0 _ _ _ _ _ | exact LeO.refl _ | exact LeO.none _ | refine LeO.ite ?_ ?_ | refine LeO.bind ?_ (fun _ => ?_)) | exact ih0 _ _ _ _ _ | exact LeO.none _ | refine LeO.ite ?_ ?_ | refine LeO.bind ?_ (fun _ => ?_)
theorem spec_l1All.mono : ∀ a0 a1 a2 k, LeO (spec_l1All.f k a0 a1 a2) (spec_l1All.f (k + 1) a0 a1 a2) := by
 intro a0 a1 a2 k
 have ih0 := spec_l1All.mono_l k
 unfold spec_l1All.f
 repeat' first | (with_reducible first | exact ih0 _ _ _ _ _ | exact LeO.refl _ | exact LeO.none _ | refine LeO.ite ?_ ?_ | refine LeO.bind ?_ (fun _ => ?_)) | exact ih0 _ _ _ _ _ | exact LeO.none _ | refine LeO.ite ?_ ?_ | refine LeO.bind ?_ (fun _ => ?_)
theorem spec_l1All.calls (k : Nat) (A0 : Option Addr) (c0 : Nat) (l0 : List Int) (a1 : Int) (a2 : Int) (r : Bool) (w : World) (hr0 : Kd.C (Kd.int .i64) w A0 l0.length l0) (hc0 : l0.length ≤ c0) (h : spec_l1All.f k l0 a1 a2 = some r) :
  Calls Try.prog 166 #[.slice A0 l0.length c0, .int .i64 a1, .int .i64 a2] w fun e w' => e = .returned (.bool r) ∧ Drawn0 w w' := by
 have HR0 := A_ hr0
 have HC0 := A_ hc0
 clear hr0 hc0
 have H : (spec_l1All.l0 k a1 a2 l0 (l0.length : Int) 0) = some r := h
 clear h
 have H' := A_ H
 clear H
 go_enter Try.func166, Try.ntmps166
 go_wp2
 go_loopg [11] k (fun kq v11 w' => ∃ (x11_1 : Int), v11 = .int .i64 x11_1 ∧ Aside0 (spec_l1All.l0 kq a1 a2 l0 (l0.length : Int) x11_1 = some r) ∧ Aside0 (kq ≤ k) ∧ Drawn0 w w')
 case atStart => exact ⟨(0), tf_, H', ⟨Nat.le_refl _⟩, dr_⟩
 case round =>
  clear H'
  try clear c1
  try clear p2
  obtain ⟨x11_1, rfl, HA, HK1, ⟨m1, rfl⟩⟩ := hrel
  cases gk with
  | zero => exact absurd HA.out (by simp [spec_l1All.l0])
  | succ k1 =>
   have H := HA.out
   clear HA
   simp only [spec_l1All.l0] at H
   by_cases c4 : x11_1 < (l0.length : Int)
   ·
    rw [if_pos c4] at H
    have c4b0 := decide_eq_true c4
    clear c4
    by_cases c5 : 0 ≤ x11_1
    ·
     rw [if_pos c5] at H
     have c5b0 := decide_eq_true c5
     clear c5
     by_cases c6 : x11_1 < (l0.length : Int)
     ·
      rw [if_pos c6] at H
      have c6b0 := decide_eq_true c6
      clear c6
      replace H := Option.bind_eq_some_iff.mp H
      obtain ⟨t216, A70, H⟩ := H
      replace H : (if t216 = true then (spec_l1All.l0 k1 a1 a2 l0 (l0.length : Int) (wrap64 (x11_1 + 1))) else (some false)) = some r := H
      have A7 := A_ A70
      clear A70
      by_cases c8 : t216 = true
      ·
       subst c8
       have H1 : (spec_l1All.l0 k1 a1 a2 l0 (l0.length : Int) (wrap64 (x11_1 + 1))) = some r := by rw [if_pos rfl] at H; exact H
       clear H
       have H := H1
       clear H1
       have H' := A_ H
       clear H
       have p215 : 0 ≤ (x11_1 : Int) := od_
       have q215 : x11_1 < (l0.length : Int) := od_
       obtain ⟨ad215, e215, hx215_0⟩ := Kd.at_int HR0.out x11_1 p215 q215
       cases e215
       replace p215 := eq_true p215
       replace q215 := eq_true q215
       go_wp2_with (first | (refine gc_ 105 ?_; refine goesT_ (some 18) Try.func105 #[.int .i64 (rd l0 x11_1), .int .i64 a1, .int .i64 a2] ?_; (with_reducible refine (spec_l1In.calls (rd l0 x11_1) a1 a2 true _ A7.out).mono ?_); rintro e w' ⟨rfl, ⟨nd, rfl⟩⟩; refine ⟨_, rfl, ?_⟩))
       go_roundg k1
       case measure => have := HK1.out; omega
       case rel => exact ⟨(wrap64 (x11_1 + 1)), tf_, H', ⟨by have := HK1.out; omega⟩, dr_⟩
      ·
       replace c8 := Bool.eq_false_iff.mpr c8
       subst c8
       have H1 : (some false) = some r := by rw [if_neg (show ¬ (false = true) by decide)] at H; exact H
       clear H
       have H := H1
       clear H1
       obtain rfl := Option.some.inj H
       have p215 : 0 ≤ (x11_1 : Int) := od_
       have q215 : x11_1 < (l0.length : Int) := od_
       obtain ⟨ad215, e215, hx215_0⟩ := Kd.at_int HR0.out x11_1 p215 q215
       cases e215
       replace p215 := eq_true p215
       replace q215 := eq_true q215
       go_wp2_with (first | (refine gc_ 105 ?_; refine goesT_ (some 18) Try.func105 #[.int .i64 (rd l0 x11_1), .int .i64 a1, .int .i64 a2] ?_; (with_reducible refine (spec_l1In.calls (rd l0 x11_1) a1 a2 false _ A7.out).mono ?_); rintro e w' ⟨rfl, ⟨nd, rfl⟩⟩; refine ⟨_, rfl, ?_⟩))
       go_ret
       exact ⟨tf_, dr_⟩
     ·
      rw [if_neg c6] at H
      exact absurd H (by simp)
    ·
     rw [if_neg c5] at H
     exact absurd H (by simp)
   ·
    rw [if_neg c4] at H
    have c4b0 := decide_eq_false c4
    clear c4
    obtain rfl := Option.some.inj H
    go_wp2
    go_ret
    exact ⟨tf_, dr_⟩

/-! ### spec_boGood: function 86 -/
def spec_boGood.f (k : Nat) (a0_0 : Int) (a0_1 : Int) (l0_2 : List Int) : Option (Bool) := (spec_boSide.f a0_0).bind fun t218 => (if t218 = true then ((spec_boSide.f a0_1).bind fun t219 => (if t219 = true then (if (l0_2.length : Int) = a0_0 then (if 0 ≤ a0_1 then ((spec_l1All.f k l0_2 0 (wrap64 ((shl .i64 1 a0_1) - 1))).bind fun t220 => (some t220)) else (none)) else (some false)) else (some false))) else (some false))
theorem spec_boGood.mono : ∀ a0 a1 a2 k, LeO (spec_boGood.f k a0 a1 a2) (spec_boGood.f (k + 1) a0 a1 a2) := by
 intro a0 a1 a2 k
 unfold spec_boGood.f
 repeat' first | (with_reducible first | exact spec_l1All.mono _ _ _ _ | exact LeO.refl _ | exact LeO.none _ | refine LeO.ite ?_ ?_ | refine LeO.bind ?_ (fun _ => ?_)) | exact spec_l1All.mono _ _ _ _ | exact LeO.none _ | refine LeO.ite ?_ ?_ | refine LeO.bind ?_ (fun _ => ?_)
theorem spec_boGood.calls (k : Nat) (a0_0 : Int) (a0_1 : Int) (A0_2 : Option Addr) (c0_2 : Nat) (l0_2 : List Int) (r : Bool) (w : World) (hr0_2 : Kd.C (Kd.int .i64) w A0_2 l0_2.length l0_2) (hc0_2 : l0_2.length ≤ c0_2) (h : spec_boGood.f k a0_0 a0_1 l0_2 = some r) :
  Calls Try.prog 86 #[.agg #[.int .i64 a0_0, .int .i64 a0_1, .slice A0_2 l0_2.length c0_2]] w fun e w' => e = .returned (.bool r) ∧ Below w.heap.size w w' := by
 have hu26 := Try.underlying26
 have HR0_2 := A_ hr0_2
 have HC0_2 := A_ hc0_2
 clear hr0_2 hc0_2
 have HB := A_ (Below.refl w.heap.size w)
 have H : ((spec_boSide.f a0_0).bind fun t218 => (if t218 = true then ((spec_boSide.f a0_1).bind fun t219 => (if t219 = true then (if (l0_2.length : Int) = a0_0 then (if 0 ≤ a0_1 then ((spec_l1All.f k l0_2 0 (wrap64 ((shl .i64 1 a0_1) - 1))).bind fun t220 => (some t220)) else (none)) else (some false)) else (some false))) else (some false))) = some r := h
 clear h
 replace H := Option.bind_eq_some_iff.mp H
 obtain ⟨t218, A20, H⟩ := H
 replace H : (if t218 = true then ((spec_boSide.f a0_1).bind fun t219 => (if t219 = true then (if (l0_2.length : Int) = a0_0 then (if 0 ≤ a0_1 then ((spec_l1All.f k l0_2 0 (wrap64 ((shl .i64 1 a0_1) - 1))).bind fun t220 => (some t220)) else (none)) else (some false)) else (some false))) else (some false)) = some r := H
 have A2 := A_ A20
 clear A20
 by_cases c3 : t218 = true
 ·
  subst c3
  have H1 : ((spec_boSide.f a0_1).bind fun t219 => (if t219 = true then (if (l0_2.length : Int) = a0_0 then (if 0 ≤ a0_1 then ((spec_l1All.f k l0_2 0 (wrap64 ((shl .i64 1 a0_1) - 1))).bind fun t220 => (some t220)) else (none)) else (some false)) else (some false))) = some r := by rw [if_pos rfl] at H; exact H
  clear H
  have H := H1
  clear H1
  replace H := Option.bind_eq_some_iff.mp H
  obtain ⟨t219, A40, H⟩ := H
  replace H : (if t219 = true then (if (l0_2.length : Int) = a0_0 then (if 0 ≤ a0_1 then ((spec_l1All.f k l0_2 0 (wrap64 ((shl .i64 1 a0_1) - 1))).bind fun t220 => (some t220)) else (none)) else (some false)) else (some false)) = some r := H
  have A4 := A_ A40
  clear A40
  by_cases c5 : t219 = true
  ·
   subst c5
   have H1 : (if (l0_2.length : Int) = a0_0 then (if 0 ≤ a0_1 then ((spec_l1All.f k l0_2 0 (wrap64 ((shl .i64 1 a0_1) - 1))).bind fun t220 => (some t220)) else (none)) else (some false)) = some r := by rw [if_pos rfl] at H; exact H
   clear H
   have H := H1
   clear H1
   by_cases c6 : (l0_2.length : Int) = a0_0
   ·
    rw [if_pos c6] at H
    have c6b0 : ((l0_2.length : Int) == a0_0) = true := beq_iff_eq.mpr c6
    have c6b1 : ((l0_2.length : Int) != a0_0) = false := bne_eq_false_iff_eq.mpr c6
    clear c6
    by_cases c7 : 0 ≤ a0_1
    ·
     rw [if_pos c7] at H
     have c7b0 := eq_true c7
     have c7b1 := decide_eq_true c7
     clear c7
     obtain ⟨ji8, hji8⟩ : ∃ j_ : Int, (shl .i64 1 a0_1) = j_ := ⟨_, rfl⟩
     replace H : ((spec_l1All.f k l0_2 0 (wrap64 ((ji8) - 1))).bind fun t220 => (some t220)) = some r := by first | (rw [hji8] at H; exact H) | (simp only [hji8] at H ⊢; exact H)
     (try rw [hji8] at A2)
     (try rw [hji8] at A4)
     have hji8_ : (IntKind.i64.wrap (1 * 2 ^ min a0_1.toNat 64)) = ji8 := hji8
     have hji8z : a0_1 ≤ 64 → (IntKind.i64.wrap (1 * 2 ^ a0_1.toNat)) = ji8 := shl_small hji8
     have hji8u : (IntKind.i64.wrap (2 ^ min a0_1.toNat 64)) = ji8 := by have h_ := hji8_; rw [Int.one_mul] at h_; exact h_
     have hji8v : a0_1 ≤ 64 → (IntKind.i64.wrap (2 ^ a0_1.toNat)) = ji8 := fun hle_ => by have h_ := hji8z hle_; rw [Int.one_mul] at h_; exact h_
     have hji8y : (wrap64 (1 * 2 ^ min a0_1.toNat 64)) = ji8 := (i64_w _).symm.trans hji8_
     have hji8x : a0_1 ≤ 64 → (wrap64 (1 * 2 ^ a0_1.toNat)) = ji8 := fun h_ => (i64_w _).symm.trans (hji8z h_)
     replace H := Option.bind_eq_some_iff.mp H
     obtain ⟨t220, A90, H⟩ := H
     replace H : (some t220) = some r := H
     have A9 := A_ A90
     clear A90
     obtain rfl := Option.some.inj H
     go_enter Try.func86, Try.ntmps86
     go_wp2_with (first | (refine gd_ 1 ?_; (try (refine gate_guard (by rfl) ?_; dsimp only)); refine bx_ 1 #[.int .i64 a0_0, .int .i64 a0_1, .slice A0_2 l0_2.length c0_2] 26 ?_; intro gb217 hg w10 hbox hb; have BK217 := A_ (hbox); have GW217 := A_ ((ts_ hg : w.heap.size ≤ gb217)); have GE217 := A_ ((ts_ hg : w.heap.size ≤ gb217)); replace HB := A_ (below_step tb_ hb); clear hb hbox hg; obtain ⟨hcz11_0, hcz11_1, hcz11_2, hfz11_0, hfz11_1, hfz11_2⟩ := cf3_ BK217.out) | (go_at_call 165; (with_reducible refine (spec_boSide.calls a0_0 true _ A2.out).mono ?_); rintro e w' ⟨rfl, ⟨nd, rfl⟩⟩; (try exact dn_)) | (go_at_call 165; (with_reducible refine (spec_boSide.calls a0_1 true _ A4.out).mono ?_); rintro e w' ⟨rfl, ⟨nd, rfl⟩⟩; (try exact dn_)) | (go_at_call 166; (with_reducible refine (spec_l1All.calls k _ _ l0_2 0 (wrap64 ((ji8) - 1)) t220 _ ?side1 ?side2 A9.out).mono ?_); (case side1 => repeat (first | exact (Kd.C_below HR0_2.out tb_) | (with_reducible refine Kd.C_alloc ?_ _) | (with_reducible refine Kd.C_drewN ?_ _) | (with_reducible refine Kd.C_drew ?_))); (case side2 => exact HC0_2.out); rintro e w' ⟨rfl, ⟨nd, rfl⟩⟩; (try exact dn_)))
     repeat (go_quiet (first | (refine gd_ 1 ?_; (try (refine gate_guard (by rfl) ?_; dsimp only)); refine bx_ 1 #[.int .i64 a0_0, .int .i64 a0_1, .slice A0_2 l0_2.length c0_2] 26 ?_; intro gb217 hg w10 hbox hb; have BK217 := A_ (hbox); have GW217 := A_ ((ts_ hg : w.heap.size ≤ gb217)); have GE217 := A_ ((ts_ hg : w.heap.size ≤ gb217)); replace HB := A_ (below_step tb_ hb); clear hb hbox hg; obtain ⟨hcz11_0, hcz11_1, hcz11_2, hfz11_0, hfz11_1, hfz11_2⟩ := cf3_ BK217.out) | (go_at_call 165; (with_reducible refine (spec_boSide.calls a0_0 true _ A2.out).mono ?_); rintro e w' ⟨rfl, ⟨nd, rfl⟩⟩; (try exact dn_)) | (go_at_call 165; (with_reducible refine (spec_boSide.calls a0_1 true _ A4.out).mono ?_); rintro e w' ⟨rfl, ⟨nd, rfl⟩⟩; (try exact dn_)) | (go_at_call 166; (with_reducible refine (spec_l1All.calls k _ _ l0_2 0 (wrap64 ((ji8) - 1)) t220 _ ?side1 ?side2 A9.out).mono ?_); (case side1 => repeat (first | exact (Kd.C_below HR0_2.out tb_) | (with_reducible refine Kd.C_alloc ?_ _) | (with_reducible refine Kd.C_drewN ?_ _) | (with_reducible refine Kd.C_drew ?_))); (case side2 => exact HC0_2.out); rintro e w' ⟨rfl, ⟨nd, rfl⟩⟩; (try exact dn_))); try go_wp2_with (first | (refine gd_ 1 ?_; (try (refine gate_guard (by rfl) ?_; dsimp only)); refine bx_ 1 #[.int .i64 a0_0, .int .i64 a0_1, .slice A0_2 l0_2.length c0_2] 26 ?_; intro gb217 hg w10 hbox hb; have BK217 := A_ (hbox); have GW217 := A_ ((ts_ hg : w.heap.size ≤ gb217)); have GE217 := A_ ((ts_ hg : w.heap.size ≤ gb217)); replace HB := A_ (below_step tb_ hb); clear hb hbox hg; obtain ⟨hcz11_0, hcz11_1, hcz11_2, hfz11_0, hfz11_1, hfz11_2⟩ := cf3_ BK217.out) | (go_at_call 165; (with_reducible refine (spec_boSide.calls a0_0 true _ A2.out).mono ?_); rintro e w' ⟨rfl, ⟨nd, rfl⟩⟩; (try exact dn_)) | (go_at_call 165; (with_reducible refine (spec_boSide.calls a0_1 true _ A4.out).mono ?_); rintro e w' ⟨rfl, ⟨nd, rfl⟩⟩; (try exact dn_)) | (go_at_call 166; (with_reducible refine (spec_l1All.calls k _ _ l0_2 0 (wrap64 ((ji8) - 1)) t220 _ ?side1 ?side2 A9.out).mono ?_); (case side1 => repeat (first | exact (Kd.C_below HR0_2.out tb_) | (with_reducible refine Kd.C_alloc ?_ _) | (with_reducible refine Kd.C_drewN ?_ _) | (with_reducible refine Kd.C_drew ?_))); (case side2 => exact HC0_2.out); rintro e w' ⟨rfl, ⟨nd, rfl⟩⟩; (try exact dn_))))
     go_ret
     exact ⟨by first | rfl | (simp [errW_none, errW_some] <;> rfl) | (simp only [← hji8]; first | rfl | (simp [errW_none, errW_some] <;> rfl)) | (simp [*, errW_none, errW_some] <;> rfl), tb_⟩
    ·
     rw [if_neg c7] at H
     exact absurd H (by simp)
   ·
    rw [if_neg c6] at H
    have c6b0 : ((l0_2.length : Int) == a0_0) = false := beq_eq_false_iff_ne.mpr c6
    have c6b1 : ((l0_2.length : Int) != a0_0) = true := bne_iff_ne.mpr c6
    obtain rfl := Option.some.inj H
    go_enter Try.func86, Try.ntmps86
    go_wp2_with (first | (refine gd_ 1 ?_; (try (refine gate_guard (by rfl) ?_; dsimp only)); refine bx_ 1 #[.int .i64 a0_0, .int .i64 a0_1, .slice A0_2 l0_2.length c0_2] 26 ?_; intro gb217 hg w12 hbox hb; have BK217 := A_ (hbox); have GW217 := A_ ((ts_ hg : w.heap.size ≤ gb217)); have GE217 := A_ ((ts_ hg : w.heap.size ≤ gb217)); replace HB := A_ (below_step tb_ hb); clear hb hbox hg; obtain ⟨hcz13_0, hcz13_1, hcz13_2, hfz13_0, hfz13_1, hfz13_2⟩ := cf3_ BK217.out) | (go_at_call 165; (with_reducible refine (spec_boSide.calls a0_0 true _ A2.out).mono ?_); rintro e w' ⟨rfl, ⟨nd, rfl⟩⟩; (try exact dn_)) | (go_at_call 165; (with_reducible refine (spec_boSide.calls a0_1 true _ A4.out).mono ?_); rintro e w' ⟨rfl, ⟨nd, rfl⟩⟩; (try exact dn_)))
    repeat (go_quiet (first | (refine gd_ 1 ?_; (try (refine gate_guard (by rfl) ?_; dsimp only)); refine bx_ 1 #[.int .i64 a0_0, .int .i64 a0_1, .slice A0_2 l0_2.length c0_2] 26 ?_; intro gb217 hg w12 hbox hb; have BK217 := A_ (hbox); have GW217 := A_ ((ts_ hg : w.heap.size ≤ gb217)); have GE217 := A_ ((ts_ hg : w.heap.size ≤ gb217)); replace HB := A_ (below_step tb_ hb); clear hb hbox hg; obtain ⟨hcz13_0, hcz13_1, hcz13_2, hfz13_0, hfz13_1, hfz13_2⟩ := cf3_ BK217.out) | (go_at_call 165; (with_reducible refine (spec_boSide.calls a0_0 true _ A2.out).mono ?_); rintro e w' ⟨rfl, ⟨nd, rfl⟩⟩; (try exact dn_)) | (go_at_call 165; (with_reducible refine (spec_boSide.calls a0_1 true _ A4.out).mono ?_); rintro e w' ⟨rfl, ⟨nd, rfl⟩⟩; (try exact dn_))); try go_wp2_with (first | (refine gd_ 1 ?_; (try (refine gate_guard (by rfl) ?_; dsimp only)); refine bx_ 1 #[.int .i64 a0_0, .int .i64 a0_1, .slice A0_2 l0_2.length c0_2] 26 ?_; intro gb217 hg w12 hbox hb; have BK217 := A_ (hbox); have GW217 := A_ ((ts_ hg : w.heap.size ≤ gb217)); have GE217 := A_ ((ts_ hg : w.heap.size ≤ gb217)); replace HB := A_ (below_step tb_ hb); clear hb hbox hg; obtain ⟨hcz13_0, hcz13_1, hcz13_2, hfz13_0, hfz13_1, hfz13_2⟩ := cf3_ BK217.out) | (go_at_call 165; (with_reducible refine (spec_boSide.calls a0_0 true _ A2.out).mono ?_); rintro e w' ⟨rfl, ⟨nd, rfl⟩⟩; (try exact dn_)) | (go_at_call 165; (with_reducible refine (spec_boSide.calls a0_1 true _ A4.out).mono ?_); rintro e w' ⟨rfl, ⟨nd, rfl⟩⟩; (try exact dn_))))
    go_ret
    exact ⟨te_, tb_⟩
  ·
   replace c5 := Bool.eq_false_iff.mpr c5
   subst c5
   have H1 : (some false) = some r := by rw [if_neg (show ¬ (false = true) by decide)] at H; exact H
   clear H
   have H := H1
   clear H1
   obtain rfl := Option.some.inj H
   go_enter Try.func86, Try.ntmps86
   go_wp2_with (first | (refine gd_ 1 ?_; (try (refine gate_guard (by rfl) ?_; dsimp only)); refine bx_ 1 #[.int .i64 a0_0, .int .i64 a0_1, .slice A0_2 l0_2.length c0_2] 26 ?_; intro gb217 hg w14 hbox hb; have BK217 := A_ (hbox); have GW217 := A_ ((ts_ hg : w.heap.size ≤ gb217)); have GE217 := A_ ((ts_ hg : w.heap.size ≤ gb217)); replace HB := A_ (below_step tb_ hb); clear hb hbox hg; obtain ⟨hcz15_0, hcz15_1, hcz15_2, hfz15_0, hfz15_1, hfz15_2⟩ := cf3_ BK217.out) | (go_at_call 165; (with_reducible refine (spec_boSide.calls a0_0 true _ A2.out).mono ?_); rintro e w' ⟨rfl, ⟨nd, rfl⟩⟩; (try exact dn_)) | (go_at_call 165; (with_reducible refine (spec_boSide.calls a0_1 false _ A4.out).mono ?_); rintro e w' ⟨rfl, ⟨nd, rfl⟩⟩; (try exact dn_)))
   repeat (go_quiet (first | (refine gd_ 1 ?_; (try (refine gate_guard (by rfl) ?_; dsimp only)); refine bx_ 1 #[.int .i64 a0_0, .int .i64 a0_1, .slice A0_2 l0_2.length c0_2] 26 ?_; intro gb217 hg w14 hbox hb; have BK217 := A_ (hbox); have GW217 := A_ ((ts_ hg : w.heap.size ≤ gb217)); have GE217 := A_ ((ts_ hg : w.heap.size ≤ gb217)); replace HB := A_ (below_step tb_ hb); clear hb hbox hg; obtain ⟨hcz15_0, hcz15_1, hcz15_2, hfz15_0, hfz15_1, hfz15_2⟩ := cf3_ BK217.out) | (go_at_call 165; (with_reducible refine (spec_boSide.calls a0_0 true _ A2.out).mono ?_); rintro e w' ⟨rfl, ⟨nd, rfl⟩⟩; (try exact dn_)) | (go_at_call 165; (with_reducible refine (spec_boSide.calls a0_1 false _ A4.out).mono ?_); rintro e w' ⟨rfl, ⟨nd, rfl⟩⟩; (try exact dn_))); try go_wp2_with (first | (refine gd_ 1 ?_; (try (refine gate_guard (by rfl) ?_; dsimp only)); refine bx_ 1 #[.int .i64 a0_0, .int .i64 a0_1, .slice A0_2 l0_2.length c0_2] 26 ?_; intro gb217 hg w14 hbox hb; have BK217 := A_ (hbox); have GW217 := A_ ((ts_ hg : w.heap.size ≤ gb217)); have GE217 := A_ ((ts_ hg : w.heap.size ≤ gb217)); replace HB := A_ (below_step tb_ hb); clear hb hbox hg; obtain ⟨hcz15_0, hcz15_1, hcz15_2, hfz15_0, hfz15_1, hfz15_2⟩ := cf3_ BK217.out) | (go_at_call 165; (with_reducible refine (spec_boSide.calls a0_0 true _ A2.out).mono ?_); rintro e w' ⟨rfl, ⟨nd, rfl⟩⟩; (try exact dn_)) | (go_at_call 165; (with_reducible refine (spec_boSide.calls a0_1 false _ A4.out).mono ?_); rintro e w' ⟨rfl, ⟨nd, rfl⟩⟩; (try exact dn_))))
   go_ret
   exact ⟨te_, tb_⟩
 ·
  replace c3 := Bool.eq_false_iff.mpr c3
  subst c3
  have H1 : (some false) = some r := by rw [if_neg (show ¬ (false = true) by decide)] at H; exact H
  clear H
  have H := H1
  clear H1
  obtain rfl := Option.some.inj H
  go_enter Try.func86, Try.ntmps86
  go_wp2_with (first | (refine gd_ 1 ?_; (try (refine gate_guard (by rfl) ?_; dsimp only)); refine bx_ 1 #[.int .i64 a0_0, .int .i64 a0_1, .slice A0_2 l0_2.length c0_2] 26 ?_; intro gb217 hg w16 hbox hb; have BK217 := A_ (hbox); have GW217 := A_ ((ts_ hg : w.heap.size ≤ gb217)); have GE217 := A_ ((ts_ hg : w.heap.size ≤ gb217)); replace HB := A_ (below_step tb_ hb); clear hb hbox hg; obtain ⟨hcz17_0, hcz17_1, hcz17_2, hfz17_0, hfz17_1, hfz17_2⟩ := cf3_ BK217.out) | (go_at_call 165; (with_reducible refine (spec_boSide.calls a0_0 false _ A2.out).mono ?_); rintro e w' ⟨rfl, ⟨nd, rfl⟩⟩; (try exact dn_)))
  repeat (go_quiet (first | (refine gd_ 1 ?_; (try (refine gate_guard (by rfl) ?_; dsimp only)); refine bx_ 1 #[.int .i64 a0_0, .int .i64 a0_1, .slice A0_2 l0_2.length c0_2] 26 ?_; intro gb217 hg w16 hbox hb; have BK217 := A_ (hbox); have GW217 := A_ ((ts_ hg : w.heap.size ≤ gb217)); have GE217 := A_ ((ts_ hg : w.heap.size ≤ gb217)); replace HB := A_ (below_step tb_ hb); clear hb hbox hg; obtain ⟨hcz17_0, hcz17_1, hcz17_2, hfz17_0, hfz17_1, hfz17_2⟩ := cf3_ BK217.out) | (go_at_call 165; (with_reducible refine (spec_boSide.calls a0_0 false _ A2.out).mono ?_); rintro e w' ⟨rfl, ⟨nd, rfl⟩⟩; (try exact dn_))); try go_wp2_with (first | (refine gd_ 1 ?_; (try (refine gate_guard (by rfl) ?_; dsimp only)); refine bx_ 1 #[.int .i64 a0_0, .int .i64 a0_1, .slice A0_2 l0_2.length c0_2] 26 ?_; intro gb217 hg w16 hbox hb; have BK217 := A_ (hbox); have GW217 := A_ ((ts_ hg : w.heap.size ≤ gb217)); have GE217 := A_ ((ts_ hg : w.heap.size ≤ gb217)); replace HB := A_ (below_step tb_ hb); clear hb hbox hg; obtain ⟨hcz17_0, hcz17_1, hcz17_2, hfz17_0, hfz17_1, hfz17_2⟩ := cf3_ BK217.out) | (go_at_call 165; (with_reducible refine (spec_boSide.calls a0_0 false _ A2.out).mono ?_); rintro e w' ⟨rfl, ⟨nd, rfl⟩⟩; (try exact dn_))))
  go_ret
  exact ⟨te_, tb_⟩

/-! ### laws_szIntS: function 110 -/
def laws_szIntS.f (l0 : List Int) (a1 : Int) : Option (Int) := if (wrap64 (a1 - (l0.length : Int))) < 0 then (some (-1)) else (some (wrap64 (a1 - (l0.length : Int))))
theorem laws_szIntS.calls (A0 : Option Addr) (c0 : Nat) (l0 : List Int) (a1 : Int) (r : Int) (w : World) (hr0 : Kd.C (Kd.int .i64) w A0 l0.length l0) (hc0 : l0.length ≤ c0) (h : laws_szIntS.f l0 a1 = some r) :
  Calls Try.prog 110 #[.slice A0 l0.length c0, .int .i64 a1] w fun e w' => e = .returned (.int .i64 r) ∧ Drawn0 w w' := by
 have HR0 := A_ hr0
 have HC0 := A_ hc0
 clear hr0 hc0
 have H : (if (wrap64 (a1 - (l0.length : Int))) < 0 then (some (-1)) else (some (wrap64 (a1 - (l0.length : Int))))) = some r := h
 clear h
 by_cases c3 : (wrap64 (a1 - (l0.length : Int))) < 0
 ·
  rw [if_pos c3] at H
  have c3b0 := decide_eq_true c3
  clear c3
  obtain rfl := Option.some.inj H
  go_enter Try.func110, Try.ntmps110
  go_wp2
  go_ret
  exact ⟨tf_, dr_⟩
 ·
  rw [if_neg c3] at H
  have c3b0 := decide_eq_false c3
  clear c3
  obtain rfl := Option.some.inj H
  go_enter Try.func110, Try.ntmps110
  go_wp2
  go_ret
  exact ⟨tf_, dr_⟩

/-! ### laws_szBoard: function 31 -/
def laws_szBoard.f (a0_0 : Int) (a0_1 : Int) (l0_2 : List Int) (a1 : Int) : Option (Int) := (laws_szIntS.f l0_2 a1).bind fun t594 => (if t594 < 0 then (some (-1)) else (some t594))
theorem laws_szBoard.calls (a0_0 : Int) (a0_1 : Int) (A0_2 : Option Addr) (c0_2 : Nat) (l0_2 : List Int) (a1 : Int) (r : Int) (w : World) (hr0_2 : Kd.C (Kd.int .i64) w A0_2 l0_2.length l0_2) (hc0_2 : l0_2.length ≤ c0_2) (h : laws_szBoard.f a0_0 a0_1 l0_2 a1 = some r) :
  Calls Try.prog 31 #[.agg #[.int .i64 a0_0, .int .i64 a0_1, .slice A0_2 l0_2.length c0_2], .int .i64 a1] w fun e w' => e = .returned (.int .i64 r) ∧ Below w.heap.size w w' := by
 have hu44 := Try.underlying44
 have HR0_2 := A_ hr0_2
 have HC0_2 := A_ hc0_2
 clear hr0_2 hc0_2
 have HB := A_ (Below.refl w.heap.size w)
 have H : ((laws_szIntS.f l0_2 a1).bind fun t594 => (if t594 < 0 then (some (-1)) else (some t594))) = some r := h
 clear h
 replace H := Option.bind_eq_some_iff.mp H
 obtain ⟨t594, A30, H⟩ := H
 replace H : (if t594 < 0 then (some (-1)) else (some t594)) = some r := H
 have A3 := A_ A30
 clear A30
 by_cases c4 : t594 < 0
 ·
  rw [if_pos c4] at H
  have c4b0 := decide_eq_true c4
  clear c4
  obtain rfl := Option.some.inj H
  go_enter Try.func31, Try.ntmps31
  go_wp2_with (first | (refine gd_ 2 ?_; refine bx_ 2 #[.int .i64 a0_0, .int .i64 a0_1, .slice A0_2 l0_2.length c0_2] 44 ?_; intro gb593 hg w5 hbox hb; have BK593 := A_ (hbox); have GW593 := A_ ((ts_ hg : w.heap.size ≤ gb593)); have GE593 := A_ ((ts_ hg : w.heap.size ≤ gb593)); replace HB := A_ (below_step tb_ hb); clear hb hbox hg; obtain ⟨hcz6_0, hcz6_1, hcz6_2, hfz6_0, hfz6_1, hfz6_2⟩ := cf3_ BK593.out) | (refine gc_ 110 ?_; refine goesT_ (some 8) Try.func110 #[.slice A0_2 l0_2.length c0_2, .int .i64 a1] ?_; (with_reducible refine (laws_szIntS.calls _ _ l0_2 a1 t594 _ ?side1 ?side2 A3.out).mono ?_); (case side1 => exact tc_ HR0_2.out); (case side2 => exact HC0_2.out); rintro e w' ⟨rfl, ⟨nd, rfl⟩⟩; refine ⟨_, rfl, ?_⟩))
  go_ret
  exact ⟨te_, tb_⟩
 ·
  rw [if_neg c4] at H
  have c4b0 := decide_eq_false c4
  clear c4
  obtain rfl := Option.some.inj H
  go_enter Try.func31, Try.ntmps31
  go_wp2_with (first | (refine gd_ 2 ?_; refine bx_ 2 #[.int .i64 a0_0, .int .i64 a0_1, .slice A0_2 l0_2.length c0_2] 44 ?_; intro gb593 hg w7 hbox hb; have BK593 := A_ (hbox); have GW593 := A_ ((ts_ hg : w.heap.size ≤ gb593)); have GE593 := A_ ((ts_ hg : w.heap.size ≤ gb593)); replace HB := A_ (below_step tb_ hb); clear hb hbox hg; obtain ⟨hcz8_0, hcz8_1, hcz8_2, hfz8_0, hfz8_1, hfz8_2⟩ := cf3_ BK593.out) | (refine gc_ 110 ?_; refine goesT_ (some 8) Try.func110 #[.slice A0_2 l0_2.length c0_2, .int .i64 a1] ?_; (with_reducible refine (laws_szIntS.calls _ _ l0_2 a1 t594 _ ?side1 ?side2 A3.out).mono ?_); (case side1 => exact tc_ HR0_2.out); (case side2 => exact HC0_2.out); rintro e w' ⟨rfl, ⟨nd, rfl⟩⟩; refine ⟨_, rfl, ?_⟩))
  go_ret
  exact ⟨te_, tb_⟩

/-! ### spec_biColour: function 111 -/
def spec_biColour.f (a0 : Int) : Option (Bool) := (spec_l1In.f a0 0 1).bind fun t595 => (some t595)
theorem spec_biColour.calls (a0 : Int) (r : Bool) (w : World) (h : spec_biColour.f a0 = some r) :
  Calls Try.prog 111 #[.int .i64 a0] w fun e w' => e = .returned (.bool r) ∧ Drawn0 w w' := by
 have H : ((spec_l1In.f a0 0 1).bind fun t595 => (some t595)) = some r := h
 clear h
 replace H := Option.bind_eq_some_iff.mp H
 obtain ⟨t595, A20, H⟩ := H
 replace H : (some t595) = some r := H
 have A2 := A_ A20
 clear A20
 obtain rfl := Option.some.inj H
 go_enter Try.func111, Try.ntmps111
 go_wp2_with (first | (refine gc_ 105 ?_; refine goesT_ (some 4) Try.func105 #[.int .i64 a0, .int .i64 0, .int .i64 1] ?_; (with_reducible refine (spec_l1In.calls a0 0 1 t595 _ A2.out).mono ?_); rintro e w' ⟨rfl, ⟨nd, rfl⟩⟩; refine ⟨_, rfl, ?_⟩))
 go_ret
 exact ⟨tf_, dr_⟩

/-! ### spec_biDiagonals: function 130 -/
def spec_biDiagonals.f (a0_0 : Int) (a0_1 : Int) (l0_2 : List Int) (a1 : Int) (a2 : Int) : Option (Int × Int) := some (wrap64 (a1 + a2), wrap64 ((wrap64 ((wrap64 (a1 - a2)) + a0_1)) - 1))
theorem spec_biDiagonals.calls (a0_0 : Int) (a0_1 : Int) (A0_2 : Option Addr) (c0_2 : Nat) (l0_2 : List Int) (a1 : Int) (a2 : Int) (r1 : Int) (r2 : Int) (w : World) (hr0_2 : Kd.C (Kd.int .i64) w A0_2 l0_2.length l0_2) (hc0_2 : l0_2.length ≤ c0_2) (h : spec_biDiagonals.f a0_0 a0_1 l0_2 a1 a2 = some (r1, r2)) :
  Calls Try.prog 130 #[.agg #[.int .i64 a0_0, .int .i64 a0_1, .slice A0_2 l0_2.length c0_2], .int .i64 a1, .int .i64 a2] w fun e w' => e = .returned (.tuple #[.int .i64 r1, .int .i64 r2]) ∧ Below w.heap.size w w' := by
 have hu26 := Try.underlying26
 have HR0_2 := A_ hr0_2
 have HC0_2 := A_ hc0_2
 clear hr0_2 hc0_2
 have HB := A_ (Below.refl w.heap.size w)
 have H : (some (wrap64 (a1 + a2), wrap64 ((wrap64 ((wrap64 (a1 - a2)) + a0_1)) - 1))) = some (r1, r2) := h
 clear h
 simp only [Option.some.injEq, Prod.mk.injEq] at H
 obtain ⟨rfl, rfl⟩ := H
 go_enter Try.func130, Try.ntmps130
 go_wp2_with (first | (refine gd_ 3 ?_; refine bx_ 3 #[.int .i64 a0_0, .int .i64 a0_1, .slice A0_2 l0_2.length c0_2] 26 ?_; intro gb596 hg w4 hbox hb; have BK596 := A_ (hbox); have GW596 := A_ ((ts_ hg : w.heap.size ≤ gb596)); have GE596 := A_ ((ts_ hg : w.heap.size ≤ gb596)); replace HB := A_ (below_step tb_ hb); clear hb hbox hg; obtain ⟨hcz5_0, hcz5_1, hcz5_2, hfz5_0, hfz5_1, hfz5_2⟩ := cf3_ BK596.out))
 repeat (go_quiet (first | (refine gd_ 3 ?_; refine bx_ 3 #[.int .i64 a0_0, .int .i64 a0_1, .slice A0_2 l0_2.length c0_2] 26 ?_; intro gb596 hg w4 hbox hb; have BK596 := A_ (hbox); have GW596 := A_ ((ts_ hg : w.heap.size ≤ gb596)); have GE596 := A_ ((ts_ hg : w.heap.size ≤ gb596)); replace HB := A_ (below_step tb_ hb); clear hb hbox hg; obtain ⟨hcz5_0, hcz5_1, hcz5_2, hfz5_0, hfz5_1, hfz5_2⟩ := cf3_ BK596.out)); try go_wp2_with (first | (refine gd_ 3 ?_; refine bx_ 3 #[.int .i64 a0_0, .int .i64 a0_1, .slice A0_2 l0_2.length c0_2] 26 ?_; intro gb596 hg w4 hbox hb; have BK596 := A_ (hbox); have GW596 := A_ ((ts_ hg : w.heap.size ≤ gb596)); have GE596 := A_ ((ts_ hg : w.heap.size ≤ gb596)); replace HB := A_ (below_step tb_ hb); clear hb hbox hg; obtain ⟨hcz5_0, hcz5_1, hcz5_2, hfz5_0, hfz5_1, hfz5_2⟩ := cf3_ BK596.out)))
 go_ret2
 exact ⟨te_, tb_⟩

/-! ### spec_l1Put: function 206 -/
def spec_l1Put.l0 : Nat → List Int → Int → Int → Option (List Int)
 | 0, _, _, _ => none
 | k + 1, x0, x1, x5 => if x5 < (x0.length : Int) then (if 0 ≤ x5 then (if (rd x0 x5) < x1 then (spec_l1Put.l0 k x0 x1 (wrap64 (x5 + 1))) else (if (rd x0 x5) = x1 then (some x0) else ((some (([] : List Int) : List Int)).bind fun y599 => (if x5 ≤ (x0.length : Int) then ((some (x0.take (x5 : Int).toNat : List Int)).bind fun y602 => (if y599.length + y602.length < 17592186044416 then ((some (y599 ++ y602 : List Int)).bind fun y606 => (if y606.length < 17592186044416 then ((some (y606 ++ [x1] : List Int)).bind fun y609 => ((some (x0.drop (x5 : Int).toNat : List Int)).bind fun y612 => (if y609.length + y612.length < 17592186044416 then (some (y609 ++ y612)) else (none)))) else (none))) else (none))) else (none))))) else (none)) else ((some (([] : List Int) : List Int)).bind fun y619 => (if 0 ≤ x5 then (if x5 ≤ (x0.length : Int) then ((some (x0.take (x5 : Int).toNat : List Int)).bind fun y622 => (if y619.length + y622.length < 17592186044416 then ((some (y619 ++ y622 : List Int)).bind fun y626 => (if y626.length < 17592186044416 then ((some (y626 ++ [x1] : List Int)).bind fun y629 => ((some (x0.drop (x5 : Int).toNat : List Int)).bind fun y632 => (if y629.length + y632.length < 17592186044416 then (some (y629 ++ y632)) else (none)))) else (none))) else (none))) else (none)) else (none)))
def spec_l1Put.f (k : Nat) (l0 : List Int) (a1 : Int) : Option (List Int) := spec_l1Put.l0 k l0 a1 0
theorem spec_l1Put.mono_l : ∀ k, (∀ y0 y1 y2, LeO (spec_l1Put.l0 k y0 y1 y2) (spec_l1Put.l0 (k + 1) y0 y1 y2))
 | 0 => fun _ _ _ r h => by simp [spec_l1Put.l0] at h
 | k + 1 => by
  have ih0 := spec_l1Put.mono_l k
  ·
   intro y0 y1 y2
   unfold spec_l1Put.l0
   repeat' first | (with_reducible first | exact ih0 _ _ _ | exact LeO.refl _ | exact LeO.none _ | refine LeO.ite ?_ ?_ | refine LeO.bind ?_ (fun _ => ?_)) | exact ih0 _ _ _ | exact LeO.none _ | refine LeO.ite ?_ ?_ | refine LeO.bind ?_ (fun _ => ?_)
theorem spec_l1Put.mono : ∀ a0 a1 k, LeO (spec_l1Put.f k a0 a1) (spec_l1Put.f (k + 1) a0 a1) := by
 intro a0 a1 k
 have ih0 := spec_l1Put.mono_l k
 unfold spec_l1Put.f
 repeat' first | (with_reducible first | exact ih0 _ _ _ | exact LeO.refl _ | exact LeO.none _ | refine LeO.ite ?_ ?_ | refine LeO.bind ?_ (fun _ => ?_)) | exact ih0 _ _ _ | exact LeO.none _ | refine LeO.ite ?_ ?_ | refine LeO.bind ?_ (fun _ => ?_)
theorem spec_l1Put.calls (k : Nat) (P0_ : Nat → Prop) (u9000_ : Value) (l0 : List Int) (a1 : Int) (r : List Int) (w0 w : World) (hB : Below w0.heap.size w0 w) (ho0 : Kd.R (Kd.int .i64) 3 w w0.heap.size P0_ u9000_ l0) (h : spec_l1Put.f k l0 a1 = some r) :
  Calls Try.prog 206 #[u9000_, .int .i64 a1] w fun e w' => ∃ v0_ : Value, e = .returned (v0_) ∧ Kd.R (Kd.int .i64) 3 w' w0.heap.size (fun k_ => (P0_ k_ ∨ w.heap.size ≤ k_)) v0_ r ∧ Below w0.heap.size w0 w' ∧ Kept w w' (fun k_ => P0_ k_) := by
 have HO0 := A_ (show Kd.R (Kd.int .i64) 3 w w0.heap.size (fun k_ => (P0_ k_ ∨ w.heap.size ≤ k_)) u9000_ l0 from Kd.R_mono ho0 (fun k_ hk => (.inl hk)))
 have HK := A_ (Kept.refl w (fun k_ => P0_ k_))
 have HW0 := A_ hB.size
 have HB := A_ hB
 clear hB
 have H : (spec_l1Put.l0 k l0 a1 0) = some r := h
 clear h
 have H' := A_ H
 clear H
 go_enter Try.func206, Try.ntmps206
 go_wp2
 go_loopg [5] k (fun kq v5 w' => ∃ (x5_1 : Int), v5 = .int .i64 x5_1 ∧ Aside0 (spec_l1Put.l0 kq l0 a1 x5_1 = some r) ∧ Aside0 (kq ≤ k) ∧ Aside0 (Kd.R (Kd.int .i64) 3 w' w0.heap.size (fun k_ => (P0_ k_ ∨ w.heap.size ≤ k_)) u9000_ l0) ∧ Aside0 (Kept w w' (fun k_ => P0_ k_)) ∧ Aside0 (Below w0.heap.size w0 w'))
 case atStart => exact ⟨(0), tf_, H', ⟨Nat.le_refl _⟩, ⟨tr_x HO0.out⟩, ⟨by repeat (first | (with_reducible first | exact HK.out | apply Kept.alloc | apply Kept.drewN | apply Kept.drew) | exact HK.out)⟩, ⟨tb_⟩⟩
 case round =>
  clear H'
  try clear c2
  try clear p2
  obtain ⟨x5_1, rfl, HA, HK1, HO_0, HK, HB⟩ := hrel
  cases gk with
  | zero => exact absurd HA.out (by simp [spec_l1Put.l0])
  | succ k1 =>
   have H := HA.out
   clear HA
   simp only [spec_l1Put.l0] at H
   by_cases c3 : x5_1 < (l0.length : Int)
   ·
    rw [if_pos c3] at H
    have c3b0 := decide_eq_true c3
    clear c3
    by_cases c4 : 0 ≤ x5_1
    ·
     rw [if_pos c4] at H
     have c4b0 := decide_eq_true c4
     clear c4
     by_cases c5 : (rd l0 x5_1) < a1
     ·
      rw [if_pos c5] at H
      have c5b0 := decide_eq_true c5
      clear c5
      have H' := A_ H
      clear H
      obtain ⟨Ao6, co6, eo6⟩ := Kd.R_slice HO_0.out
      subst eo6
      have p597 : 0 ≤ (x5_1 : Int) := od_
      have q597 : x5_1 < (l0.length : Int) := od_
      obtain ⟨ad597, e597, hx597_0⟩ := Kd.at_int (Kd.R_reads' HO_0.out).2.2 x5_1 p597 q597
      cases e597
      replace p597 := eq_true p597
      replace q597 := eq_true q597
      go_wp2
      go_roundg k1
      case measure => have := HK1.out; omega
      case rel => exact ⟨(wrap64 (x5_1 + 1)), tf_, H', ⟨by have := HK1.out; omega⟩, ⟨tr_x HO_0.out⟩, ⟨by repeat (first | (with_reducible first | exact HK.out | apply Kept.alloc | apply Kept.drewN | apply Kept.drew) | exact HK.out)⟩, ⟨tb_⟩⟩
     ·
      rw [if_neg c5] at H
      have c5b0 := decide_eq_false c5
      clear c5
      by_cases c7 : (rd l0 x5_1) = a1
      ·
       rw [if_pos c7] at H
       have c7b0 : ((rd l0 x5_1) == a1) = true := beq_iff_eq.mpr c7
       have c7b1 : ((rd l0 x5_1) != a1) = false := bne_eq_false_iff_eq.mpr c7
       clear c7
       obtain rfl := Option.some.inj H
       obtain ⟨Ao8, co8, eo8⟩ := Kd.R_slice HO_0.out
       subst eo8
       have p597 : 0 ≤ (x5_1 : Int) := od_
       have q597 : x5_1 < (l0.length : Int) := od_
       obtain ⟨ad597, e597, hx597_0⟩ := Kd.at_int (Kd.R_reads' HO_0.out).2.2 x5_1 p597 q597
       cases e597
       replace p597 := eq_true p597
       replace q597 := eq_true q597
       have p598 : 0 ≤ (x5_1 : Int) := od_
       have q598 : x5_1 < (l0.length : Int) := od_
       obtain ⟨ad598, e598, hx598_0⟩ := Kd.at_int (Kd.R_reads' HO_0.out).2.2 x5_1 p598 q598
       obtain rfl : ad597 = ad598 := (by injection e598)
       replace p598 := eq_true p598
       replace q598 := eq_true q598
       go_wp2
       go_ret
       exact ⟨_, te_, tr_x HO_0.out, tb_, by repeat (first | (with_reducible first | exact HK.out | apply Kept.alloc | apply Kept.drewN | apply Kept.drew) | exact HK.out)⟩
      ·
       rw [if_neg c7] at H
       have c7b0 : ((rd l0 x5_1) == a1) = false := beq_eq_false_iff_ne.mpr c7
       have c7b1 : ((rd l0 x5_1) != a1) = true := bne_iff_ne.mpr c7
       obtain ⟨y599, hy599⟩ : ∃ y_ : List Int, y_ = (([] : List Int)) := ⟨_, rfl⟩
       replace H : (if x5_1 ≤ (l0.length : Int) then ((some (l0.take (x5_1 : Int).toNat : List Int)).bind fun y602 => (if y599.length + y602.length < 17592186044416 then ((some (y599 ++ y602 : List Int)).bind fun y606 => (if y606.length < 17592186044416 then ((some (y606 ++ [a1] : List Int)).bind fun y609 => ((some (l0.drop (x5_1 : Int).toNat : List Int)).bind fun y612 => (if y609.length + y612.length < 17592186044416 then (some (y609 ++ y612)) else (none)))) else (none))) else (none))) else (none)) = some r := ty_ hy599 H
       have Ny599 := A_ hy599
       clear hy599
       have c9b0 := eq_true (od_ : 0 ≤ x5_1)
       by_cases c10 : x5_1 ≤ (l0.length : Int)
       ·
        rw [if_pos c10] at H
        have c10b0 := eq_true c10
        have c10b1 := decide_eq_true c10
        clear c10
        obtain ⟨y602, hy602⟩ : ∃ y_ : List Int, y_ = (l0.take (x5_1 : Int).toNat) := ⟨_, rfl⟩
        replace H : (if y599.length + y602.length < 17592186044416 then ((some (y599 ++ y602 : List Int)).bind fun y606 => (if y606.length < 17592186044416 then ((some (y606 ++ [a1] : List Int)).bind fun y609 => ((some (l0.drop (x5_1 : Int).toNat : List Int)).bind fun y612 => (if y609.length + y612.length < 17592186044416 then (some (y609 ++ y612)) else (none)))) else (none))) else (none)) = some r := ty_ hy602 H
        have Ny602 := A_ hy602
        clear hy602
        by_cases c11 : y599.length + y602.length < 17592186044416
        ·
         rw [if_pos c11] at H
         have LMc11 := A_ c11
         clear c11
         obtain ⟨y606, hy606⟩ : ∃ y_ : List Int, y_ = (y599 ++ y602) := ⟨_, rfl⟩
         replace H : (if y606.length < 17592186044416 then ((some (y606 ++ [a1] : List Int)).bind fun y609 => ((some (l0.drop (x5_1 : Int).toNat : List Int)).bind fun y612 => (if y609.length + y612.length < 17592186044416 then (some (y609 ++ y612)) else (none)))) else (none)) = some r := ty_ hy606 H
         have Ny606 := A_ hy606
         clear hy606
         by_cases c12 : y606.length < 17592186044416
         ·
          rw [if_pos c12] at H
          have LMc12 := A_ c12
          clear c12
          obtain ⟨y609, hy609⟩ : ∃ y_ : List Int, y_ = (y606 ++ [a1]) := ⟨_, rfl⟩
          replace H : ((some (l0.drop (x5_1 : Int).toNat : List Int)).bind fun y612 => (if y609.length + y612.length < 17592186044416 then (some (y609 ++ y612)) else (none))) = some r := ty_ hy609 H
          have Ny609 := A_ hy609
          clear hy609
          have c13b0 := eq_true (od_ : 0 ≤ x5_1)
          have c14b0 := eq_true (od_ : x5_1 ≤ (l0.length : Int))
          obtain ⟨y612, hy612⟩ : ∃ y_ : List Int, y_ = (l0.drop (x5_1 : Int).toNat) := ⟨_, rfl⟩
          replace H : (if y609.length + y612.length < 17592186044416 then (some (y609 ++ y612)) else (none)) = some r := ty_ hy612 H
          have Ny612 := A_ hy612
          clear hy612
          by_cases c15 : y609.length + y612.length < 17592186044416
          ·
           rw [if_pos c15] at H
           have LMc15 := A_ c15
           clear c15
           obtain ⟨y616, hy616⟩ : ∃ y_ : List Int, y_ = (y609 ++ y612) := ⟨_, rfl⟩
           replace H : (some y616) = some r := ty_ hy616 H
           have Ny616 := A_ hy616
           clear hy616
           obtain rfl := Option.some.inj H
           obtain ⟨Ao16, co16, eo16⟩ := Kd.R_slice HO_0.out
           subst eo16
           have p597 : 0 ≤ (x5_1 : Int) := od_
           have q597 : x5_1 < (l0.length : Int) := od_
           obtain ⟨ad597, e597, hx597_0⟩ := Kd.at_int (Kd.R_reads' HO_0.out).2.2 x5_1 p597 q597
           cases e597
           replace p597 := eq_true p597
           replace q597 := eq_true q597
           have p598 : 0 ≤ (x5_1 : Int) := od_
           have q598 : x5_1 < (l0.length : Int) := od_
           obtain ⟨ad598, e598, hx598_0⟩ := Kd.at_int (Kd.R_reads' HO_0.out).2.2 x5_1 p598 q598
           obtain rfl : ad597 = ad598 := (by injection e598)
           replace p598 := eq_true p598
           replace q598 := eq_true q598
           go_wp2_with (first | (refine gd_ 34 ?_; refine Kd.R_lit (Kd.int .i64) _ 3 ?hg (N := 34) ?hd (xs := ([] : List Int)) (inner := []) (ok := fun _ => True) (okp := fun _ => True) ?hr ?hp (fun _ hk => hk) trivial (Below.refl _ _) (Nat.le_refl _) (by simp) ?_; (case hd => rfl); (case hg => rfl); (case hr => first | (go_simp; done) | (go_simp; rfl)); (case hp => exact (Reps.none _ _)); intro v600 w17 ho18 hb hg_ hnew_; clear hg_ hnew_; (first | rw [← Ny599.out] at ho18 | (simp only [Int.reduceToNat] at ho18; rw [← Ny599.out] at ho18)); have HO601 := A_ (Kd.R_lower (Kd.R_new' (Kd.R_newM (M := fun k_ => (P0_ k_ ∨ w.heap.size ≤ k_)) ho18 (by first | exact HK.out.1 | exact (show Kept w _ (fun k_ => P0_ k_) from by repeat (first | (with_reducible first | exact HK.out | apply Kept.alloc | apply Kept.drewN | apply Kept.drew) | exact HK.out)).1) (fun k_ h_ => .inr h_)) (Kd.R_lt (tr_x HO_0.out))) (below_size tb_)); replace HO_0 := A_ (Kd.R_elder' (tr_x HO_0.out) (Kd.R_base ho18) hb); replace HK := A_ (Kept.below (S := (fun k_ => P0_ k_)) (by repeat (first | (with_reducible first | exact HK.out | apply Kept.alloc | apply Kept.drewN | apply Kept.drew) | exact HK.out)) hb); replace HB := A_ (below_step tb_ hb); clear hb ho18; have q19 : (x5_1 : Int) ≤ ((l0.length : Int) : Int) := od_; obtain ⟨i019, hi019, _, hsz19, _⟩ := info_parts info3; have hroom19 : l0.length ≤ co16 := (Kd.R_reads' HO_0.out).2.1; have hC19 : Kd.C (Kd.int .i64) _ (some ad597) l0.length l0 := (Kd.R_reads' HO_0.out).2.2; have hcut19 := cut_to (P := Try.prog) 24 3 .i64 Try.underlying24 hi019 (some ad597) l0.length co16 x5_1 (od_) q19 hroom19; have hr19 := Kd.C_take (m := (x5_1 : Int).toNat) hC19 (by omega); have hy19 : y602.length = (x5_1 : Int).toNat := (by rw [Ny602.out, List.length_take]; omega); rw [← Ny602.out] at hr19; rw [← hy19] at hcut19; have HR605 := A_ hr19; have HC605 := A_ (show y602.length ≤ co16 from by omega); clear hr19 hC19 hroom19 hi019 hsz19; have KY19 := A_ hy19; clear hy19; have KL19 := A_ (show (x5_1 : Int).toNat ≤ l0.length from by omega); replace q19 := eq_true q19) | ((with_reducible refine gate_builtin (b := .append) (xs := #[.tmp 34, .tmp 37]) rfl ?_); at_builtin; refine Kd.R_append_rows (Kd.int .i64) (w0 := w0) w0.heap.size rfl (.tmp 34) (.tmp 37) 24 3 (.int .i64 0) 8 rfl Try.underlying24 info3 rfl (by decide) (by omega) v600 y599 y602 _ _ _ (fun k_ => (P0_ k_ ∨ w.heap.size ≤ k_) ∧ some k_ ≠ (.slice (some ad597) l0.length co16 : Value).ownBlock) (fun _ => False) rfl rfl ?aO ?aR (fun _ _ h => h) (fun _ h => h.elim) ?aF ?aB ?aS ?aL ?_; (case aR => repeat (first | exact (by repeat (first | (with_reducible exact HR605.out) | (with_reducible refine Kd.C_alloc ?_ _) | (with_reducible refine Kd.C_drewN ?_ _) | (with_reducible refine Kd.C_drew ?_) | exact HR605.out)) | (with_reducible refine Kd.C_alloc ?_ _) | (with_reducible refine Kd.C_drewN ?_ _) | (with_reducible refine Kd.C_drew ?_))); (case aB => exact tb_); (case aF => exact (fun k_ hk => ⟨(.inr (Nat.le_trans (by first | exact HK.out.1 | exact (show Kept w _ (fun k_ => P0_ k_) from by repeat (first | (with_reducible first | exact HK.out | apply Kept.alloc | apply Kept.drewN | apply Kept.drew) | exact HK.out)).1) hk)), Kd.fresh' (Kd.R_lt (tr_x HO_0.out)) k_ hk⟩)); (case aO => exact (tr_ (h := by exact Kd.R_mono HO601.out om_))); (case aS => exact (below_size tb_)); (case aL => have := LMc11.out; omega); intro v607 w20 ho hb hg hat; rw [← Ny606.out] at ho; have n0_ := A_ (Kd.R_after (ok := (fun k_ => (P0_ k_ ∨ w.heap.size ≤ k_))) (tr_x HO_0.out) hg hat); have n1_ := A_ (hb); have n2_ := A_ (Kept.of_grown (S := (fun k_ => P0_ k_)) hg (by repeat (first | (with_reducible first | exact HK.out | apply Kept.alloc | apply Kept.drewN | apply Kept.drew) | exact HK.out)) (fun k_ e_ => (HO601.out.1 k_ e_).1.1)); have n3_ := A_ ((show Kd.C (Kd.int .i64) w20 (some ad597) y602.length y602 from by rw [Ny602.out]; exact Kd.C_take (m := (x5_1 : Int).toNat) ((Kd.R_reads' (Kd.R_after (ok := (fun k_ => (P0_ k_ ∨ w.heap.size ≤ k_))) (tr_x HO_0.out) hg hat)).2.2) KL19.out)); have n4_ := A_ (ho); clear HO_0; clear HB; clear HK; clear HR605; clear HO601; have HO_0 := n0_; have HB := n1_; have HK := n2_; have HR605 := n3_; have HO608 := n4_; clear n0_ n1_ n2_ n3_ n4_; clear ho hb hg hat) | ((with_reducible refine gate_builtin (b := .append) (xs := #[.tmp 39, .tmp 41]) rfl ?_); at_builtin; refine Kd.R_append (Kd.int .i64) (w0 := w0) w0.heap.size rfl (.tmp 39) (.tmp 41) 24 3 (.int .i64 0) 8 rfl Try.underlying24 info3 rfl (by decide) (by omega) v607 y606 a1 [.int .i64 a1] (fun k_ => (P0_ k_ ∨ w.heap.size ≤ k_) ∧ some k_ ≠ (.slice (some ad597) l0.length co16 : Value).ownBlock) (fun _ => False) rfl rfl ?aP (fun _ hk => hk.elim) ?aF ?aO ?aB ?aS ?aL ?_; (case aP => exact rfl); (case aB => exact tb_); (case aF => exact (fun k_ hk => ⟨(.inr (Nat.le_trans (by first | exact HK.out.1 | exact (show Kept w _ (fun k_ => P0_ k_) from by repeat (first | (with_reducible first | exact HK.out | apply Kept.alloc | apply Kept.drewN | apply Kept.drew) | exact HK.out)).1) hk)), Kd.fresh' (Kd.R_lt (tr_x HO_0.out)) k_ hk⟩)); (case aO => exact (tr_x HO608.out)); (case aS => exact (below_size tb_)); (case aL => have := LMc12.out; omega); intro v610 w21 ho hb hg hat; rw [← Ny609.out] at ho; have n0_ := A_ (Kd.R_after (ok := (fun k_ => (P0_ k_ ∨ w.heap.size ≤ k_))) (tr_x HO_0.out) hg hat); have n1_ := A_ (hb); have n2_ := A_ (Kept.of_grown (S := (fun k_ => P0_ k_)) hg (by repeat (first | (with_reducible first | exact HK.out | apply Kept.alloc | apply Kept.drewN | apply Kept.drew) | exact HK.out)) (fun k_ e_ => (HO608.out.1 k_ e_).1)); have n3_ := A_ ((show Kd.C (Kd.int .i64) w21 (some ad597) y602.length y602 from by rw [Ny602.out]; exact Kd.C_take (m := (x5_1 : Int).toNat) ((Kd.R_reads' (Kd.R_after (ok := (fun k_ => (P0_ k_ ∨ w.heap.size ≤ k_))) (tr_x HO_0.out) hg hat)).2.2) KL19.out)); have n4_ := A_ (ho); clear HO_0; clear HB; clear HK; clear HR605; clear HO608; have HO_0 := n0_; have HB := n1_; have HK := n2_; have HR605 := n3_; have HO611 := n4_; clear n0_ n1_ n2_ n3_ n4_; clear ho hb hg hat; have q22 : (x5_1 : Int) ≤ ((l0.length : Int) : Int) := od_; obtain ⟨i022, hi022, _, hsz22, _⟩ := info_parts info3; have hroom22 : l0.length ≤ co16 := (Kd.R_reads' HO_0.out).2.1; have hC22 : Kd.C (Kd.int .i64) _ (some ad597) l0.length l0 := (Kd.R_reads' HO_0.out).2.2; have q022 : (0 : Int) ≤ (x5_1 : Int) := od_; have hcut22 := cut_from (P := Try.prog) 24 3 .i64 Try.underlying24 hi022 1 hsz22 (some ad597) l0.length co16 x5_1 q022 q22; have hr22 := Kd.C_drop (m := (x5_1 : Int).toNat) (c := co16) hC22 (by omega) hroom22; obtain ⟨A22, hA22⟩ : ∃ A1, A1 = (if co16 = (x5_1 : Int).toNat then (some ad597) else ((some ad597) : Option Addr).map (·.add ((x5_1 : Int).toNat * 1))) := ⟨_, rfl⟩; obtain ⟨c22, hc22⟩ : ∃ c1, c1 = co16 - (x5_1 : Int).toNat := ⟨_, rfl⟩; have hy22 : y612.length = l0.length - (x5_1 : Int).toNat := (by rw [Ny612.out, List.length_drop] <;> omega); rw [show (l0).drop (x5_1 : Int).toNat = y612 from Ny612.out.symm] at hr22; replace hr22 : Kd.C (Kd.int .i64) _ A22 y612.length y612 := (by rw [hA22]; exact hr22); rw [← hy22, ← hA22, ← hc22] at hcut22; have HR615 := A_ hr22; have HC615 := A_ (show y612.length ≤ c22 from by rw [hy22, hc22]; exact Nat.sub_le_sub_right hroom22 _); clear hr22 hC22 hroom22 hi022 hsz22 hc22; have KY22 := A_ hy22; have KA22 := A_ hA22; clear hy22 hA22; have KL22 := A_ (show (x5_1 : Int).toNat ≤ l0.length from by omega); replace q22 := eq_true q22) | ((with_reducible refine gate_builtin (b := .append) (xs := #[.tmp 43, .tmp 46]) rfl ?_); at_builtin; refine Kd.R_append_rows (Kd.int .i64) (w0 := w0) w0.heap.size rfl (.tmp 43) (.tmp 46) 24 3 (.int .i64 0) 8 rfl Try.underlying24 info3 rfl (by decide) (by omega) v610 y609 y612 _ _ _ (fun k_ => (P0_ k_ ∨ w.heap.size ≤ k_) ∧ some k_ ≠ (.slice (some ad597) l0.length co16 : Value).ownBlock) (fun _ => False) rfl rfl ?aO ?aR (fun _ _ h => h) (fun _ h => h.elim) ?aF ?aB ?aS ?aL ?_; (case aR => repeat (first | exact (by repeat (first | (with_reducible exact HR615.out) | (with_reducible refine Kd.C_alloc ?_ _) | (with_reducible refine Kd.C_drewN ?_ _) | (with_reducible refine Kd.C_drew ?_) | exact HR615.out)) | (with_reducible refine Kd.C_alloc ?_ _) | (with_reducible refine Kd.C_drewN ?_ _) | (with_reducible refine Kd.C_drew ?_))); (case aB => exact tb_); (case aF => exact (fun k_ hk => ⟨(.inr (Nat.le_trans (by first | exact HK.out.1 | exact (show Kept w _ (fun k_ => P0_ k_) from by repeat (first | (with_reducible first | exact HK.out | apply Kept.alloc | apply Kept.drewN | apply Kept.drew) | exact HK.out)).1) hk)), Kd.fresh' (Kd.R_lt (tr_x HO_0.out)) k_ hk⟩)); (case aO => exact (tr_x HO611.out)); (case aS => exact (below_size tb_)); (case aL => have := LMc15.out; omega); intro v617 w23 ho hb hg hat; rw [← Ny616.out] at ho; have n0_ := A_ (Kd.R_after (ok := (fun k_ => (P0_ k_ ∨ w.heap.size ≤ k_))) (tr_x HO_0.out) hg hat); have n1_ := A_ (hb); have n2_ := A_ (Kept.of_grown (S := (fun k_ => P0_ k_)) hg (by repeat (first | (with_reducible first | exact HK.out | apply Kept.alloc | apply Kept.drewN | apply Kept.drew) | exact HK.out)) (fun k_ e_ => (HO611.out.1 k_ e_).1)); have n3_ := A_ ((show Kd.C (Kd.int .i64) w23 (some ad597) y602.length y602 from by rw [Ny602.out]; exact Kd.C_take (m := (x5_1 : Int).toNat) ((Kd.R_reads' (Kd.R_after (ok := (fun k_ => (P0_ k_ ∨ w.heap.size ≤ k_))) (tr_x HO_0.out) hg hat)).2.2) KL19.out)); have n4_ := A_ ((show Kd.C (Kd.int .i64) w23 A22 y612.length y612 from by rw [Ny612.out, KA22.out]; exact Kd.C_drop (m := (x5_1 : Int).toNat) (c := co16) ((Kd.R_reads' (Kd.R_after (ok := (fun k_ => (P0_ k_ ∨ w.heap.size ≤ k_))) (tr_x HO_0.out) hg hat)).2.2) KL22.out ((Kd.R_reads' (Kd.R_after (ok := (fun k_ => (P0_ k_ ∨ w.heap.size ≤ k_))) (tr_x HO_0.out) hg hat)).2.1))); have n5_ := A_ (ho); clear HO_0; clear HB; clear HK; clear HR605; clear HR615; clear HO611; have HO_0 := n0_; have HB := n1_; have HK := n2_; have HR605 := n3_; have HR615 := n4_; have HO618 := n5_; clear n0_ n1_ n2_ n3_ n4_ n5_; clear ho hb hg hat))
           go_ret
           exact ⟨_, te_, by (with_reducible repeat (first | apply Kd.R_alloc | apply Kd.R_drewN | apply Kd.R_drew)); exact Kd.R_mono HO618.out (fun _ hk => hk.1), tb_, by repeat (first | (with_reducible first | exact HK.out | apply Kept.alloc | apply Kept.drewN | apply Kept.drew) | exact HK.out)⟩
          ·
           rw [if_neg c15] at H
           exact absurd H (by simp)
         ·
          rw [if_neg c12] at H
          exact absurd H (by simp)
        ·
         rw [if_neg c11] at H
         exact absurd H (by simp)
       ·
        rw [if_neg c10] at H
        exact absurd H (by simp)
    ·
     rw [if_neg c4] at H
     exact absurd H (by simp)
   ·
    rw [if_neg c3] at H
    have c3b0 := decide_eq_false c3
    clear c3
    obtain ⟨y619, hy619⟩ : ∃ y_ : List Int, y_ = (([] : List Int)) := ⟨_, rfl⟩
    replace H : (if 0 ≤ x5_1 then (if x5_1 ≤ (l0.length : Int) then ((some (l0.take (x5_1 : Int).toNat : List Int)).bind fun y622 => (if y619.length + y622.length < 17592186044416 then ((some (y619 ++ y622 : List Int)).bind fun y626 => (if y626.length < 17592186044416 then ((some (y626 ++ [a1] : List Int)).bind fun y629 => ((some (l0.drop (x5_1 : Int).toNat : List Int)).bind fun y632 => (if y629.length + y632.length < 17592186044416 then (some (y629 ++ y632)) else (none)))) else (none))) else (none))) else (none)) else (none)) = some r := ty_ hy619 H
    have Ny619 := A_ hy619
    clear hy619
    by_cases c24 : 0 ≤ x5_1
    ·
     rw [if_pos c24] at H
     have c24b0 := eq_true c24
     have c24b1 := decide_eq_true c24
     clear c24
     by_cases c25 : x5_1 ≤ (l0.length : Int)
     ·
      rw [if_pos c25] at H
      have c25b0 := eq_true c25
      have c25b1 := decide_eq_true c25
      clear c25
      obtain ⟨y622, hy622⟩ : ∃ y_ : List Int, y_ = (l0.take (x5_1 : Int).toNat) := ⟨_, rfl⟩
      replace H : (if y619.length + y622.length < 17592186044416 then ((some (y619 ++ y622 : List Int)).bind fun y626 => (if y626.length < 17592186044416 then ((some (y626 ++ [a1] : List Int)).bind fun y629 => ((some (l0.drop (x5_1 : Int).toNat : List Int)).bind fun y632 => (if y629.length + y632.length < 17592186044416 then (some (y629 ++ y632)) else (none)))) else (none))) else (none)) = some r := ty_ hy622 H
      have Ny622 := A_ hy622
      clear hy622
      by_cases c26 : y619.length + y622.length < 17592186044416
      ·
       rw [if_pos c26] at H
       have LMc26 := A_ c26
       clear c26
       obtain ⟨y626, hy626⟩ : ∃ y_ : List Int, y_ = (y619 ++ y622) := ⟨_, rfl⟩
       replace H : (if y626.length < 17592186044416 then ((some (y626 ++ [a1] : List Int)).bind fun y629 => ((some (l0.drop (x5_1 : Int).toNat : List Int)).bind fun y632 => (if y629.length + y632.length < 17592186044416 then (some (y629 ++ y632)) else (none)))) else (none)) = some r := ty_ hy626 H
       have Ny626 := A_ hy626
       clear hy626
       by_cases c27 : y626.length < 17592186044416
       ·
        rw [if_pos c27] at H
        have LMc27 := A_ c27
        clear c27
        obtain ⟨y629, hy629⟩ : ∃ y_ : List Int, y_ = (y626 ++ [a1]) := ⟨_, rfl⟩
        replace H : ((some (l0.drop (x5_1 : Int).toNat : List Int)).bind fun y632 => (if y629.length + y632.length < 17592186044416 then (some (y629 ++ y632)) else (none))) = some r := ty_ hy629 H
        have Ny629 := A_ hy629
        clear hy629
        have c28b0 := eq_true (od_ : 0 ≤ x5_1)
        have c29b0 := eq_true (od_ : x5_1 ≤ (l0.length : Int))
        obtain ⟨y632, hy632⟩ : ∃ y_ : List Int, y_ = (l0.drop (x5_1 : Int).toNat) := ⟨_, rfl⟩
        replace H : (if y629.length + y632.length < 17592186044416 then (some (y629 ++ y632)) else (none)) = some r := ty_ hy632 H
        have Ny632 := A_ hy632
        clear hy632
        by_cases c30 : y629.length + y632.length < 17592186044416
        ·
         rw [if_pos c30] at H
         have LMc30 := A_ c30
         clear c30
         obtain ⟨y636, hy636⟩ : ∃ y_ : List Int, y_ = (y629 ++ y632) := ⟨_, rfl⟩
         replace H : (some y636) = some r := ty_ hy636 H
         have Ny636 := A_ hy636
         clear hy636
         obtain rfl := Option.some.inj H
         obtain ⟨Ao31, co31, eo31⟩ := Kd.R_slice HO_0.out
         subst eo31
         go_wp2_with (first | (refine gd_ 34 ?_; refine Kd.R_lit (Kd.int .i64) _ 3 ?hg (N := 34) ?hd (xs := ([] : List Int)) (inner := []) (ok := fun _ => True) (okp := fun _ => True) ?hr ?hp (fun _ hk => hk) trivial (Below.refl _ _) (Nat.le_refl _) (by simp) ?_; (case hd => rfl); (case hg => rfl); (case hr => first | (go_simp; done) | (go_simp; rfl)); (case hp => exact (Reps.none _ _)); intro v620 w32 ho33 hb hg_ hnew_; clear hg_ hnew_; (first | rw [← Ny619.out] at ho33 | (simp only [Int.reduceToNat] at ho33; rw [← Ny619.out] at ho33)); have HO621 := A_ (Kd.R_lower (Kd.R_new' (Kd.R_newM (M := fun k_ => (P0_ k_ ∨ w.heap.size ≤ k_)) ho33 (by first | exact HK.out.1 | exact (show Kept w _ (fun k_ => P0_ k_) from by repeat (first | (with_reducible first | exact HK.out | apply Kept.alloc | apply Kept.drewN | apply Kept.drew) | exact HK.out)).1) (fun k_ h_ => .inr h_)) (Kd.R_lt (tr_x HO_0.out))) (below_size tb_)); replace HO_0 := A_ (Kd.R_elder' (tr_x HO_0.out) (Kd.R_base ho33) hb); replace HK := A_ (Kept.below (S := (fun k_ => P0_ k_)) (by repeat (first | (with_reducible first | exact HK.out | apply Kept.alloc | apply Kept.drewN | apply Kept.drew) | exact HK.out)) hb); replace HB := A_ (below_step tb_ hb); clear hb ho33; have q34 : (x5_1 : Int) ≤ ((l0.length : Int) : Int) := od_; obtain ⟨i034, hi034, _, hsz34, _⟩ := info_parts info3; have hroom34 : l0.length ≤ co31 := (Kd.R_reads' HO_0.out).2.1; have hC34 : Kd.C (Kd.int .i64) _ Ao31 l0.length l0 := (Kd.R_reads' HO_0.out).2.2; have hcut34 := cut_to (P := Try.prog) 24 3 .i64 Try.underlying24 hi034 Ao31 l0.length co31 x5_1 (od_) q34 hroom34; have hr34 := Kd.C_take (m := (x5_1 : Int).toNat) hC34 (by omega); have hy34 : y622.length = (x5_1 : Int).toNat := (by rw [Ny622.out, List.length_take]; omega); rw [← Ny622.out] at hr34; rw [← hy34] at hcut34; have HR625 := A_ hr34; have HC625 := A_ (show y622.length ≤ co31 from by omega); clear hr34 hC34 hroom34 hi034 hsz34; have KY34 := A_ hy34; clear hy34; have KL34 := A_ (show (x5_1 : Int).toNat ≤ l0.length from by omega); replace q34 := eq_true q34) | ((with_reducible refine gate_builtin (b := .append) (xs := #[.tmp 34, .tmp 37]) rfl ?_); at_builtin; refine Kd.R_append_rows (Kd.int .i64) (w0 := w0) w0.heap.size rfl (.tmp 34) (.tmp 37) 24 3 (.int .i64 0) 8 rfl Try.underlying24 info3 rfl (by decide) (by omega) v620 y619 y622 _ _ _ (fun k_ => (P0_ k_ ∨ w.heap.size ≤ k_) ∧ some k_ ≠ (.slice Ao31 l0.length co31 : Value).ownBlock) (fun _ => False) rfl rfl ?aO ?aR (fun _ _ h => h) (fun _ h => h.elim) ?aF ?aB ?aS ?aL ?_; (case aR => repeat (first | exact (by repeat (first | (with_reducible exact HR625.out) | (with_reducible refine Kd.C_alloc ?_ _) | (with_reducible refine Kd.C_drewN ?_ _) | (with_reducible refine Kd.C_drew ?_) | exact HR625.out)) | (with_reducible refine Kd.C_alloc ?_ _) | (with_reducible refine Kd.C_drewN ?_ _) | (with_reducible refine Kd.C_drew ?_))); (case aB => exact tb_); (case aF => exact (fun k_ hk => ⟨(.inr (Nat.le_trans (by first | exact HK.out.1 | exact (show Kept w _ (fun k_ => P0_ k_) from by repeat (first | (with_reducible first | exact HK.out | apply Kept.alloc | apply Kept.drewN | apply Kept.drew) | exact HK.out)).1) hk)), Kd.fresh' (Kd.R_lt (tr_x HO_0.out)) k_ hk⟩)); (case aO => exact (tr_ (h := by exact Kd.R_mono HO621.out om_))); (case aS => exact (below_size tb_)); (case aL => have := LMc26.out; omega); intro v627 w35 ho hb hg hat; rw [← Ny626.out] at ho; have n0_ := A_ (Kd.R_after (ok := (fun k_ => (P0_ k_ ∨ w.heap.size ≤ k_))) (tr_x HO_0.out) hg hat); have n1_ := A_ (hb); have n2_ := A_ (Kept.of_grown (S := (fun k_ => P0_ k_)) hg (by repeat (first | (with_reducible first | exact HK.out | apply Kept.alloc | apply Kept.drewN | apply Kept.drew) | exact HK.out)) (fun k_ e_ => (HO621.out.1 k_ e_).1.1)); have n3_ := A_ ((show Kd.C (Kd.int .i64) w35 Ao31 y622.length y622 from by rw [Ny622.out]; exact Kd.C_take (m := (x5_1 : Int).toNat) ((Kd.R_reads' (Kd.R_after (ok := (fun k_ => (P0_ k_ ∨ w.heap.size ≤ k_))) (tr_x HO_0.out) hg hat)).2.2) KL34.out)); have n4_ := A_ (ho); clear HO_0; clear HB; clear HK; clear HR625; clear HO621; have HO_0 := n0_; have HB := n1_; have HK := n2_; have HR625 := n3_; have HO628 := n4_; clear n0_ n1_ n2_ n3_ n4_; clear ho hb hg hat) | ((with_reducible refine gate_builtin (b := .append) (xs := #[.tmp 39, .tmp 41]) rfl ?_); at_builtin; refine Kd.R_append (Kd.int .i64) (w0 := w0) w0.heap.size rfl (.tmp 39) (.tmp 41) 24 3 (.int .i64 0) 8 rfl Try.underlying24 info3 rfl (by decide) (by omega) v627 y626 a1 [.int .i64 a1] (fun k_ => (P0_ k_ ∨ w.heap.size ≤ k_) ∧ some k_ ≠ (.slice Ao31 l0.length co31 : Value).ownBlock) (fun _ => False) rfl rfl ?aP (fun _ hk => hk.elim) ?aF ?aO ?aB ?aS ?aL ?_; (case aP => exact rfl); (case aB => exact tb_); (case aF => exact (fun k_ hk => ⟨(.inr (Nat.le_trans (by first | exact HK.out.1 | exact (show Kept w _ (fun k_ => P0_ k_) from by repeat (first | (with_reducible first | exact HK.out | apply Kept.alloc | apply Kept.drewN | apply Kept.drew) | exact HK.out)).1) hk)), Kd.fresh' (Kd.R_lt (tr_x HO_0.out)) k_ hk⟩)); (case aO => exact (tr_x HO628.out)); (case aS => exact (below_size tb_)); (case aL => have := LMc27.out; omega); intro v630 w36 ho hb hg hat; rw [← Ny629.out] at ho; have n0_ := A_ (Kd.R_after (ok := (fun k_ => (P0_ k_ ∨ w.heap.size ≤ k_))) (tr_x HO_0.out) hg hat); have n1_ := A_ (hb); have n2_ := A_ (Kept.of_grown (S := (fun k_ => P0_ k_)) hg (by repeat (first | (with_reducible first | exact HK.out | apply Kept.alloc | apply Kept.drewN | apply Kept.drew) | exact HK.out)) (fun k_ e_ => (HO628.out.1 k_ e_).1)); have n3_ := A_ ((show Kd.C (Kd.int .i64) w36 Ao31 y622.length y622 from by rw [Ny622.out]; exact Kd.C_take (m := (x5_1 : Int).toNat) ((Kd.R_reads' (Kd.R_after (ok := (fun k_ => (P0_ k_ ∨ w.heap.size ≤ k_))) (tr_x HO_0.out) hg hat)).2.2) KL34.out)); have n4_ := A_ (ho); clear HO_0; clear HB; clear HK; clear HR625; clear HO628; have HO_0 := n0_; have HB := n1_; have HK := n2_; have HR625 := n3_; have HO631 := n4_; clear n0_ n1_ n2_ n3_ n4_; clear ho hb hg hat; have q37 : (x5_1 : Int) ≤ ((l0.length : Int) : Int) := od_; obtain ⟨i037, hi037, _, hsz37, _⟩ := info_parts info3; have hroom37 : l0.length ≤ co31 := (Kd.R_reads' HO_0.out).2.1; have hC37 : Kd.C (Kd.int .i64) _ Ao31 l0.length l0 := (Kd.R_reads' HO_0.out).2.2; have q037 : (0 : Int) ≤ (x5_1 : Int) := od_; have hcut37 := cut_from (P := Try.prog) 24 3 .i64 Try.underlying24 hi037 1 hsz37 Ao31 l0.length co31 x5_1 q037 q37; have hr37 := Kd.C_drop (m := (x5_1 : Int).toNat) (c := co31) hC37 (by omega) hroom37; obtain ⟨A37, hA37⟩ : ∃ A1, A1 = (if co31 = (x5_1 : Int).toNat then Ao31 else (Ao31 : Option Addr).map (·.add ((x5_1 : Int).toNat * 1))) := ⟨_, rfl⟩; obtain ⟨c37, hc37⟩ : ∃ c1, c1 = co31 - (x5_1 : Int).toNat := ⟨_, rfl⟩; have hy37 : y632.length = l0.length - (x5_1 : Int).toNat := (by rw [Ny632.out, List.length_drop] <;> omega); rw [show (l0).drop (x5_1 : Int).toNat = y632 from Ny632.out.symm] at hr37; replace hr37 : Kd.C (Kd.int .i64) _ A37 y632.length y632 := (by rw [hA37]; exact hr37); rw [← hy37, ← hA37, ← hc37] at hcut37; have HR635 := A_ hr37; have HC635 := A_ (show y632.length ≤ c37 from by rw [hy37, hc37]; exact Nat.sub_le_sub_right hroom37 _); clear hr37 hC37 hroom37 hi037 hsz37 hc37; have KY37 := A_ hy37; have KA37 := A_ hA37; clear hy37 hA37; have KL37 := A_ (show (x5_1 : Int).toNat ≤ l0.length from by omega); replace q37 := eq_true q37) | ((with_reducible refine gate_builtin (b := .append) (xs := #[.tmp 43, .tmp 46]) rfl ?_); at_builtin; refine Kd.R_append_rows (Kd.int .i64) (w0 := w0) w0.heap.size rfl (.tmp 43) (.tmp 46) 24 3 (.int .i64 0) 8 rfl Try.underlying24 info3 rfl (by decide) (by omega) v630 y629 y632 _ _ _ (fun k_ => (P0_ k_ ∨ w.heap.size ≤ k_) ∧ some k_ ≠ (.slice Ao31 l0.length co31 : Value).ownBlock) (fun _ => False) rfl rfl ?aO ?aR (fun _ _ h => h) (fun _ h => h.elim) ?aF ?aB ?aS ?aL ?_; (case aR => repeat (first | exact (by repeat (first | (with_reducible exact HR635.out) | (with_reducible refine Kd.C_alloc ?_ _) | (with_reducible refine Kd.C_drewN ?_ _) | (with_reducible refine Kd.C_drew ?_) | exact HR635.out)) | (with_reducible refine Kd.C_alloc ?_ _) | (with_reducible refine Kd.C_drewN ?_ _) | (with_reducible refine Kd.C_drew ?_))); (case aB => exact tb_); (case aF => exact (fun k_ hk => ⟨(.inr (Nat.le_trans (by first | exact HK.out.1 | exact (show Kept w _ (fun k_ => P0_ k_) from by repeat (first | (with_reducible first | exact HK.out | apply Kept.alloc | apply Kept.drewN | apply Kept.drew) | exact HK.out)).1) hk)), Kd.fresh' (Kd.R_lt (tr_x HO_0.out)) k_ hk⟩)); (case aO => exact (tr_x HO631.out)); (case aS => exact (below_size tb_)); (case aL => have := LMc30.out; omega); intro v637 w38 ho hb hg hat; rw [← Ny636.out] at ho; have n0_ := A_ (Kd.R_after (ok := (fun k_ => (P0_ k_ ∨ w.heap.size ≤ k_))) (tr_x HO_0.out) hg hat); have n1_ := A_ (hb); have n2_ := A_ (Kept.of_grown (S := (fun k_ => P0_ k_)) hg (by repeat (first | (with_reducible first | exact HK.out | apply Kept.alloc | apply Kept.drewN | apply Kept.drew) | exact HK.out)) (fun k_ e_ => (HO631.out.1 k_ e_).1)); have n3_ := A_ ((show Kd.C (Kd.int .i64) w38 Ao31 y622.length y622 from by rw [Ny622.out]; exact Kd.C_take (m := (x5_1 : Int).toNat) ((Kd.R_reads' (Kd.R_after (ok := (fun k_ => (P0_ k_ ∨ w.heap.size ≤ k_))) (tr_x HO_0.out) hg hat)).2.2) KL34.out)); have n4_ := A_ ((show Kd.C (Kd.int .i64) w38 A37 y632.length y632 from by rw [Ny632.out, KA37.out]; exact Kd.C_drop (m := (x5_1 : Int).toNat) (c := co31) ((Kd.R_reads' (Kd.R_after (ok := (fun k_ => (P0_ k_ ∨ w.heap.size ≤ k_))) (tr_x HO_0.out) hg hat)).2.2) KL37.out ((Kd.R_reads' (Kd.R_after (ok := (fun k_ => (P0_ k_ ∨ w.heap.size ≤ k_))) (tr_x HO_0.out) hg hat)).2.1))); have n5_ := A_ (ho); clear HO_0; clear HB; clear HK; clear HR625; clear HR635; clear HO631; have HO_0 := n0_; have HB := n1_; have HK := n2_; have HR625 := n3_; have HR635 := n4_; have HO638 := n5_; clear n0_ n1_ n2_ n3_ n4_ n5_; clear ho hb hg hat))
         go_ret
         exact ⟨_, te_, by (with_reducible repeat (first | apply Kd.R_alloc | apply Kd.R_drewN | apply Kd.R_drew)); exact Kd.R_mono HO638.out (fun _ hk => hk.1), tb_, by repeat (first | (with_reducible first | exact HK.out | apply Kept.alloc | apply Kept.drewN | apply Kept.drew) | exact HK.out)⟩
        ·
         rw [if_neg c30] at H
         exact absurd H (by simp)
       ·
        rw [if_neg c27] at H
        exact absurd H (by simp)
      ·
       rw [if_neg c26] at H
       exact absurd H (by simp)
     ·
      rw [if_neg c25] at H
      exact absurd H (by simp)
    ·
     rw [if_neg c24] at H
     exact absurd H (by simp)

/-! ### spec_biLines: function 176 -/
mutual
def spec_biLines.l0 : Nat → Int → List Int → List Int → Int → Int → Int → List Int → Option (List Int × List Int)
 | 0, _, _, _, _, _, _, _ => none
 | k + 1, x1, x6, x7, x8, x640000, x640001, x640002 => if x8 < x640000 then (spec_biLines.l1 k x1 x6 x7 x8 0 x640000 x640001 x640002) else (some (x6, x7))
def spec_biLines.l1 : Nat → Int → List Int → List Int → Int → Int → Int → Int → List Int → Option (List Int × List Int)
 | 0, _, _, _, _, _, _, _, _ => none
 | k + 1, x1, x6, x7, x8, x9, x640000, x640001, x640002 => if x9 < x640001 then (if (Int.tmod (wrap64 (x8 + x9)) 2) = x1 then ((spec_biDiagonals.f x640000 x640001 x640002 x8 x9).bind fun bt640 => ((spec_l1Put.f k x6 bt640.1).bind fun t642 => ((spec_l1Put.f k x7 bt640.2).bind fun t645 => (spec_biLines.l1 k x1 t642 t645 x8 (wrap64 (x9 + 1)) x640000 x640001 x640002)))) else (spec_biLines.l1 k x1 x6 x7 x8 (wrap64 (x9 + 1)) x640000 x640001 x640002)) else (spec_biLines.l0 k x1 x6 x7 (wrap64 (x8 + 1)) x640000 x640001 x640002)
end
def spec_biLines.f (k : Nat) (a0_0 : Int) (a0_1 : Int) (l0_2 : List Int) (a1 : Int) : Option (List Int × List Int) := spec_biLines.l0 k a1 ([] : List Int) ([] : List Int) 0 a0_0 a0_1 l0_2
theorem spec_biLines.mono_l : ∀ k, (∀ y0 y1 y2 y3 y4 y5 y6, LeO (spec_biLines.l0 k y0 y1 y2 y3 y4 y5 y6) (spec_biLines.l0 (k + 1) y0 y1 y2 y3 y4 y5 y6)) ∧ (∀ y0 y1 y2 y3 y4 y5 y6 y7, LeO (spec_biLines.l1 k y0 y1 y2 y3 y4 y5 y6 y7) (spec_biLines.l1 (k + 1) y0 y1 y2 y3 y4 y5 y6 y7))
 | 0 => ⟨fun _ _ _ _ _ _ _ r h => by simp [spec_biLines.l0] at h, fun _ _ _ _ _ _ _ _ r h => by simp [spec_biLines.l1] at h⟩
 | k + 1 => by
  obtain ⟨ih0, ih1⟩ := spec_biLines.mono_l k
  refine ⟨?_, ?_⟩
  ·
   intro y0 y1 y2 y3 y4 y5 y6
   unfold spec_biLines.l0
   repeat' first | (with_reducible first | exact ih0 _ _ _ _ _ _ _ | exact ih1 _ _ _ _ _ _ _ _ | exact spec_l1Put.mono _ _ _ | exact LeO.refl _ | exact LeO.none _ | refine LeO.ite ?_ ?_ | refine LeO.bind ?_ (fun _ => ?_)) | exact ih0 _ _ _ _ _ _ _ | exact ih1 _ _ _ _ _ _ _ _ | exact spec_l1Put.mono _ _ _ | exact LeO.none _ | refine LeO.ite ?_ ?_ | refine LeO.bind ?_ (fun _ => ?_)
  ·
   intro y0 y1 y2 y3 y4 y5 y6 y7
   unfold spec_biLines.l1
   repeat' first | (with_reducible first | exact ih0 _ _ _ _ _ _ _ | exact ih1 _ _ _ _ _ _ _ _ | exact spec_l1Put.mono _ _ _ | exact LeO.refl _ | exact LeO.none _ | refine LeO.ite ?_ ?_ | refine LeO.bind ?_ (fun _ => ?_)) | exact ih0 _ _ _ _ _ _ _ | exact ih1 _ _ _ _ _ _ _ _ | exact spec_l1Put.mono _ _ _ | exact LeO.none _ | refine LeO.ite ?_ ?_ | refine LeO.bind ?_ (fun _ => ?_)
theorem spec_biLines.mono : ∀ a0 a1 a2 a3 k, LeO (spec_biLines.f k a0 a1 a2 a3) (spec_biLines.f (k + 1) a0 a1 a2 a3) := by
 intro a0 a1 a2 a3 k
 obtain ⟨ih0, ih1⟩ := spec_biLines.mono_l k
 unfold spec_biLines.f
 repeat' first | (with_reducible first | exact ih0 _ _ _ _ _ _ _ | exact ih1 _ _ _ _ _ _ _ _ | exact spec_l1Put.mono _ _ _ | exact LeO.refl _ | exact LeO.none _ | refine LeO.ite ?_ ?_ | refine LeO.bind ?_ (fun _ => ?_)) | exact ih0 _ _ _ _ _ _ _ | exact ih1 _ _ _ _ _ _ _ _ | exact spec_l1Put.mono _ _ _ | exact LeO.none _ | refine LeO.ite ?_ ?_ | refine LeO.bind ?_ (fun _ => ?_)
theorem spec_biLines.calls (k : Nat) (a0_0 : Int) (a0_1 : Int) (A0_2 : Option Addr) (c0_2 : Nat) (l0_2 : List Int) (a1 : Int) (r1 : List Int) (r2 : List Int) (w : World) (hr0_2 : Kd.C (Kd.int .i64) w A0_2 l0_2.length l0_2) (hc0_2 : l0_2.length ≤ c0_2) (h : spec_biLines.f k a0_0 a0_1 l0_2 a1 = some (r1, r2)) :
  Calls Try.prog 176 #[.agg #[.int .i64 a0_0, .int .i64 a0_1, .slice A0_2 l0_2.length c0_2], .int .i64 a1] w fun e w' => ∃ v0_ v1_ : Value, e = .returned (.tuple #[v0_, v1_]) ∧ Kd.R (Kd.int .i64) 3 w' w.heap.size (fun k_ => some k_ ≠ (v1_ : Value).ownBlock) v0_ r1 ∧ Kd.R (Kd.int .i64) 3 w' w.heap.size (fun k_ => some k_ ≠ (v0_ : Value).ownBlock) v1_ r2 ∧ Below w.heap.size w w' := by
 have hu26 := Try.underlying26
 have HR0_2 := A_ hr0_2
 have HC0_2 := A_ hc0_2
 clear hr0_2 hc0_2
 have HB := A_ (Below.refl w.heap.size w)
 have H : (spec_biLines.l0 k a1 ([] : List Int) ([] : List Int) 0 a0_0 a0_1 l0_2) = some (r1, r2) := h
 clear h
 have H' := A_ H
 clear H
 go_enter Try.func176, Try.ntmps176
 go_wp2_with (first | (refine gd_ 2 ?_; refine bx_ 2 #[.int .i64 a0_0, .int .i64 a0_1, .slice A0_2 l0_2.length c0_2] 26 ?_; intro gb639 hg w3 hbox hb; have BK639 := A_ (hbox); have GW639 := A_ ((ts_ hg : w.heap.size ≤ gb639)); have GE639 := A_ ((ts_ hg : w.heap.size ≤ gb639)); replace HB := A_ (below_step tb_ hb); clear hb hbox hg))
 go_loopg [6, 7, 8] k (fun kq v6 v7 v8 w' => ∃ (x6_1 : List Int) (x7_1 : List Int) (x8_1 : Int), v8 = .int .i64 x8_1 ∧ Aside0 (spec_biLines.l0 kq a1 x6_1 x7_1 x8_1 a0_0 a0_1 l0_2 = some (r1, r2)) ∧ Aside0 (kq ≤ k) ∧ Aside0 (Kd.R (Kd.int .i64) 3 w' w.heap.size (fun k_ => some k_ ≠ (v7 : Value).ownBlock) v6 x6_1) ∧ Aside0 (Kd.R (Kd.int .i64) 3 w' w.heap.size (fun k_ => some k_ ≠ (v6 : Value).ownBlock) v7 x7_1) ∧ Aside0 (w'.heap[gb639]? = some (.cells #[.int .i64 a0_0, .int .i64 a0_1, (.slice A0_2 l0_2.length c0_2)] 26 (0, 0))) ∧ Aside0 (Below w.heap.size w w'))
 case atStart => exact ⟨(([] : List Int)), (([] : List Int)), (0), tf_, H', ⟨Nat.le_refl _⟩, ⟨by first | exact Kd.R_nil _ _ _ _ _ | exact Kd.N_nil _ _ _ _ _ | exact Kd.V_nil _ _ _ _ _ | exact Kd.Q_nil _ _ _ _ _ | exact Kd.S_nil _ _ _ _ _⟩, ⟨by first | exact Kd.R_nil _ _ _ _ _ | exact Kd.N_nil _ _ _ _ _ | exact Kd.V_nil _ _ _ _ _ | exact Kd.Q_nil _ _ _ _ _ | exact Kd.S_nil _ _ _ _ _⟩, ⟨tk_ BK639⟩, ⟨tb_⟩⟩
 case round =>
  clear H'
  try clear c1
  try clear p2
  obtain ⟨x6_1, x7_1, x8_1, rfl, HA, HK1, HO_6, HO_7, BK639, HB⟩ := hrel
  cases gk with
  | zero => exact absurd HA.out (by simp [spec_biLines.l0])
  | succ k1 =>
   have H := HA.out
   clear HA
   simp only [spec_biLines.l0] at H
   by_cases c4 : x8_1 < a0_0
   ·
    rw [if_pos c4] at H
    have c4b0 := decide_eq_true c4
    clear c4
    have H' := A_ H
    clear H
    obtain ⟨hcz5_0, hcz5_1, hcz5_2, hfz5_0, hfz5_1, hfz5_2⟩ := cf3_ BK639.out
    go_wp2
    go_loopg [6, 7, 9] k1 (fun kq v6 v7 v9 w' => ∃ (x6_2 : List Int) (x7_2 : List Int) (x9_2 : Int), v9 = .int .i64 x9_2 ∧ Aside0 (spec_biLines.l1 kq a1 x6_2 x7_2 x8_1 x9_2 a0_0 a0_1 l0_2 = some (r1, r2)) ∧ Aside0 (kq ≤ k1) ∧ Aside0 (Kd.R (Kd.int .i64) 3 w' w.heap.size (fun k_ => some k_ ≠ (v7 : Value).ownBlock) v6 x6_2) ∧ Aside0 (Kd.R (Kd.int .i64) 3 w' w.heap.size (fun k_ => some k_ ≠ (v6 : Value).ownBlock) v7 x7_2) ∧ Aside0 (w'.heap[gb639]? = some (.cells #[.int .i64 a0_0, .int .i64 a0_1, (.slice A0_2 l0_2.length c0_2)] 26 (0, 0))) ∧ Aside0 (Below w.heap.size w w'))
    case atStart => exact ⟨(x6_1), (x7_1), (0), tf_, H', ⟨Nat.le_refl _⟩, ⟨tr_x HO_6.out⟩, ⟨tr_x HO_7.out⟩, ⟨tk_ BK639⟩, ⟨tb_⟩⟩
    case round =>
     clear H'
     try clear c1
     try clear p2
     try clear c4
     try clear c4b0
     try clear hcz5_0
     try clear hcz5_1
     try clear hcz5_2
     try clear hfz5_0
     try clear hfz5_1
     try clear hfz5_2
     try clear p2
     obtain ⟨x6_2, x7_2, x9_2, rfl, HA, HK2, HO_6, HO_7, BK639, HB⟩ := hrel
     cases gk with
     | zero => exact absurd HA.out (by simp [spec_biLines.l1])
     | succ k2 =>
      have H := HA.out
      clear HA
      simp only [spec_biLines.l1] at H
      by_cases c6 : x9_2 < a0_1
      ·
       rw [if_pos c6] at H
       have c6b0 := decide_eq_true c6
       clear c6
       by_cases c7 : (Int.tmod (wrap64 (x8_1 + x9_2)) 2) = a1
       ·
        rw [if_pos c7] at H
        have c7b0 : ((Int.tmod (wrap64 (x8_1 + x9_2)) 2) == a1) = true := beq_iff_eq.mpr c7
        have c7b1 : ((Int.tmod (wrap64 (x8_1 + x9_2)) 2) != a1) = false := bne_eq_false_iff_eq.mpr c7
        clear c7
        replace H := Option.bind_eq_some_iff.mp H
        obtain ⟨⟨t640, t641⟩, A80, H⟩ := H
        replace H : ((spec_l1Put.f k2 x6_2 t640).bind fun t642 => ((spec_l1Put.f k2 x7_2 t641).bind fun t645 => (spec_biLines.l1 k2 a1 t642 t645 x8_1 (wrap64 (x9_2 + 1)) a0_0 a0_1 l0_2))) = some (r1, r2) := H
        have A8 := A_ A80
        clear A80
        replace H := Option.bind_eq_some_iff.mp H
        obtain ⟨t642, A90, H⟩ := H
        replace H : ((spec_l1Put.f k2 x7_2 t641).bind fun t645 => (spec_biLines.l1 k2 a1 t642 t645 x8_1 (wrap64 (x9_2 + 1)) a0_0 a0_1 l0_2)) = some (r1, r2) := H
        have A9 := A_ A90
        clear A90
        replace H := Option.bind_eq_some_iff.mp H
        obtain ⟨t645, A100, H⟩ := H
        replace H : (spec_biLines.l1 k2 a1 t642 t645 x8_1 (wrap64 (x9_2 + 1)) a0_0 a0_1 l0_2) = some (r1, r2) := H
        have A10 := A_ A100
        clear A100
        have H' := A_ H
        clear H
        obtain ⟨hcz11_0, hcz11_1, hcz11_2, hfz11_0, hfz11_1, hfz11_2⟩ := cf3_ BK639.out
        go_wp2_with (first | (refine gc_ 130 ?_; refine goesT_ (some 34) Try.func130 #[.agg #[.int .i64 a0_0, .int .i64 a0_1, .slice A0_2 l0_2.length c0_2], .int .i64 x8_1, .int .i64 x9_2] ?_; (with_reducible refine (spec_biDiagonals.calls a0_0 a0_1 _ _ l0_2 x8_1 x9_2 t640 t641 _ ?side1 ?side2 A8.out).mono ?_); (case side1 => exact tc_ HR0_2.out); (case side2 => exact HC0_2.out); rintro e w12 ⟨rfl, hb⟩; refine ⟨_, rfl, ?_⟩; replace HO_6 := A_ (Kd.R_below (tr_x HO_6.out) hb); replace HO_7 := A_ (Kd.R_below (tr_x HO_7.out) hb); replace BK639 := A_ (blk_below (g := gb639) (o := .cells #[.int .i64 a0_0, .int .i64 a0_1, .slice A0_2 l0_2.length c0_2] 26 (0, 0)) (tk_ BK639) hb); replace HB := A_ (below_step tb_ hb); (try clear hb); obtain ⟨Ao13, co13, eo13⟩ := Kd.R_slice HO_6.out; subst eo13) | (refine gc_ 206 ?_; refine goesT_ (some 39) Try.func206 #[.slice Ao13 x6_2.length co13, .int .i64 t640] ?_; (with_reducible refine (spec_l1Put.calls k2 (fun k_ => some k_ = (.slice Ao13 x6_2.length co13 : Value).ownBlock) (.slice Ao13 x6_2.length co13) x6_2 t640 t642 w _ ?side1 ?side2 A9.out).mono ?_); (case side1 => repeat (first | (with_reducible first | exact HB.out | apply below_alloc | apply pw_below_drewN | apply below_drew1 | refine below_set ?_ GE639.out) | exact HB.out)); (case side2 => exact Kd.R_tight rfl HO_6.out); rintro e w14 ⟨v643, rfl, ho0, hb, hkp⟩; refine ⟨_, rfl, ?_⟩; have n0_ := A_ (Kd.R_mono (ok' := fun k_ => some k_ ≠ (v643 : Value).ownBlock) (Kd.R_keptB (HO_7.out) hkp (fun k_ hk_ hs_ => (hk_) hs_)) (fun k_ hk_ => fun e_ => Or.elim (ho0.1 k_ e_.symm) (fun hs_ => hk_.2.1 hs_) (fun hn_ => Nat.not_le.2 hk_.2.2 hn_))); have n1_ := A_ (blk_kept (tk_ BK639) hkp (fun hs_ => (fun e_ => (Kd.R_ne HO_6.out BK639.out (by decide)) e_) hs_)); have n2_ := A_ (Kd.R_mono (ok' := fun k_ => some k_ ≠ (u7 : Value).ownBlock) ho0 (fun k_ hk_ => Or.elim hk_ (fun hs_ => fun e_ => (((HO_7.out).1 k_ e_.symm)) hs_) (fun hn_ => (Kd.fresh' (Kd.R_lt (tr_x HO_7.out)) k_ hn_)))); have n3_ := A_ (hb); clear HO_7; clear BK639; clear HB; clear HO_6; have HO_7 := n0_; have BK639 := n1_; have HO644 := n2_; have HB := n3_; clear n0_ n1_ n2_ n3_; (try clear hb); (try clear hkp); (try clear ho0); obtain ⟨Ao15, co15, eo15⟩ := Kd.R_slice HO_7.out; subst eo15) | (refine gc_ 206 ?_; refine goesT_ (some 42) Try.func206 #[.slice Ao15 x7_2.length co15, .int .i64 t641] ?_; (with_reducible refine (spec_l1Put.calls k2 (fun k_ => some k_ = (.slice Ao15 x7_2.length co15 : Value).ownBlock) (.slice Ao15 x7_2.length co15) x7_2 t641 t645 w _ ?side1 ?side2 A10.out).mono ?_); (case side1 => repeat (first | (with_reducible first | exact HB.out | apply below_alloc | apply pw_below_drewN | apply below_drew1 | refine below_set ?_ GE639.out) | exact HB.out)); (case side2 => exact Kd.R_tight rfl HO_7.out); rintro e w16 ⟨v646, rfl, ho0, hb, hkp⟩; refine ⟨_, rfl, ?_⟩; have n0_ := A_ (blk_kept (tk_ BK639) hkp (fun hs_ => (fun e_ => (Kd.R_ne HO_7.out BK639.out (by decide)) e_) hs_)); have n1_ := A_ (Kd.R_mono (ok' := fun k_ => some k_ ≠ (v646 : Value).ownBlock) (Kd.R_keptB (HO644.out) hkp (fun k_ hk_ hs_ => (hk_) hs_)) (fun k_ hk_ => fun e_ => Or.elim (ho0.1 k_ e_.symm) (fun hs_ => hk_.2.1 hs_) (fun hn_ => Nat.not_le.2 hk_.2.2 hn_))); have n2_ := A_ (Kd.R_mono (ok' := fun k_ => some k_ ≠ (v643 : Value).ownBlock) ho0 (fun k_ hk_ => Or.elim hk_ (fun hs_ => fun e_ => (((HO644.out).1 k_ e_.symm)) hs_) (fun hn_ => (Kd.fresh' (Kd.R_lt (tr_x HO644.out)) k_ hn_)))); have n3_ := A_ (hb); clear BK639; clear HO644; clear HB; clear HO_7; have BK639 := n0_; have HO644 := n1_; have HO647 := n2_; have HB := n3_; clear n0_ n1_ n2_ n3_; (try clear hb); (try clear hkp); (try clear ho0)))
        go_roundg k2
        case measure => have := HK1.out; have := HK2.out; omega
        case rel => exact ⟨(t642), (t645), (wrap64 (x9_2 + 1)), tf_, H', ⟨by have := HK1.out; have := HK2.out; omega⟩, ⟨tr_x HO644.out⟩, ⟨tr_x HO647.out⟩, ⟨tk_ BK639⟩, ⟨tb_⟩⟩
       ·
        rw [if_neg c7] at H
        have c7b0 : ((Int.tmod (wrap64 (x8_1 + x9_2)) 2) == a1) = false := beq_eq_false_iff_ne.mpr c7
        have c7b1 : ((Int.tmod (wrap64 (x8_1 + x9_2)) 2) != a1) = true := bne_iff_ne.mpr c7
        have H' := A_ H
        clear H
        obtain ⟨hcz17_0, hcz17_1, hcz17_2, hfz17_0, hfz17_1, hfz17_2⟩ := cf3_ BK639.out
        go_wp2
        go_roundg k2
        case measure => have := HK1.out; have := HK2.out; omega
        case rel => exact ⟨(x6_2), (x7_2), (wrap64 (x9_2 + 1)), tf_, H', ⟨by have := HK1.out; have := HK2.out; omega⟩, ⟨tr_x HO_6.out⟩, ⟨tr_x HO_7.out⟩, ⟨tk_ BK639⟩, ⟨tb_⟩⟩
      ·
       rw [if_neg c6] at H
       have c6b0 := decide_eq_false c6
       clear c6
       have H' := A_ H
       clear H
       obtain ⟨hcz18_0, hcz18_1, hcz18_2, hfz18_0, hfz18_1, hfz18_2⟩ := cf3_ BK639.out
       go_wp2
       go_roundg k2
       case measure => have := HK1.out; have := HK2.out; omega
       case rel => exact ⟨(x6_2), (x7_2), (wrap64 (x8_1 + 1)), tf_, H', ⟨by have := HK1.out; have := HK2.out; omega⟩, ⟨tr_x HO_6.out⟩, ⟨tr_x HO_7.out⟩, ⟨tk_ BK639⟩, ⟨tb_⟩⟩
   ·
    rw [if_neg c4] at H
    have c4b0 := decide_eq_false c4
    clear c4
    simp only [Option.some.injEq, Prod.mk.injEq] at H
    obtain ⟨rfl, rfl⟩ := H
    obtain ⟨hcz19_0, hcz19_1, hcz19_2, hfz19_0, hfz19_1, hfz19_2⟩ := cf3_ BK639.out
    go_wp2
    go_ret2
    exact ⟨_, _, te_, tr_x HO_6.out, tr_x HO_7.out, tb_⟩

end
end Go.Proofs.Ytnhamhpalbeflaa.P
