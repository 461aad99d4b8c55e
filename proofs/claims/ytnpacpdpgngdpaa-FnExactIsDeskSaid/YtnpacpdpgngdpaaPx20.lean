-- printed by wip/hprint.py of this session (the kit's print.py, patched in memory)
import Derived.Test.YtnpacpdpgngdpaaPx0
namespace Go.Proofs.Ytnpacpdpgngdpaa.P
noncomputable section
set_option maxHeartbeats 8000000
set_option maxRecDepth 100000
open Go.RowKit Go.Proofs.YtnpacpdpgngdpaaW.PrintWords Go.Proofs.YtnpacpdpgngdpaaW.PrintLast Go.Proofs.YtnpacpdpgngdpaaW.PrintMore
attribute [local go_sem] max2_int min2_int max_two min_two max_three min_three max_four min_four   -- for this text's walks alone
set_option linter.unusedVariables false
set_option linter.unusedSimpArgs false

/-! ### slices_IndexFunc_int_int_257: function 257 -/
def slices_IndexFunc_int_int_257.l0 : Nat → List Int → FnT43 → Int → Int → Option (Int)
 | 0, _, _, _, _ => none
 | k + 1, x0, x1, x7, x8 => if x8 < x7 then (if 0 ≤ x8 then (if x8 < (x0.length : Int) then ((FnCall43.f (rd x0 x8) x1).bind fun t192 => (if t192 = true then (some x8) else (slices_IndexFunc_int_int_257.l0 k x0 x1 x7 (wrap64 (x8 + 1))))) else (none)) else (none)) else (some (-1))
def slices_IndexFunc_int_int_257.f (k : Nat) (l0 : List Int) (a1 : FnT43) : Option (Int) := slices_IndexFunc_int_int_257.l0 k l0 a1 (l0.length : Int) 0
theorem slices_IndexFunc_int_int_257.mono_l : ∀ k, (∀ y0 y1 y2 y3, LeO (slices_IndexFunc_int_int_257.l0 k y0 y1 y2 y3) (slices_IndexFunc_int_int_257.l0 (k + 1) y0 y1 y2 y3))
 | 0 => fun _ _ _ _ r h => by simp [slices_IndexFunc_int_int_257.l0] at h
 | k + 1 => by
  have ih0 := slices_IndexFunc_int_int_257.mono_l k
  ·
   intro y0 y1 y2 y3
   unfold slices_IndexFunc_int_int_257.l0
   repeat' first | (with_reducible first | exact ih0 _ _ _ _ | exact LeO.refl _ | exact LeO.none _ | refine LeO.ite ?_ ?_ | refine LeO.bind ?_ (fun _ => ?_)) | exact ih0 _ _ _ _ | exact LeO.none _ | refine LeO.ite ?_ ?_ | refine LeO.bind ?_ (fun _ => ?_)
theorem slices_IndexFunc_int_int_257.mono : ∀ a0 a1 k, LeO (slices_IndexFunc_int_int_257.f k a0 a1) (slices_IndexFunc_int_int_257.f (k + 1) a0 a1) := by
 intro a0 a1 k
 have ih0 := slices_IndexFunc_int_int_257.mono_l k
 unfold slices_IndexFunc_int_int_257.f
 repeat' first | (with_reducible first | exact ih0 _ _ _ _ | exact LeO.refl _ | exact LeO.none _ | refine LeO.ite ?_ ?_ | refine LeO.bind ?_ (fun _ => ?_)) | exact ih0 _ _ _ _ | exact LeO.none _ | refine LeO.ite ?_ ?_ | refine LeO.bind ?_ (fun _ => ?_)
theorem slices_IndexFunc_int_int_257.calls (k : Nat) (A0 : Option Addr) (c0 : Nat) (l0 : List Int) (v1 : Value) (a1 : FnT43) (r : Int) (w : World) (hr0 : Kd.C (Kd.int .i64) w A0 l0.length l0) (hc0 : l0.length ≤ c0) (hF1 : FnOk43 w v1 a1) (h : slices_IndexFunc_int_int_257.f k l0 a1 = some r) :
  Calls Try.prog 257 #[.slice A0 l0.length c0, v1] w fun e w' => e = .returned (.int .i64 r) ∧ Below w.heap.size w w' := by
 have HR0 := A_ hr0
 have HC0 := A_ hc0
 clear hr0 hc0
 have HF1 := A_ hF1
 clear hF1
 have HB := A_ (Below.refl w.heap.size w)
 have H : (slices_IndexFunc_int_int_257.l0 k l0 a1 (l0.length : Int) 0) = some r := h
 clear h
 have H' := A_ H
 clear H
 go_enter Try.func257, Try.ntmps257
 go_wp2
 go_loopg [8] k (fun kq v8 w' => ∃ (x8_1 : Int), v8 = .int .i64 x8_1 ∧ Aside0 (slices_IndexFunc_int_int_257.l0 kq l0 a1 (l0.length : Int) x8_1 = some r) ∧ Aside0 (kq ≤ k) ∧ Aside0 (Below w.heap.size w w'))
 case atStart => exact ⟨(0), tf_, H', ⟨Nat.le_refl _⟩, ⟨tb_⟩⟩
 case round =>
  clear H'
  try clear c2
  try clear p2
  obtain ⟨x8_1, rfl, HA, HK1, HB⟩ := hrel
  cases gk with
  | zero => exact absurd HA.out (by simp [slices_IndexFunc_int_int_257.l0])
  | succ k1 =>
   have H := HA.out
   clear HA
   simp only [slices_IndexFunc_int_int_257.l0] at H
   by_cases c3 : x8_1 < (l0.length : Int)
   ·
    rw [if_pos c3] at H
    have c3b0 := decide_eq_true c3
    clear c3
    by_cases c4 : 0 ≤ x8_1
    ·
     rw [if_pos c4] at H
     have c4b0 := decide_eq_true c4
     clear c4
     by_cases c5 : x8_1 < (l0.length : Int)
     ·
      rw [if_pos c5] at H
      have c5b0 := decide_eq_true c5
      clear c5
      replace H := Option.bind_eq_some_iff.mp H
      obtain ⟨t192, A60, H⟩ := H
      replace H : (if t192 = true then (some x8_1) else (slices_IndexFunc_int_int_257.l0 k1 l0 a1 (l0.length : Int) (wrap64 (x8_1 + 1)))) = some r := H
      have A6 := A_ A60
      clear A60
      by_cases c7 : t192 = true
      ·
       subst c7
       have H1 : (some x8_1) = some r := by rw [if_pos rfl] at H; exact H
       clear H
       have H := H1
       clear H1
       obtain rfl := Option.some.inj H
       have p191 : 0 ≤ (x8_1 : Int) := od_
       have q191 : x8_1 < (l0.length : Int) := od_
       obtain ⟨ad191, e191, hx191_0⟩ := Kd.at_int HR0.out x8_1 p191 q191
       cases e191
       (try replace hx191_0 := (HB.out.cell (World.block_lt_of_cell? w _ hx191_0)).trans hx191_0)
       replace p191 := eq_true p191
       replace q191 := eq_true q191
       go_wp2_with (first | ((with_reducible refine Fn.gate_value rfl ?_); refine Fn.goesVw_ (some 16) rfl (by first | rfl | (simp [Region.wanted, yielded]; done)) v1 rfl #[.int .i64 (rd l0 x8_1)] rfl ta_ ?_; (with_reducible refine (FnCall43.calls (rd l0 x8_1) v1 a1 true _ ?side1 A6.out).mono ?_); (case side1 => exact FnOk43.mono HF1.out tb_); rintro e w8 ⟨rfl, hb⟩; refine ⟨_, rfl, ?_⟩; replace HB := A_ (below_step tb_ hb); (try clear hb)))
       go_ret
       exact ⟨te_, tb_⟩
      ·
       replace c7 := Bool.eq_false_iff.mpr c7
       subst c7
       have H1 : (slices_IndexFunc_int_int_257.l0 k1 l0 a1 (l0.length : Int) (wrap64 (x8_1 + 1))) = some r := by rw [if_neg (show ¬ (false = true) by decide)] at H; exact H
       clear H
       have H := H1
       clear H1
       have H' := A_ H
       clear H
       have p191 : 0 ≤ (x8_1 : Int) := od_
       have q191 : x8_1 < (l0.length : Int) := od_
       obtain ⟨ad191, e191, hx191_0⟩ := Kd.at_int HR0.out x8_1 p191 q191
       cases e191
       (try replace hx191_0 := (HB.out.cell (World.block_lt_of_cell? w _ hx191_0)).trans hx191_0)
       replace p191 := eq_true p191
       replace q191 := eq_true q191
       go_wp2_with (first | ((with_reducible refine Fn.gate_value rfl ?_); refine Fn.goesVw_ (some 16) rfl (by first | rfl | (simp [Region.wanted, yielded]; done)) v1 rfl #[.int .i64 (rd l0 x8_1)] rfl ta_ ?_; (with_reducible refine (FnCall43.calls (rd l0 x8_1) v1 a1 false _ ?side1 A6.out).mono ?_); (case side1 => exact FnOk43.mono HF1.out tb_); rintro e w9 ⟨rfl, hb⟩; refine ⟨_, rfl, ?_⟩; replace HB := A_ (below_step tb_ hb); (try clear hb)))
       go_roundg k1
       case measure => have := HK1.out; omega
       case rel => exact ⟨(wrap64 (x8_1 + 1)), tf_, H', ⟨by have := HK1.out; omega⟩, ⟨tb_⟩⟩
     ·
      rw [if_neg c5] at H
      exact absurd H (by simp)
    ·
     rw [if_neg c4] at H
     exact absurd H (by simp)
   ·
    rw [if_neg c3] at H
    have c3b0 := decide_eq_false c3
    clear c3
    obtain rfl := Option.some.inj H
    go_wp2
    go_ret
    exact ⟨te_, tb_⟩

end
end Go.Proofs.Ytnpacpdpgngdpaa.P
