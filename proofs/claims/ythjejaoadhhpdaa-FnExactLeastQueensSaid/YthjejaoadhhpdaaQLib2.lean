import Derived.Test.YthjejaoadhhpdaaPx10
import Derived.Test.YthjejaoadhhpdaaPx17
import Derived.Test.YthjejaoadhhpdaaPx9
import Derived.Test.YthjejaoadhhpdaaQLib
namespace Go.Proofs.Ythjejaoadhhpdaa.P
open Go.RowKit Go.Proofs.YthjejaoadhhpdaaW.PrintWords Go.Proofs.YthjejaoadhhpdaaW.PrintLast Go.Proofs.YthjejaoadhhpdaaW.PrintMore
set_option linter.unusedVariables false
set_option linter.unusedSimpArgs false

/-! #### turns -/
def turnGo (n : Int) : List Int → Nat → List Int → List Int
  | [], _, acc => acc
  | c :: cs, i, acc => turnGo n cs (i + 1) (acc.set c.toNat (n - 1 - (i : Int)))
theorem turnGo_length (n : Int) : ∀ (cs : List Int) (i : Nat) (acc : List Int), (turnGo n cs i acc).length = acc.length
  | [], _, _ => rfl
  | _ :: cs, i, acc => by rw [turnGo, turnGo_length n cs]; simp
def turnL (q : List Int) : List Int := turnGo q.length q 0 (List.replicate q.length 0)
theorem turnL_length (q : List Int) : (turnL q).length = q.length := by unfold turnL; rw [turnGo_length]; simp
theorem quTurn_l0 (q : List Int) (hg : goodB q = true) : ∀ (d i : Nat) (acc : List Int) (k : Nat), q.length - i = d → i ≤ q.length → d < k → acc.length = q.length →
    spec_quTurn.l0 k q acc q (q.length : Int) (i : Int) = some (turnGo q.length (q.drop i) i acc) := by
  have hl := good_len hg
  intro d
  induction d with
  | zero =>
    intro i acc k hd hi hk ha
    obtain ⟨k, rfl⟩ : ∃ m, k = m + 1 := ⟨k - 1, by omega⟩
    rw [spec_quTurn.l0, if_neg (by omega), List.drop_eq_nil_of_le (by omega), turnGo]
  | succ d ih =>
    intro i acc k hd hi hk ha
    obtain ⟨k, rfl⟩ : ∃ m, k = m + 1 := ⟨k - 1, by omega⟩
    have h1 : i < q.length := by omega
    have hx := good_at hg i h1
    rw [spec_quTurn.l0, if_pos (by omega), if_pos (by omega), if_pos (by omega), rd_nat _ _ h1, if_pos (by omega), if_pos (by omega), w64 ((i : Int) + 1) (by omega) (by omega), w64 ((q.length : Int) - 1) (by omega) (by omega), w64 _ (by omega) (by omega)]
    rw [show ((i : Int) + 1) = ((i + 1 : Nat) : Int) by omega, ih (i + 1) _ k (by omega) (by omega) (by omega) (by simp [ha]), drop_cons q i h1, turnGo]
theorem quTurn_ev (q : List Int) (hg : goodB q = true) : Ev (fun k => spec_quTurn.f k q) (turnL q) := by
  have hl := good_len hg
  refine ⟨q.length + 1, fun k hk => ?_⟩
  simp only [spec_quTurn.f]
  rw [if_pos (by omega), if_pos (by omega)]
  have := quTurn_l0 q hg q.length 0 (List.replicate q.length 0) k (by omega) (by omega) (by omega) (by simp)
  simpa [turnL] using this
theorem turn_l0 (q : List Int) (hg : goodB q = true) : ∀ (d i : Nat) (acc : List Int) (k : Nat), q.length - i = d → i ≤ q.length → d < k → acc.length = q.length →
    impl_turn.l0 k q acc q (q.length : Int) (i : Int) = some (turnGo q.length (q.drop i) i acc) := by
  have hl := good_len hg
  intro d
  induction d with
  | zero =>
    intro i acc k hd hi hk ha
    obtain ⟨k, rfl⟩ : ∃ m, k = m + 1 := ⟨k - 1, by omega⟩
    rw [impl_turn.l0, if_neg (by omega), List.drop_eq_nil_of_le (by omega), turnGo]
  | succ d ih =>
    intro i acc k hd hi hk ha
    obtain ⟨k, rfl⟩ : ∃ m, k = m + 1 := ⟨k - 1, by omega⟩
    have h1 : i < q.length := by omega
    have hx := good_at hg i h1
    rw [impl_turn.l0, if_pos (by omega), if_pos (by omega), if_pos (by omega), rd_nat _ _ h1, if_pos (by omega), if_pos (by omega), w64 ((i : Int) + 1) (by omega) (by omega), w64 ((q.length : Int) - 1) (by omega) (by omega), w64 _ (by omega) (by omega)]
    rw [show ((i : Int) + 1) = ((i + 1 : Nat) : Int) by omega, ih (i + 1) _ k (by omega) (by omega) (by omega) (by simp [ha]), drop_cons q i h1, turnGo]
theorem turn_ev (q : List Int) (hg : goodB q = true) : Ev (fun k => impl_turn.f k q) (turnL q) := by
  have hl := good_len hg
  refine ⟨q.length + 1, fun k hk => ?_⟩
  simp only [impl_turn.f]
  rw [if_pos (by omega), if_pos (by omega)]
  have := turn_l0 q hg q.length 0 (List.replicate q.length 0) k (by omega) (by omega) (by omega) (by simp)
  simpa [turnL] using this

/-! #### shifts -/
theorem tmod_gt (a n : Int) (hn : 0 < n) : -n < Int.tmod a n := by
  by_cases h : 0 ≤ a
  · have := Int.tmod_nonneg n h; omega
  · have h2 := Int.tmod_lt_of_pos (-a) hn
    rw [Int.neg_tmod] at h2
    omega
theorem tmod_twice (a n : Int) (hn : 0 < n) : Int.tmod (Int.tmod a n + n) n = a % n := by
  have h1 := Int.tmod_lt_of_pos a hn
  have h2 : -n < Int.tmod a n := tmod_gt a n hn
  rw [Int.tmod_eq_emod_of_nonneg (by omega), Int.add_emod_right]
  have := Int.tmod_add_mul_tdiv a n
  rw [show Int.tmod a n = a - n * Int.tdiv a n by omega, Int.sub_mul_emod_self_left]
theorem tmod_hundred (a n : Int) (hn : 0 < n) (h : 0 ≤ a + 100 * n) : Int.tmod (a + 100 * n) n = a % n := by
  rw [Int.tmod_eq_emod_of_nonneg h]
  simp
def shiftGo (n rows columns : Int) : List Int → Nat → List Int → List Int
  | [], _, acc => acc
  | c :: cs, i, acc => shiftGo n rows columns cs (i + 1) (acc.set (((i : Int) + rows) % n).toNat ((c + columns) % n))
theorem shiftGo_length (n rows columns : Int) : ∀ (cs : List Int) (i : Nat) (acc : List Int), (shiftGo n rows columns cs i acc).length = acc.length
  | [], _, _ => rfl
  | _ :: cs, i, acc => by rw [shiftGo, shiftGo_length n rows columns cs]; simp
def shiftL (q : List Int) (rows columns : Int) : List Int := shiftGo q.length rows columns q 0 (List.replicate q.length 0)
theorem shiftL_length (q : List Int) (rows columns : Int) : (shiftL q rows columns).length = q.length := by unfold shiftL; rw [shiftGo_length]; simp
theorem quMod_eq (a n : Int) (hn : 0 < n) (hn2 : n ≤ 8) (ha : -1000 ≤ a) (ha2 : a ≤ 1000) : spec_quMod.f a n = some (a % n) := by
  have h1 := Int.tmod_lt_of_pos a hn
  have h2 : -n < Int.tmod a n := tmod_gt a n hn
  unfold spec_quMod.f
  rw [if_neg (by omega), w64 _ (by omega) (by omega), tmod_twice a n hn]
theorem specShift_l0 (q : List Int) (hg : goodB q = true) (rows columns : Int) (hr : -100 ≤ rows ∧ rows ≤ 100) (hc : -100 ≤ columns ∧ columns ≤ 100) : ∀ (d i : Nat) (acc : List Int) (k : Nat), q.length - i = d → i ≤ q.length → d < k → acc.length = q.length →
    spec_ShiftQueens.l0 k rows columns (q.length : Int) acc q (q.length : Int) (i : Int) = some (shiftGo q.length rows columns (q.drop i) i acc, true) := by
  have hl := good_len hg
  intro d
  induction d with
  | zero =>
    intro i acc k hd hi hk ha
    obtain ⟨k, rfl⟩ : ∃ m, k = m + 1 := ⟨k - 1, by omega⟩
    rw [spec_ShiftQueens.l0, if_neg (by omega), List.drop_eq_nil_of_le (by omega), shiftGo]
  | succ d ih =>
    intro i acc k hd hi hk ha
    obtain ⟨k, rfl⟩ : ∃ m, k = m + 1 := ⟨k - 1, by omega⟩
    have h1 : i < q.length := by omega
    have hx := good_at hg i h1
    have hm := Int.emod_lt_of_pos ((i : Int) + rows) (show (0 : Int) < q.length by omega)
    have hm0 := Int.emod_nonneg ((i : Int) + rows) (show (q.length : Int) ≠ 0 by omega)
    rw [spec_ShiftQueens.l0, if_pos (by omega), if_pos (by omega), if_pos (by omega), rd_nat _ _ h1, w64 ((i : Int) + rows) (by omega) (by omega), w64 (q[i] + columns) (by omega) (by omega), quMod_eq _ _ (by omega) (by omega) (by omega) (by omega), quMod_eq _ _ (by omega) (by omega) (by omega) (by omega)]
    simp only [Option.bind_some]
    rw [if_pos hm0, if_pos (by omega), w64 _ (by omega) (by omega)]
    rw [show ((i : Int) + 1) = ((i + 1 : Nat) : Int) by omega, ih (i + 1) _ k (by omega) (by omega) (by omega) (by simp [ha]), drop_cons q i h1, shiftGo]
theorem implShift_l0 (q : List Int) (hg : goodB q = true) (rows columns : Int) (hr : -100 ≤ rows ∧ rows ≤ 100) (hc : -100 ≤ columns ∧ columns ≤ 100) : ∀ (d i : Nat) (acc : List Int) (k : Nat), q.length - i = d → i ≤ q.length → d < k → acc.length = q.length →
    impl_ShiftQueens.l0 k rows columns (q.length : Int) acc q (q.length : Int) (i : Int) = some (shiftGo q.length rows columns (q.drop i) i acc, true) := by
  have hl := good_len hg
  intro d
  induction d with
  | zero =>
    intro i acc k hd hi hk ha
    obtain ⟨k, rfl⟩ : ∃ m, k = m + 1 := ⟨k - 1, by omega⟩
    rw [impl_ShiftQueens.l0, if_neg (by omega), List.drop_eq_nil_of_le (by omega), shiftGo]
  | succ d ih =>
    intro i acc k hd hi hk ha
    obtain ⟨k, rfl⟩ : ∃ m, k = m + 1 := ⟨k - 1, by omega⟩
    have h1 : i < q.length := by omega
    have hx := good_at hg i h1
    have hm := Int.emod_lt_of_pos ((i : Int) + rows) (show (0 : Int) < q.length by omega)
    have hm0 := Int.emod_nonneg ((i : Int) + rows) (show (q.length : Int) ≠ 0 by omega)
    rw [impl_ShiftQueens.l0, if_pos (by omega), if_pos (by omega), if_pos (by omega), if_neg (by omega), rd_nat _ _ h1, w64 (100 * (q.length : Int)) (by omega) (by omega), w64 ((i : Int) + rows) (by omega) (by omega), w64 (q[i] + columns) (by omega) (by omega), w64 ((i : Int) + rows + 100 * (q.length : Int)) (by omega) (by omega), w64 (q[i] + columns + 100 * (q.length : Int)) (by omega) (by omega),
      tmod_hundred _ _ (by omega) (by omega), tmod_hundred _ _ (by omega) (by omega)]
    rw [if_pos hm0, if_pos (by omega), w64 _ (by omega) (by omega)]
    rw [show ((i : Int) + 1) = ((i + 1 : Nat) : Int) by omega, ih (i + 1) _ k (by omega) (by omega) (by omega) (by simp [ha]), drop_cons q i h1, shiftGo]
def shiftR (q : List Int) (rows columns : Int) : List Int × Bool := if goodB q = true ∧ inB rows (-100) 100 = true ∧ inB columns (-100) 100 = true then (shiftL q rows columns, true) else ([], false)
theorem specShift_ev (q : List Int) (rows columns : Int) (hb : q.length ≤ 1152921504606846976) : Ev (fun k => spec_ShiftQueens.f k q rows columns) (shiftR q rows columns) := by
  obtain ⟨K1, h1⟩ := ev_get (quGood_ev q hb)
  unfold shiftR
  by_cases hg : goodB q = true
  · have hl := good_len hg
    by_cases hr : inB rows (-100) 100 = true
    · by_cases hc : inB columns (-100) 100 = true
      · refine ⟨K1 + q.length + 2, fun k hk => ?_⟩
        simp only [spec_ShiftQueens.f, h1 k (by omega), l1In_eq, Option.bind_some, hg, hr, hc, if_true]
        obtain ⟨k, rfl⟩ : ∃ m, k = m + 1 := ⟨k - 1, by omega⟩
        rw [spec_ShiftQueens.j0, if_neg (by simp), if_pos (by omega), if_pos (by omega)]
        have := specShift_l0 q hg rows columns (by simpa [inB] using hr) (by simpa [inB] using hc) q.length 0 (List.replicate q.length 0) k (by omega) (by omega) (by omega) (by simp)
        simpa [shiftL] using this
      · refine ⟨K1 + 1, fun k hk => ?_⟩
        simp only [spec_ShiftQueens.f, h1 k (by omega), l1In_eq, Option.bind_some, hg, hr, hc, if_true]
        obtain ⟨k, rfl⟩ : ∃ m, k = m + 1 := ⟨k - 1, by omega⟩
        rw [spec_ShiftQueens.j0, if_pos (by simp)]
        simp
    · refine ⟨K1 + 1, fun k hk => ?_⟩
      simp only [spec_ShiftQueens.f, h1 k (by omega), l1In_eq, Option.bind_some, hg, hr, if_true]
      obtain ⟨k, rfl⟩ : ∃ m, k = m + 1 := ⟨k - 1, by omega⟩
      rw [if_neg (by simp), spec_ShiftQueens.j0, if_pos rfl]
      simp
  · refine ⟨K1 + 1, fun k hk => ?_⟩
    simp only [spec_ShiftQueens.f, h1 k (by omega), Option.bind_some, hg, if_true]
    obtain ⟨k, rfl⟩ : ∃ m, k = m + 1 := ⟨k - 1, by omega⟩
    rw [if_neg (by simp), spec_ShiftQueens.j0, if_pos rfl]
    simp
theorem isShift_eq (n : Int) : impl_isShift.f n = some (inB n (-100) 100) := by
  simp only [impl_isShift.f, within_eq, Option.bind_some]
theorem implShift_ev (q : List Int) (rows columns : Int) (hb : q.length ≤ 1152921504606846976) : Ev (fun k => impl_ShiftQueens.f k q rows columns) (shiftR q rows columns) := by
  obtain ⟨K1, h1⟩ := ev_get (isList_ev q hb)
  unfold shiftR
  by_cases hg : goodB q = true
  · have hl := good_len hg
    by_cases hr : inB rows (-100) 100 = true
    · by_cases hc : inB columns (-100) 100 = true
      · refine ⟨K1 + q.length + 2, fun k hk => ?_⟩
        simp only [impl_ShiftQueens.f, h1 k (by omega), isShift_eq, Option.bind_some, hg, hr, hc, if_true]
        obtain ⟨k, rfl⟩ : ∃ m, k = m + 1 := ⟨k - 1, by omega⟩
        rw [impl_ShiftQueens.j0, if_neg (by simp), if_pos (by omega), if_pos (by omega)]
        have := implShift_l0 q hg rows columns (by simpa [inB] using hr) (by simpa [inB] using hc) q.length 0 (List.replicate q.length 0) k (by omega) (by omega) (by omega) (by simp)
        simpa [shiftL] using this
      · refine ⟨K1 + 1, fun k hk => ?_⟩
        simp only [impl_ShiftQueens.f, h1 k (by omega), isShift_eq, Option.bind_some, hg, hr, hc, if_true]
        obtain ⟨k, rfl⟩ : ∃ m, k = m + 1 := ⟨k - 1, by omega⟩
        rw [impl_ShiftQueens.j0, if_pos (by simp)]
        simp
    · refine ⟨K1 + 1, fun k hk => ?_⟩
      simp only [impl_ShiftQueens.f, h1 k (by omega), isShift_eq, Option.bind_some, hg, hr, if_true]
      obtain ⟨k, rfl⟩ : ∃ m, k = m + 1 := ⟨k - 1, by omega⟩
      rw [if_neg (by simp), impl_ShiftQueens.j0, if_pos rfl]
      simp
  · refine ⟨K1 + 1, fun k hk => ?_⟩
    simp only [impl_ShiftQueens.f, h1 k (by omega), Option.bind_some, hg, if_true]
    obtain ⟨k, rfl⟩ : ∃ m, k = m + 1 := ⟨k - 1, by omega⟩
    rw [if_neg (by simp), impl_ShiftQueens.j0, if_pos rfl]
    simp
theorem shiftR_len (q : List Int) (rows columns : Int) : (shiftR q rows columns).1.length ≤ 8 := by
  unfold shiftR
  split
  · rename_i h; have := good_len h.1; rw [shiftL_length]; omega
  · simp
end Go.Proofs.Ythjejaoadhhpdaa.P
