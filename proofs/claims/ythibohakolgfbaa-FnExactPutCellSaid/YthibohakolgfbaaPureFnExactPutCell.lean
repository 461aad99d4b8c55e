/- For every board, row, column and bool PutCell returns what the reference returns, in memory of its own, and leaves its argument as it was: no condition but that the arguments can be read. -/
import Derived.Test.YthibohakolgfbaaPx1
import Derived.Test.YthibohakolgfbaaPx10
import Derived.Test.YthibohakolgfbaaPx11
import Derived.Test.YthibohakolgfbaaPx2
import Derived.Test.YthibohakolgfbaaPx3
import Derived.Test.YthibohakolgfbaaPx4
import Derived.Test.YthibohakolgfbaaPx6
import Derived.Test.YthibohakolgfbaaPx7
import Derived.Test.YthibohakolgfbaaPx8
import Derived.Test.YthibohakolgfbaaPx9
namespace Go.Proofs.Ythibohakolgfbaa.P
open Go.RowKit Go.Proofs.YthibohakolgfbaaW.PrintWords Go.Proofs.YthibohakolgfbaaW.PrintLast Go.Proofs.YthibohakolgfbaaW.PrintMore
set_option linter.unusedVariables false
set_option linter.unusedSimpArgs false
theorem w64 (n : Int) (h : -9223372036854775808 ≤ n) (h2 : n ≤ 9223372036854775807) : wrap64 n = n := by unfold wrap64; omega
theorem rd_nat (l : List Int) (i : Nat) (h : i < l.length) : rd l (i : Int) = l[i] := by
  unfold rd; simp [List.getD_eq_getElem?_getD, List.getElem?_eq_getElem h]
theorem drop_cons (l : List Int) (i : Nat) (h : i < l.length) : l.drop i = l[i] :: l.drop (i + 1) := List.drop_eq_getElem_cons h
theorem ev_get {α : Type} {g : Nat → Option α} {r : α} (h : Ev g r) : ∃ K, ∀ k, K ≤ k → g k = some r := h
theorem take_set_succ {α : Type} (l : List α) (i : Nat) (x : α) (h : i < l.length) : (l.set i x).take (i + 1) = l.take i ++ [x] := by
  rw [List.take_add_one, List.take_set_of_le (Nat.le_refl _)]
  simp [h]
theorem toIntS_l0 (x0 : List Int) (hl : x0.length ≤ 1152921504606846976) : ∀ (d i : Nat) (x3 : List Int) (k : Nat), x0.length - i = d → i ≤ x0.length → x3.length = x0.length → d < k →
    laws_toIntS.l0 k x0 x3 (i : Int) = some (x3.take i ++ x0.drop i) := by
  intro d
  induction d with
  | zero =>
    intro i x3 k hd hi hx hk
    obtain ⟨k, rfl⟩ : ∃ m, k = m + 1 := ⟨k - 1, by omega⟩
    rw [laws_toIntS.l0, if_neg (by omega)]
    have : i = x0.length := by omega
    subst this
    simp [← hx]
  | succ d ih =>
    intro i x3 k hd hi hx hk
    obtain ⟨k, rfl⟩ : ∃ m, k = m + 1 := ⟨k - 1, by omega⟩
    have h1 : i < x0.length := by omega
    rw [laws_toIntS.l0, if_pos (by omega), if_pos (by omega), if_pos (by omega), w64 _ (by omega) (by omega)]
    have := ih (i + 1) (x3.set i (rd x0 i)) k (by omega) (by omega) (by simp [hx]) (by omega)
    rw [show ((i : Int) + 1) = ((i + 1 : Nat) : Int) by omega, show (i : Int).toNat = i by omega, this, rd_nat _ _ h1, drop_cons x0 i h1]
    congr 1
    rw [take_set_succ _ _ _ (by omega)]
    simp
theorem toIntS_ev (l : List Int) (hl : l.length ≤ 35184372088832) : Ev (fun k => laws_toIntS.f k l) l := by
  refine ⟨l.length + 1, fun k hk => ?_⟩
  simp only [laws_toIntS.f]
  rw [if_pos (by omega), if_pos (by omega)]
  have := toIntS_l0 l (by omega) l.length 0 (List.replicate l.length 0) k (by omega) (by omega) (by simp) (by omega)
  simpa using this
theorem eqIntS_l0 (a b : List Int) (hl : a.length = b.length) (hb : a.length ≤ 1152921504606846976) : ∀ (d i : Nat) (k : Nat), a.length - i = d → i ≤ a.length → d < k →
    laws_eqIntS.l0 k a b (i : Int) = some (decide (a.drop i = b.drop i)) := by
  intro d
  induction d with
  | zero =>
    intro i k hd hi hk
    obtain ⟨k, rfl⟩ : ∃ m, k = m + 1 := ⟨k - 1, by omega⟩
    rw [laws_eqIntS.l0, if_neg (by omega)]
    simp [List.drop_eq_nil_of_le (show a.length ≤ i by omega), List.drop_eq_nil_of_le (show b.length ≤ i by omega)]
  | succ d ih =>
    intro i k hd hi hk
    obtain ⟨k, rfl⟩ : ∃ m, k = m + 1 := ⟨k - 1, by omega⟩
    have h1 : i < a.length := by omega
    rw [laws_eqIntS.l0, if_pos (by omega), if_pos (by omega), if_pos (by omega), w64 _ (by omega) (by omega), rd_nat _ _ h1, rd_nat _ _ (show i < b.length by omega)]
    rw [show ((i : Int) + 1) = ((i + 1 : Nat) : Int) by omega, ih (i + 1) k (by omega) (by omega) (by omega)]
    rw [drop_cons a i h1, drop_cons b i (by omega)]
    generalize a.drop (i + 1) = ta, b.drop (i + 1) = tb
    by_cases h : a[i] = b[i]
    · simp [h]
    · simp [h]
theorem eqIntS_ev (a b : List Int) (hb : a.length ≤ 1152921504606846976) : Ev (fun k => laws_eqIntS.f k a b) (decide (a = b)) := by
  refine ⟨a.length + 1, fun k hk => ?_⟩
  simp only [laws_eqIntS.f]
  by_cases h : a.length = b.length
  · rw [if_pos (by omega)]
    have := eqIntS_l0 a b h hb a.length 0 k (by omega) (by omega) (by omega)
    simpa using this
  · rw [if_neg (by omega)]
    congr 1
    symm
    apply decide_eq_false
    intro e
    exact h (by rw [e])
def marks (n : Nat) (k : Int) : List Int := (List.range n).map fun (i : Nat) => k + (i : Int)
theorem marks_length (n : Nat) (k : Int) : (marks n k).length = n := by simp [marks]
theorem marks_succ (n : Nat) (k : Int) : marks (n + 1) k = k :: marks n (k + 1) := by
  unfold marks
  rw [List.range_succ_eq_map, List.map_cons, List.map_map]
  congr 1
  · simp
  · apply List.map_congr_left
    intro a _
    simp
    omega
theorem markIntS_l0 : ∀ (d i : Nat) (x0 : List Int) (x1 : Int) (k : Nat), x0.length - i = d → i ≤ x0.length → d < k → x0.length ≤ 1152921504606846976 → 0 ≤ x1 → x1 + d ≤ 4611686018427387904 →
    laws_markIntS.l0 k x0 x1 (i : Int) = some (x1 + d, x0.take i ++ marks d x1) := by
  intro d
  induction d with
  | zero =>
    intro i x0 x1 k hd hi hk hb h0 h1
    obtain ⟨k, rfl⟩ : ∃ m, k = m + 1 := ⟨k - 1, by omega⟩
    rw [laws_markIntS.l0, if_neg (by omega)]
    have : i = x0.length := by omega
    subst this
    simp [marks]
  | succ d ih =>
    intro i x0 x1 k hd hi hk hb h0 h1
    obtain ⟨k, rfl⟩ : ∃ m, k = m + 1 := ⟨k - 1, by omega⟩
    rw [laws_markIntS.l0, if_pos (by omega), if_pos (by omega), w64 _ (by omega) (by omega), w64 _ (by omega) (by omega)]
    rw [show ((i : Int) + 1) = ((i + 1 : Nat) : Int) by omega, show (i : Int).toNat = i by omega]
    rw [ih (i + 1) (x0.set i x1) (x1 + 1) k (by simp; omega) (by simp; omega) (by omega) (by simpa using hb) (by omega) (by omega)]
    rw [marks_succ]
    congr 2
    · omega
    · rw [take_set_succ _ _ _ (by omega)]
      simp
theorem markIntS_ev (l : List Int) (k1 : Int) (hb : l.length ≤ 1152921504606846976) (h0 : 0 ≤ k1) (h1 : k1 + l.length ≤ 4611686018427387904) : Ev (fun k => laws_markIntS.f k l k1) (k1 + l.length, marks l.length k1) := by
  refine ⟨l.length + 1, fun k hk => ?_⟩
  simp only [laws_markIntS.f]
  have := markIntS_l0 l.length 0 l k1 k (by omega) (by omega) (by omega) hb h0 h1
  simpa using this
theorem heldIntS_l0 (n : Nat) (k0 : Int) (hb : n ≤ 1152921504606846976) (h0 : 0 ≤ k0) (h1 : k0 + n ≤ 4611686018427387904) : ∀ (d i : Nat) (k : Nat), n - i = d → i ≤ n → d < k →
    laws_heldIntS.l0 k (marks n k0) (k0 + i) (i : Int) = some (k0 + n) := by
  intro d
  induction d with
  | zero =>
    intro i k hd hi hk
    obtain ⟨k, rfl⟩ : ∃ m, k = m + 1 := ⟨k - 1, by omega⟩
    rw [laws_heldIntS.l0, if_neg (by rw [marks_length]; omega)]
    congr 1; omega
  | succ d ih =>
    intro i k hd hi hk
    obtain ⟨k, rfl⟩ : ∃ m, k = m + 1 := ⟨k - 1, by omega⟩
    have h2 : i < (marks n k0).length := by rw [marks_length]; omega
    rw [laws_heldIntS.l0, if_pos (by rw [marks_length]; omega), if_pos (by omega), rd_nat _ _ h2, if_pos (by simp [marks]), w64 _ (by omega) (by omega), w64 _ (by omega) (by omega)]
    have := ih (i + 1) k (by omega) (by omega) (by omega)
    rw [show ((i : Int) + 1) = ((i + 1 : Nat) : Int) by omega, show (k0 + (i : Int) + 1) = k0 + ((i + 1 : Nat) : Int) by omega]
    exact this
theorem heldIntS_ev (n : Nat) (k0 : Int) (hb : n ≤ 1152921504606846976) (h0 : 0 ≤ k0) (h1 : k0 + n ≤ 4611686018427387904) : Ev (fun k => laws_heldIntS.f k (marks n k0) k0) (k0 + n) := by
  refine ⟨n + 1, fun k hk => ?_⟩
  simp only [laws_heldIntS.f]
  have := heldIntS_l0 n k0 hb h0 h1 n 0 k (by omega) (by omega) (by omega)
  simpa using this
def inB (n lo hi : Int) : Bool := decide (lo ≤ n ∧ n ≤ hi)
theorem l1In_eq (a b c : Int) : spec_l1In.f a b c = some (inB a b c) := by
  unfold spec_l1In.f inB
  by_cases h : a ≥ b
  · rw [if_pos h]; congr 1; simp; omega
  · rw [if_neg h]; congr 1; symm; apply decide_eq_false; omega
theorem within_eq (a b c : Int) : impl_within.f a b c = some (inB a b c) := by
  unfold impl_within.f inB
  by_cases h : b ≤ a
  · rw [if_pos h]; congr 1; simp; omega
  · rw [if_neg h]; congr 1; symm; apply decide_eq_false; omega
def allIn (l : List Int) (lo hi : Int) : Bool := l.all fun x => inB x lo hi
theorem l1All_l0 (lo hi : Int) (l : List Int) (hb : l.length ≤ 1152921504606846976) : ∀ (d i : Nat) (k : Nat), l.length - i = d → i ≤ l.length → d < k →
    spec_l1All.l0 k lo hi l (l.length : Int) (i : Int) = some (allIn (l.drop i) lo hi) := by
  intro d
  induction d with
  | zero =>
    intro i k hd hi' hk
    obtain ⟨k, rfl⟩ : ∃ m, k = m + 1 := ⟨k - 1, by omega⟩
    rw [spec_l1All.l0, if_neg (by omega), List.drop_eq_nil_of_le (by omega)]
    rfl
  | succ d ih =>
    intro i k hd hi' hk
    obtain ⟨k, rfl⟩ : ∃ m, k = m + 1 := ⟨k - 1, by omega⟩
    have h1 : i < l.length := by omega
    rw [spec_l1All.l0, if_pos (by omega), if_pos (by omega), if_pos (by omega), l1In_eq, Option.bind_some, w64 _ (by omega) (by omega), rd_nat _ _ h1]
    rw [show ((i : Int) + 1) = ((i + 1 : Nat) : Int) by omega, ih (i + 1) k (by omega) (by omega) (by omega), drop_cons l i h1]
    unfold allIn
    rw [List.all_cons]
    generalize l.drop (i + 1) = tl
    by_cases h : inB l[i] lo hi = true
    · rw [if_pos h, h]; simp
    · rw [if_neg h]; simp at h; rw [h]; simp
theorem l1All_ev (l : List Int) (lo hi : Int) (hb : l.length ≤ 1152921504606846976) : Ev (fun k => spec_l1All.f k l lo hi) (allIn l lo hi) := by
  refine ⟨l.length + 1, fun k hk => ?_⟩
  simp only [spec_l1All.f]
  have := l1All_l0 lo hi l hb l.length 0 k (by omega) (by omega) (by omega)
  simpa using this
end Go.Proofs.Ythibohakolgfbaa.P
namespace Go.Proofs.Ythibohakolgfbaa.P
open Go.RowKit Go.Proofs.YthibohakolgfbaaW.PrintWords Go.Proofs.YthibohakolgfbaaW.PrintLast Go.Proofs.YthibohakolgfbaaW.PrintMore
set_option linter.unusedVariables false
set_option linter.unusedSimpArgs false
theorem boardB_iff (r c : Int) (l : List Int) : boardB r c l = true ↔ (1 ≤ r ∧ r ≤ 6) ∧ (1 ≤ c ∧ c ≤ 6) ∧ (l.length : Int) = r ∧ ∀ m ∈ l, 0 ≤ m ∧ m ≤ 2 ^ c.toNat - 1 := by
  unfold boardB
  simp only [Bool.and_eq_true, decide_eq_true_eq, List.all_eq_true]
  constructor
  · rintro ⟨⟨⟨a, b⟩, c⟩, d⟩; exact ⟨a, b, c, d⟩
  · rintro ⟨a, b, c, d⟩; exact ⟨⟨⟨a, b⟩, c⟩, d⟩
theorem shl_one (c : Int) (h0 : 0 ≤ c) (h1 : c ≤ 62) : shl .i64 1 c = 2 ^ c.toNat := by
  unfold shl
  rw [Int.one_mul, Nat.min_eq_left (show c.toNat ≤ IntKind.i64.bits by have : IntKind.i64.bits = 64 := rfl; omega)]
  rw [i64_w, w64]
  · have : (0 : Int) ≤ 2 ^ c.toNat := Int.le_of_lt (Int.pow_pos (by decide))
    omega
  · have h : (2 : Int) ^ c.toNat ≤ 2 ^ 62 := by
      have := Nat.pow_le_pow_right (show 0 < 2 by decide) (show c.toNat ≤ 62 by omega)
      exact_mod_cast this
    have e : (2 : Int) ^ 62 = 4611686018427387904 := by decide
    omega
theorem pow_le6 (c : Int) (h1 : c ≤ 6) : (2 : Int) ^ c.toNat ≤ 64 := by
  have := Nat.pow_le_pow_right (show 0 < 2 by decide) (show c.toNat ≤ 6 by omega)
  have h : (2 : Int) ^ c.toNat ≤ 2 ^ 6 := by exact_mod_cast this
  exact h
theorem pow_pos2 (c : Int) : (1 : Int) ≤ 2 ^ c.toNat := by
  have : (0 : Int) < 2 ^ c.toNat := Int.pow_pos (by decide)
  omega
theorem boSide_eq (a : Int) : spec_boSide.f a = some (inB a 1 6) := by
  simp only [spec_boSide.f, l1In_eq, Option.bind_some]
theorem boGood_ev (r c : Int) (l : List Int) (hb : l.length ≤ 1152921504606846976) : Ev (fun k => spec_boGood.f k r c l) (boardB r c l) := by
  by_cases h1 : 1 ≤ r ∧ r ≤ 6
  · by_cases h2 : 1 ≤ c ∧ c ≤ 6
    · by_cases h3 : (l.length : Int) = r
      · obtain ⟨K, hK⟩ := ev_get (l1All_ev l 0 (2 ^ c.toNat - 1) hb)
        refine ⟨K, fun k hk => ?_⟩
        have hp := pow_le6 c h2.2
        have hp2 := pow_pos2 c
        simp only [spec_boGood.f, boSide_eq, Option.bind_some]
        rw [if_pos (by simpa [inB] using h1), if_pos (by simpa [inB] using h2), if_pos h3, if_pos (by omega), shl_one c (by omega) (by omega), w64 _ (by omega) (by omega), hK k hk, Option.bind_some]
        congr 1
        unfold boardB allIn inB
        simp [h1, h2, h3]
      · refine ⟨0, fun k hk => ?_⟩
        simp only [spec_boGood.f, boSide_eq, Option.bind_some]
        rw [if_pos (by simpa [inB] using h1), if_pos (by simpa [inB] using h2), if_neg h3]
        congr 1; unfold boardB; simp [h3]
    · refine ⟨0, fun k hk => ?_⟩
      simp only [spec_boGood.f, boSide_eq, Option.bind_some]
      rw [if_pos (by simpa [inB] using h1), if_neg (by simpa [inB] using h2)]
      congr 1; unfold boardB; rw [decide_eq_false h2]; simp
  · refine ⟨0, fun k hk => ?_⟩
    simp only [spec_boGood.f, boSide_eq, Option.bind_some]
    rw [if_neg (by simpa [inB] using h1)]
    congr 1; unfold boardB; rw [decide_eq_false h1]; simp
def placeB (r c x y : Int) : Bool := decide ((0 ≤ x ∧ x ≤ r - 1) ∧ (0 ≤ y ∧ y ≤ c - 1))
theorem boPlace_ev (r c : Int) (l : List Int) (x y : Int) (hb : l.length ≤ 1152921504606846976) : Ev (fun k => spec_boPlace.f k r c l x y) (boardB r c l && placeB r c x y) := by
  obtain ⟨K, hK⟩ := ev_get (boGood_ev r c l hb)
  refine ⟨K, fun k hk => ?_⟩
  simp only [spec_boPlace.f, hK k hk, Option.bind_some]
  by_cases h : boardB r c l = true
  · have := (boardB_iff r c l).1 h
    rw [h, if_pos rfl, w64 _ (by omega) (by omega), w64 _ (by omega) (by omega), l1In_eq, l1In_eq, Option.bind_some, Option.bind_some]
    unfold inB placeB
    by_cases h1 : 0 ≤ x ∧ x ≤ r - 1
    · rw [if_pos (by simpa using h1)]; simp [h1]
    · rw [if_neg (by simpa using h1)]; congr 1; rw [Bool.true_and]; symm; apply decide_eq_false; exact fun hh => h1 hh.1
  · simp only [Bool.not_eq_true] at h
    rw [h]; simp
theorem place_eq (r c : Int) (l : List Int) (x y : Int) (hr : -1000 ≤ r ∧ r ≤ 1000) (hc : -1000 ≤ c ∧ c ≤ 1000) : impl_Board_place.f r c l x y = some (placeB r c x y) := by
  simp only [impl_Board_place.f]
  rw [w64 _ (by omega) (by omega), w64 _ (by omega) (by omega), within_eq, within_eq, Option.bind_some, Option.bind_some]
  unfold inB placeB
  by_cases h1 : 0 ≤ x ∧ x ≤ r - 1
  · rw [if_pos (by simpa using h1)]; simp [h1]
  · rw [if_neg (by simpa using h1)]; congr 1; symm; apply decide_eq_false; exact fun hh => h1 hh.1
theorem szBoard_eq (r c : Int) (l : List Int) (left : Int) (h0 : 0 ≤ left) (h1 : left ≤ 1048576) (hl : l.length ≤ maxLen) : laws_szBoard.f r c l left = some (if left - l.length < 0 then -1 else left - l.length) := by
  simp only [laws_szBoard.f, laws_szIntS.f]
  simp only [maxLen] at hl
  rw [w64 _ (by omega) (by omega)]
  split
  · simp only [Option.bind_some]; simp
  · simp only [Option.bind_some]; simp [*]
theorem toBoard_ev (r c : Int) (l : List Int) (hl : l.length ≤ 35184372088832) : Ev (fun k => laws_toBoard.f k r c l) (r, c, l) := by
  obtain ⟨K, hK⟩ := ev_get (toIntS_ev l hl)
  refine ⟨K, fun k hk => ?_⟩
  simp only [laws_toBoard.f, hK k hk, Option.bind_some]
theorem eqBoard_ev (r c : Int) (l : List Int) (hb : l.length ≤ 1152921504606846976) : Ev (fun k => laws_eqBoard.f k r c l r c l) true := by
  obtain ⟨K, hK⟩ := ev_get (eqIntS_ev l l hb)
  refine ⟨K, fun k hk => ?_⟩
  simp only [laws_eqBoard.f, hK k hk, Option.bind_some, if_true, decide_true]
theorem markBoard_ev (r c : Int) (l : List Int) (hb : l.length ≤ 1152921504606846976) : Ev (fun k => laws_markBoard.f k r c l 1) (1 + l.length, marks l.length 1) := by
  obtain ⟨K, hK⟩ := ev_get (markIntS_ev l 1 hb (by omega) (by omega))
  refine ⟨K, fun k hk => ?_⟩
  simp only [laws_markBoard.f, hK k hk, Option.bind_some]
theorem heldBoard_ev (r c : Int) (n : Nat) (hb : n ≤ 1152921504606846976) : Ev (fun k => laws_heldBoard.f k r c (marks n 1) 1) (1 + n) := by
  obtain ⟨K, hK⟩ := ev_get (heldIntS_ev n 1 hb (by omega) (by omega))
  refine ⟨K, fun k hk => ?_⟩
  simp only [laws_heldBoard.f, hK k hk, Option.bind_some]
  rw [if_neg (by omega)]
end Go.Proofs.Ythibohakolgfbaa.P
namespace Go.Proofs.Ythibohakolgfbaa.Pure
open Go.RowKit Go.Proofs.Ythibohakolgfbaa.P Go.Proofs.YthibohakolgfbaaW.PrintWords Go.Proofs.YthibohakolgfbaaW.PrintLast
set_option linter.unusedSimpArgs false
set_option linter.unusedVariables false
namespace FnExactPutCell
theorem bits_put : ∀ m : Fin 64, ∀ c : Fin 6,
    (Go.bits .or .i64 (Go.bits .andNot .i64 (m.val : Int) (shl .i64 1 (c.val : Int))) (shl .i64 1 (c.val : Int))) = Go.bits .or .i64 (m.val : Int) (shl .i64 1 (c.val : Int)) ∧
    wrap64 (Go.bits .or .i64 (m.val : Int) (shl .i64 1 (c.val : Int)) - shl .i64 1 (c.val : Int)) = Go.bits .andNot .i64 (m.val : Int) (shl .i64 1 (c.val : Int)) := by decide +kernel
theorem bits_put' (m c : Int) (h0 : 0 ≤ m) (h1 : m ≤ 63) (h2 : 0 ≤ c) (h3 : c ≤ 5) :
    (Go.bits .or .i64 (Go.bits .andNot .i64 m (shl .i64 1 c)) (shl .i64 1 c)) = Go.bits .or .i64 m (shl .i64 1 c) ∧
    wrap64 (Go.bits .or .i64 m (shl .i64 1 c) - shl .i64 1 c) = Go.bits .andNot .i64 m (shl .i64 1 c) := by
  have h := bits_put ⟨m.toNat, by omega⟩ ⟨c.toNat, by omega⟩
  simp only [show ((m.toNat : Nat) : Int) = m by omega, show ((c.toNat : Nat) : Int) = c by omega] at h
  exact h
def R (r c : Int) (l : List Int) (x y : Int) (on : Bool) : Int × Int × List Int × Bool :=
  if (boardB r c l && placeB r c x y) = true then (r, c, l.set x.toNat (if on = true then Go.bits .or .i64 (rd l x) (shl .i64 1 y) else Go.bits .andNot .i64 (rd l x) (shl .i64 1 y)), true) else (0, 0, [], false)
theorem row_at {r c x y : Int} {l : List Int} (h : (boardB r c l && placeB r c x y) = true) : (0 ≤ x ∧ x < l.length) ∧ (0 ≤ y ∧ y ≤ 5) ∧ l.length ≤ 6 ∧ 0 ≤ rd l x ∧ rd l x ≤ 63 := by
  rw [Bool.and_eq_true] at h
  obtain ⟨hr, hc, hl, hm⟩ := (boardB_iff r c l).1 h.1
  have hp := of_decide_eq_true h.2
  have hx : x.toNat < l.length := by omega
  have hp6 := pow_le6 c hc.2
  have := hm l[x.toNat] (List.getElem_mem hx)
  have e : rd l x = l[x.toNat] := by
    have := rd_nat l x.toNat hx
    rwa [show ((x.toNat : Nat) : Int) = x by omega] at this
  rw [e]
  refine ⟨by omega, by omega, by omega, by omega, by omega⟩
theorem own_eq (l : List Int) (h : l.length < 17592186044416) : spec_l1Own.f l = some l := by
  unfold spec_l1Own.f; simp [h]
theorem rd_set (l : List Int) (x v : Int) (h0 : 0 ≤ x) (h1 : x < l.length) : rd (l.set x.toNat v) x = v := by
  unfold rd
  rw [List.getD_eq_getElem?_getD, List.getElem?_set_self (by omega)]
  rfl
theorem spec_ev (r c : Int) (l : List Int) (x y : Int) (on : Bool) (hb : l.length ≤ 1152921504606846976) : Ev (fun k => spec_PutCell.f k r c l x y on) (R r c l x y on) := by
  obtain ⟨K1, h1⟩ := ev_get (boPlace_ev r c l x y hb)
  refine ⟨K1, fun k hk => ?_⟩
  simp only [spec_PutCell.f, h1 k hk, Option.bind_some]
  unfold R
  by_cases h : (boardB r c l && placeB r c x y) = true
  · obtain ⟨hx, hy, hl, hm0, hm1⟩ := row_at h
    obtain ⟨e1, e2⟩ := bits_put' (rd l x) y hm0 hm1 hy.1 hy.2
    rw [if_pos h, if_pos h]
    simp only [spec_boOwn.f, own_eq l (by omega), Option.bind_some]
    rw [if_pos hx.1, if_pos hx.2, if_pos hy.1]
    cases on with
    | true => simp
    | false => simp only [Bool.false_eq_true, if_false, rd_set l x _ hx.1 hx.2, e2, List.set_set]
  · rw [if_neg h, if_neg h]
theorem impl_ev (r c : Int) (l : List Int) (x y : Int) (on : Bool) (hb : l.length ≤ 1152921504606846976) : Ev (fun k => impl_PutCell.f k r c l x y on) (R r c l x y on) := by
  refine ⟨1, fun k hk => ?_⟩
  obtain ⟨k, rfl⟩ : ∃ m, k = m + 1 := ⟨k - 1, by omega⟩
  unfold R
  simp only [impl_PutCell.f, impl_IsBoard.f, Option.bind_some]
  by_cases hbo : boardB r c l = true
  · have hbi := (boardB_iff r c l).1 hbo
    rw [if_pos hbo, place_eq r c l x y (by omega) (by omega), Option.bind_some, impl_PutCell.j0]
    by_cases hp : placeB r c x y = true
    · have h : (boardB r c l && placeB r c x y) = true := by rw [hbo, hp]; rfl
      obtain ⟨hx, hy, hl, hm0, hm1⟩ := row_at h
      obtain ⟨e1, e2⟩ := bits_put' (rd l x) y hm0 hm1 hy.1 hy.2
      rw [if_pos h, hp, if_neg (by simp)]
      have hcl : slices_Clone_int_int.f l = some l := if_pos (by omega)
      simp only [impl_Board_copied.f, hcl, Option.bind_some]
      rw [if_pos hx.1, if_pos hx.2, if_pos hy.1]
      cases on with
      | true => simp only [if_true, rd_set l x _ hx.1 hx.2, e1, List.set_set]
      | false => simp
    · simp only [Bool.not_eq_true] at hp
      rw [hp, hbo]; simp
  · simp only [Bool.not_eq_true] at hbo
    rw [hbo, if_neg (by simp), impl_PutCell.j0]; simp
theorem R_small (r c : Int) (l : List Int) (x y : Int) (on : Bool) (hb : l.length ≤ 1152921504606846976) : (R r c l x y on).2.2.1.length ≤ 1000 := by
  unfold R
  split
  · rename_i h
    obtain ⟨_, _, hl, _⟩ := row_at h
    show (l.set _ _).length ≤ 1000
    rw [List.length_set]; omega
  · simp
end FnExactPutCell
open FnExactPutCell in
theorem FnExactPutCell : laws_FnExactPutCell.Pure := by
  intro a0_0 a0_1 l0_2 a1 a2 a3 hy0 hy1 hy2 hy3 hy4
  have hl_l0_2 := hy2.1
  simp only [maxLen] at hl_l0_2
  by_cases hb_l0_2 : (1048576 : Int) - l0_2.length < 0
  · refine ⟨0, ?_⟩
    unfold laws_FnExactPutCell.f
    rw [szBoard_eq a0_0 a0_1 l0_2 _ (by omega) (by omega) (by simp only [maxLen]; omega), if_pos hb_l0_2, Option.bind_some, if_pos (by omega)]
  have h1 := (szBoard_eq a0_0 a0_1 l0_2 ((1048576 : Int)) (by omega) (by omega) (by simp only [maxLen]; omega)).trans (by rw [if_neg hb_l0_2])
  obtain ⟨K2, h2⟩ := ev_get (spec_ev a0_0 a0_1 l0_2 a1 a2 a3 (by omega))
  obtain ⟨K3, h3⟩ := ev_get (impl_ev a0_0 a0_1 l0_2 a1 a2 a3 (by omega))
  have hr := R_small a0_0 a0_1 l0_2 a1 a2 a3 (by omega)
  generalize R a0_0 a0_1 l0_2 a1 a2 a3 = R at *
  have hs0 := hr
  obtain ⟨K4, h4⟩ := ev_get (eqBoard_ev R.1 R.2.1 R.2.2.1 (by omega))
  obtain ⟨K5, h5⟩ := ev_get (markBoard_ev R.1 R.2.1 R.2.2.1 (by omega))
  obtain ⟨K6, h6⟩ := ev_get (heldBoard_ev R.1 R.2.1 R.2.2.1.length (by omega))
  have er3 : ¬ ((1 : Int) + R.2.2.1.length < 0) := by omega
  obtain ⟨K7, h7⟩ := ev_get (toBoard_ev a0_0 a0_1 l0_2 (by omega))
  obtain ⟨K8, h8⟩ := ev_get (eqBoard_ev a0_0 a0_1 l0_2 (by omega))
  obtain ⟨K9, h9⟩ := ev_get (markBoard_ev a0_0 a0_1 l0_2 (by omega))
  have em_l0_2 : ¬ ((1 : Int) + l0_2.length < 0) := by omega
  obtain ⟨m, hm⟩ : ∃ m, m = K2 + K3 + K4 + K5 + K6 + K7 + K8 + K9 := ⟨_, rfl⟩
  replace h2 := fun j => h2 (m + j) (by omega)
  replace h3 := fun j => h3 (m + j) (by omega)
  replace h4 := fun j => h4 (m + j) (by omega)
  replace h5 := fun j => h5 (m + j) (by omega)
  replace h6 := fun j => h6 (m + j) (by omega)
  replace h7 := fun j => h7 (m + j) (by omega)
  replace h8 := fun j => h8 (m + j) (by omega)
  replace h9 := fun j => h9 (m + j) (by omega)
  clear hm
  refine ⟨m + 4, ?_⟩
  unfold laws_FnExactPutCell.f
  simp only [h1, h2, h3, h4, h5, h6, h7, h8, h9, Option.bind_some, decide_true, if_true, bne_self_eq_false, Bool.false_eq_true, if_false, if_neg hb_l0_2, if_neg er3, if_neg em_l0_2]
  rw [laws_FnExactPutCell.j0]
  simp only [h1, h2, h3, h4, h5, h6, h7, h8, h9, Option.bind_some, decide_true, if_true, bne_self_eq_false, Bool.false_eq_true, if_false, if_neg hb_l0_2, if_neg er3, if_neg em_l0_2]
  rw [laws_FnExactPutCell.j1]
  simp only [h1, h2, h3, h4, h5, h6, h7, h8, h9, Option.bind_some, decide_true, if_true, bne_self_eq_false, Bool.false_eq_true, if_false, if_neg hb_l0_2, if_neg er3, if_neg em_l0_2]
  rw [laws_FnExactPutCell.j2]
  simp only [h1, h2, h3, h4, h5, h6, h7, h8, h9, Option.bind_some, decide_true, if_true, bne_self_eq_false, Bool.false_eq_true, if_false, if_neg hb_l0_2, if_neg er3, if_neg em_l0_2]
end Go.Proofs.Ythibohakolgfbaa.Pure
