/- For every board, row and column NumbersByCell returns what the reference returns, in memory of its own, and leaves its argument as it was: no condition but that the arguments can be read. -/
import Derived.Test.YtnpacpdpgngdpaaPx1
import Derived.Test.YtnpacpdpgngdpaaPx10
import Derived.Test.YtnpacpdpgngdpaaPx11
import Derived.Test.YtnpacpdpgngdpaaPx12
import Derived.Test.YtnpacpdpgngdpaaPx13
import Derived.Test.YtnpacpdpgngdpaaPx14
import Derived.Test.YtnpacpdpgngdpaaPx15
import Derived.Test.YtnpacpdpgngdpaaPx2
import Derived.Test.YtnpacpdpgngdpaaPx3
import Derived.Test.YtnpacpdpgngdpaaPx4
import Derived.Test.YtnpacpdpgngdpaaPx5
import Derived.Test.YtnpacpdpgngdpaaPx6
import Derived.Test.YtnpacpdpgngdpaaPx7
import Derived.Test.YtnpacpdpgngdpaaPx8
import Derived.Test.YtnpacpdpgngdpaaPx9
namespace Go.Proofs.Ytnpacpdpgngdpaa.P
open Go.RowKit Go.Proofs.YtnpacpdpgngdpaaW.PrintWords Go.Proofs.YtnpacpdpgngdpaaW.PrintLast Go.Proofs.YtnpacpdpgngdpaaW.PrintMore
set_option linter.unusedVariables false
set_option linter.unusedSimpArgs false
theorem w64 (n : Int) (h : -9223372036854775808 ≤ n) (h2 : n ≤ 9223372036854775807) : wrap64 n = n := by unfold wrap64; omega
theorem rd_nat (l : List Int) (i : Nat) (h : i < l.length) : rd l (i : Int) = l[i] := by
  unfold rd; simp [List.getD_eq_getElem?_getD, List.getElem?_eq_getElem h]
theorem drop_cons (l : List Int) (i : Nat) (h : i < l.length) : l.drop i = l[i] :: l.drop (i + 1) := List.drop_eq_getElem_cons h
theorem ev_get {α : Type} {g : Nat → Option α} {r : α} (h : Ev g r) : ∃ K, ∀ k, K ≤ k → g k = some r := h
theorem take_set_succ {α : Type} (l : List α) (i : Nat) (x : α) (h : i < l.length) : (l.set i x).take (i + 1) = l.take i ++ [x] := by
  rw [List.take_add_one, List.take_set_of_le (Nat.le_refl _)]
  simp [h]
theorem toIntS_l0 (x0 : List Int) (hl : x0.length ≤ 1152921504606846976) : ∀ (d i : Nat) (x3 : List Int) (k : Nat), x0.length - i = d → i ≤ x0.length → x3.length = x0.length → d < k →
    laws_toIntS.l0 k x0 x3 (i : Int) = some (x3.take i ++ x0.drop i) := by
  intro d
  induction d with
  | zero =>
    intro i x3 k hd hi hx hk
    obtain ⟨k, rfl⟩ : ∃ m, k = m + 1 := ⟨k - 1, by omega⟩
    rw [laws_toIntS.l0, if_neg (by omega)]
    have : i = x0.length := by omega
    subst this
    simp [← hx]
  | succ d ih =>
    intro i x3 k hd hi hx hk
    obtain ⟨k, rfl⟩ : ∃ m, k = m + 1 := ⟨k - 1, by omega⟩
    have h1 : i < x0.length := by omega
    rw [laws_toIntS.l0, if_pos (by omega), if_pos (by omega), if_pos (by omega), w64 _ (by omega) (by omega)]
    have := ih (i + 1) (x3.set i (rd x0 i)) k (by omega) (by omega) (by simp [hx]) (by omega)
    rw [show ((i : Int) + 1) = ((i + 1 : Nat) : Int) by omega, show (i : Int).toNat = i by omega, this, rd_nat _ _ h1, drop_cons x0 i h1]
    congr 1
    rw [take_set_succ _ _ _ (by omega)]
    simp
theorem toIntS_ev (l : List Int) (hl : l.length ≤ 35184372088832) : Ev (fun k => laws_toIntS.f k l) l := by
  refine ⟨l.length + 1, fun k hk => ?_⟩
  simp only [laws_toIntS.f]
  rw [if_pos (by omega), if_pos (by omega)]
  have := toIntS_l0 l (by omega) l.length 0 (List.replicate l.length 0) k (by omega) (by omega) (by simp) (by omega)
  simpa using this
theorem eqIntS_l0 (a b : List Int) (hl : a.length = b.length) (hb : a.length ≤ 1152921504606846976) : ∀ (d i : Nat) (k : Nat), a.length - i = d → i ≤ a.length → d < k →
    laws_eqIntS.l0 k a b (i : Int) = some (decide (a.drop i = b.drop i)) := by
  intro d
  induction d with
  | zero =>
    intro i k hd hi hk
    obtain ⟨k, rfl⟩ : ∃ m, k = m + 1 := ⟨k - 1, by omega⟩
    rw [laws_eqIntS.l0, if_neg (by omega)]
    simp [List.drop_eq_nil_of_le (show a.length ≤ i by omega), List.drop_eq_nil_of_le (show b.length ≤ i by omega)]
  | succ d ih =>
    intro i k hd hi hk
    obtain ⟨k, rfl⟩ : ∃ m, k = m + 1 := ⟨k - 1, by omega⟩
    have h1 : i < a.length := by omega
    rw [laws_eqIntS.l0, if_pos (by omega), if_pos (by omega), if_pos (by omega), w64 _ (by omega) (by omega), rd_nat _ _ h1, rd_nat _ _ (show i < b.length by omega)]
    rw [show ((i : Int) + 1) = ((i + 1 : Nat) : Int) by omega, ih (i + 1) k (by omega) (by omega) (by omega)]
    rw [drop_cons a i h1, drop_cons b i (by omega)]
    generalize a.drop (i + 1) = ta, b.drop (i + 1) = tb
    by_cases h : a[i] = b[i]
    · simp [h]
    · simp [h]
theorem eqIntS_ev (a b : List Int) (hb : a.length ≤ 1152921504606846976) : Ev (fun k => laws_eqIntS.f k a b) (decide (a = b)) := by
  refine ⟨a.length + 1, fun k hk => ?_⟩
  simp only [laws_eqIntS.f]
  by_cases h : a.length = b.length
  · rw [if_pos (by omega)]
    have := eqIntS_l0 a b h hb a.length 0 k (by omega) (by omega) (by omega)
    simpa using this
  · rw [if_neg (by omega)]
    congr 1
    symm
    apply decide_eq_false
    intro e
    exact h (by rw [e])
def marks (n : Nat) (k : Int) : List Int := (List.range n).map fun (i : Nat) => k + (i : Int)
theorem marks_length (n : Nat) (k : Int) : (marks n k).length = n := by simp [marks]
theorem marks_succ (n : Nat) (k : Int) : marks (n + 1) k = k :: marks n (k + 1) := by
  unfold marks
  rw [List.range_succ_eq_map, List.map_cons, List.map_map]
  congr 1
  · simp
  · apply List.map_congr_left
    intro a _
    simp
    omega
theorem markIntS_l0 : ∀ (d i : Nat) (x0 : List Int) (x1 : Int) (k : Nat), x0.length - i = d → i ≤ x0.length → d < k → x0.length ≤ 1152921504606846976 → 0 ≤ x1 → x1 + d ≤ 4611686018427387904 →
    laws_markIntS.l0 k x0 x1 (i : Int) = some (x1 + d, x0.take i ++ marks d x1) := by
  intro d
  induction d with
  | zero =>
    intro i x0 x1 k hd hi hk hb h0 h1
    obtain ⟨k, rfl⟩ : ∃ m, k = m + 1 := ⟨k - 1, by omega⟩
    rw [laws_markIntS.l0, if_neg (by omega)]
    have : i = x0.length := by omega
    subst this
    simp [marks]
  | succ d ih =>
    intro i x0 x1 k hd hi hk hb h0 h1
    obtain ⟨k, rfl⟩ : ∃ m, k = m + 1 := ⟨k - 1, by omega⟩
    rw [laws_markIntS.l0, if_pos (by omega), if_pos (by omega), w64 _ (by omega) (by omega), w64 _ (by omega) (by omega)]
    rw [show ((i : Int) + 1) = ((i + 1 : Nat) : Int) by omega, show (i : Int).toNat = i by omega]
    rw [ih (i + 1) (x0.set i x1) (x1 + 1) k (by simp; omega) (by simp; omega) (by omega) (by simpa using hb) (by omega) (by omega)]
    rw [marks_succ]
    congr 2
    · omega
    · rw [take_set_succ _ _ _ (by omega)]
      simp
theorem markIntS_ev (l : List Int) (k1 : Int) (hb : l.length ≤ 1152921504606846976) (h0 : 0 ≤ k1) (h1 : k1 + l.length ≤ 4611686018427387904) : Ev (fun k => laws_markIntS.f k l k1) (k1 + l.length, marks l.length k1) := by
  refine ⟨l.length + 1, fun k hk => ?_⟩
  simp only [laws_markIntS.f]
  have := markIntS_l0 l.length 0 l k1 k (by omega) (by omega) (by omega) hb h0 h1
  simpa using this
theorem heldIntS_l0 (n : Nat) (k0 : Int) (hb : n ≤ 1152921504606846976) (h0 : 0 ≤ k0) (h1 : k0 + n ≤ 4611686018427387904) : ∀ (d i : Nat) (k : Nat), n - i = d → i ≤ n → d < k →
    laws_heldIntS.l0 k (marks n k0) (k0 + i) (i : Int) = some (k0 + n) := by
  intro d
  induction d with
  | zero =>
    intro i k hd hi hk
    obtain ⟨k, rfl⟩ : ∃ m, k = m + 1 := ⟨k - 1, by omega⟩
    rw [laws_heldIntS.l0, if_neg (by rw [marks_length]; omega)]
    congr 1; omega
  | succ d ih =>
    intro i k hd hi hk
    obtain ⟨k, rfl⟩ : ∃ m, k = m + 1 := ⟨k - 1, by omega⟩
    have h2 : i < (marks n k0).length := by rw [marks_length]; omega
    rw [laws_heldIntS.l0, if_pos (by rw [marks_length]; omega), if_pos (by omega), rd_nat _ _ h2, if_pos (by simp [marks]), w64 _ (by omega) (by omega), w64 _ (by omega) (by omega)]
    have := ih (i + 1) k (by omega) (by omega) (by omega)
    rw [show ((i : Int) + 1) = ((i + 1 : Nat) : Int) by omega, show (k0 + (i : Int) + 1) = k0 + ((i + 1 : Nat) : Int) by omega]
    exact this
theorem heldIntS_ev (n : Nat) (k0 : Int) (hb : n ≤ 1152921504606846976) (h0 : 0 ≤ k0) (h1 : k0 + n ≤ 4611686018427387904) : Ev (fun k => laws_heldIntS.f k (marks n k0) k0) (k0 + n) := by
  refine ⟨n + 1, fun k hk => ?_⟩
  simp only [laws_heldIntS.f]
  have := heldIntS_l0 n k0 hb h0 h1 n 0 k (by omega) (by omega) (by omega)
  simpa using this
def inB (n lo hi : Int) : Bool := decide (lo ≤ n ∧ n ≤ hi)
theorem l1In_eq (a b c : Int) : spec_l1In.f a b c = some (inB a b c) := by
  unfold spec_l1In.f inB
  by_cases h : a ≥ b
  · rw [if_pos h]; congr 1; simp; omega
  · rw [if_neg h]; congr 1; symm; apply decide_eq_false; omega
theorem within_eq (a b c : Int) : impl_within.f a b c = some (inB a b c) := by
  unfold impl_within.f inB
  by_cases h : b ≤ a
  · rw [if_pos h]; congr 1; simp; omega
  · rw [if_neg h]; congr 1; symm; apply decide_eq_false; omega
def allIn (l : List Int) (lo hi : Int) : Bool := l.all fun x => inB x lo hi
theorem l1All_l0 (lo hi : Int) (l : List Int) (hb : l.length ≤ 1152921504606846976) : ∀ (d i : Nat) (k : Nat), l.length - i = d → i ≤ l.length → d < k →
    spec_l1All.l0 k lo hi l (l.length : Int) (i : Int) = some (allIn (l.drop i) lo hi) := by
  intro d
  induction d with
  | zero =>
    intro i k hd hi' hk
    obtain ⟨k, rfl⟩ : ∃ m, k = m + 1 := ⟨k - 1, by omega⟩
    rw [spec_l1All.l0, if_neg (by omega), List.drop_eq_nil_of_le (by omega)]
    rfl
  | succ d ih =>
    intro i k hd hi' hk
    obtain ⟨k, rfl⟩ : ∃ m, k = m + 1 := ⟨k - 1, by omega⟩
    have h1 : i < l.length := by omega
    rw [spec_l1All.l0, if_pos (by omega), if_pos (by omega), if_pos (by omega), l1In_eq, Option.bind_some, w64 _ (by omega) (by omega), rd_nat _ _ h1]
    rw [show ((i : Int) + 1) = ((i + 1 : Nat) : Int) by omega, ih (i + 1) k (by omega) (by omega) (by omega), drop_cons l i h1]
    unfold allIn
    rw [List.all_cons]
    generalize l.drop (i + 1) = tl
    by_cases h : inB l[i] lo hi = true
    · rw [if_pos h, h]; simp
    · rw [if_neg h]; simp at h; rw [h]; simp
theorem l1All_ev (l : List Int) (lo hi : Int) (hb : l.length ≤ 1152921504606846976) : Ev (fun k => spec_l1All.f k l lo hi) (allIn l lo hi) := by
  refine ⟨l.length + 1, fun k hk => ?_⟩
  simp only [spec_l1All.f]
  have := l1All_l0 lo hi l hb l.length 0 k (by omega) (by omega) (by omega)
  simpa using this
end Go.Proofs.Ytnpacpdpgngdpaa.P
namespace Go.Proofs.Ytnpacpdpgngdpaa.P
open Go.RowKit Go.Proofs.YtnpacpdpgngdpaaW.PrintWords Go.Proofs.YtnpacpdpgngdpaaW.PrintLast Go.Proofs.YtnpacpdpgngdpaaW.PrintMore
set_option linter.unusedVariables false
set_option linter.unusedSimpArgs false
theorem boardB_iff (r c : Int) (l : List Int) : boardB r c l = true ↔ (1 ≤ r ∧ r ≤ 6) ∧ (1 ≤ c ∧ c ≤ 6) ∧ (l.length : Int) = r ∧ ∀ m ∈ l, 0 ≤ m ∧ m ≤ 2 ^ c.toNat - 1 := by
  unfold boardB
  simp only [Bool.and_eq_true, decide_eq_true_eq, List.all_eq_true]
  constructor
  · rintro ⟨⟨⟨a, b⟩, c⟩, d⟩; exact ⟨a, b, c, d⟩
  · rintro ⟨a, b, c, d⟩; exact ⟨⟨⟨a, b⟩, c⟩, d⟩
theorem shl_one (c : Int) (h0 : 0 ≤ c) (h1 : c ≤ 62) : shl .i64 1 c = 2 ^ c.toNat := by
  unfold shl
  rw [Int.one_mul, Nat.min_eq_left (show c.toNat ≤ IntKind.i64.bits by have : IntKind.i64.bits = 64 := rfl; omega)]
  rw [i64_w, w64]
  · have : (0 : Int) ≤ 2 ^ c.toNat := Int.le_of_lt (Int.pow_pos (by decide))
    omega
  · have h : (2 : Int) ^ c.toNat ≤ 2 ^ 62 := by
      have := Nat.pow_le_pow_right (show 0 < 2 by decide) (show c.toNat ≤ 62 by omega)
      exact_mod_cast this
    have e : (2 : Int) ^ 62 = 4611686018427387904 := by decide
    omega
theorem pow_le6 (c : Int) (h1 : c ≤ 6) : (2 : Int) ^ c.toNat ≤ 64 := by
  have := Nat.pow_le_pow_right (show 0 < 2 by decide) (show c.toNat ≤ 6 by omega)
  have h : (2 : Int) ^ c.toNat ≤ 2 ^ 6 := by exact_mod_cast this
  exact h
theorem pow_pos2 (c : Int) : (1 : Int) ≤ 2 ^ c.toNat := by
  have : (0 : Int) < 2 ^ c.toNat := Int.pow_pos (by decide)
  omega
theorem boSide_eq (a : Int) : spec_boSide.f a = some (inB a 1 6) := by
  simp only [spec_boSide.f, l1In_eq, Option.bind_some]
theorem boGood_ev (r c : Int) (l : List Int) (hb : l.length ≤ 1152921504606846976) : Ev (fun k => spec_boGood.f k r c l) (boardB r c l) := by
  by_cases h1 : 1 ≤ r ∧ r ≤ 6
  · by_cases h2 : 1 ≤ c ∧ c ≤ 6
    · by_cases h3 : (l.length : Int) = r
      · obtain ⟨K, hK⟩ := ev_get (l1All_ev l 0 (2 ^ c.toNat - 1) hb)
        refine ⟨K, fun k hk => ?_⟩
        have hp := pow_le6 c h2.2
        have hp2 := pow_pos2 c
        simp only [spec_boGood.f, boSide_eq, Option.bind_some]
        rw [if_pos (by simpa [inB] using h1), if_pos (by simpa [inB] using h2), if_pos h3, if_pos (by omega), shl_one c (by omega) (by omega), w64 _ (by omega) (by omega), hK k hk, Option.bind_some]
        congr 1
        unfold boardB allIn inB
        simp [h1, h2, h3]
      · refine ⟨0, fun k hk => ?_⟩
        simp only [spec_boGood.f, boSide_eq, Option.bind_some]
        rw [if_pos (by simpa [inB] using h1), if_pos (by simpa [inB] using h2), if_neg h3]
        congr 1; unfold boardB; simp [h3]
    · refine ⟨0, fun k hk => ?_⟩
      simp only [spec_boGood.f, boSide_eq, Option.bind_some]
      rw [if_pos (by simpa [inB] using h1), if_neg (by simpa [inB] using h2)]
      congr 1; unfold boardB; rw [decide_eq_false h2]; simp
  · refine ⟨0, fun k hk => ?_⟩
    simp only [spec_boGood.f, boSide_eq, Option.bind_some]
    rw [if_neg (by simpa [inB] using h1)]
    congr 1; unfold boardB; rw [decide_eq_false h1]; simp
def placeB (r c x y : Int) : Bool := decide ((0 ≤ x ∧ x ≤ r - 1) ∧ (0 ≤ y ∧ y ≤ c - 1))
theorem boPlace_ev (r c : Int) (l : List Int) (x y : Int) (hb : l.length ≤ 1152921504606846976) : Ev (fun k => spec_boPlace.f k r c l x y) (boardB r c l && placeB r c x y) := by
  obtain ⟨K, hK⟩ := ev_get (boGood_ev r c l hb)
  refine ⟨K, fun k hk => ?_⟩
  simp only [spec_boPlace.f, hK k hk, Option.bind_some]
  by_cases h : boardB r c l = true
  · have := (boardB_iff r c l).1 h
    rw [h, if_pos rfl, w64 _ (by omega) (by omega), w64 _ (by omega) (by omega), l1In_eq, l1In_eq, Option.bind_some, Option.bind_some]
    unfold inB placeB
    by_cases h1 : 0 ≤ x ∧ x ≤ r - 1
    · rw [if_pos (by simpa using h1)]; simp [h1]
    · rw [if_neg (by simpa using h1)]; congr 1; rw [Bool.true_and]; symm; apply decide_eq_false; exact fun hh => h1 hh.1
  · simp only [Bool.not_eq_true] at h
    rw [h]; simp
theorem place_eq (r c : Int) (l : List Int) (x y : Int) (hr : -1000 ≤ r ∧ r ≤ 1000) (hc : -1000 ≤ c ∧ c ≤ 1000) : impl_Board_place.f r c l x y = some (placeB r c x y) := by
  simp only [impl_Board_place.f]
  rw [w64 _ (by omega) (by omega), w64 _ (by omega) (by omega), within_eq, within_eq, Option.bind_some, Option.bind_some]
  unfold inB placeB
  by_cases h1 : 0 ≤ x ∧ x ≤ r - 1
  · rw [if_pos (by simpa using h1)]; simp [h1]
  · rw [if_neg (by simpa using h1)]; congr 1; symm; apply decide_eq_false; exact fun hh => h1 hh.1
theorem szBoard_eq (r c : Int) (l : List Int) (left : Int) (h0 : 0 ≤ left) (h1 : left ≤ 1048576) (hl : l.length ≤ maxLen) : laws_szBoard.f r c l left = some (if left - l.length < 0 then -1 else left - l.length) := by
  simp only [laws_szBoard.f, laws_szIntS.f]
  simp only [maxLen] at hl
  rw [w64 _ (by omega) (by omega)]
  split
  · simp only [Option.bind_some]; simp
  · simp only [Option.bind_some]; simp [*]
theorem toBoard_ev (r c : Int) (l : List Int) (hl : l.length ≤ 35184372088832) : Ev (fun k => laws_toBoard.f k r c l) (r, c, l) := by
  obtain ⟨K, hK⟩ := ev_get (toIntS_ev l hl)
  refine ⟨K, fun k hk => ?_⟩
  simp only [laws_toBoard.f, hK k hk, Option.bind_some]
theorem eqBoard_ev (r c : Int) (l : List Int) (hb : l.length ≤ 1152921504606846976) : Ev (fun k => laws_eqBoard.f k r c l r c l) true := by
  obtain ⟨K, hK⟩ := ev_get (eqIntS_ev l l hb)
  refine ⟨K, fun k hk => ?_⟩
  simp only [laws_eqBoard.f, hK k hk, Option.bind_some, if_true, decide_true]
theorem markBoard_ev (r c : Int) (l : List Int) (hb : l.length ≤ 1152921504606846976) : Ev (fun k => laws_markBoard.f k r c l 1) (1 + l.length, marks l.length 1) := by
  obtain ⟨K, hK⟩ := ev_get (markIntS_ev l 1 hb (by omega) (by omega))
  refine ⟨K, fun k hk => ?_⟩
  simp only [laws_markBoard.f, hK k hk, Option.bind_some]
end Go.Proofs.Ytnpacpdpgngdpaa.P
namespace Go.Proofs.Ytnpacpdpgngdpaa.P
open Go.RowKit Go.Proofs.YtnpacpdpgngdpaaW.PrintWords Go.Proofs.YtnpacpdpgngdpaaW.PrintLast Go.Proofs.YtnpacpdpgngdpaaW.PrintMore
set_option linter.unusedVariables false
set_option linter.unusedSimpArgs false
/-- A mask has a column. -/
def hasM (m : Int) (j : Int) : Bool := Int.tmod (shr .i64 m j) 2 == 1
theorem has_bits : ∀ m : Fin 64, ∀ c : Fin 6, (Go.bits .and .i64 (shr .i64 (m.val : Int) (c.val : Int)) 1 == 1) = hasM (m.val : Int) (c.val : Int) := by decide +kernel
theorem has_bits' (m c : Int) (h0 : 0 ≤ m) (h1 : m ≤ 63) (h2 : 0 ≤ c) (h3 : c ≤ 5) : (Go.bits .and .i64 (shr .i64 m c) 1 == 1) = hasM m c := by
  have h := has_bits ⟨m.toNat, by omega⟩ ⟨c.toNat, by omega⟩
  simp only [show ((m.toNat : Nat) : Int) = m by omega, show ((c.toNat : Nat) : Int) = c by omega] at h
  exact h
/-- The board has the cell. -/
def hasC (l : List Int) (i j : Int) : Bool := hasM (rd l i) j
theorem board_row {r c : Int} {l : List Int} (h : boardB r c l = true) {i : Int} (h0 : 0 ≤ i) (h1 : i < r) : 0 ≤ rd l i ∧ rd l i ≤ 63 := by
  obtain ⟨hr, hc, hl, hm⟩ := (boardB_iff r c l).1 h
  have hp6 := pow_le6 c hc.2
  have hx : i.toNat < l.length := by omega
  have := hm l[i.toNat] (List.getElem_mem hx)
  have e : rd l i = l[i.toNat] := by
    have := rd_nat l i.toNat hx
    rwa [show ((i.toNat : Nat) : Int) = i by omega] at this
  rw [e]; omega
theorem boHas_eq {r c : Int} {l : List Int} (h : boardB r c l = true) {i j : Int} (h0 : 0 ≤ i) (h1 : i < r) (h2 : 0 ≤ j) : spec_boHas.f r c l i j = some (hasC l i j) := by
  obtain ⟨hr, hc, hl, hm⟩ := (boardB_iff r c l).1 h
  simp only [spec_boHas.f]
  rw [if_pos h0, if_pos (by omega), if_pos h2]
  rfl
theorem has_eq {r c : Int} {l : List Int} (h : boardB r c l = true) {i j : Int} (h0 : 0 ≤ i) (h1 : i < r) (h2 : 0 ≤ j) (h3 : j < c) : impl_Board_has.f r c l i j = some (hasC l i j) := by
  obtain ⟨hr, hc, hl, hm⟩ := (boardB_iff r c l).1 h
  have hb := board_row h h0 h1
  simp only [impl_Board_has.f]
  rw [if_pos h0, if_pos (by omega), if_pos h2, has_bits' _ _ hb.1 hb.2 h2 (by omega)]
  rfl
end Go.Proofs.Ytnpacpdpgngdpaa.P
namespace Go.Proofs.Ytnpacpdpgngdpaa.P
open Go.RowKit Go.Proofs.YtnpacpdpgngdpaaW.PrintWords Go.Proofs.YtnpacpdpgngdpaaW.PrintLast Go.Proofs.YtnpacpdpgngdpaaW.PrintMore
set_option linter.unusedVariables false
set_option linter.unusedSimpArgs false
def tab (m : Nat) (f : Nat → Int) : List Int := (List.range (m + 1)).map f
theorem tab_len (m : Nat) (f : Nat → Int) : (tab m f).length = m + 1 := by simp [tab]
theorem tab_get (m : Nat) (f : Nat → Int) (i : Nat) (h : i < (tab m f).length) : (tab m f)[i] = f i := by simp [tab]
theorem tab_rd (m : Nat) (f : Nat → Int) (i : Nat) (h : i ≤ m) : rd (tab m f) (i : Int) = f i := by
  rw [rd_nat _ _ (by rw [tab_len]; omega), tab_get]
theorem tab_set (m : Nat) (f : Nat → Int) (i : Nat) (v : Int) : (tab m f).set i v = tab m (fun k => if k = i then v else f k) := by
  apply List.ext_getElem
  · simp [tab]
  · intro k h1 h2
    rw [tab_get, List.getElem_set]
    by_cases e : i = k
    · subst e; simp
    · rw [if_neg e, if_neg (fun h => e h.symm), tab_get]
theorem tab_congr {m : Nat} {f g : Nat → Int} (h : ∀ k, k ≤ m → f k = g k) : tab m f = tab m g := by
  apply List.ext_getElem
  · simp [tab]
  · intro k h1 h2
    rw [tab_get, tab_get]
    exact h k (by rw [tab_len] at h1; omega)
theorem tab_repl (m : Nat) : List.replicate (m + 1) (0 : Int) = tab m (fun _ => 0) := by
  apply List.ext_getElem
  · simp [tab]
  · intro k h1 h2
    rw [tab_get, List.getElem_replicate]
def orb (t c : Int) : Int := Go.bits .or .i64 t (shl .i64 1 c)
def pop (t : Int) : Nat := ((List.range 6).filter fun (c : Nat) => hasM t (c : Int)).length
theorem orb_fin : ∀ t : Fin 64, ∀ c : Fin 6, hasM (t.val : Int) (c.val : Int) = false → (0 ≤ orb (t.val : Int) (c.val : Int) ∧ orb (t.val : Int) (c.val : Int) ≤ 63) ∧ pop (orb (t.val : Int) (c.val : Int)) = pop (t.val : Int) + 1 := by decide +kernel
theorem orb_form : ∀ t : Fin 64, ∀ c : Fin 6, Go.bits .or .i64 (t.val : Int) (wrap64 (2 ^ min ((c.val : Nat) : Int).toNat 64)) = orb (t.val : Int) (c.val : Int) := by decide +kernel
theorem orb_cols : ∀ t : Fin 64, ∀ c : Fin 6, ∀ C : Fin 7, t.val < 2 ^ C.val → c.val < C.val → orb (t.val : Int) (c.val : Int) < ((2 ^ C.val : Nat) : Int) := by decide +kernel
theorem pop_cols : ∀ t : Fin 64, ∀ C : Fin 7, t.val < 2 ^ C.val → pop (t.val : Int) ≤ C.val := by decide +kernel
theorem pop_zero : pop 0 = 0 := by decide +kernel
/-- A mask of columns that are less than C. -/
def Cols (C : Nat) (t : Int) : Prop := 0 ≤ t ∧ t ≤ 63 ∧ t < ((2 ^ C : Nat) : Int)
theorem cols_zero (C : Nat) : Cols C 0 := ⟨by omega, by omega, by exact_mod_cast Nat.pos_of_ne_zero (by simp)⟩
theorem cols_pop {C : Nat} (hC : C ≤ 6) {t : Int} (h : Cols C t) : pop t ≤ C := by
  have := pop_cols ⟨t.toNat, by have := h.1; have := h.2.1; omega⟩ ⟨C, by omega⟩ (by have := h.1; have := h.2.2; simp only; omega)
  simpa only [show ((t.toNat : Nat) : Int) = t by have := h.1; omega] using this
theorem cols_orb {C : Nat} (hC : C ≤ 6) {t : Int} (h : Cols C t) {c : Nat} (hc : c < C) (hf : hasM t (c : Int) = false) : Cols C (orb t (c : Int)) ∧ pop (orb t (c : Int)) = pop t + 1 := by
  have e : ((t.toNat : Nat) : Int) = t := by have := h.1; omega
  have h1 := orb_fin ⟨t.toNat, by have := h.1; have := h.2.1; omega⟩ ⟨c, by omega⟩ (by simpa only [e] using hf)
  have h2 := orb_cols ⟨t.toNat, by have := h.1; have := h.2.1; omega⟩ ⟨c, by omega⟩ ⟨C, by omega⟩ (by have := h.1; have := h.2.2; simp only; omega) hc
  simp only [e] at h1 h2
  exact ⟨⟨h1.1.1, h1.1.2, h2⟩, h1.2⟩
theorem orb_more {C : Nat} (hC : C ≤ 6) {t : Int} (h : Cols C t) {c : Nat} (hc : c < C) : Go.bits .or .i64 t (wrap64 (2 ^ min ((c : Nat) : Int).toNat 64)) = orb t (c : Int) := by
  have e : ((t.toNat : Nat) : Int) = t := by have := h.1; omega
  have h1 := orb_form ⟨t.toNat, by have := h.1; have := h.2.1; omega⟩ ⟨c, by omega⟩
  simpa only [e] using h1
def sumTo (f : Nat → Nat) : Nat → Nat
  | 0 => 0
  | n + 1 => sumTo f n + f n
def freeB (l : List Int) (r c : Nat) (t : Int) : Bool := hasC l (r : Int) (c : Int) && !hasM t (c : Int)
def ways (l : List Int) (C : Nat) : Nat → Nat → Int → Nat → Nat
  | 0, _, _, k => if k = 0 then 1 else 0
  | d + 1, r, t, k => ways l C d (r + 1) t k + sumTo (fun c => if freeB l r c t = true then (if k = 0 then 0 else ways l C d (r + 1) (orb t (c : Int)) (k - 1)) else 0) C
def term (l : List Int) (C d r : Nat) (t : Int) (k c : Nat) : Nat := if freeB l r c t = true then (if k = 0 then 0 else ways l C d (r + 1) (orb t (c : Int)) (k - 1)) else 0
theorem ways_succ (l : List Int) (C d r : Nat) (t : Int) (k : Nat) : ways l C (d + 1) r t k = ways l C d (r + 1) t k + sumTo (term l C d r t k) C := rfl
theorem sumTo_le {f : Nat → Nat} {b : Nat} (h : ∀ c, f c ≤ b) : ∀ n, sumTo f n ≤ n * b
  | 0 => by simp [sumTo]
  | n + 1 => by have := sumTo_le h n; have := h n; rw [sumTo, Nat.succ_mul]; omega
theorem ways_le (l : List Int) {C : Nat} (hC : C ≤ 6) : ∀ (d r : Nat) (t : Int) (k : Nat), ways l C d r t k ≤ 7 ^ d
  | 0, _, _, k => by unfold ways; split <;> omega
  | d + 1, r, t, k => by
    rw [ways_succ]
    have h1 := ways_le l hC d (r + 1) t k
    have h2 := sumTo_le (f := term l C d r t k) (b := 7 ^ d) (fun c => by
      unfold term
      split
      · split
        · omega
        · exact ways_le l hC d _ _ _
      · omega) C
    have h3 : C * 7 ^ d ≤ 6 * 7 ^ d := Nat.mul_le_mul_right _ hC
    rw [Nat.pow_succ]
    omega
theorem sumTo_pos {f : Nat → Nat} : ∀ {n : Nat}, 0 < sumTo f n → ∃ c, c < n ∧ 0 < f c
  | 0, h => by simp [sumTo] at h
  | n + 1, h => by
    rw [sumTo] at h
    by_cases h1 : 0 < f n
    · exact ⟨n, by omega, h1⟩
    · obtain ⟨c, hc, hf⟩ := sumTo_pos (f := f) (n := n) (by omega)
      exact ⟨c, by omega, hf⟩
theorem ways_pos (l : List Int) {C : Nat} (hC : C ≤ 6) : ∀ (d r : Nat) (t : Int) (k : Nat), Cols C t → 0 < ways l C d r t k → k ≤ d ∧ k + pop t ≤ C
  | 0, _, t, k, ht, h => by
    unfold ways at h
    split at h
    · have := cols_pop hC ht; omega
    · omega
  | d + 1, r, t, k, ht, h => by
    rw [ways_succ] at h
    by_cases h1 : 0 < ways l C d (r + 1) t k
    · have := ways_pos l hC d (r + 1) t k ht h1; omega
    · obtain ⟨c, hc, hf⟩ := sumTo_pos (f := term l C d r t k) (n := C) (by omega)
      unfold term at hf
      split at hf
      · rename_i hfree
        split at hf
        · omega
        · unfold freeB at hfree
          rw [Bool.and_eq_true, Bool.not_eq_true'] at hfree
          have h2 := cols_orb hC ht hc hfree.2
          have := ways_pos l hC d (r + 1) (orb t (c : Int)) (k - 1) h2.1 hf
          omega
      · omega
section
variable {l : List Int} {R C m : Nat} (hR : R ≤ 6) (hC : C ≤ 6) (hl : l.length = R) (hm : m = min R C)
theorem spec_l0 (w : Nat → Int) (hw : ∀ k, 0 ≤ w k ∧ w k ≤ 1000000) (r t : Int) (res : List Int) (hm6 : m ≤ 6)
    (hrec : Ev (fun k => spec_roWays.l1 k r t (tab m w) 0 (R : Int) (C : Int) l) res) : ∀ (d i : Nat), m + 1 - i = d → i ≤ m + 1 →
    Ev (fun k => spec_roWays.l0 k r t (tab m (fun k => if k < i then w k else 0)) (tab m w) ((tab m w).length : Int) (i : Int) (R : Int) (C : Int) l) res := by
  intro d
  induction d with
  | zero =>
    intro i hd hi
    obtain ⟨K, hK⟩ := ev_get hrec
    refine ⟨K + 1, fun k hk => ?_⟩
    obtain ⟨k, rfl⟩ : ∃ m, k = m + 1 := ⟨k - 1, by omega⟩
    dsimp only
    rw [spec_roWays.l0, tab_len, if_neg (by omega), tab_congr (g := w) (fun k hk => by rw [if_pos (by omega)])]
    exact hK k (by omega)
  | succ d ih =>
    intro i hd hi
    obtain ⟨K, hK⟩ := ev_get (ih (i + 1) (by omega) (by omega))
    refine ⟨K + 1, fun k hk => ?_⟩
    obtain ⟨k, rfl⟩ : ∃ m, k = m + 1 := ⟨k - 1, by omega⟩
    dsimp only
    have h1 := hw i
    rw [spec_roWays.l0, if_pos (by rw [tab_len]; omega), if_pos (by omega), if_pos (by rw [tab_len]; omega), if_pos (by rw [tab_len]; omega), tab_rd _ _ i (by omega), tab_rd _ _ i (by omega), if_neg (by omega), w64 _ (by omega) (by omega), w64 _ (by omega) (by omega), show ((i : Nat) : Int).toNat = i by omega, tab_set, tab_congr (g := fun k => if k < i + 1 then w k else 0) (fun k hk => by
      by_cases e : k = i
      · subst e; rw [if_pos rfl, if_pos (by omega)]; omega
      · rw [if_neg e]
        by_cases e2 : k < i
        · rw [if_pos e2, if_pos (by omega)]
        · rw [if_neg e2, if_neg (by omega)])]
    exact hK k (by omega)
theorem spec_l2 (hm6 : m ≤ 6) (b w : Nat → Int) (hb : ∀ k, 0 ≤ b k ∧ b k ≤ 1000000) (hw : ∀ k, 0 ≤ w k ∧ w k ≤ 1000000) (hpos : ∀ k, 0 < w k → k + 1 ≤ m) (r t : Int) (c : Nat) (hc : c ≤ 100) (res : List Int)
    (hrec : Ev (fun k => spec_roWays.l1 k r t (tab m (fun k => b k + if k = 0 then 0 else w (k - 1))) ((c + 1 : Nat) : Int) (R : Int) (C : Int) l) res) : ∀ (d i : Nat), m + 1 - i = d → i ≤ m + 1 →
    Ev (fun k => spec_roWays.l2 k r t (tab m (fun k => b k + if k = 0 ∨ i < k then 0 else w (k - 1))) (c : Int) (tab m w) ((tab m w).length : Int) (i : Int) (R : Int) (C : Int) l) res := by
  intro d
  induction d with
  | zero =>
    intro i hd hi
    obtain ⟨K, hK⟩ := ev_get hrec
    refine ⟨K + 1, fun k hk => ?_⟩
    obtain ⟨k, rfl⟩ : ∃ m, k = m + 1 := ⟨k - 1, by omega⟩
    dsimp only
    rw [spec_roWays.l2, tab_len, if_neg (by omega), w64 _ (by omega) (by omega), tab_congr (g := fun k => b k + if k = 0 then 0 else w (k - 1)) (fun k hk => by
      by_cases e : k = 0
      · rw [if_pos (Or.inl e), if_pos e]
      · rw [if_neg (by omega), if_neg e])]
    exact hK k (by omega)
  | succ d ih =>
    intro i hd hi
    obtain ⟨K, hK⟩ := ev_get (ih (i + 1) (by omega) (by omega))
    refine ⟨K + 1, fun k hk => ?_⟩
    obtain ⟨k, rfl⟩ : ∃ m, k = m + 1 := ⟨k - 1, by omega⟩
    dsimp only
    have h1 := hw i
    have h2 := hb (i + 1)
    rw [spec_roWays.l2, if_pos (by rw [tab_len]; omega), if_pos (by omega), if_pos (by rw [tab_len]; omega), tab_rd _ _ i (by omega), w64 ((i : Int) + 1) (by omega) (by omega), show (i : Int) + 1 = ((i + 1 : Nat) : Int) by omega]
    by_cases hp : w i > 0
    · have h3 := hpos i hp
      rw [if_pos hp, if_pos (by omega), if_pos (by rw [tab_len]; omega), tab_rd _ _ (i + 1) (by omega), if_pos (Or.inr (by omega)), w64 _ (by omega) (by omega), show (((i + 1 : Nat) : Nat) : Int).toNat = i + 1 by omega, tab_set, tab_congr (g := fun k => b k + if k = 0 ∨ i + 1 < k then 0 else w (k - 1)) (fun k hk => by
        by_cases e : k = i + 1
        · subst e; rw [if_pos rfl, if_neg (by omega)]; simp
        · rw [if_neg e]
          by_cases e2 : k = 0 ∨ i < k
          · rw [if_pos e2, if_pos (by omega)]
          · rw [if_neg e2, if_neg (by omega)])]
      exact hK k (by omega)
    · rw [if_neg hp, tab_congr (g := fun k => b k + if k = 0 ∨ i + 1 < k then 0 else w (k - 1)) (fun k hk => by
        by_cases e : k = i + 1
        · subst e; rw [if_pos (Or.inr (by omega)), if_neg (by omega)]; simp; omega
        · by_cases e2 : k = 0 ∨ i < k
          · rw [if_pos e2, if_pos (by omega)]
          · rw [if_neg e2, if_neg (by omega)])]
      exact hK k (by omega)
theorem ways_small (l : List Int) {C : Nat} (hC : C ≤ 6) (d r : Nat) (t : Int) (k : Nat) (hd : d ≤ 6) : ways l C d r t k ≤ 117649 :=
  Nat.le_trans (ways_le l hC d r t k) (Nat.le_trans (Nat.pow_le_pow_right (by omega) hd) (by decide))
theorem sum_small (l : List Int) {C : Nat} (hC : C ≤ 6) (d r : Nat) (t : Int) (k c : Nat) (hc : c ≤ C) (hd : d ≤ 5) : sumTo (term l C d r t k) c ≤ 117649 := by
  have h := sumTo_le (f := term l C d r t k) (b := 16807) (fun c => by
    unfold term
    split
    · split
      · omega
      · exact Nat.le_trans (ways_le l hC d _ _ _) (Nat.le_trans (Nat.pow_le_pow_right (by omega) hd) (by decide))
    · omega) c
  have : c * 16807 ≤ 6 * 16807 := Nat.mul_le_mul_right _ (by omega)
  omega
include hR hC hl hm
theorem spec_l1 (d r : Nat) (hrd : r + d + 1 = R) (t : Int) (ht : Cols C t)
    (IH : ∀ t', Cols C t' → Ev (fun k => spec_roWays.f k (R : Int) (C : Int) l ((r + 1 : Nat) : Int) t') (tab m (fun k => (ways l C d (r + 1) t' k : Int)))) : ∀ (e c : Nat), C - c = e → c ≤ C →
    Ev (fun k => spec_roWays.l1 k (r : Int) t (tab m (fun k => (ways l C d (r + 1) t k : Int) + (sumTo (term l C d r t k) c : Int))) (c : Int) (R : Int) (C : Int) l) (tab m (fun k => (ways l C (d + 1) r t k : Int))) := by
  intro e
  induction e with
  | zero =>
    intro c he hc
    refine ⟨1, fun k hk => ?_⟩
    obtain ⟨k, rfl⟩ : ∃ m, k = m + 1 := ⟨k - 1, by omega⟩
    dsimp only
    obtain rfl : c = C := by omega
    rw [spec_roWays.l1, if_neg (by omega)]
    exact congrArg some (tab_congr (fun k hk => by rw [ways_succ]; omega))
  | succ e ih =>
    intro c he hc
    have hc1 : c < C := by omega
    have h2 := ih (c + 1) (by omega) (by omega)
    have hhas : spec_boHas.f (R : Int) (C : Int) l (r : Int) (c : Int) = some (hasC l (r : Int) (c : Int)) := by
      simp only [spec_boHas.f]
      rw [if_pos (by omega), if_pos (by omega), if_pos (by omega)]
      rfl
    have skip : freeB l r c t = false → ∀ k, spec_roWays.l1 k (r : Int) t (tab m (fun k => (ways l C d (r + 1) t k : Int) + (sumTo (term l C d r t k) (c + 1) : Int))) ((c + 1 : Nat) : Int) (R : Int) (C : Int) l = spec_roWays.l1 k (r : Int) t (tab m (fun k => (ways l C d (r + 1) t k : Int) + (sumTo (term l C d r t k) c : Int))) ((c + 1 : Nat) : Int) (R : Int) (C : Int) l := by
      intro hf k
      rw [tab_congr (g := fun k => (ways l C d (r + 1) t k : Int) + (sumTo (term l C d r t k) c : Int)) (fun k hk => by
        rw [sumTo, term, if_neg (by rw [hf]; simp)]; omega)]
    by_cases hh : hasC l (r : Int) (c : Int) = true
    case neg =>
      have hf : freeB l r c t = false := by unfold freeB; rw [Bool.not_eq_true] at hh; rw [hh]; rfl
      obtain ⟨K, hK⟩ := ev_get h2
      refine ⟨K + 2, fun k hk => ?_⟩
      obtain ⟨k, rfl⟩ : ∃ m, k = m + 2 := ⟨k - 2, by omega⟩
      dsimp only
      rw [spec_roWays.l1, if_pos (by omega), hhas, Option.bind_some, if_neg hh, spec_roWays.j2, if_pos rfl, w64 _ (by omega) (by omega), show (c : Int) + 1 = ((c + 1 : Nat) : Int) by omega, ← skip hf]
      exact hK k (by omega)
    by_cases hb : hasM t (c : Int) = true
    · have hf : freeB l r c t = false := by unfold freeB; rw [hb]; simp
      obtain ⟨K, hK⟩ := ev_get h2
      refine ⟨K + 2, fun k hk => ?_⟩
      obtain ⟨k, rfl⟩ : ∃ m, k = m + 2 := ⟨k - 2, by omega⟩
      dsimp only
      have hb' : (Int.tmod (shr .i64 t (c : Int)) 2 == 1) = true := hb
      rw [spec_roWays.l1, if_pos (by omega), hhas, Option.bind_some, if_pos hh, if_pos (by omega), hb', spec_roWays.j2, if_pos rfl, w64 _ (by omega) (by omega), show (c : Int) + 1 = ((c + 1 : Nat) : Int) by omega, ← skip hf]
      exact hK k (by omega)
    · have hb1 : hasM t (c : Int) = false := by simpa using hb
      have hf : freeB l r c t = true := by unfold freeB; rw [hh, hb1]; rfl
      have hco := cols_orb hC ht hc1 hb1
      obtain ⟨K1, k1⟩ := ev_get (IH _ hco.1)
      obtain ⟨K2, k2⟩ := ev_get (spec_l2 (l := l) (R := R) (C := C) (m := m) (by omega) (fun k => (ways l C d (r + 1) t k : Int) + (sumTo (term l C d r t k) c : Int)) (fun k => (ways l C d (r + 1) (orb t (c : Int)) k : Int))
        (fun k => by have := ways_small l hC d (r + 1) t k (by omega); have := sum_small l hC d r t k c (by omega) (by omega); omega)
        (fun k => by have := ways_small l hC d (r + 1) (orb t (c : Int)) k (by omega); omega)
        (fun k hk => by have := ways_pos l hC d (r + 1) (orb t (c : Int)) k hco.1 (by omega); omega) (r : Int) t c (by omega) _ (by
          have e : (fun k => (ways l C d (r + 1) t k : Int) + (sumTo (term l C d r t k) (c + 1) : Int)) = (fun k => (ways l C d (r + 1) t k : Int) + (sumTo (term l C d r t k) c : Int) + (if k = 0 then 0 else (ways l C d (r + 1) (orb t (c : Int)) (k - 1) : Int))) := by
            funext k
            rw [sumTo]
            have : term l C d r t k c = if k = 0 then 0 else ways l C d (r + 1) (orb t (c : Int)) (k - 1) := by unfold term; rw [if_pos hf]
            rw [this]
            split <;> omega
          rw [e] at h2
          exact h2) (m + 1) 0 (by omega) (by omega))
      refine ⟨K1 + K2 + 2, fun k hk => ?_⟩
      obtain ⟨k, rfl⟩ : ∃ m, k = m + 2 := ⟨k - 2, by omega⟩
      dsimp only
      have hb' : (Int.tmod (shr .i64 t (c : Int)) 2 == 1) = false := hb1
      have k1' := k1 k (by omega)
      rw [spec_roWays.l1, if_pos (by omega), hhas, Option.bind_some, if_pos hh, if_pos (by omega), hb', spec_roWays.j2, if_neg (by simp), if_pos (by omega), w64 ((r : Int) + 1) (by omega) (by omega), show (r : Int) + 1 = ((r + 1 : Nat) : Int) by omega]
      show (spec_roWays.f k (R : Int) (C : Int) l ((r + 1 : Nat) : Int) (orb t (c : Int))).bind _ = _
      rw [k1', Option.bind_some]
      refine Eq.trans ?_ (k2 k (by omega))
      congr 1
      exact tab_congr (fun k hk => by
        by_cases e : k = 0
        · rw [if_pos (Or.inl e)]; omega
        · rw [if_pos (Or.inr (by omega))]; omega)
theorem roWays_ev : ∀ (d r : Nat) (t : Int), r + d = R → Cols C t → Ev (fun k => spec_roWays.f k (R : Int) (C : Int) l (r : Int) t) (tab m (fun k => (ways l C d r t k : Int))) := by
  have hle : spec_l1Least.f (R : Int) (C : Int) = some (m : Int) := by
    unfold spec_l1Least.f
    by_cases h : (R : Int) < (C : Int)
    · rw [if_pos h]; congr 1; omega
    · rw [if_neg h]; congr 1; omega
  intro d
  induction d with
  | zero =>
    intro r t hr ht
    refine ⟨1, fun k hk => ?_⟩
    obtain ⟨k, rfl⟩ : ∃ m, k = m + 1 := ⟨k - 1, by omega⟩
    dsimp only
    rw [spec_roWays.f, hle, Option.bind_some, w64 _ (by omega) (by omega), if_pos (by omega), show ((m : Int) + 1).toNat = m + 1 by omega, if_pos (by omega), Option.bind_some, if_pos (by omega), if_pos (by simp), tab_repl]
    congr 1
    rw [show (0 : Int).toNat = 0 from rfl, tab_set]
    exact tab_congr (fun k hk => by unfold ways; split <;> simp)
  | succ d ih =>
    intro r t hr ht
    obtain ⟨K1, k1⟩ := ev_get (ih (r + 1) t (by omega) ht)
    have h0 := spec_l1 hR hC hl hm d r (by omega) t ht (fun t' ht' => ih (r + 1) t' (by omega) ht') C 0 (by omega) (by omega)
    have e : (fun k => (ways l C d (r + 1) t k : Int) + (sumTo (term l C d r t k) 0 : Int)) = fun k => (ways l C d (r + 1) t k : Int) := by
      funext k; rw [sumTo]; omega
    rw [e] at h0
    obtain ⟨K2, k2⟩ := ev_get (spec_l0 (l := l) (R := R) (C := C) (m := m) (fun k => (ways l C d (r + 1) t k : Int)) (fun k => by have := ways_small l hC d (r + 1) t k (by omega); omega) (r : Int) t _ (by omega) h0 (m + 1) 0 (by omega) (by omega))
    refine ⟨K1 + K2 + 1, fun k hk => ?_⟩
    obtain ⟨k, rfl⟩ : ∃ m, k = m + 1 := ⟨k - 1, by omega⟩
    dsimp only
    rw [spec_roWays.f, hle, Option.bind_some, w64 _ (by omega) (by omega), if_pos (by omega), show ((m : Int) + 1).toNat = m + 1 by omega, if_pos (by omega), Option.bind_some, if_neg (by omega), w64 ((r : Int) + 1) (by omega) (by omega), show (r : Int) + 1 = ((r + 1 : Nat) : Int) by omega, k1 k (by omega), Option.bind_some, tab_repl, tab_congr (g := fun k => if k < 0 then (ways l C d (r + 1) t k : Int) else 0) (fun k hk => by rw [if_neg (by omega)])]
    exact k2 k (by omega)
omit hR hC hl hm
end
end Go.Proofs.Ytnpacpdpgngdpaa.P
namespace Go.Proofs.Ytnpacpdpgngdpaa.P
open Go.RowKit Go.Proofs.YtnpacpdpgngdpaaW.PrintWords Go.Proofs.YtnpacpdpgngdpaaW.PrintLast Go.Proofs.YtnpacpdpgngdpaaW.PrintMore
set_option linter.unusedVariables false
set_option linter.unusedSimpArgs false
def cnt (p : List Int) : Nat := (p.filter fun x => x != -1).length
theorem rooks_l0 (p : List Int) (hp : p.length ≤ 100) : ∀ (d i : Nat), p.length - i = d → i ≤ p.length →
    Ev (fun k => impl_rooks.l0 k (cnt (p.take i) : Int) p (p.length : Int) (i : Int)) (cnt p : Int) := by
  intro d
  induction d with
  | zero =>
    intro i hd hi
    refine ⟨1, fun k hk => ?_⟩
    obtain ⟨k, rfl⟩ : ∃ m, k = m + 1 := ⟨k - 1, by omega⟩
    dsimp only
    rw [impl_rooks.l0, if_neg (by omega), List.take_of_length_le (by omega)]
  | succ d ih =>
    intro i hd hi
    have h1 : i < p.length := by omega
    obtain ⟨K, hK⟩ := ev_get (ih (i + 1) (by omega) (by omega))
    refine ⟨K + 1, fun k hk => ?_⟩
    obtain ⟨k, rfl⟩ : ∃ m, k = m + 1 := ⟨k - 1, by omega⟩
    dsimp only
    have hc : cnt (p.take i) ≤ i := by
      unfold cnt
      have := List.length_filter_le (fun x => x != -1) (p.take i)
      rw [List.length_take] at this
      omega
    have hs : cnt (p.take (i + 1)) = cnt (p.take i) + if p[i] = -1 then 0 else 1 := by
      unfold cnt
      rw [← List.take_append_getElem h1, List.filter_append, List.length_append]
      by_cases e : p[i] = -1 <;> simp [e]
    have hk' := hK k (by omega)
    rw [hs] at hk'
    rw [impl_rooks.l0, if_pos (by omega), if_pos (by omega), if_pos (by omega), rd_nat p i h1, w64 ((i : Int) + 1) (by omega) (by omega), show (i : Int) + 1 = ((i + 1 : Nat) : Int) by omega, w64 _ (by omega) (by omega)]
    by_cases e : p[i] = -1
    · rw [if_pos e]; rw [if_pos e] at hk'; exact hk'
    · rw [if_neg e]; rw [if_neg e] at hk'; exact hk'
theorem rooks_ev (p : List Int) (hp : p.length ≤ 100) : Ev (fun k => impl_rooks.f k p) (cnt p : Int) := rooks_l0 p hp p.length 0 (by omega) (by omega)
def gain (l : List Int) (C d r : Nat) (t : Int) (k : Nat) : Nat := if pop t ≤ k then ways l C d r t (k - pop t) else 0
def gterm (l : List Int) (C d r : Nat) (t : Int) (k c : Nat) : Nat := if freeB l r c t = true then gain l C d (r + 1) (orb t (c : Int)) k else 0
theorem sumTo_congr {f g : Nat → Nat} : ∀ {n : Nat}, (∀ c, c < n → f c = g c) → sumTo f n = sumTo g n
  | 0, _ => rfl
  | n + 1, h => by rw [sumTo, sumTo, sumTo_congr (fun c hc => h c (by omega)), h n (by omega)]
theorem sumTo_zero (n : Nat) : sumTo (fun _ => 0) n = 0 := by
  induction n with
  | zero => rfl
  | succ n ih => rw [sumTo, ih]
theorem gain_succ (l : List Int) {C : Nat} (hC : C ≤ 6) (d r : Nat) (t : Int) (ht : Cols C t) (k : Nat) : gain l C (d + 1) r t k = gain l C d (r + 1) t k + sumTo (gterm l C d r t k) C := by
  have hg : ∀ c, c < C → gterm l C d r t k c = if pop t ≤ k then term l C d r t (k - pop t) c else 0 := by
    intro c hc
    unfold gterm term
    by_cases hf : freeB l r c t = true
    · have hb : hasM t (c : Int) = false := by
        unfold freeB at hf
        rw [Bool.and_eq_true, Bool.not_eq_true'] at hf
        exact hf.2
      rw [if_pos hf, if_pos hf, gain, (cols_orb hC ht hc hb).2]
      by_cases h1 : pop t + 1 ≤ k
      · rw [if_pos h1, if_pos (by omega), if_neg (by omega), show k - (pop t + 1) = k - pop t - 1 by omega]
      · rw [if_neg h1]
        by_cases h2 : pop t ≤ k
        · rw [if_pos h2, if_pos (by omega)]
        · rw [if_neg h2]
    · rw [if_neg hf, if_neg hf]; split <;> rfl
  rw [sumTo_congr hg]
  unfold gain
  by_cases h : pop t ≤ k
  · simp only [if_pos h]
    exact ways_succ _ _ _ _ _ _
  · simp only [if_neg h]
    rw [sumTo_zero]
theorem gain_le (l : List Int) {C : Nat} (hC : C ≤ 6) (d r : Nat) (t : Int) (k : Nat) : gain l C d r t k ≤ 7 ^ d := by
  unfold gain
  split
  · exact ways_le l hC _ _ _ _
  · exact Nat.zero_le _
theorem gsum_le (l : List Int) {C : Nat} (hC : C ≤ 6) (d r : Nat) (t : Int) (k c : Nat) : sumTo (gterm l C d r t k) c ≤ c * 7 ^ d :=
  sumTo_le (fun c => by unfold gterm; split; exact gain_le l hC _ _ _ _; exact Nat.zero_le _) c
theorem cnt_set (p : List Int) (r : Nat) (v : Int) (h : r < p.length) : cnt ((p.set r v).take (r + 1)) = cnt (p.take r) + if v = -1 then 0 else 1 := by
  unfold cnt
  rw [take_set_succ p r v h, List.filter_append, List.length_append]
  by_cases e : v = -1 <;> simp [e]
section
variable {l : List Int} {R C m : Nat} (hR : R ≤ 6) (hC : C ≤ 6) (hl : l.length = R) (hm : m = min R C) (hmask : ∀ i : Nat, i < R → 0 ≤ rd l (i : Int) ∧ rd l (i : Int) ≤ 63)
include hR hC hl hm hmask
omit hR hm in
theorem skips_eq {r c : Nat} (hr : r < R) (hc : c < C) {t : Int} (ht : Cols C t) : impl_Board_walk_1.skips (R : Int) (C : Int) l (r : Int) t (c : Int) = some (!freeB l r c t) := by
  have hh : impl_Board_has.f (R : Int) (C : Int) l (r : Int) (c : Int) = some (hasC l (r : Int) (c : Int)) := by
    have hb := hmask r hr
    simp only [impl_Board_has.f]
    rw [if_pos (by omega), if_pos (by omega), if_pos (by omega), has_bits' _ _ hb.1 hb.2 (by omega) (by omega)]
    rfl
  unfold impl_Board_walk_1.skips
  rw [if_pos (by omega), hh, Option.bind_some, has_bits' t _ ht.1 ht.2.1 (by omega) (by omega)]
  unfold freeB
  cases hasC l (r : Int) (c : Int) <;> cases hasM t (c : Int) <;> rfl
theorem walk_ev : ∀ (d r : Nat) (t : Int) (p : List Int) (g : Nat → Int), r + d = R → Cols C t → p.length = R → cnt (p.take r) = pop t → (∀ k, 0 ≤ g k ∧ g k + ((7 ^ d : Nat) : Int) ≤ 1000000) →
    ∃ p' : List Int, p'.length = R ∧ p'.take r = p.take r ∧ Ev (fun k => impl_Board_walk_1.f k (R : Int) (C : Int) l (r : Int) t p (tab m g)) (p', tab m (fun k => g k + (gain l C d r t k : Int))) := by
  intro d
  induction d with
  | zero =>
    intro r t p g hr ht hp hcnt hg
    refine ⟨p, hp, rfl, ?_⟩
    obtain ⟨K, hK⟩ := ev_get (rooks_ev p (by omega))
    have hcp : cnt p = pop t := by rw [← hcnt, List.take_of_length_le (by omega)]
    have h1 : pop t ≤ m := by
      have h2 := cols_pop hC ht
      have h3 : cnt p ≤ p.length := List.length_filter_le _ _
      omega
    refine ⟨K + 1, fun k hk => ?_⟩
    obtain ⟨k, rfl⟩ : ∃ m, k = m + 1 := ⟨k - 1, by omega⟩
    dsimp only
    have h4 := hg (pop t)
    rw [impl_Board_walk_1.f, if_pos (by omega), impl_Board_numbers_1.f, hK k (by omega), Option.bind_some, hcp, if_pos (by omega), if_pos (by rw [tab_len]; omega), tab_rd _ _ _ h1, w64 _ (by omega) (by omega), Int.toNat_natCast, tab_set, Option.bind_some]
    refine congrArg (fun z => some (p, z)) (tab_congr (fun k hk => ?_))
    by_cases e : k = pop t
    · subst e; rw [if_pos rfl, gain, if_pos (Nat.le_refl _), Nat.sub_self]; rfl
    · rw [if_neg e, gain]
      by_cases e2 : pop t ≤ k
      · rw [if_pos e2, ways, if_neg (by omega)]; omega
      · rw [if_neg e2]; omega
  | succ d ih =>
    intro r t p g hr ht hp hcnt hg
    have hrR : r < R := by omega
    have hp7 : 7 ^ (d + 1) = 7 * 7 ^ d := by rw [Nat.pow_succ, Nat.mul_comm]
    have hcast : ((7 ^ (d + 1) : Nat) : Int) = 7 * ((7 ^ d : Nat) : Int) := by rw [hp7]; push_cast; rfl
    -- the columns from c on
    have loop : ∀ (e c : Nat), C - c = e → c ≤ C → ∀ p1 : List Int, p1.length = R → p1.take r = p.take r →
        ∃ p' : List Int, p'.length = R ∧ p'.take r = p.take r ∧ Ev (fun k => impl_Board_walk_1.l0 k (R : Int) (C : Int) l (r : Int) t p1 (tab m (fun k => g k + (gain l C d (r + 1) t k : Int) + (sumTo (gterm l C d r t k) c : Int))) (c : Int)) (p', tab m (fun k => g k + (gain l C (d + 1) r t k : Int))) := by
      intro e
      induction e with
      | zero =>
        intro c he hc p1 hp1 ht1
        obtain rfl : c = C := by omega
        refine ⟨p1, hp1, ht1, 1, fun k hk => ?_⟩
        obtain ⟨k, rfl⟩ : ∃ m, k = m + 1 := ⟨k - 1, by omega⟩
        dsimp only
        rw [impl_Board_walk_1.l0, if_neg (by omega)]
        exact congrArg (fun z => some (p1, z)) (tab_congr (fun k hk => by rw [gain_succ l hC d r t ht k]; omega))
      | succ e ihe =>
        intro c he hc p1 hp1 ht1
        have hc1 : c < C := by omega
        have hsk := skips_eq hC hl hmask hrR hc1 ht
        by_cases hf : freeB l r c t = true
        · have hb : hasM t (c : Int) = false := by
            unfold freeB at hf
            rw [Bool.and_eq_true, Bool.not_eq_true'] at hf
            exact hf.2
          have hco := cols_orb hC ht hc1 hb
          obtain ⟨p2, hp2, ht2, hev⟩ := ih (r + 1) (orb t (c : Int)) (p1.set r (c : Int)) (fun k => g k + (gain l C d (r + 1) t k : Int) + (sumTo (gterm l C d r t k) c : Int)) (by omega) hco.1 (by rw [List.length_set]; exact hp1) (by rw [cnt_set p1 r _ (by omega), ht1, hcnt, hco.2, if_neg (by omega)]) (fun k => by
            have h1 := hg k
            have h2 := gain_le l hC d (r + 1) t k
            have h3 := gsum_le l hC d r t k c
            have h4 : c * 7 ^ d ≤ 5 * 7 ^ d := Nat.mul_le_mul_right _ (by omega)
            rw [hcast] at h1
            omega)
          have ht3 : p2.take r = p.take r := by
            have := congrArg (List.take r) ht2
            rw [List.take_take, List.take_take, Nat.min_eq_left (by omega), List.take_set_of_le (Nat.le_refl r)] at this
            rw [this, ht1]
          obtain ⟨p3, hp3, ht4, hev2⟩ := ihe (c + 1) (by omega) (by omega) p2 hp2 ht3
          refine ⟨p3, hp3, ht4, ?_⟩
          obtain ⟨K1, k1⟩ := ev_get hev
          obtain ⟨K2, k2⟩ := ev_get hev2
          refine ⟨K1 + K2 + 1, fun k hk => ?_⟩
          obtain ⟨k, rfl⟩ : ∃ m, k = m + 1 := ⟨k - 1, by omega⟩
          dsimp only
          have hmo : impl_Board_walk_1.more t (c : Int) = orb t (c : Int) := by unfold impl_Board_walk_1.more; rw [if_pos (by omega)]; exact orb_more hC ht hc1
          rw [impl_Board_walk_1.l0, if_pos (by omega), hsk, Option.bind_some, hf, if_neg (by simp), if_pos (by omega), if_pos (by omega), hmo, Int.toNat_natCast, w64 ((r : Int) + 1) (by omega) (by omega), show (r : Int) + 1 = ((r + 1 : Nat) : Int) by omega, k1 k (by omega), Option.bind_some, w64 ((c : Int) + 1) (by omega) (by omega), show (c : Int) + 1 = ((c + 1 : Nat) : Int) by omega]
          refine Eq.trans ?_ (k2 k (by omega))
          congr 1
          exact tab_congr (fun k hk => by
            have : gterm l C d r t k c = gain l C d (r + 1) (orb t (c : Int)) k := by unfold gterm; rw [if_pos hf]
            rw [sumTo, this]; omega)
        · have hf' : freeB l r c t = false := by simpa using hf
          obtain ⟨p3, hp3, ht4, hev2⟩ := ihe (c + 1) (by omega) (by omega) p1 hp1 ht1
          refine ⟨p3, hp3, ht4, ?_⟩
          obtain ⟨K2, k2⟩ := ev_get hev2
          refine ⟨K2 + 1, fun k hk => ?_⟩
          obtain ⟨k, rfl⟩ : ∃ m, k = m + 1 := ⟨k - 1, by omega⟩
          dsimp only
          rw [impl_Board_walk_1.l0, if_pos (by omega), hsk, Option.bind_some, hf', if_pos (show (!false) = true from rfl), w64 ((c : Int) + 1) (by omega) (by omega), show (c : Int) + 1 = ((c + 1 : Nat) : Int) by omega]
          refine Eq.trans ?_ (k2 k (by omega))
          congr 1
          exact tab_congr (fun k hk => by
            have : gterm l C d r t k c = 0 := by unfold gterm; rw [if_neg hf]
            rw [sumTo, this]; omega)
    -- no rook in this row
    obtain ⟨p2, hp2, ht2, hev⟩ := ih (r + 1) t (p.set r (-1)) g (by omega) ht (by rw [List.length_set]; exact hp) (by rw [cnt_set p r _ (by omega), hcnt, if_pos rfl]; omega) (fun k => by
      have h1 := hg k
      rw [hcast] at h1
      have : (0 : Int) ≤ ((7 ^ d : Nat) : Int) := by omega
      omega)
    have ht3 : p2.take r = p.take r := by
      have := congrArg (List.take r) ht2
      rw [List.take_take, List.take_take, Nat.min_eq_left (by omega), List.take_set_of_le (Nat.le_refl r)] at this
      exact this
    obtain ⟨p3, hp3, ht4, hev2⟩ := loop C 0 (by omega) (by omega) p2 hp2 ht3
    refine ⟨p3, hp3, ht4, ?_⟩
    obtain ⟨K1, k1⟩ := ev_get hev
    obtain ⟨K2, k2⟩ := ev_get hev2
    refine ⟨K1 + K2 + 2, fun k hk => ?_⟩
    obtain ⟨k, rfl⟩ : ∃ m, k = m + 2 := ⟨k - 2, by omega⟩
    dsimp only
    have hs0 : impl_Board_walk_1.skips (R : Int) (C : Int) l (r : Int) t (-1) = some false := by unfold impl_Board_walk_1.skips; rw [if_neg (by omega)]
    have hm0 : impl_Board_walk_1.more t (-1) = t := by unfold impl_Board_walk_1.more; rw [if_neg (by omega)]
    rw [impl_Board_walk_1.f, if_neg (by omega), impl_Board_walk_1.l0, if_pos (by omega), hs0, Option.bind_some, if_neg (by simp), if_pos (by omega), if_pos (by omega), hm0, Int.toNat_natCast, w64 ((r : Int) + 1) (by omega) (by omega), show (r : Int) + 1 = ((r + 1 : Nat) : Int) by omega, k1 k (by omega), Option.bind_some, w64 ((-1 : Int) + 1) (by omega) (by omega)]
    refine Eq.trans ?_ (k2 k (by omega))
    show impl_Board_walk_1.l0 k _ _ _ _ _ p2 _ (-1 + 1) = impl_Board_walk_1.l0 k _ _ _ _ _ p2 _ ((0 : Nat) : Int)
    congr 1
    exact tab_congr (fun k hk => by rw [sumTo]; omega)
end
end Go.Proofs.Ytnpacpdpgngdpaa.P
namespace Go.Proofs.Ytnpacpdpgngdpaa.Pure
open Go.RowKit Go.Proofs.Ytnpacpdpgngdpaa.P Go.Proofs.YtnpacpdpgngdpaaW.PrintWords Go.Proofs.YtnpacpdpgngdpaaW.PrintLast
set_option linter.unusedSimpArgs false
set_option linter.unusedVariables false
namespace PutC
theorem bits_put : ∀ m : Fin 64, ∀ c : Fin 6,
    (Go.bits .or .i64 (Go.bits .andNot .i64 (m.val : Int) (shl .i64 1 (c.val : Int))) (shl .i64 1 (c.val : Int))) = Go.bits .or .i64 (m.val : Int) (shl .i64 1 (c.val : Int)) ∧
    wrap64 (Go.bits .or .i64 (m.val : Int) (shl .i64 1 (c.val : Int)) - shl .i64 1 (c.val : Int)) = Go.bits .andNot .i64 (m.val : Int) (shl .i64 1 (c.val : Int)) := by decide +kernel
theorem bits_put' (m c : Int) (h0 : 0 ≤ m) (h1 : m ≤ 63) (h2 : 0 ≤ c) (h3 : c ≤ 5) :
    (Go.bits .or .i64 (Go.bits .andNot .i64 m (shl .i64 1 c)) (shl .i64 1 c)) = Go.bits .or .i64 m (shl .i64 1 c) ∧
    wrap64 (Go.bits .or .i64 m (shl .i64 1 c) - shl .i64 1 c) = Go.bits .andNot .i64 m (shl .i64 1 c) := by
  have h := bits_put ⟨m.toNat, by omega⟩ ⟨c.toNat, by omega⟩
  simp only [show ((m.toNat : Nat) : Int) = m by omega, show ((c.toNat : Nat) : Int) = c by omega] at h
  exact h
def R (r c : Int) (l : List Int) (x y : Int) (on : Bool) : Int × Int × List Int × Bool :=
  if (boardB r c l && placeB r c x y) = true then (r, c, l.set x.toNat (if on = true then Go.bits .or .i64 (rd l x) (shl .i64 1 y) else Go.bits .andNot .i64 (rd l x) (shl .i64 1 y)), true) else (0, 0, [], false)
theorem row_at {r c x y : Int} {l : List Int} (h : (boardB r c l && placeB r c x y) = true) : (0 ≤ x ∧ x < l.length) ∧ (0 ≤ y ∧ y ≤ 5) ∧ l.length ≤ 6 ∧ 0 ≤ rd l x ∧ rd l x ≤ 63 := by
  rw [Bool.and_eq_true] at h
  obtain ⟨hr, hc, hl, hm⟩ := (boardB_iff r c l).1 h.1
  have hp := of_decide_eq_true h.2
  have hx : x.toNat < l.length := by omega
  have hp6 := pow_le6 c hc.2
  have := hm l[x.toNat] (List.getElem_mem hx)
  have e : rd l x = l[x.toNat] := by
    have := rd_nat l x.toNat hx
    rwa [show ((x.toNat : Nat) : Int) = x by omega] at this
  rw [e]
  refine ⟨by omega, by omega, by omega, by omega, by omega⟩
theorem own_eq (l : List Int) (h : l.length < 17592186044416) : spec_l1Own.f l = some l := by
  unfold spec_l1Own.f; simp [h]
theorem rd_set (l : List Int) (x v : Int) (h0 : 0 ≤ x) (h1 : x < l.length) : rd (l.set x.toNat v) x = v := by
  unfold rd
  rw [List.getD_eq_getElem?_getD, List.getElem?_set_self (by omega)]
  rfl
theorem impl_ev (r c : Int) (l : List Int) (x y : Int) (on : Bool) (hb : l.length ≤ 1152921504606846976) : Ev (fun k => impl_PutCell.f k r c l x y on) (R r c l x y on) := by
  refine ⟨1, fun k hk => ?_⟩
  obtain ⟨k, rfl⟩ : ∃ m, k = m + 1 := ⟨k - 1, by omega⟩
  unfold R
  simp only [impl_PutCell.f, impl_IsBoard.f, Option.bind_some]
  by_cases hbo : boardB r c l = true
  · have hbi := (boardB_iff r c l).1 hbo
    rw [if_pos hbo, place_eq r c l x y (by omega) (by omega), Option.bind_some, impl_PutCell.j0]
    by_cases hp : placeB r c x y = true
    · have h : (boardB r c l && placeB r c x y) = true := by rw [hbo, hp]; rfl
      obtain ⟨hx, hy, hl, hm0, hm1⟩ := row_at h
      obtain ⟨e1, e2⟩ := bits_put' (rd l x) y hm0 hm1 hy.1 hy.2
      rw [if_pos h, hp, if_neg (by simp)]
      have hcl : slices_Clone_int_int.f l = some l := if_pos (by omega)
      simp only [impl_Board_copied.f, hcl, Option.bind_some]
      rw [if_pos hx.1, if_pos hx.2, if_pos hy.1]
      cases on with
      | true => simp only [if_true, rd_set l x _ hx.1 hx.2, e1, List.set_set]
      | false => simp
    · simp only [Bool.not_eq_true] at hp
      rw [hp, hbo]; simp
  · simp only [Bool.not_eq_true] at hbo
    rw [hbo, if_neg (by simp), impl_PutCell.j0]; simp
end PutC
end Go.Proofs.Ytnpacpdpgngdpaa.Pure
namespace Go.Proofs.Ytnpacpdpgngdpaa.Pure
open Go.RowKit Go.Proofs.Ytnpacpdpgngdpaa.P Go.Proofs.YtnpacpdpgngdpaaW.PrintWords Go.Proofs.YtnpacpdpgngdpaaW.PrintLast
set_option linter.unusedSimpArgs false
set_option linter.unusedVariables false
namespace FnExactNumbersByCell
def num (l : List Int) (R C : Nat) : List Int := tab (min R C) (fun k => (P.ways l C R 0 0 k : Int))
theorem ways_k0 (l : List Int) (C : Nat) : ∀ (d r : Nat) (t : Int), P.ways l C d r t 0 = 1
  | 0, _, _ => rfl
  | d + 1, r, t => by
    rw [ways_succ, ways_k0 l C d]
    have : sumTo (term l C d r t 0) C = sumTo (fun _ => 0) C := sumTo_congr (fun c _ => by unfold term; split <;> rfl)
    rw [this, sumTo_zero]
theorem num_one (l : List Int) (R C : Nat) (h : min R C = 0) : num l R C = [1] := by
  unfold num
  rw [h]
  simp [tab, ways_k0]
theorem specNum_ev {l : List Int} {R C : Nat} (hR : R ≤ 6) (hC : C ≤ 6) (hl : l.length = R) : Ev (fun k => spec_roNumbers.f k (R : Int) (C : Int) l) (num l R C) := by
  obtain ⟨K, hK⟩ := ev_get (roWays_ev hR hC hl rfl R 0 0 (by omega) (cols_zero C))
  refine ⟨K, fun k hk => ?_⟩
  simp only [spec_roNumbers.f]
  have := hK k hk
  rw [show ((0 : Nat) : Int) = 0 from rfl] at this
  rw [this]; rfl
theorem implNum_ev {l : List Int} {R C : Nat} (hR : R ≤ 6) (hC : C ≤ 6) (hl : l.length = R) (hmask : ∀ i : Nat, i < R → 0 ≤ rd l (i : Int) ∧ rd l (i : Int) ≤ 63) : Ev (fun k => impl_Board_numbers.f k (R : Int) (C : Int) l) (num l R C) := by
  obtain ⟨p', _, _, h⟩ := walk_ev hR hC hl rfl hmask R 0 0 (List.replicate R 0) (fun _ => 0) (by omega) (cols_zero C) (by simp) (by rw [pop_zero]; rfl) (fun k => by
    have : 7 ^ R ≤ 7 ^ 6 := Nat.pow_le_pow_right (by omega) hR
    have e : (7 : Nat) ^ 6 = 117649 := by decide
    omega)
  obtain ⟨K, hK⟩ := ev_get h
  have hm : mn (R : Int) (C : Int) = ((min R C : Nat) : Int) := by unfold mn; split <;> omega
  refine ⟨K, fun k hk => ?_⟩
  simp only [impl_Board_numbers.f, hm]
  rw [w64 _ (by omega) (by omega), if_pos (by omega), if_pos (by omega), show (((min R C : Nat) : Int) + 1).toNat = min R C + 1 by omega, tab_repl]
  simp only [impl_Board_walk.f]
  have := hK k hk
  rw [show ((0 : Nat) : Int) = 0 from rfl] at this
  rw [if_pos (by omega), if_pos (by omega), Int.toNat_natCast, this, Option.bind_some]
  refine congrArg some (tab_congr (fun k hk => ?_))
  rw [gain, pop_zero, if_pos (Nat.zero_le _), Nat.sub_zero]; omega
def sf (y m : Int) : Int := Go.bits .or .i64 (Go.bits .and .i64 m (wrap64 ((shl .i64 1 y) - 1))) (shl .i64 (shr .i64 m (wrap64 (y + 1))) y)
theorem sf_fin : ∀ m : Fin 64, ∀ y : Fin 6, 0 ≤ sf (y.val : Int) (m.val : Int) ∧ sf (y.val : Int) (m.val : Int) ≤ 63 := by decide +kernel
theorem sub_fin : ∀ m : Fin 64, ∀ y : Fin 6, hasM (m.val : Int) (y.val : Int) = true → wrap64 ((m.val : Int) - shl .i64 1 (y.val : Int)) = Go.bits .andNot .i64 (m.val : Int) (shl .i64 1 (y.val : Int)) := by decide +kernel
theorem and_fin : ∀ m : Fin 64, ∀ y : Fin 6, 0 ≤ Go.bits .andNot .i64 (m.val : Int) (shl .i64 1 (y.val : Int)) ∧ Go.bits .andNot .i64 (m.val : Int) (shl .i64 1 (y.val : Int)) ≤ 63 := by decide +kernel
def strikeFrom (x : Nat) (y : Int) : Nat → List Int → List Int
  | _, [] => []
  | i, m :: s => if i = x then strikeFrom x y (i + 1) s else sf y m :: strikeFrom x y (i + 1) s
theorem strike_mem (x : Nat) (y : Int) : ∀ (s : List Int) (i : Nat) (v : Int), v ∈ strikeFrom x y i s → ∃ m ∈ s, v = sf y m
  | [], _, _, h => by simp [strikeFrom] at h
  | m :: s, i, v, h => by
    rw [strikeFrom] at h
    split at h
    · obtain ⟨m', h1, h2⟩ := strike_mem x y s (i + 1) v h
      exact ⟨m', List.mem_cons_of_mem _ h1, h2⟩
    · rcases List.mem_cons.1 h with rfl | h
      · exact ⟨m, List.mem_cons_self .., rfl⟩
      · obtain ⟨m', h1, h2⟩ := strike_mem x y s (i + 1) v h
        exact ⟨m', List.mem_cons_of_mem _ h1, h2⟩
theorem strike_len (x : Nat) (y : Int) : ∀ (s : List Int) (i : Nat), (strikeFrom x y i s).length = if i ≤ x ∧ x < i + s.length then s.length - 1 else s.length
  | [], i => by simp [strikeFrom]
  | m :: s, i => by
    rw [strikeFrom]
    by_cases e : i = x
    · rw [if_pos e, strike_len x y s (i + 1), if_neg (by omega), if_pos ⟨by omega, by simp; omega⟩]; simp
    · rw [if_neg e, List.length_cons, strike_len x y s (i + 1), List.length_cons]
      by_cases e2 : i + 1 ≤ x ∧ x < i + 1 + s.length
      · rw [if_pos e2, if_pos (by omega)]; omega
      · rw [if_neg e2, if_neg (by omega)]
theorem strike_l0 (l : List Int) (hl : l.length ≤ 6) (x : Nat) (y : Int) (hy : 0 ≤ y ∧ y ≤ 5) (a b : Int) : ∀ (d i : Nat) (acc : List Int), l.length - i = d → i ≤ l.length → acc.length ≤ i →
    Ev (fun k => spec_boStrike.l0 k (x : Int) y l (l.length : Int) (i : Int) a b acc) (a, b, acc ++ strikeFrom x y i (l.drop i)) := by
  intro d
  induction d with
  | zero =>
    intro i acc hd hi ha
    refine ⟨1, fun k hk => ?_⟩
    obtain ⟨k, rfl⟩ : ∃ m, k = m + 1 := ⟨k - 1, by omega⟩
    dsimp only
    rw [spec_boStrike.l0, if_neg (by omega), List.drop_eq_nil_of_le (by omega), strikeFrom, List.append_nil]
  | succ d ih =>
    intro i acc hd hi ha
    have h1 : i < l.length := by omega
    rw [drop_cons l i h1, strikeFrom]
    by_cases e : i = x
    · obtain ⟨K, hK⟩ := ev_get (ih (i + 1) acc (by omega) (by omega) (by omega))
      refine ⟨K + 1, fun k hk => ?_⟩
      obtain ⟨k, rfl⟩ : ∃ m, k = m + 1 := ⟨k - 1, by omega⟩
      dsimp only
      rw [if_pos e, spec_boStrike.l0, if_pos (by omega), if_pos (by omega), if_pos (by omega), if_pos (by omega), w64 _ (by omega) (by omega)]
      exact hK k (by omega)
    · obtain ⟨K, hK⟩ := ev_get (ih (i + 1) (acc ++ [sf y l[i]]) (by omega) (by omega) (by simp; omega))
      refine ⟨K + 1, fun k hk => ?_⟩
      obtain ⟨k, rfl⟩ : ∃ m, k = m + 1 := ⟨k - 1, by omega⟩
      dsimp only
      have hw : 0 ≤ wrap64 (y + 1) := by rw [w64 _ (by omega) (by omega)]; omega
      rw [if_neg e, spec_boStrike.l0, if_pos (by omega), if_pos (by omega), if_pos (by omega), if_neg (by omega), if_pos hy.1, if_pos hw, if_pos (by omega), rd_nat l i h1, w64 ((i : Int) + 1) (by omega) (by omega)]
      have := hK k (by omega)
      rw [List.append_assoc, List.singleton_append] at this
      exact this
theorem strike_same : ∀ (k : Nat) (x y : Int) (l : List Int) (n i a b : Int) (acc : List Int), impl_Board_strike.l0 k x y l n i a b acc = spec_boStrike.l0 k x y l n i a b acc
  | 0, _, _, _, _, _, _, _, _ => rfl
  | k + 1, x, y, l, n, i, a, b, acc => by
    rw [impl_Board_strike.l0, spec_boStrike.l0]
    simp only [strike_same k]
def good (r c : Int) (l : List Int) (x y : Int) : Bool := (boardB r c l && placeB r c x y) && hasC l x y
def R (r c : Int) (l : List Int) (x y : Int) : List Int × List Int × Bool :=
  if good r c l x y = true then (num (l.set x.toNat (Go.bits .andNot .i64 (rd l x) (shl .i64 1 y))) r.toNat c.toNat, num (strikeFrom x.toNat y 0 l) (r.toNat - 1) (c.toNat - 1), true) else ([], [], false)
theorem masks {r c : Int} {l : List Int} (h : boardB r c l = true) : ∀ i : Nat, i < l.length → 0 ≤ rd l (i : Int) ∧ rd l (i : Int) ≤ 63 := by
  intro i hi
  obtain ⟨hr, hc, hl, hm⟩ := (boardB_iff r c l).1 h
  exact board_row h (by omega) (by omega)
theorem masks_set {l : List Int} {X : Nat} {v : Int} (hl : ∀ i : Nat, i < l.length → 0 ≤ rd l (i : Int) ∧ rd l (i : Int) ≤ 63) (hv : 0 ≤ v ∧ v ≤ 63) : ∀ i : Nat, i < l.length → 0 ≤ rd (l.set X v) (i : Int) ∧ rd (l.set X v) (i : Int) ≤ 63 := by
  intro i hi
  have h := hl i hi
  rw [rd_nat _ _ hi] at h
  rw [rd_nat _ _ (by rw [List.length_set]; exact hi), List.getElem_set]
  split
  · exact hv
  · exact h
theorem masks_strike {l : List Int} {X : Nat} {y : Int} (hy : 0 ≤ y ∧ y ≤ 5) (hl : ∀ i : Nat, i < l.length → 0 ≤ rd l (i : Int) ∧ rd l (i : Int) ≤ 63) : ∀ i : Nat, i < (strikeFrom X y 0 l).length → 0 ≤ rd (strikeFrom X y 0 l) (i : Int) ∧ rd (strikeFrom X y 0 l) (i : Int) ≤ 63 := by
  intro i hi
  rw [rd_nat _ _ hi]
  obtain ⟨m, hm, e⟩ := strike_mem X y l 0 _ (List.getElem_mem hi)
  obtain ⟨j, hj, rfl⟩ := List.getElem_of_mem hm
  have h := hl j hj
  rw [rd_nat _ _ hj] at h
  rw [e]
  have := sf_fin ⟨(l[j]).toNat, by omega⟩ ⟨y.toNat, by omega⟩
  simpa only [show (((l[j]).toNat : Nat) : Int) = l[j] by omega, show ((y.toNat : Nat) : Int) = y by omega] using this
theorem spec_ev (r c : Int) (l : List Int) (x y : Int) (hb : l.length ≤ 1152921504606846976) : Ev (fun k => spec_NumbersByCell.f k r c l x y) (R r c l x y) := by
  obtain ⟨K1, h1⟩ := ev_get (boPlace_ev r c l x y hb)
  unfold R good
  by_cases h : (boardB r c l && placeB r c x y) = true
  case neg =>
    refine ⟨K1 + 1, fun k hk => ?_⟩
    obtain ⟨k, rfl⟩ : ∃ m, k = m + 1 := ⟨k - 1, by omega⟩
    rw [Bool.not_eq_true] at h
    simp only [spec_NumbersByCell.f, h1 (k + 1) (by omega), Option.bind_some, h, Bool.false_eq_true, if_false, Bool.false_and]
    rw [spec_NumbersByCell.j0, if_pos rfl]
  have h0 := h
  rw [Bool.and_eq_true] at h
  obtain ⟨hr, hc, hl, hm⟩ := (boardB_iff r c l).1 h.1
  have hp := of_decide_eq_true h.2
  have hh := boHas_eq (j := y) h.1 hp.1.1 (by omega) hp.2.1
  by_cases hc1 : hasC l x y = true
  case neg =>
    rw [Bool.not_eq_true] at hc1
    refine ⟨K1 + 1, fun k hk => ?_⟩
    obtain ⟨k, rfl⟩ : ∃ m, k = m + 1 := ⟨k - 1, by omega⟩
    simp only [spec_NumbersByCell.f, h1 (k + 1) (by omega), Option.bind_some, h0, hh, hc1, Bool.and_false, Bool.false_eq_true, if_false, if_true, Bool.not_false]
    rw [spec_NumbersByCell.j0, if_pos rfl]
  obtain ⟨Rn, rfl⟩ : ∃ n : Nat, r = (n : Int) := ⟨r.toNat, by omega⟩
  obtain ⟨Cn, rfl⟩ : ∃ n : Nat, c = (n : Int) := ⟨c.toNat, by omega⟩
  obtain ⟨X, rfl⟩ : ∃ n : Nat, x = (n : Int) := ⟨x.toNat, by omega⟩
  have hrow := board_row h.1 hp.1.1 (by omega)
  have hsub : wrap64 (rd l (X : Int) - shl .i64 1 y) = Go.bits .andNot .i64 (rd l (X : Int)) (shl .i64 1 y) := by
    have := sub_fin ⟨(rd l (X : Int)).toNat, by omega⟩ ⟨y.toNat, by omega⟩
    simp only [show (((rd l (X : Int)).toNat : Nat) : Int) = rd l (X : Int) by omega, show ((y.toNat : Nat) : Int) = y by omega] at this
    exact this hc1
  have hsl : (strikeFrom X y 0 l).length = Rn - 1 := by rw [strike_len, if_pos (by omega)]; omega
  obtain ⟨K2, h2⟩ := ev_get (specNum_ev (l := l.set X (Go.bits .andNot .i64 (rd l (X : Int)) (shl .i64 1 y))) (R := Rn) (C := Cn) (by omega) (by omega) (by rw [List.length_set]; omega))
  obtain ⟨K3, h3⟩ := ev_get (strike_l0 l (by omega) X y (by omega) (((Rn - 1 : Nat) : Int)) (((Cn - 1 : Nat) : Int)) l.length 0 [] (by omega) (by omega) (by simp))
  obtain ⟨K4, h4⟩ := ev_get (specNum_ev (l := strikeFrom X y 0 l) (R := Rn - 1) (C := Cn - 1) (by omega) (by omega) hsl)
  refine ⟨K1 + K2 + K3 + K4 + 1, fun k hk => ?_⟩
  obtain ⟨k, rfl⟩ : ∃ m, k = m + 1 := ⟨k - 1, by omega⟩
  have h3' := h3 k (by omega)
  simp only [List.nil_append, List.drop_zero] at h3'
  have hst : spec_boStrike.f k (Rn : Int) (Cn : Int) l (X : Int) y = some (((Rn - 1 : Nat) : Int), ((Cn - 1 : Nat) : Int), strikeFrom X y 0 l) := by
    simp only [spec_boStrike.f]
    rw [w64 _ (by omega) (by omega), w64 _ (by omega) (by omega), show (Rn : Int) - 1 = ((Rn - 1 : Nat) : Int) by omega, show (Cn : Int) - 1 = ((Cn - 1 : Nat) : Int) by omega]
    exact h3'
  simp only [spec_NumbersByCell.f, h1 (k + 1) (by omega), Option.bind_some, h0, hh, hc1, Bool.and_self, if_true, Bool.not_true]
  rw [spec_NumbersByCell.j0, if_neg (by simp), spec_boOwn.f, PutC.own_eq l (by omega), Option.bind_some, Option.bind_some]
  simp only [Int.toNat_natCast]
  rw [if_pos (by omega), if_pos (by omega), if_pos hp.2.1, hsub, h2 k (by omega), Option.bind_some, hst, Option.bind_some]
  simp only [h4 k (by omega), Option.bind_some]
theorem impl_ev (r c : Int) (l : List Int) (x y : Int) (hb : l.length ≤ 1152921504606846976) : Ev (fun k => impl_NumbersByCell.f k r c l x y) (R r c l x y) := by
  unfold R good
  have none_ : ∀ k, impl_NumbersByCell.j0 (k + 1) x y true r c l = some (([] : List Int), ([] : List Int), false) := by
    intro k
    rw [impl_NumbersByCell.j0, if_pos rfl]
  by_cases hbo : boardB r c l = true
  case neg =>
    rw [Bool.not_eq_true] at hbo
    refine ⟨1, fun k hk => ?_⟩
    obtain ⟨k, rfl⟩ : ∃ m, k = m + 1 := ⟨k - 1, by omega⟩
    simp only [impl_NumbersByCell.f, impl_IsBoard.f, Option.bind_some, hbo, Bool.false_eq_true, if_false, Bool.false_and]
    exact none_ k
  obtain ⟨hr, hc, hl, hm⟩ := (boardB_iff r c l).1 hbo
  have hpl := place_eq r c l x y (by omega) (by omega)
  by_cases hpb : placeB r c x y = true
  case neg =>
    rw [Bool.not_eq_true] at hpb
    refine ⟨1, fun k hk => ?_⟩
    obtain ⟨k, rfl⟩ : ∃ m, k = m + 1 := ⟨k - 1, by omega⟩
    simp only [impl_NumbersByCell.f, impl_IsBoard.f, Option.bind_some, hbo, hpl, hpb, Bool.false_eq_true, if_true, if_false, Bool.false_and, Bool.and_false]
    exact none_ k
  have hp := of_decide_eq_true hpb
  have hh := has_eq (j := y) hbo hp.1.1 (by omega) hp.2.1 (by omega)
  by_cases hc1 : hasC l x y = true
  case neg =>
    rw [Bool.not_eq_true] at hc1
    refine ⟨1, fun k hk => ?_⟩
    obtain ⟨k, rfl⟩ : ∃ m, k = m + 1 := ⟨k - 1, by omega⟩
    simp only [impl_NumbersByCell.f, impl_IsBoard.f, Option.bind_some, hbo, hpl, hpb, hh, hc1, Bool.false_eq_true, if_true, if_false, Bool.and_false, Bool.not_false]
    exact none_ k
  obtain ⟨K1, h1⟩ := ev_get (PutC.impl_ev r c l x y false hb)
  obtain ⟨Rn, rfl⟩ : ∃ n : Nat, r = (n : Int) := ⟨r.toNat, by omega⟩
  obtain ⟨Cn, rfl⟩ : ∃ n : Nat, c = (n : Int) := ⟨c.toNat, by omega⟩
  obtain ⟨X, rfl⟩ : ∃ n : Nat, x = (n : Int) := ⟨x.toNat, by omega⟩
  have hrow := board_row hbo hp.1.1 (by omega)
  have hand := and_fin ⟨(rd l (X : Int)).toNat, by omega⟩ ⟨y.toNat, by omega⟩
  simp only [show (((rd l (X : Int)).toNat : Nat) : Int) = rd l (X : Int) by omega, show ((y.toNat : Nat) : Int) = y by omega] at hand
  have hsl : (strikeFrom X y 0 l).length = Rn - 1 := by rw [strike_len, if_pos (by omega)]; omega
  obtain ⟨K2, h2⟩ := ev_get (implNum_ev (l := l.set X (Go.bits .andNot .i64 (rd l (X : Int)) (shl .i64 1 y))) (R := Rn) (C := Cn) (by omega) (by omega) (by rw [List.length_set]; omega) (fun i hi => masks_set (masks hbo) hand i (by omega)))
  obtain ⟨K3, h3⟩ := ev_get (strike_l0 l (by omega) X y (by omega) (((Rn - 1 : Nat) : Int)) (((Cn - 1 : Nat) : Int)) l.length 0 [] (by omega) (by omega) (by simp))
  obtain ⟨K4, h4⟩ := ev_get (implNum_ev (l := strikeFrom X y 0 l) (R := Rn - 1) (C := Cn - 1) (by omega) (by omega) hsl (fun i hi => masks_strike (by omega) (masks hbo) i (by omega)))
  refine ⟨K1 + K2 + K3 + K4 + 2, fun k hk => ?_⟩
  obtain ⟨k, rfl⟩ : ∃ m, k = m + 2 := ⟨k - 2, by omega⟩
  have h3' := h3 k (by omega)
  simp only [List.nil_append, List.drop_zero] at h3'
  have hst : impl_Board_strike.f k (Rn : Int) (Cn : Int) l (X : Int) y = some (((Rn - 1 : Nat) : Int), ((Cn - 1 : Nat) : Int), strikeFrom X y 0 l) := by
    simp only [impl_Board_strike.f, strike_same]
    rw [w64 _ (by omega) (by omega), w64 _ (by omega) (by omega), show (Rn : Int) - 1 = ((Rn - 1 : Nat) : Int) by omega, show (Cn : Int) - 1 = ((Cn - 1 : Nat) : Int) by omega]
    exact h3'
  have hput := h1 (k + 1) (by omega)
  rw [PutC.R, if_pos (by rw [hbo, hpb]; rfl), if_neg (by simp)] at hput
  simp only [impl_NumbersByCell.f, impl_IsBoard.f, Option.bind_some, hbo, hpl, hpb, hh, hc1, if_true, Bool.and_self, Bool.not_true]
  rw [impl_NumbersByCell.j0, if_neg (by simp), hput, Option.bind_some, Option.bind_some]
  simp only [Int.toNat_natCast]
  have ev1 : ∀ b : Bool, b = decide ((Rn : Int) > 1 ∧ (Cn : Int) > 1) → impl_NumbersByCell.j1 (k + 1) (X : Int) y [1] b (Rn : Int) (Cn : Int) l (Rn : Int) (Cn : Int) (l.set X (Go.bits .andNot .i64 (rd l (X : Int)) (shl .i64 1 y))) = some (num (l.set X (Go.bits .andNot .i64 (rd l (X : Int)) (shl .i64 1 y))) Rn Cn, num (strikeFrom X y 0 l) (Rn - 1) (Cn - 1), true) := by
    intro b hbd
    by_cases hg : (Rn : Int) > 1 ∧ (Cn : Int) > 1
    · rw [decide_eq_true hg] at hbd
      subst hbd
      rw [impl_NumbersByCell.j1, if_pos rfl, hst, Option.bind_some]
      simp only [h4 k (by omega), h2 k (by omega), Option.bind_some]
    · rw [decide_eq_false hg] at hbd
      subst hbd
      rw [impl_NumbersByCell.j1, if_neg (by simp)]
      simp only [h2 k (by omega), Option.bind_some]
      rw [num_one (strikeFrom X y 0 l) (Rn - 1) (Cn - 1) (by omega)]
  by_cases hR1 : (Rn : Int) > 1
  · rw [if_pos hR1]
    exact ev1 _ (by simp [hR1])
  · rw [if_neg hR1]
    exact ev1 _ (by simp [hR1])
theorem R_small (r c : Int) (l : List Int) (x y : Int) (hb : l.length ≤ 1152921504606846976) : (R r c l x y).1.length ≤ 1000 ∧ (R r c l x y).2.1.length ≤ 1000 := by
  unfold R
  by_cases h : good r c l x y = true
  · rw [if_pos h]
    unfold good at h
    rw [Bool.and_eq_true, Bool.and_eq_true] at h
    obtain ⟨hr, hc, hl, hm⟩ := (boardB_iff r c l).1 h.1.1
    simp only [num, tab_len]
    omega
  · rw [if_neg h]; simp
end FnExactNumbersByCell
open FnExactNumbersByCell in
theorem FnExactNumbersByCell : laws_FnExactNumbersByCell.Pure := by
  intro a0_0 a0_1 l0_2 a1 a2 hy0 hy1 hy2 hy3 hy4
  have hl_l0_2 := hy2.1
  simp only [maxLen] at hl_l0_2
  by_cases hb_l0_2 : (1048576 : Int) - l0_2.length < 0
  · refine ⟨0, ?_⟩
    unfold laws_FnExactNumbersByCell.f
    rw [szBoard_eq a0_0 a0_1 l0_2 _ (by omega) (by omega) (by simp only [maxLen]; omega), if_pos hb_l0_2, Option.bind_some, if_pos (by omega)]
  have h1 := (szBoard_eq a0_0 a0_1 l0_2 ((1048576 : Int)) (by omega) (by omega) (by simp only [maxLen]; omega)).trans (by rw [if_neg hb_l0_2])
  obtain ⟨K2, h2⟩ := ev_get (spec_ev a0_0 a0_1 l0_2 a1 a2 (by omega))
  obtain ⟨K3, h3⟩ := ev_get (impl_ev a0_0 a0_1 l0_2 a1 a2 (by omega))
  have hr := R_small a0_0 a0_1 l0_2 a1 a2 (by omega)
  generalize R a0_0 a0_1 l0_2 a1 a2 = R at *
  obtain ⟨hs0, hs1⟩ := hr
  obtain ⟨K4, h4⟩ := ev_get (eqIntS_ev R.1 R.1 (by omega))
  obtain ⟨K5, h5⟩ := ev_get (markIntS_ev R.1 ((1 : Int)) (by omega) (by omega) (by omega))
  obtain ⟨K6, h6⟩ := ev_get (heldIntS_ev R.1.length ((1 : Int)) (by omega) (by omega) (by omega))
  have er1 : ¬ ((1 : Int) + (R.1.length : Int) < 0) := by omega
  obtain ⟨K7, h7⟩ := ev_get (eqIntS_ev R.2.1 R.2.1 (by omega))
  obtain ⟨K8, h8⟩ := ev_get (markIntS_ev R.2.1 ((1 : Int) + (R.1.length : Int)) (by omega) (by omega) (by omega))
  obtain ⟨K9, h9⟩ := ev_get (heldIntS_ev R.2.1.length ((1 : Int) + (R.1.length : Int)) (by omega) (by omega) (by omega))
  have er2 : ¬ ((1 : Int) + (R.1.length : Int) + (R.2.1.length : Int) < 0) := by omega
  obtain ⟨K10, h10⟩ := ev_get (toBoard_ev a0_0 a0_1 l0_2 (by omega))
  obtain ⟨K11, h11⟩ := ev_get (eqBoard_ev a0_0 a0_1 l0_2 (by omega))
  obtain ⟨K12, h12⟩ := ev_get (markBoard_ev a0_0 a0_1 l0_2 (by omega))
  have em_l0_2 : ¬ ((1 : Int) + l0_2.length < 0) := by omega
  obtain ⟨m, hm⟩ : ∃ m, m = K2 + K3 + K4 + K5 + K6 + K7 + K8 + K9 + K10 + K11 + K12 := ⟨_, rfl⟩
  replace h2 := fun j => h2 (m + j) (by omega)
  replace h3 := fun j => h3 (m + j) (by omega)
  replace h4 := fun j => h4 (m + j) (by omega)
  replace h5 := fun j => h5 (m + j) (by omega)
  replace h6 := fun j => h6 (m + j) (by omega)
  replace h7 := fun j => h7 (m + j) (by omega)
  replace h8 := fun j => h8 (m + j) (by omega)
  replace h9 := fun j => h9 (m + j) (by omega)
  replace h10 := fun j => h10 (m + j) (by omega)
  replace h11 := fun j => h11 (m + j) (by omega)
  replace h12 := fun j => h12 (m + j) (by omega)
  clear hm
  refine ⟨m + 4, ?_⟩
  unfold laws_FnExactNumbersByCell.f
  simp only [h1, h2, h3, h4, h5, h6, h7, h8, h9, h10, h11, h12, Option.bind_some, decide_true, if_true, bne_self_eq_false, Bool.false_eq_true, if_false, if_neg hb_l0_2, if_neg er1, if_neg er2, if_neg em_l0_2]
  rw [laws_FnExactNumbersByCell.j0]
  simp only [h1, h2, h3, h4, h5, h6, h7, h8, h9, h10, h11, h12, Option.bind_some, decide_true, if_true, bne_self_eq_false, Bool.false_eq_true, if_false, if_neg hb_l0_2, if_neg er1, if_neg er2, if_neg em_l0_2]
  rw [laws_FnExactNumbersByCell.j1]
  simp only [h1, h2, h3, h4, h5, h6, h7, h8, h9, h10, h11, h12, Option.bind_some, decide_true, if_true, bne_self_eq_false, Bool.false_eq_true, if_false, if_neg hb_l0_2, if_neg er1, if_neg er2, if_neg em_l0_2]
  rw [laws_FnExactNumbersByCell.j2]
  simp only [h1, h2, h3, h4, h5, h6, h7, h8, h9, h10, h11, h12, Option.bind_some, decide_true, if_true, bne_self_eq_false, Bool.false_eq_true, if_false, if_neg hb_l0_2, if_neg er1, if_neg er2, if_neg em_l0_2]
end Go.Proofs.Ytnpacpdpgngdpaa.Pure
