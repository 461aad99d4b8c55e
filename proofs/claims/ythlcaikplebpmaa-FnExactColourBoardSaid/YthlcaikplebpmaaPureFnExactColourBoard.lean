/- For every board and colour ColourBoard returns what the reference returns, in memory of its own, and leaves its board as it was: no condition but that the arguments can be read. -/
import Derived.Test.YthlcaikplebpmaaPx0
import Derived.Test.YthlcaikplebpmaaQ5d21c5e0d1
import Derived.Test.YthlcaikplebpmaaQ068efbf923
import Derived.Test.YthlcaikplebpmaaQad733cfde0
import Derived.Test.YthlcaikplebpmaaQ60e402f868
import Derived.Test.YthlcaikplebpmaaQ00e602a585
import Derived.Test.YthlcaikplebpmaaQb1b3d8addd
namespace Go.Proofs.Ythlcaikplebpmaa.P
open Go.RowKit Go.Proofs.YthlcaikplebpmaaW.PrintWords Go.Proofs.YthlcaikplebpmaaW.PrintLast Go.Proofs.YthlcaikplebpmaaW.PrintMore
set_option linter.unusedVariables false
set_option linter.unusedSimpArgs false
theorem w64 (n : Int) (h : -9223372036854775808 ≤ n) (h2 : n ≤ 9223372036854775807) : wrap64 n = n := by unfold wrap64; omega
theorem rd_nat (l : List Int) (i : Nat) (h : i < l.length) : rd l (i : Int) = l[i] := by
  unfold rd; simp [List.getD_eq_getElem?_getD, List.getElem?_eq_getElem h]
theorem drop_cons (l : List Int) (i : Nat) (h : i < l.length) : l.drop i = l[i] :: l.drop (i + 1) := List.drop_eq_getElem_cons h
theorem ev_get {α : Type} {g : Nat → Option α} {r : α} (h : Ev g r) : ∃ K, ∀ k, K ≤ k → g k = some r := h
theorem take_set_succ {α : Type} (l : List α) (i : Nat) (x : α) (h : i < l.length) : (l.set i x).take (i + 1) = l.take i ++ [x] := by
  rw [List.take_add_one, List.take_set_of_le (Nat.le_refl _)]
  simp [h]
theorem toIntS_l0 (x0 : List Int) (hl : x0.length ≤ 1152921504606846976) : ∀ (d i : Nat) (x3 : List Int) (k : Nat), x0.length - i = d → i ≤ x0.length → x3.length = x0.length → d < k →
    laws_toIntS.l0 k x0 x3 (i : Int) = some (x3.take i ++ x0.drop i) := by
  intro d
  induction d with
  | zero =>
    intro i x3 k hd hi hx hk
    obtain ⟨k, rfl⟩ : ∃ m, k = m + 1 := ⟨k - 1, by omega⟩
    rw [laws_toIntS.l0, if_neg (by omega)]
    have : i = x0.length := by omega
    subst this
    simp [← hx]
  | succ d ih =>
    intro i x3 k hd hi hx hk
    obtain ⟨k, rfl⟩ : ∃ m, k = m + 1 := ⟨k - 1, by omega⟩
    have h1 : i < x0.length := by omega
    rw [laws_toIntS.l0, if_pos (by omega), if_pos (by omega), if_pos (by omega), w64 _ (by omega) (by omega)]
    have := ih (i + 1) (x3.set i (rd x0 i)) k (by omega) (by omega) (by simp [hx]) (by omega)
    rw [show ((i : Int) + 1) = ((i + 1 : Nat) : Int) by omega, show (i : Int).toNat = i by omega, this, rd_nat _ _ h1, drop_cons x0 i h1]
    congr 1
    rw [take_set_succ _ _ _ (by omega)]
    simp
theorem toIntS_ev (l : List Int) (hl : l.length ≤ 35184372088832) : Ev (fun k => laws_toIntS.f k l) l := by
  refine ⟨l.length + 1, fun k hk => ?_⟩
  simp only [laws_toIntS.f]
  rw [if_pos (by omega), if_pos (by omega)]
  have := toIntS_l0 l (by omega) l.length 0 (List.replicate l.length 0) k (by omega) (by omega) (by simp) (by omega)
  simpa using this
theorem eqIntS_l0 (a b : List Int) (hl : a.length = b.length) (hb : a.length ≤ 1152921504606846976) : ∀ (d i : Nat) (k : Nat), a.length - i = d → i ≤ a.length → d < k →
    laws_eqIntS.l0 k a b (i : Int) = some (decide (a.drop i = b.drop i)) := by
  intro d
  induction d with
  | zero =>
    intro i k hd hi hk
    obtain ⟨k, rfl⟩ : ∃ m, k = m + 1 := ⟨k - 1, by omega⟩
    rw [laws_eqIntS.l0, if_neg (by omega)]
    simp [List.drop_eq_nil_of_le (show a.length ≤ i by omega), List.drop_eq_nil_of_le (show b.length ≤ i by omega)]
  | succ d ih =>
    intro i k hd hi hk
    obtain ⟨k, rfl⟩ : ∃ m, k = m + 1 := ⟨k - 1, by omega⟩
    have h1 : i < a.length := by omega
    rw [laws_eqIntS.l0, if_pos (by omega), if_pos (by omega), if_pos (by omega), w64 _ (by omega) (by omega), rd_nat _ _ h1, rd_nat _ _ (show i < b.length by omega)]
    rw [show ((i : Int) + 1) = ((i + 1 : Nat) : Int) by omega, ih (i + 1) k (by omega) (by omega) (by omega)]
    rw [drop_cons a i h1, drop_cons b i (by omega)]
    generalize a.drop (i + 1) = ta, b.drop (i + 1) = tb
    by_cases h : a[i] = b[i]
    · simp [h]
    · simp [h]
theorem eqIntS_ev (a b : List Int) (hb : a.length ≤ 1152921504606846976) : Ev (fun k => laws_eqIntS.f k a b) (decide (a = b)) := by
  refine ⟨a.length + 1, fun k hk => ?_⟩
  simp only [laws_eqIntS.f]
  by_cases h : a.length = b.length
  · rw [if_pos (by omega)]
    have := eqIntS_l0 a b h hb a.length 0 k (by omega) (by omega) (by omega)
    simpa using this
  · rw [if_neg (by omega)]
    congr 1
    symm
    apply decide_eq_false
    intro e
    exact h (by rw [e])
def marks (n : Nat) (k : Int) : List Int := (List.range n).map fun (i : Nat) => k + (i : Int)
theorem marks_length (n : Nat) (k : Int) : (marks n k).length = n := by simp [marks]
theorem marks_succ (n : Nat) (k : Int) : marks (n + 1) k = k :: marks n (k + 1) := by
  unfold marks
  rw [List.range_succ_eq_map, List.map_cons, List.map_map]
  congr 1
  · simp
  · apply List.map_congr_left
    intro a _
    simp
    omega
theorem markIntS_l0 : ∀ (d i : Nat) (x0 : List Int) (x1 : Int) (k : Nat), x0.length - i = d → i ≤ x0.length → d < k → x0.length ≤ 1152921504606846976 → 0 ≤ x1 → x1 + d ≤ 4611686018427387904 →
    laws_markIntS.l0 k x0 x1 (i : Int) = some (x1 + d, x0.take i ++ marks d x1) := by
  intro d
  induction d with
  | zero =>
    intro i x0 x1 k hd hi hk hb h0 h1
    obtain ⟨k, rfl⟩ : ∃ m, k = m + 1 := ⟨k - 1, by omega⟩
    rw [laws_markIntS.l0, if_neg (by omega)]
    have : i = x0.length := by omega
    subst this
    simp [marks]
  | succ d ih =>
    intro i x0 x1 k hd hi hk hb h0 h1
    obtain ⟨k, rfl⟩ : ∃ m, k = m + 1 := ⟨k - 1, by omega⟩
    rw [laws_markIntS.l0, if_pos (by omega), if_pos (by omega), w64 _ (by omega) (by omega), w64 _ (by omega) (by omega)]
    rw [show ((i : Int) + 1) = ((i + 1 : Nat) : Int) by omega, show (i : Int).toNat = i by omega]
    rw [ih (i + 1) (x0.set i x1) (x1 + 1) k (by simp; omega) (by simp; omega) (by omega) (by simpa using hb) (by omega) (by omega)]
    rw [marks_succ]
    congr 2
    · omega
    · rw [take_set_succ _ _ _ (by omega)]
      simp
theorem markIntS_ev (l : List Int) (k1 : Int) (hb : l.length ≤ 1152921504606846976) (h0 : 0 ≤ k1) (h1 : k1 + l.length ≤ 4611686018427387904) : Ev (fun k => laws_markIntS.f k l k1) (k1 + l.length, marks l.length k1) := by
  refine ⟨l.length + 1, fun k hk => ?_⟩
  simp only [laws_markIntS.f]
  have := markIntS_l0 l.length 0 l k1 k (by omega) (by omega) (by omega) hb h0 h1
  simpa using this
theorem heldIntS_l0 (n : Nat) (k0 : Int) (hb : n ≤ 1152921504606846976) (h0 : 0 ≤ k0) (h1 : k0 + n ≤ 4611686018427387904) : ∀ (d i : Nat) (k : Nat), n - i = d → i ≤ n → d < k →
    laws_heldIntS.l0 k (marks n k0) (k0 + i) (i : Int) = some (k0 + n) := by
  intro d
  induction d with
  | zero =>
    intro i k hd hi hk
    obtain ⟨k, rfl⟩ : ∃ m, k = m + 1 := ⟨k - 1, by omega⟩
    rw [laws_heldIntS.l0, if_neg (by rw [marks_length]; omega)]
    congr 1; omega
  | succ d ih =>
    intro i k hd hi hk
    obtain ⟨k, rfl⟩ : ∃ m, k = m + 1 := ⟨k - 1, by omega⟩
    have h2 : i < (marks n k0).length := by rw [marks_length]; omega
    rw [laws_heldIntS.l0, if_pos (by rw [marks_length]; omega), if_pos (by omega), rd_nat _ _ h2, if_pos (by simp [marks]), w64 _ (by omega) (by omega), w64 _ (by omega) (by omega)]
    have := ih (i + 1) k (by omega) (by omega) (by omega)
    rw [show ((i : Int) + 1) = ((i + 1 : Nat) : Int) by omega, show (k0 + (i : Int) + 1) = k0 + ((i + 1 : Nat) : Int) by omega]
    exact this
theorem heldIntS_ev (n : Nat) (k0 : Int) (hb : n ≤ 1152921504606846976) (h0 : 0 ≤ k0) (h1 : k0 + n ≤ 4611686018427387904) : Ev (fun k => laws_heldIntS.f k (marks n k0) k0) (k0 + n) := by
  refine ⟨n + 1, fun k hk => ?_⟩
  simp only [laws_heldIntS.f]
  have := heldIntS_l0 n k0 hb h0 h1 n 0 k (by omega) (by omega) (by omega)
  simpa using this
def inB (n lo hi : Int) : Bool := decide (lo ≤ n ∧ n ≤ hi)
theorem l1In_eq (a b c : Int) : spec_l1In.f a b c = some (inB a b c) := by
  unfold spec_l1In.f inB
  by_cases h : a ≥ b
  · rw [if_pos h]; congr 1; simp; omega
  · rw [if_neg h]; congr 1; symm; apply decide_eq_false; omega
theorem within_eq (a b c : Int) : impl_within.f a b c = some (inB a b c) := by
  unfold impl_within.f inB
  by_cases h : b ≤ a
  · rw [if_pos h]; congr 1; simp; omega
  · rw [if_neg h]; congr 1; symm; apply decide_eq_false; omega
def allIn (l : List Int) (lo hi : Int) : Bool := l.all fun x => inB x lo hi
theorem l1All_l0 (lo hi : Int) (l : List Int) (hb : l.length ≤ 1152921504606846976) : ∀ (d i : Nat) (k : Nat), l.length - i = d → i ≤ l.length → d < k →
    spec_l1All.l0 k lo hi l (l.length : Int) (i : Int) = some (allIn (l.drop i) lo hi) := by
  intro d
  induction d with
  | zero =>
    intro i k hd hi' hk
    obtain ⟨k, rfl⟩ : ∃ m, k = m + 1 := ⟨k - 1, by omega⟩
    rw [spec_l1All.l0, if_neg (by omega), List.drop_eq_nil_of_le (by omega)]
    rfl
  | succ d ih =>
    intro i k hd hi' hk
    obtain ⟨k, rfl⟩ : ∃ m, k = m + 1 := ⟨k - 1, by omega⟩
    have h1 : i < l.length := by omega
    rw [spec_l1All.l0, if_pos (by omega), if_pos (by omega), if_pos (by omega), l1In_eq, Option.bind_some, w64 _ (by omega) (by omega), rd_nat _ _ h1]
    rw [show ((i : Int) + 1) = ((i + 1 : Nat) : Int) by omega, ih (i + 1) k (by omega) (by omega) (by omega), drop_cons l i h1]
    unfold allIn
    rw [List.all_cons]
    generalize l.drop (i + 1) = tl
    by_cases h : inB l[i] lo hi = true
    · rw [if_pos h, h]; simp
    · rw [if_neg h]; simp at h; rw [h]; simp
theorem l1All_ev (l : List Int) (lo hi : Int) (hb : l.length ≤ 1152921504606846976) : Ev (fun k => spec_l1All.f k l lo hi) (allIn l lo hi) := by
  refine ⟨l.length + 1, fun k hk => ?_⟩
  simp only [spec_l1All.f]
  have := l1All_l0 lo hi l hb l.length 0 k (by omega) (by omega) (by omega)
  simpa using this
end Go.Proofs.Ythlcaikplebpmaa.P
namespace Go.Proofs.Ythlcaikplebpmaa.P
open Go.RowKit Go.Proofs.YthlcaikplebpmaaW.PrintWords Go.Proofs.YthlcaikplebpmaaW.PrintLast Go.Proofs.YthlcaikplebpmaaW.PrintMore
set_option linter.unusedVariables false
set_option linter.unusedSimpArgs false
theorem boardB_iff (r c : Int) (l : List Int) : boardB r c l = true ↔ (1 ≤ r ∧ r ≤ 6) ∧ (1 ≤ c ∧ c ≤ 6) ∧ (l.length : Int) = r ∧ ∀ m ∈ l, 0 ≤ m ∧ m ≤ 2 ^ c.toNat - 1 := by
  unfold boardB
  simp only [Bool.and_eq_true, decide_eq_true_eq, List.all_eq_true]
  constructor
  · rintro ⟨⟨⟨a, b⟩, c⟩, d⟩; exact ⟨a, b, c, d⟩
  · rintro ⟨a, b, c, d⟩; exact ⟨⟨⟨a, b⟩, c⟩, d⟩
theorem shl_one (c : Int) (h0 : 0 ≤ c) (h1 : c ≤ 62) : shl .i64 1 c = 2 ^ c.toNat := by
  unfold shl
  rw [Int.one_mul, Nat.min_eq_left (show c.toNat ≤ IntKind.i64.bits by have : IntKind.i64.bits = 64 := rfl; omega)]
  rw [i64_w, w64]
  · have : (0 : Int) ≤ 2 ^ c.toNat := Int.le_of_lt (Int.pow_pos (by decide))
    omega
  · have h : (2 : Int) ^ c.toNat ≤ 2 ^ 62 := by
      have := Nat.pow_le_pow_right (show 0 < 2 by decide) (show c.toNat ≤ 62 by omega)
      exact_mod_cast this
    have e : (2 : Int) ^ 62 = 4611686018427387904 := by decide
    omega
theorem pow_le6 (c : Int) (h1 : c ≤ 6) : (2 : Int) ^ c.toNat ≤ 64 := by
  have := Nat.pow_le_pow_right (show 0 < 2 by decide) (show c.toNat ≤ 6 by omega)
  have h : (2 : Int) ^ c.toNat ≤ 2 ^ 6 := by exact_mod_cast this
  exact h
theorem pow_pos2 (c : Int) : (1 : Int) ≤ 2 ^ c.toNat := by
  have : (0 : Int) < 2 ^ c.toNat := Int.pow_pos (by decide)
  omega
theorem boSide_eq (a : Int) : spec_boSide.f a = some (inB a 1 6) := by
  simp only [spec_boSide.f, l1In_eq, Option.bind_some]
theorem boGood_ev (r c : Int) (l : List Int) (hb : l.length ≤ 1152921504606846976) : Ev (fun k => spec_boGood.f k r c l) (boardB r c l) := by
  by_cases h1 : 1 ≤ r ∧ r ≤ 6
  · by_cases h2 : 1 ≤ c ∧ c ≤ 6
    · by_cases h3 : (l.length : Int) = r
      · obtain ⟨K, hK⟩ := ev_get (l1All_ev l 0 (2 ^ c.toNat - 1) hb)
        refine ⟨K, fun k hk => ?_⟩
        have hp := pow_le6 c h2.2
        have hp2 := pow_pos2 c
        simp only [spec_boGood.f, boSide_eq, Option.bind_some]
        rw [if_pos (by simpa [inB] using h1), if_pos (by simpa [inB] using h2), if_pos h3, if_pos (by omega), shl_one c (by omega) (by omega), w64 _ (by omega) (by omega), hK k hk, Option.bind_some]
        congr 1
        unfold boardB allIn inB
        simp [h1, h2, h3]
      · refine ⟨0, fun k hk => ?_⟩
        simp only [spec_boGood.f, boSide_eq, Option.bind_some]
        rw [if_pos (by simpa [inB] using h1), if_pos (by simpa [inB] using h2), if_neg h3]
        congr 1; unfold boardB; simp [h3]
    · refine ⟨0, fun k hk => ?_⟩
      simp only [spec_boGood.f, boSide_eq, Option.bind_some]
      rw [if_pos (by simpa [inB] using h1), if_neg (by simpa [inB] using h2)]
      congr 1; unfold boardB; rw [decide_eq_false h2]; simp
  · refine ⟨0, fun k hk => ?_⟩
    simp only [spec_boGood.f, boSide_eq, Option.bind_some]
    rw [if_neg (by simpa [inB] using h1)]
    congr 1; unfold boardB; rw [decide_eq_false h1]; simp
theorem szBoard_eq (r c : Int) (l : List Int) (left : Int) (h0 : 0 ≤ left) (h1 : left ≤ 1048576) (hl : l.length ≤ maxLen) : laws_szBoard.f r c l left = some (if left - l.length < 0 then -1 else left - l.length) := by
  simp only [laws_szBoard.f, laws_szIntS.f]
  simp only [maxLen] at hl
  rw [w64 _ (by omega) (by omega)]
  split
  · simp only [Option.bind_some]; simp
  · simp only [Option.bind_some]; simp [*]
theorem toBoard_ev (r c : Int) (l : List Int) (hl : l.length ≤ 35184372088832) : Ev (fun k => laws_toBoard.f k r c l) (r, c, l) := by
  obtain ⟨K, hK⟩ := ev_get (toIntS_ev l hl)
  refine ⟨K, fun k hk => ?_⟩
  simp only [laws_toBoard.f, hK k hk, Option.bind_some]
theorem eqBoard_ev (r c : Int) (l : List Int) (hb : l.length ≤ 1152921504606846976) : Ev (fun k => laws_eqBoard.f k r c l r c l) true := by
  obtain ⟨K, hK⟩ := ev_get (eqIntS_ev l l hb)
  refine ⟨K, fun k hk => ?_⟩
  simp only [laws_eqBoard.f, hK k hk, Option.bind_some, if_true, decide_true]
theorem markBoard_ev (r c : Int) (l : List Int) (hb : l.length ≤ 1152921504606846976) : Ev (fun k => laws_markBoard.f k r c l 1) (1 + l.length, marks l.length 1) := by
  obtain ⟨K, hK⟩ := ev_get (markIntS_ev l 1 hb (by omega) (by omega))
  refine ⟨K, fun k hk => ?_⟩
  simp only [laws_markBoard.f, hK k hk, Option.bind_some]
theorem heldBoard_ev (r c : Int) (n : Nat) (hb : n ≤ 1152921504606846976) : Ev (fun k => laws_heldBoard.f k r c (marks n 1) 1) (1 + n) := by
  obtain ⟨K, hK⟩ := ev_get (heldIntS_ev n 1 hb (by omega) (by omega))
  refine ⟨K, fun k hk => ?_⟩
  simp only [laws_heldBoard.f, hK k hk, Option.bind_some]
  rw [if_neg (by omega)]
end Go.Proofs.Ythlcaikplebpmaa.P
namespace Go.Proofs.Ythlcaikplebpmaa.P
open Go.RowKit Go.Proofs.YthlcaikplebpmaaW.PrintWords Go.Proofs.YthlcaikplebpmaaW.PrintLast Go.Proofs.YthlcaikplebpmaaW.PrintMore
set_option linter.unusedVariables false
set_option linter.unusedSimpArgs false
theorem rdL_nat (s : List (List Int)) (i : Nat) (h : i < s.length) : rd_L1 s (i : Int) = s[i] := by
  unfold rd_L1; simp [List.getD_eq_getElem?_getD, List.getElem?_eq_getElem h]
end Go.Proofs.Ythlcaikplebpmaa.P
namespace Go.Proofs.Ythlcaikplebpmaa.P
open Go.RowKit Go.Proofs.YthlcaikplebpmaaW.PrintWords Go.Proofs.YthlcaikplebpmaaW.PrintLast Go.Proofs.YthlcaikplebpmaaW.PrintMore
set_option linter.unusedVariables false
set_option linter.unusedSimpArgs false
/-- A mask has a column. -/
def hasM (m : Int) (j : Int) : Bool := Int.tmod (shr .i64 m j) 2 == 1
theorem has_bits : ∀ m : Fin 64, ∀ c : Fin 6, (Go.bits .and .i64 (shr .i64 (m.val : Int) (c.val : Int)) 1 == 1) = hasM (m.val : Int) (c.val : Int) := by decide +kernel
theorem has_bits' (m c : Int) (h0 : 0 ≤ m) (h1 : m ≤ 63) (h2 : 0 ≤ c) (h3 : c ≤ 5) : (Go.bits .and .i64 (shr .i64 m c) 1 == 1) = hasM m c := by
  have h := has_bits ⟨m.toNat, by omega⟩ ⟨c.toNat, by omega⟩
  simp only [show ((m.toNat : Nat) : Int) = m by omega, show ((c.toNat : Nat) : Int) = c by omega] at h
  exact h
/-- The board has the cell. -/
def hasC (l : List Int) (i j : Int) : Bool := hasM (rd l i) j
theorem board_row {r c : Int} {l : List Int} (h : boardB r c l = true) {i : Int} (h0 : 0 ≤ i) (h1 : i < r) : 0 ≤ rd l i ∧ rd l i ≤ 63 := by
  obtain ⟨hr, hc, hl, hm⟩ := (boardB_iff r c l).1 h
  have hp6 := pow_le6 c hc.2
  have hx : i.toNat < l.length := by omega
  have := hm l[i.toNat] (List.getElem_mem hx)
  have e : rd l i = l[i.toNat] := by
    have := rd_nat l i.toNat hx
    rwa [show ((i.toNat : Nat) : Int) = i by omega] at this
  rw [e]; omega
theorem boHas_eq {r c : Int} {l : List Int} (h : boardB r c l = true) {i j : Int} (h0 : 0 ≤ i) (h1 : i < r) (h2 : 0 ≤ j) : spec_boHas.f r c l i j = some (hasC l i j) := by
  obtain ⟨hr, hc, hl, hm⟩ := (boardB_iff r c l).1 h
  simp only [spec_boHas.f]
  rw [if_pos h0, if_pos (by omega), if_pos h2]
  rfl
theorem has_eq {r c : Int} {l : List Int} (h : boardB r c l = true) {i j : Int} (h0 : 0 ≤ i) (h1 : i < r) (h2 : 0 ≤ j) (h3 : j < c) : impl_Board_has.f r c l i j = some (hasC l i j) := by
  obtain ⟨hr, hc, hl, hm⟩ := (boardB_iff r c l).1 h
  have hb := board_row h h0 h1
  simp only [impl_Board_has.f]
  rw [if_pos h0, if_pos (by omega), if_pos h2, has_bits' _ _ hb.1 hb.2 h2 (by omega)]
  rfl
theorem crange'_step (s n : Nat) (h : s < n) : List.range' s (n - s) = s :: List.range' (s + 1) (n - (s + 1)) := by
  rw [show n - s = (n - (s + 1)) + 1 by omega, List.range'_succ]
def cellRow (l : List Int) (i C j : Nat) : List (List Int) := (List.range' j (C - j)).flatMap fun (j : Nat) => if hasC l (i : Int) (j : Int) = true then [[(i : Int), (j : Int)]] else []
def cellsFrom (l : List Int) (R C i : Nat) : List (List Int) := (List.range' i (R - i)).flatMap fun (i : Nat) => cellRow l i C 0
theorem cellRow_step (l : List Int) (i C j : Nat) (h : j < C) : cellRow l i C j = (if hasC l (i : Int) (j : Int) = true then [[(i : Int), (j : Int)]] else []) ++ cellRow l i C (j + 1) := by
  unfold cellRow
  rw [crange'_step j C h, List.flatMap_cons]
theorem cellRow_nil (l : List Int) (i C j : Nat) (h : C ≤ j) : cellRow l i C j = [] := by
  unfold cellRow
  rw [show C - j = 0 by omega]; rfl
theorem cellsFrom_step (l : List Int) (R C i : Nat) (h : i < R) : cellsFrom l R C i = cellRow l i C 0 ++ cellsFrom l R C (i + 1) := by
  unfold cellsFrom
  rw [crange'_step i R h, List.flatMap_cons]
theorem cellsFrom_nil (l : List Int) (R C i : Nat) (h : R ≤ i) : cellsFrom l R C i = [] := by
  unfold cellsFrom
  rw [show R - i = 0 by omega]; rfl
def cells (r c : Int) (l : List Int) : List (List Int) := cellsFrom l r.toNat c.toNat 0
theorem boCells_ev {r c : Int} {l : List Int} (h : boardB r c l = true) : Ev (fun k => spec_boCells.f k r c l) (cells r c l) := by
  obtain ⟨hr, hc, hl, hm⟩ := (boardB_iff r c l).1 h
  obtain ⟨R, rfl⟩ : ∃ R : Nat, r = R := ⟨r.toNat, by omega⟩
  obtain ⟨C, rfl⟩ : ∃ C : Nat, c = C := ⟨c.toNat, by omega⟩
  have hout : ∀ (d i : Nat) (acc : List (List Int)), R - i = d → i ≤ R → acc.length ≤ 6 * i → Ev (fun k => spec_boCells.l0 k acc (i : Int) (R : Int) (C : Int) l) (acc ++ cellsFrom l R C i) := by
    intro d
    induction d with
    | zero =>
      intro i acc hd hi ha
      refine ⟨1, fun k hk => ?_⟩
      obtain ⟨k, rfl⟩ : ∃ m, k = m + 1 := ⟨k - 1, by omega⟩
      dsimp only
      rw [spec_boCells.l0, if_neg (by omega), cellsFrom_nil l R C i (by omega), List.append_nil]
    | succ d ih =>
      intro i acc hd hi ha
      have hin : ∀ (e j : Nat) (acc : List (List Int)), C - j = e → j ≤ C → acc.length ≤ 6 * i + j → Ev (fun k => spec_boCells.l1 k acc (i : Int) (j : Int) (R : Int) (C : Int) l) (acc ++ cellRow l i C j ++ cellsFrom l R C (i + 1)) := by
        intro e
        induction e with
        | zero =>
          intro j acc he hj ha
          obtain ⟨K, hK⟩ := ev_get (ih (i + 1) acc (by omega) (by omega) (by omega))
          refine ⟨K + 1, fun k hk => ?_⟩
          obtain ⟨k, rfl⟩ : ∃ m, k = m + 1 := ⟨k - 1, by omega⟩
          dsimp only
          rw [spec_boCells.l1, if_neg (by omega), cellRow_nil l i C j (by omega), List.append_nil, w64 _ (by omega) (by omega), show ((i : Int) + 1) = ((i + 1 : Nat) : Int) by omega]
          exact hK k (by omega)
        | succ e ihe =>
          intro j acc he hj ha
          obtain ⟨K1, h1⟩ := ev_get (ihe (j + 1) (acc ++ [[(i : Int), (j : Int)]]) (by omega) (by omega) (by simp; omega))
          obtain ⟨K2, h2⟩ := ev_get (ihe (j + 1) acc (by omega) (by omega) (by omega))
          refine ⟨K1 + K2 + 1, fun k hk => ?_⟩
          obtain ⟨k, rfl⟩ : ∃ m, k = m + 1 := ⟨k - 1, by omega⟩
          dsimp only
          rw [spec_boCells.l1, if_pos (by omega), boHas_eq h (by omega) (by omega) (by omega), Option.bind_some, if_pos (show acc.length < 5864062014805 by omega), w64 ((j : Int) + 1) (by omega) (by omega), show ((j : Int) + 1) = ((j + 1 : Nat) : Int) by omega, h1 k (by omega), h2 k (by omega), cellRow_step l i C j (by omega)]
          by_cases hh : hasC l (i : Int) (j : Int) = true
          · rw [if_pos hh, if_pos hh]; simp [List.append_assoc]
          · rw [if_neg hh, if_neg hh]; simp
      obtain ⟨K, hK⟩ := ev_get (hin C 0 acc (by omega) (by omega) (by omega))
      refine ⟨K + 1, fun k hk => ?_⟩
      obtain ⟨k, rfl⟩ : ∃ m, k = m + 1 := ⟨k - 1, by omega⟩
      dsimp only
      rw [spec_boCells.l0, if_pos (by omega), cellsFrom_step l R C i (by omega), ← List.append_assoc]
      exact hK k (by omega)
  obtain ⟨K, hK⟩ := ev_get (hout R 0 [] (by omega) (by omega) (by simp))
  refine ⟨K, fun k hk => ?_⟩
  simp only [spec_boCells.f]
  simpa [cells] using hK k hk
theorem rd0 (p q : Int) : rd [p, q] 0 = p := by simp [rd]
theorem rd1 (p q : Int) : rd [p, q] 1 = q := by simp [rd]
end Go.Proofs.Ythlcaikplebpmaa.P
namespace Go.Proofs.Ythlcaikplebpmaa.P
open Go.RowKit Go.Proofs.YthlcaikplebpmaaW.PrintWords Go.Proofs.YthlcaikplebpmaaW.PrintLast Go.Proofs.YthlcaikplebpmaaW.PrintMore
set_option linter.unusedVariables false
set_option linter.unusedSimpArgs false
/-- The places of a colour, row by row. -/
def cellsQ (R C q : Nat) : List (Nat × Nat) := (List.range R).flatMap fun r => ((List.range C).filter fun c => (r + c) % 2 = q).map fun c => (r, c)
def upN (R C q : Nat) : List Nat := (List.range (R + C)).filter fun s => (cellsQ R C q).any fun x => x.1 + x.2 == s
def downN (R C q : Nat) : List Nat := (List.range (R + C)).filter fun s => (cellsQ R C q).any fun x => x.1 + C == s + x.2 + 1
def upL (R C q : Nat) : List Int := (upN R C q).map fun (s : Nat) => (s : Int)
def downL (R C q : Nat) : List Int := (downN R C q).map fun (s : Nat) => (s : Int)
/-- The place on two diagonals, if there is one. -/
def crossN (R C u d : Nat) : Option (Nat × Nat) := if C ≤ u + d + 1 ∧ (u + d + 1 - C) % 2 = 0 ∧ (u + d + 1 - C) / 2 < R ∧ (u + d + 1 - C) / 2 ≤ u ∧ u - (u + d + 1 - C) / 2 < C then some ((u + d + 1 - C) / 2, u - (u + d + 1 - C) / 2) else none
def idx : List Nat → Nat → Nat
  | [], _ => 0
  | x :: l, s => if x = s then 0 else idx l s + 1
/-- The cells of one row of a colour board, with their columns. -/
def rowQ (R C q i : Nat) : List ((Nat × Nat) × Nat) := ((cellsQ R C q).filter fun x => idx (upN R C q) (x.1 + x.2) == i).map fun x => (x, idx (downN R C q) (x.1 + C - 1 - x.2))
def rowX (R C q i : Nat) : List ((Nat × Nat) × Nat) := (List.range (downN R C q).length).filterMap fun k => (crossN R C ((upN R C q).getD i 0) ((downN R C q).getD k 0)).map fun x => (x, k)
theorem row_eq : ∀ R : Fin 7, ∀ C : Fin 7, ∀ q : Fin 2, ∀ i : Fin 6, i.val < (upN R.val C.val q.val).length → rowQ R.val C.val q.val i.val = rowX R.val C.val q.val i.val := by decide +kernel
theorem lines_len : ∀ R : Fin 7, ∀ C : Fin 7, ∀ q : Fin 2, (upN R.val C.val q.val).length ≤ 6 ∧ (downN R.val C.val q.val).length ≤ 6 ∧ ((upN R.val C.val q.val).length = 0 ↔ (downN R.val C.val q.val).length = 0) := by decide +kernel
theorem idx_ok : ∀ R : Fin 7, ∀ C : Fin 7, ∀ q : Fin 2, ∀ x ∈ cellsQ R.val C.val q.val, idx (upN R.val C.val q.val) (x.1 + x.2) < (upN R.val C.val q.val).length ∧ idx (downN R.val C.val q.val) (x.1 + C.val - 1 - x.2) < (downN R.val C.val q.val).length ∧ x.1 < R.val ∧ x.2 < C.val ∧ (x.1 + x.2) % 2 = q.val := by decide +kernel
/-- A mask of the columns that f holds. -/
def mk (f : Nat → Bool) : Nat → Int
  | 0 => 0
  | j + 1 => mk f j + if f j = true then ((2 ^ j : Nat) : Int) else 0
theorem mk_nat (f : Nat → Bool) : ∀ j, ∃ m : Nat, mk f j = (m : Int) ∧ m < 2 ^ j
  | 0 => ⟨0, rfl, by decide⟩
  | j + 1 => by
    obtain ⟨m, e, h⟩ := mk_nat f j
    have e2 : 2 ^ (j + 1) = 2 ^ j + 2 ^ j := by rw [Nat.pow_succ]; omega
    simp only [mk, e]
    split
    · exact ⟨m + 2 ^ j, by omega, by omega⟩
    · exact ⟨m, by omega, by omega⟩
def sumL : List Int → Int
  | [] => 0
  | x :: l => x + sumL l
theorem sumL_append : ∀ a b, sumL (a ++ b) = sumL a + sumL b
  | [], b => by simp [sumL]
  | x :: a, b => by simp only [List.cons_append, sumL, sumL_append a b]; omega
/-- Of places with columns: the bits of those that the board holds. -/
def bits (l : List Int) (xs : List ((Nat × Nat) × Nat)) : Int := sumL (xs.map fun x => if hasC l (x.1.1 : Int) (x.1.2 : Int) = true then ((2 ^ x.2 : Nat) : Int) else 0)
def crossB (R C : Nat) (l : List Int) (u d : Nat) : Bool := (crossN R C u d).any fun x => hasC l (x.1 : Int) (x.2 : Int)
theorem fm_one {α β : Type} (g : α → Option β) (a : α) : [a].filterMap g = (g a).toList := by
  rw [List.filterMap_cons]
  cases g a <;> rfl
theorem mk_bits (R C : Nat) (l : List Int) (u : Nat) (D : List Nat) : ∀ n, mk (fun k => crossB R C l u (D.getD k 0)) n = bits l ((List.range n).filterMap fun k => (crossN R C u (D.getD k 0)).map fun x => (x, k))
  | 0 => rfl
  | n + 1 => by
    rw [List.range_succ, List.filterMap_append]
    unfold bits
    rw [List.map_append, sumL_append]
    have := mk_bits R C l u D n
    unfold bits at this
    rw [← this, mk]
    congr 1
    rw [fm_one]
    unfold crossB
    rcases h : crossN R C u (D.getD n 0) with _ | x
    · rfl
    · simp only [Option.any_some, Option.map_some, Option.toList_some, List.map_cons, List.map_nil, sumL, Int.add_zero]
/-- The cells of the colour board. -/
def colL (R C q : Nat) (l : List Int) : List Int := (upN R C q).map fun u => mk (fun k => crossB R C l u ((downN R C q).getD k 0)) (downN R C q).length
theorem colL_length (R C q : Nat) (l : List Int) : (colL R C q l).length = (upN R C q).length := by simp [colL]
theorem colL_getD {R C q : Nat} (l : List Int) (hR : R ≤ 6) (hC : C ≤ 6) (hq : q ≤ 1) {i : Nat} (hi : i < (upN R C q).length) : (colL R C q l).getD i 0 = bits l (rowQ R C q i) := by
  have hl := (lines_len ⟨R, by omega⟩ ⟨C, by omega⟩ ⟨q, by omega⟩).1
  simp only at hl
  have h := row_eq ⟨R, by omega⟩ ⟨C, by omega⟩ ⟨q, by omega⟩ ⟨i, by omega⟩ hi
  simp only at h
  rw [h]
  unfold colL rowX
  rw [List.getD_eq_getElem?_getD, List.getElem?_map, List.getElem?_eq_getElem hi]
  simp only [Option.map_some, Option.getD_some]
  rw [mk_bits]
  have : (upN R C q).getD i 0 = (upN R C q)[i] := by rw [List.getD_eq_getElem?_getD, List.getElem?_eq_getElem hi, Option.getD_some]
  rw [this]
theorem colL_board {R C q : Nat} (l : List Int) (hR : R ≤ 6) (hC : C ≤ 6) (hq : q ≤ 1) (hn : (upN R C q).length ≠ 0) : boardB ((upN R C q).length : Int) ((downN R C q).length : Int) (colL R C q l) = true := by
  have hl := lines_len ⟨R, by omega⟩ ⟨C, by omega⟩ ⟨q, by omega⟩
  simp only at hl
  rw [boardB_iff]
  refine ⟨by omega, by omega, by rw [colL_length], fun m hm => ?_⟩
  unfold colL at hm
  rw [List.mem_map] at hm
  obtain ⟨u, _, rfl⟩ := hm
  obtain ⟨m, e, h⟩ := mk_nat (fun k => crossB R C l u ((downN R C q).getD k 0)) (downN R C q).length
  rw [e, Int.toNat_natCast]
  have e2 : (2 : Int) ^ (downN R C q).length = ((2 ^ (downN R C q).length : Nat) : Int) := by simp
  rw [e2]
  omega
def pairsAll (R C : Nat) : List (Nat × Nat) := (List.range R).flatMap fun r => (List.range C).map fun c => (r, c)
theorem pairs_q : ∀ R : Fin 7, ∀ C : Fin 7, ∀ q : Fin 2, (pairsAll R.val C.val).filter (fun x => decide ((x.1 + x.2) % 2 = q.val)) = cellsQ R.val C.val q.val := by decide +kernel
theorem pairs_len : ∀ R : Fin 7, ∀ C : Fin 7, (pairsAll R.val C.val).length ≤ 36 := by decide +kernel
theorem cells_pairs (R C : Nat) (l : List Int) : cells (R : Int) (C : Int) l = ((pairsAll R C).filter fun x => hasC l (x.1 : Int) (x.2 : Int)).map fun x => [(x.1 : Int), (x.2 : Int)] := by
  unfold cells cellsFrom pairsAll cellRow
  simp only [Int.toNat_natCast, Nat.sub_zero, List.range_eq_range']
  rw [List.filter_flatMap, List.map_flatMap]
  congr 1
  funext r
  generalize List.range' 0 C = cs
  induction cs with
  | nil => rfl
  | cons c cs ih =>
    rw [List.flatMap_cons, List.map_cons, ih, List.filter_cons]
    by_cases h : hasC l (r : Int) (c : Int) = true
    · rw [if_pos h, if_pos h]; rfl
    · rw [if_neg h, if_neg h]; rfl
def stepQ (R C q : Nat) (L : List Int) (x : Nat × Nat) : List Int := if (x.1 + x.2) % 2 = q then L.set (idx (upN R C q) (x.1 + x.2)) (L.getD (idx (upN R C q) (x.1 + x.2)) 0 + ((2 ^ idx (downN R C q) (x.1 + C - 1 - x.2) : Nat) : Int)) else L
theorem stepQ_length (R C q : Nat) (L : List Int) (x : Nat × Nat) : (stepQ R C q L x).length = L.length := by unfold stepQ; split <;> simp
theorem foldQ_length (R C q : Nat) : ∀ (xs : List (Nat × Nat)) (L : List Int), (xs.foldl (stepQ R C q) L).length = L.length
  | [], L => rfl
  | x :: xs, L => by rw [List.foldl_cons, foldQ_length R C q xs, stepQ_length]
theorem stepQ_getD (R C q : Nat) (L : List Int) (x : Nat × Nat) (i : Nat) (hi : i < L.length) : (stepQ R C q L x).getD i 0 = L.getD i 0 + if (x.1 + x.2) % 2 = q ∧ idx (upN R C q) (x.1 + x.2) = i then ((2 ^ idx (downN R C q) (x.1 + C - 1 - x.2) : Nat) : Int) else 0 := by
  unfold stepQ
  by_cases h1 : (x.1 + x.2) % 2 = q
  · rw [if_pos h1]
    by_cases h2 : idx (upN R C q) (x.1 + x.2) = i
    · rw [if_pos ⟨h1, h2⟩, h2]
      simp [List.getD_eq_getElem?_getD, List.getElem?_set, hi]
    · rw [if_neg (fun h => h2 h.2)]
      simp [List.getD_eq_getElem?_getD, List.getElem?_set, h2]
  · rw [if_neg h1, if_neg (fun h => h1 h.1)]; omega
theorem fold_bits (R C q : Nat) (l : List Int) (i : Nat) : ∀ (ps : List (Nat × Nat)) (L : List Int), i < L.length → ((ps.filter fun x => hasC l (x.1 : Int) (x.2 : Int)).foldl (stepQ R C q) L).getD i 0 = L.getD i 0 + bits l (((ps.filter fun x => decide ((x.1 + x.2) % 2 = q)).filter fun x => idx (upN R C q) (x.1 + x.2) == i).map fun x => (x, idx (downN R C q) (x.1 + C - 1 - x.2)))
  | [], L, hi => by simp [bits, sumL]
  | x :: ps, L, hi => by
    have hl := stepQ_length R C q L x
    have hs := stepQ_getD R C q L x i hi
    have ih1 := fold_bits R C q l i ps L hi
    have ih2 := fold_bits R C q l i ps (stepQ R C q L x) (by omega)
    rw [List.filter_cons]
    by_cases h1 : hasC l (x.1 : Int) (x.2 : Int) = true
    · rw [if_pos h1, List.foldl_cons, ih2, hs, List.filter_cons]
      by_cases h2 : (x.1 + x.2) % 2 = q
      · rw [if_pos (decide_eq_true h2), List.filter_cons]
        by_cases h3 : idx (upN R C q) (x.1 + x.2) = i
        · rw [if_pos ⟨h2, h3⟩, if_pos (beq_iff_eq.2 h3), List.map_cons]
          unfold bits
          rw [List.map_cons, sumL, if_pos h1]
          dsimp only
          omega
        · rw [if_neg (fun h => h3 h.2), if_neg (fun h => h3 (beq_iff_eq.1 h))]; omega
      · rw [if_neg (fun h => h2 h.1), if_neg (fun h => h2 (of_decide_eq_true h))]; omega
    · rw [if_neg h1, ih1, List.filter_cons]
      by_cases h2 : (x.1 + x.2) % 2 = q
      · rw [if_pos (decide_eq_true h2), List.filter_cons]
        by_cases h3 : idx (upN R C q) (x.1 + x.2) = i
        · rw [if_pos (beq_iff_eq.2 h3), List.map_cons]
          unfold bits
          rw [List.map_cons, sumL, if_neg h1]
          omega
        · rw [if_neg (fun h => h3 (beq_iff_eq.1 h))]
      · rw [if_neg (fun h => h2 (of_decide_eq_true h))]
/-- Cell by cell comes to the same as line by line. -/
theorem fold_colL {R C q : Nat} (l : List Int) (hR : R ≤ 6) (hC : C ≤ 6) (hq : q ≤ 1) : ((pairsAll R C).filter fun x => hasC l (x.1 : Int) (x.2 : Int)).foldl (stepQ R C q) (List.replicate (upN R C q).length 0) = colL R C q l := by
  have hlen := foldQ_length R C q ((pairsAll R C).filter fun x => hasC l (x.1 : Int) (x.2 : Int)) (List.replicate (upN R C q).length 0)
  rw [List.length_replicate] at hlen
  refine List.ext_getElem (by rw [hlen, colL_length]) (fun i h1 h2 => ?_)
  have hi : i < (upN R C q).length := by omega
  have a := fold_bits R C q l i (pairsAll R C) (List.replicate (upN R C q).length 0) (by simpa using hi)
  have b := colL_getD l hR hC hq hi
  have p := pairs_q ⟨R, by omega⟩ ⟨C, by omega⟩ ⟨q, by omega⟩
  simp only at p
  rw [p] at a
  have c0 : (List.replicate (upN R C q).length (0 : Int)).getD i 0 = 0 := by simp [List.getD_eq_getElem?_getD, hi]
  rw [c0, Int.zero_add] at a
  unfold rowQ at b
  rw [← b] at a
  simpa [List.getD_eq_getElem?_getD, List.getElem?_eq_getElem h1, List.getElem?_eq_getElem h2] using a
end Go.Proofs.Ythlcaikplebpmaa.P
namespace Go.Proofs.Ythlcaikplebpmaa.P
open Go.RowKit Go.Proofs.YthlcaikplebpmaaW.PrintWords Go.Proofs.YthlcaikplebpmaaW.PrintLast Go.Proofs.YthlcaikplebpmaaW.PrintMore
set_option linter.unusedVariables false
set_option linter.unusedSimpArgs false
theorem col_nat {R C q : Int} {l : List Int} (h : boardB R C l = true) (hq : inB q 0 1 = true) : ∃ R' C' q' : Nat, R = R' ∧ C = C' ∧ q = q' ∧ R' ≤ 6 ∧ C' ≤ 6 ∧ q' ≤ 1 := by
  have hb := (boardB_iff _ _ _).1 h
  have hq2 : 0 ≤ q ∧ q ≤ 1 := by simpa [inB] using hq
  exact ⟨R.toNat, C.toNat, q.toNat, by omega, by omega, by omega, by omega, by omega, by omega⟩
theorem diag_l (l : List Int) : ∀ k, (∀ q u d n i R C, impl_Board_diagonals.l0 k q u d n i R C l = impl_Board_diagonals.l0 k q u d n i R C []) ∧ (∀ q u d b n i m j R C, impl_Board_diagonals.l1 k q u d b n i m j R C l = impl_Board_diagonals.l1 k q u d b n i m j R C []) := by
  intro k
  induction k with
  | zero => exact ⟨fun _ _ _ _ _ _ _ => rfl, fun _ _ _ _ _ _ _ _ _ _ => rfl⟩
  | succ k ih =>
    refine ⟨fun q u d n i R C => ?_, fun q u d b n i m j R C => ?_⟩
    · unfold impl_Board_diagonals.l0
      rw [ih.2]
    · unfold impl_Board_diagonals.l1
      simp only [fun q u d b n i m j R C => ih.2 q u d b n i m j R C, fun q u d n i R C => ih.1 q u d n i R C]
theorem diag_ok : ∀ R : Fin 7, ∀ C : Fin 7, ∀ q : Fin 2, impl_Board_diagonals.f 60 (R.val : Int) (C.val : Int) [] (q.val : Int) = some (upL R.val C.val q.val, downL R.val C.val q.val) := by decide +kernel
theorem diag_ev (R C q : Nat) (hR : R ≤ 6) (hC : C ≤ 6) (hq : q ≤ 1) (l : List Int) : Ev (fun k => impl_Board_diagonals.f k (R : Int) (C : Int) l (q : Int)) (upL R C q, downL R C q) := by
  refine Ev.of (impl_Board_diagonals.mono _ _ _ _) (k := 60) ?_
  have h := diag_ok ⟨R, by omega⟩ ⟨C, by omega⟩ ⟨q, by omega⟩
  simp only at h
  rw [← h]
  exact (diag_l l 60).1 _ _ _ _ _ _ _
theorem lines_l (l : List Int) : ∀ k, (∀ q u d i R C, spec_biLines.l0 k q u d i R C l = spec_biLines.l0 k q u d i R C []) ∧ (∀ q u d i j R C, spec_biLines.l1 k q u d i j R C l = spec_biLines.l1 k q u d i j R C []) := by
  intro k
  induction k with
  | zero => exact ⟨fun _ _ _ _ _ _ => rfl, fun _ _ _ _ _ _ _ => rfl⟩
  | succ k ih =>
    refine ⟨fun q u d i R C => ?_, fun q u d i j R C => ?_⟩
    · unfold spec_biLines.l0
      rw [ih.2]
    · unfold spec_biLines.l1
      simp only [spec_biDiagonals.f, fun q u d i j R C => ih.2 q u d i j R C, fun q u d i R C => ih.1 q u d i R C]
theorem lines_ok : ∀ R : Fin 7, ∀ C : Fin 7, ∀ q : Fin 2, spec_biLines.f 60 (R.val : Int) (C.val : Int) [] (q.val : Int) = some (upL R.val C.val q.val, downL R.val C.val q.val) := by decide +kernel
theorem lines_ev (R C q : Nat) (hR : R ≤ 6) (hC : C ≤ 6) (hq : q ≤ 1) (l : List Int) : Ev (fun k => spec_biLines.f k (R : Int) (C : Int) l (q : Int)) (upL R C q, downL R C q) := by
  refine Ev.of (spec_biLines.mono _ _ _ _) (k := 60) ?_
  have h := lines_ok ⟨R, by omega⟩ ⟨C, by omega⟩ ⟨q, by omega⟩
  simp only at h
  rw [← h]
  exact (lines_l l 60).1 _ _ _ _ _ _
theorem upL_length (R C q : Nat) : (upL R C q).length = (upN R C q).length := by simp [upL]
theorem downL_length (R C q : Nat) : (downL R C q).length = (downN R C q).length := by simp [downL]
theorem upN_small : ∀ R : Fin 7, ∀ C : Fin 7, ∀ q : Fin 2, (∀ x ∈ upN R.val C.val q.val, x < 12) ∧ (∀ x ∈ downN R.val C.val q.val, x < 12) := by decide +kernel
theorem up_at {R C q : Nat} (hR : R ≤ 6) (hC : C ≤ 6) (hq : q ≤ 1) {i : Nat} (hi : i < (upN R C q).length) : rd (upL R C q) (i : Int) = ((upN R C q).getD i 0 : Nat) ∧ (upN R C q).getD i 0 < 12 := by
  have h := (upN_small ⟨R, by omega⟩ ⟨C, by omega⟩ ⟨q, by omega⟩).1 _ (List.getElem_mem hi)
  refine ⟨?_, by rw [List.getD_eq_getElem?_getD, List.getElem?_eq_getElem hi]; exact h⟩
  rw [rd_nat _ _ (by rw [upL_length]; exact hi)]
  simp [upL, hi, List.getD_eq_getElem?_getD]
theorem down_at {R C q : Nat} (hR : R ≤ 6) (hC : C ≤ 6) (hq : q ≤ 1) {i : Nat} (hi : i < (downN R C q).length) : rd (downL R C q) (i : Int) = ((downN R C q).getD i 0 : Nat) ∧ (downN R C q).getD i 0 < 12 := by
  have h := (upN_small ⟨R, by omega⟩ ⟨C, by omega⟩ ⟨q, by omega⟩).2 _ (List.getElem_mem hi)
  refine ⟨?_, by rw [List.getD_eq_getElem?_getD, List.getElem?_eq_getElem hi]; exact h⟩
  rw [rd_nat _ _ (by rw [downL_length]; exact hi)]
  simp [downL, hi, List.getD_eq_getElem?_getD]
def crossV (R C u d : Nat) : Int × Int × Bool := (impl_Board_crossing.f (R : Int) (C : Int) [] (u : Int) (d : Int)).getD (0, 0, false)
theorem cross_ok : ∀ R : Fin 7, ∀ C : Fin 7, ∀ u : Fin 12, ∀ d : Fin 12, impl_Board_crossing.f (R.val : Int) (C.val : Int) [] (u.val : Int) (d.val : Int) = some (crossV R.val C.val u.val d.val) ∧ crossN R.val C.val u.val d.val = (if (crossV R.val C.val u.val d.val).2.2 = true then some ((crossV R.val C.val u.val d.val).1.toNat, (crossV R.val C.val u.val d.val).2.1.toNat) else none) ∧ ((crossV R.val C.val u.val d.val).2.2 = true → (0 ≤ (crossV R.val C.val u.val d.val).1 ∧ (crossV R.val C.val u.val d.val).1 < R.val) ∧ (0 ≤ (crossV R.val C.val u.val d.val).2.1 ∧ (crossV R.val C.val u.val d.val).2.1 < C.val)) := by decide +kernel
theorem cross_eq {R C u d : Nat} (hR : R ≤ 6) (hC : C ≤ 6) (hu : u < 12) (hd : d < 12) (l : List Int) : impl_Board_crossing.f (R : Int) (C : Int) l (u : Int) (d : Int) = some (crossV R C u d) := (cross_ok ⟨R, by omega⟩ ⟨C, by omega⟩ ⟨u, hu⟩ ⟨d, hd⟩).1
end Go.Proofs.Ythlcaikplebpmaa.P
namespace Go.Proofs.Ythlcaikplebpmaa.P
open Go.RowKit Go.Proofs.YthlcaikplebpmaaW.PrintWords Go.Proofs.YthlcaikplebpmaaW.PrintLast Go.Proofs.YthlcaikplebpmaaW.PrintMore
set_option linter.unusedVariables false
set_option linter.unusedSimpArgs false
theorem or_add' : ∀ r : Fin 6, ∀ m : Fin 64, m.val < 2 ^ r.val → Go.bits .or .i64 (m.val : Int) (shl .i64 1 (r.val : Int)) = ((m.val + 2 ^ r.val : Nat) : Int) := by decide +kernel
theorem mk_or (f : Nat → Bool) (j : Nat) (hj : j < 6) (h : f j = true) : Go.bits .or .i64 (mk f j) (shl .i64 1 (j : Int)) = mk f (j + 1) := by
  obtain ⟨m, e, hm⟩ := mk_nat f j
  have h64 : 2 ^ j ≤ 2 ^ 5 := Nat.pow_le_pow_right (by omega) (by omega)
  have := or_add' ⟨j, hj⟩ ⟨m, by omega⟩ hm
  simp only at this
  rw [mk, if_pos h, e, this]
  omega
theorem mk_same (f : Nat → Bool) (j : Nat) (h : f j = false) : mk f (j + 1) = mk f j := by
  rw [mk, if_neg (by simp [h])]; omega
theorem rd_set_same (L : List Int) (i : Nat) (v : Int) (h : i < L.length) : rd (L.set i v) (i : Int) = v := by
  rw [rd_nat _ _ (by simpa using h)]; simp
theorem col_in {R C q : Nat} {l : List Int} (h : boardB (R : Int) (C : Int) l = true) (hR : R ≤ 6) (hC : C ≤ 6) (hq : q ≤ 1) (n R' C' : Int) (i : Nat) (hi : i < (upN R C q).length) (L : List Int) (hL : L.length = (upN R C q).length) (res : Int × Int × List Int × Bool)
    (hn : Ev (fun k => impl_Board_coloured.l0 k (downL R C q) (upL R C q) n ((i + 1 : Nat) : Int) (R : Int) (C : Int) l R' C' (L.set i (mk (fun k => crossB R C l ((upN R C q).getD i 0) ((downN R C q).getD k 0)) (downN R C q).length))) res) :
    ∀ (d j : Nat), (downN R C q).length - j = d → j ≤ (downN R C q).length →
    Ev (fun k => impl_Board_coloured.l1 k (downL R C q) (i : Int) (((upN R C q).getD i 0 : Nat) : Int) (upL R C q) n (i : Int) (downL R C q) ((downN R C q).length : Int) (j : Int) (R : Int) (C : Int) l R' C' (L.set i (mk (fun k => crossB R C l ((upN R C q).getD i 0) ((downN R C q).getD k 0)) j))) res := by
  have hlen := lines_len ⟨R, by omega⟩ ⟨C, by omega⟩ ⟨q, by omega⟩
  simp only at hlen
  obtain ⟨hu1, hu2⟩ := up_at hR hC hq hi
  have hb := (boardB_iff _ _ _).1 h
  intro d
  induction d with
  | zero =>
    intro j hd hj
    have : j = (downN R C q).length := by omega
    subst this
    obtain ⟨K, hK⟩ := ev_get hn
    refine ⟨K + 1, fun k hk => ?_⟩
    obtain ⟨k, rfl⟩ : ∃ m, k = m + 1 := ⟨k - 1, by omega⟩
    have e := hK k (by omega)
    rw [show ((i + 1 : Nat) : Int) = (i : Int) + 1 by omega] at e
    dsimp only
    rw [impl_Board_coloured.l1, if_neg (by omega), w64 _ (by omega) (by omega)]
    exact e
  | succ d ih =>
    intro j hd hj
    have hj2 : j < (downN R C q).length := by omega
    obtain ⟨hd1, hd2⟩ := down_at hR hC hq hj2
    obtain ⟨K, hK⟩ := ev_get (ih (j + 1) (by omega) (by omega))
    refine ⟨K + 1, fun k hk => ?_⟩
    obtain ⟨k, rfl⟩ : ∃ m, k = m + 1 := ⟨k - 1, by omega⟩
    have e := hK k (by omega)
    rw [show ((j + 1 : Nat) : Int) = (j : Int) + 1 by omega] at e
    have hc := cross_eq hR hC hu2 hd2 l
    have ho := cross_ok ⟨R, by omega⟩ ⟨C, by omega⟩ ⟨_, hu2⟩ ⟨_, hd2⟩
    simp only at ho
    obtain ⟨_, ho1, ho2⟩ := ho
    dsimp only
    rw [impl_Board_coloured.l1, if_pos (by omega), if_pos (by omega), if_pos (by rw [downL_length]; omega), hd1, hc, Option.bind_some]
    rw [w64 ((j : Int) + 1) (by omega) (by omega)]
    cases ht : (crossV R C ((upN R C q).getD i 0) ((downN R C q).getD j 0)).2.2 with
    | false =>
      rw [ht] at ho1
      rw [if_neg (by simp)]
      rw [mk_same _ _ (by show crossB R C l _ _ = false; simp only [crossB, ho1]; rfl)] at e
      exact e
    | true =>
      rw [ht] at ho1 ho2
      obtain ⟨hx, hy⟩ := ho2 rfl
      rw [if_pos rfl, has_eq h hx.1 hx.2 hy.1 hy.2, Option.bind_some]
      have hcb : crossB R C l ((upN R C q).getD i 0) ((downN R C q).getD j 0) = hasC l (crossV R C ((upN R C q).getD i 0) ((downN R C q).getD j 0)).1 (crossV R C ((upN R C q).getD i 0) ((downN R C q).getD j 0)).2.1 := by
        simp only [crossB, ho1, if_true, Option.any_some]
        rw [Int.toNat_of_nonneg hx.1, Int.toNat_of_nonneg hy.1]
      by_cases hh : hasC l (crossV R C ((upN R C q).getD i 0) ((downN R C q).getD j 0)).1 (crossV R C ((upN R C q).getD i 0) ((downN R C q).getD j 0)).2.1 = true
      · rw [if_pos hh, if_pos (by omega), if_pos (by rw [List.length_set]; omega), rd_set_same _ _ _ (by omega), Int.toNat_natCast, List.set_set, mk_or _ _ (by omega) (by show crossB R C l _ _ = true; rw [hcb]; exact hh)]
        exact e
      · rw [if_neg hh]
        rw [mk_same _ _ (by show crossB R C l _ _ = false; rw [hcb]; simpa using hh)] at e
        exact e
theorem col_out {R C q : Nat} {l : List Int} (h : boardB (R : Int) (C : Int) l = true) (hR : R ≤ 6) (hC : C ≤ 6) (hq : q ≤ 1) (R' C' : Int) : ∀ (d i : Nat), (upN R C q).length - i = d → i ≤ (upN R C q).length →
    Ev (fun k => impl_Board_coloured.l0 k (downL R C q) (upL R C q) ((upN R C q).length : Int) (i : Int) (R : Int) (C : Int) l R' C' ((colL R C q l).take i ++ List.replicate ((upN R C q).length - i) 0)) (R', C', colL R C q l, true) := by
  have hlen := lines_len ⟨R, by omega⟩ ⟨C, by omega⟩ ⟨q, by omega⟩
  simp only at hlen
  intro d
  induction d with
  | zero =>
    intro i hd hi
    have : i = (upN R C q).length := by omega
    subst this
    refine ⟨1, fun k hk => ?_⟩
    obtain ⟨k, rfl⟩ : ∃ m, k = m + 1 := ⟨k - 1, by omega⟩
    dsimp only
    rw [impl_Board_coloured.l0, if_neg (by omega), Nat.sub_self, List.replicate_zero, List.append_nil, List.take_of_length_le (by rw [colL_length]; omega)]
  | succ d ih =>
    intro i hd hi
    have hi2 : i < (upN R C q).length := by omega
    obtain ⟨hu1, hu2⟩ := up_at hR hC hq hi2
    have hcl := colL_length R C q l
    have hLl : ((colL R C q l).take i ++ List.replicate ((upN R C q).length - i) (0 : Int)).length = (upN R C q).length := by simp [hcl]; omega
    have hrep : List.replicate ((upN R C q).length - i) (0 : Int) = 0 :: List.replicate ((upN R C q).length - (i + 1)) 0 := by
      rw [show (upN R C q).length - i = (upN R C q).length - (i + 1) + 1 by omega, List.replicate_succ]
    have htl : ((colL R C q l).take i).length = i := by rw [List.length_take, hcl]; omega
    have hset : ∀ v : Int, ((colL R C q l).take i ++ List.replicate ((upN R C q).length - i) (0 : Int)).set i v = (colL R C q l).take i ++ v :: List.replicate ((upN R C q).length - (i + 1)) 0 := by
      intro v
      rw [hrep, List.set_append_right _ _ (by omega), htl, Nat.sub_self, List.set_cons_zero]
    have hnext : (colL R C q l).take (i + 1) ++ List.replicate ((upN R C q).length - (i + 1)) 0 = ((colL R C q l).take i ++ List.replicate ((upN R C q).length - i) (0 : Int)).set i (mk (fun k => crossB R C l ((upN R C q).getD i 0) ((downN R C q).getD k 0)) (downN R C q).length) := by
      rw [hset, List.take_succ_eq_append_getElem (by omega), List.append_assoc]
      congr 1
      simp only [List.singleton_append, colL, List.getElem_map, List.getD_eq_getElem?_getD, List.getElem?_eq_getElem hi2, Option.getD_some]
    have hih := ih (i + 1) (by omega) (by omega)
    rw [hnext] at hih
    have hin := col_in h hR hC hq ((upN R C q).length : Int) R' C' i hi2 _ hLl _ hih (downN R C q).length 0 (by omega) (by omega)
    have h0 : ((colL R C q l).take i ++ List.replicate ((upN R C q).length - i) (0 : Int)).set i (mk (fun k => crossB R C l ((upN R C q).getD i 0) ((downN R C q).getD k 0)) 0) = (colL R C q l).take i ++ List.replicate ((upN R C q).length - i) (0 : Int) := by
      rw [hset, hrep]; rfl
    rw [h0] at hin
    obtain ⟨K, hK⟩ := ev_get hin
    refine ⟨K + 1, fun k hk => ?_⟩
    obtain ⟨k, rfl⟩ : ∃ m, k = m + 1 := ⟨k - 1, by omega⟩
    dsimp only
    rw [impl_Board_coloured.l0, if_pos (by omega), if_pos (by omega), if_pos (by rw [upL_length]; omega), hu1, downL_length]
    exact hK k (by omega)
def colR (R C q : Nat) (l : List Int) : Int × Int × List Int × Bool := if (upN R C q).length = 0 then (0, 0, [], false) else (((upN R C q).length : Int), ((downN R C q).length : Int), colL R C q l, true)
theorem coloured_ev {R C q : Nat} {l : List Int} (h : boardB (R : Int) (C : Int) l = true) (hR : R ≤ 6) (hC : C ≤ 6) (hq : q ≤ 1) : Ev (fun k => impl_Board_coloured.f k (R : Int) (C : Int) l (q : Int)) (colR R C q l) := by
  have hlen := lines_len ⟨R, by omega⟩ ⟨C, by omega⟩ ⟨q, by omega⟩
  simp only at hlen
  obtain ⟨K1, h1⟩ := ev_get (diag_ev R C q hR hC hq l)
  obtain ⟨K2, h2⟩ := ev_get (col_out h hR hC hq ((upN R C q).length : Int) ((downN R C q).length : Int) (upN R C q).length 0 (by omega) (by omega))
  unfold colR
  by_cases h0 : (upN R C q).length = 0
  · rw [if_pos h0]
    refine ⟨K1, fun k hk => ?_⟩
    simp only [impl_Board_coloured.f, h1 k (by omega), Option.bind_some, upL_length, h0]
    rfl
  · rw [if_neg h0]
    refine ⟨K1 + K2, fun k hk => ?_⟩
    have e := h2 k (by omega)
    simp only [impl_Board_coloured.f, h1 k (by omega), Option.bind_some, upL_length, downL_length, impl_newBoard.f]
    rw [if_neg (by omega), if_pos (by omega), if_pos (by omega)]
    simp only [Option.bind_some, Int.toNat_natCast]
    simpa using e
end Go.Proofs.Ythlcaikplebpmaa.P
namespace Go.Proofs.Ythlcaikplebpmaa.P
open Go.RowKit Go.Proofs.YthlcaikplebpmaaW.PrintWords Go.Proofs.YthlcaikplebpmaaW.PrintLast Go.Proofs.YthlcaikplebpmaaW.PrintMore
set_option linter.unusedVariables false
set_option linter.unusedSimpArgs false
theorem mem_cellsQ {R C q : Nat} {x : Nat × Nat} (h1 : x.1 < R) (h2 : x.2 < C) (h3 : (x.1 + x.2) % 2 = q) : x ∈ cellsQ R C q := by
  unfold cellsQ
  rw [List.mem_flatMap]
  exact ⟨x.1, List.mem_range.2 h1, List.mem_map.2 ⟨x.2, List.mem_filter.2 ⟨List.mem_range.2 h2, by simpa using h3⟩, rfl⟩⟩
theorem parity (r c q : Nat) (hr : r ≤ 6) (hc : c ≤ 6) : Int.tmod (wrap64 ((r : Int) + (c : Int))) 2 = (q : Int) ↔ (r + c) % 2 = q := by
  rw [w64 _ (by omega) (by omega), Int.tmod_eq_emod_of_nonneg (by omega)]
  omega
theorem biPlace_l0 (L : List Nat) (s : Nat) (hs : L.length ≤ 100) : ∀ (d i : Nat), L.length - i = d → i + idx (L.drop i) s < L.length →
    Ev (fun k => spec_biPlace.l0 k (s : Int) (L.map fun (z : Nat) => (z : Int)) (L.length : Int) (i : Int)) ((i + idx (L.drop i) s : Nat) : Int) := by
  intro d
  induction d with
  | zero => intro i hd hi; omega
  | succ d ih =>
    intro i hd hi
    have hi2 : i < L.length := by omega
    have hdr : L.drop i = L[i] :: L.drop (i + 1) := List.drop_eq_getElem_cons hi2
    have hrd : rd (L.map fun (z : Nat) => (z : Int)) (i : Int) = (L[i] : Int) := by rw [rd_nat _ _ (by simpa using hi2)]; simp
    rw [hdr, idx] at hi ⊢
    by_cases h : L[i] = s
    · rw [if_pos h]
      refine ⟨1, fun k hk => ?_⟩
      obtain ⟨k, rfl⟩ : ∃ m, k = m + 1 := ⟨k - 1, by omega⟩
      dsimp only
      rw [spec_biPlace.l0, if_pos (by omega), if_pos (by omega), if_pos (by simpa using hi2), hrd, if_pos (by omega)]; rfl
    · rw [if_neg h] at hi ⊢
      obtain ⟨K, hK⟩ := ev_get (ih (i + 1) (by omega) (by omega))
      refine ⟨K + 1, fun k hk => ?_⟩
      obtain ⟨k, rfl⟩ : ∃ m, k = m + 1 := ⟨k - 1, by omega⟩
      dsimp only
      rw [spec_biPlace.l0, if_pos (by omega), if_pos (by omega), if_pos (by simpa using hi2), hrd, if_neg (by omega), w64 _ (by omega) (by omega), show (i : Int) + 1 = ((i + 1 : Nat) : Int) by omega, hK k (by omega)]
      congr 2
      omega
theorem biPlace_ev (L : List Nat) (s : Nat) (hs : L.length ≤ 100) (h : idx L s < L.length) : Ev (fun k => spec_biPlace.f k (L.map fun (z : Nat) => (z : Int)) (s : Int)) (idx L s : Int) := by
  obtain ⟨K, hK⟩ := ev_get (biPlace_l0 L s hs L.length 0 (by omega) (by simpa using h))
  refine ⟨K, fun k hk => ?_⟩
  have := hK k hk
  simpa [spec_biPlace.f] using this
def pairL (ps : List (Nat × Nat)) : List (List Int) := ps.map fun x => [(x.1 : Int), (x.2 : Int)]
theorem pairL_at (ps : List (Nat × Nat)) (i : Nat) (h : i < ps.length) : rd_L1 (pairL ps) (i : Int) = [(ps[i].1 : Int), (ps[i].2 : Int)] := by
  rw [rdL_nat _ _ (by simpa [pairL] using h)]; simp [pairL]
theorem biBoard_end (k : Nat) (x1 : Int) (x5 x6 : List Int) (x24 : List (List Int)) (x25 x26 a b : Int) (l : List Int) (c d : Int) (out : List Int) (h : ¬ x26 < x25) : spec_biBoard.l0 (k + 1) x1 x5 x6 x24 x25 x26 a b l c d out = some (c, d, out) := by
  rw [spec_biBoard.l0, if_neg h]
theorem biBoard_other (k : Nat) (x1 : Int) (x5 x6 : List Int) (x24 : List (List Int)) (x25 x26 a b : Int) (l : List Int) (c d : Int) (out : List Int) (u v : Int) (h1 : x26 < x25) (h2 : 0 ≤ x26) (h3 : x26 < (x24.length : Int)) (hrow : rd_L1 x24 x26 = [u, v]) (hp : ¬ Int.tmod (wrap64 (u + v)) 2 = x1) :
    spec_biBoard.l0 (k + 1) x1 x5 x6 x24 x25 x26 a b l c d out = spec_biBoard.l0 k x1 x5 x6 x24 x25 (wrap64 (x26 + 1)) a b l c d out := by
  rw [spec_biBoard.l0, if_pos h1, if_pos h2, if_pos h3, hrow, if_pos (by simp), if_pos (by simp), rd0, rd1, if_neg hp]
theorem biBoard_step (k : Nat) (x1 : Int) (x5 x6 : List Int) (x24 : List (List Int)) (x25 x26 a b : Int) (l : List Int) (c d : Int) (out : List Int) (u v e f t s : Int) (h1 : x26 < x25) (h2 : 0 ≤ x26) (h3 : x26 < (x24.length : Int)) (hrow : rd_L1 x24 x26 = [u, v]) (hp : Int.tmod (wrap64 (u + v)) 2 = x1) (hd : spec_biDiagonals.f a b l u v = some (e, f)) (f1 : spec_biPlace.f k x5 e = some t) (ht0 : 0 ≤ t) (ht1 : t < (out.length : Int)) (f2 : spec_biPlace.f k x6 f = some s) (hs : 0 ≤ s) :
    spec_biBoard.l0 (k + 1) x1 x5 x6 x24 x25 x26 a b l c d out = spec_biBoard.l0 k x1 x5 x6 x24 x25 (wrap64 (x26 + 1)) a b l c d (out.set t.toNat (wrap64 (rd out t + shl .i64 1 s))) := by
  rw [spec_biBoard.l0, if_pos h1, if_pos h2, if_pos h3, hrow, if_pos (by simp), if_pos (by simp), rd0, rd1, if_pos hp, hd, Option.bind_some, f1, Option.bind_some, if_pos ht0, if_pos ht1, f2, Option.bind_some, if_pos hs]
/-- What one place adds. -/
theorem stepQ_at {R C q : Nat} (hR : R ≤ 6) (hC : C ≤ 6) (hq : q ≤ 1) {r c i : Nat} {out : List Int} (hx : r < R ∧ c < C) (hp : (r + c) % 2 = q) (ho : out.length = (upN R C q).length) (hi : i ≤ 36) (hb : ∀ j, j < out.length → 0 ≤ out.getD j 0 ∧ out.getD j 0 ≤ 64 * (i : Int)) :
    (idx (upN R C q) (r + c) < (upN R C q).length ∧ idx (downN R C q) (r + C - 1 - c) < (downN R C q).length) ∧ stepQ R C q out (r, c) = out.set ((idx (upN R C q) (r + c) : Nat) : Int).toNat (wrap64 (rd out ((idx (upN R C q) (r + c) : Nat) : Int) + shl .i64 1 ((idx (downN R C q) (r + C - 1 - c) : Nat) : Int))) ∧ (∀ j, j < (stepQ R C q out (r, c)).length → 0 ≤ (stepQ R C q out (r, c)).getD j 0 ∧ (stepQ R C q out (r, c)).getD j 0 ≤ 64 * ((i + 1 : Nat) : Int)) := by
  have hlen := lines_len ⟨R, by omega⟩ ⟨C, by omega⟩ ⟨q, by omega⟩
  simp only at hlen
  have hok := idx_ok ⟨R, by omega⟩ ⟨C, by omega⟩ ⟨q, by omega⟩ (r, c) (mem_cellsQ hx.1 hx.2 hp)
  simp only at hok
  obtain ⟨h1, h2, _⟩ := hok
  have hpw : 2 ^ idx (downN R C q) (r + C - 1 - c) ≤ 2 ^ 5 := Nat.pow_le_pow_right (by omega) (by omega)
  have hz : (0 : Int) ≤ ((2 ^ idx (downN R C q) (r + C - 1 - c) : Nat) : Int) ∧ ((2 ^ idx (downN R C q) (r + C - 1 - c) : Nat) : Int) ≤ 32 := ⟨Int.natCast_nonneg _, by exact_mod_cast hpw⟩
  refine ⟨⟨h1, h2⟩, ?_, fun j hj => ?_⟩
  · have hrd : rd out ((idx (upN R C q) (r + c) : Nat) : Int) = out.getD (idx (upN R C q) (r + c)) 0 := by
      rw [rd_nat _ _ (by omega)]; simp [List.getD_eq_getElem?_getD, List.getElem?_eq_getElem (show idx (upN R C q) (r + c) < out.length by omega)]
    have hbd := hb (idx (upN R C q) (r + c)) (by omega)
    have hsh : shl .i64 1 ((idx (downN R C q) (r + C - 1 - c) : Nat) : Int) = ((2 ^ idx (downN R C q) (r + C - 1 - c) : Nat) : Int) := by
      rw [shl_one _ (by omega) (by omega), Int.toNat_natCast]; simp
    unfold stepQ
    rw [if_pos hp, hrd, hsh, Int.toNat_natCast]
    show out.set (idx (upN R C q) (r + c)) (out.getD (idx (upN R C q) (r + c)) 0 + ((2 ^ idx (downN R C q) (r + C - 1 - c) : Nat) : Int)) = _
    generalize ((2 ^ idx (downN R C q) (r + C - 1 - c) : Nat) : Int) = z at hz ⊢
    rw [w64 _ (by omega) (by omega)]
  · rw [stepQ_length] at hj
    rw [stepQ_getD R C q out (r, c) j hj]
    have := hb j hj
    by_cases hh : (r + c) % 2 = q ∧ idx (upN R C q) (r + c) = j
    · rw [if_pos hh]
      show 0 ≤ out.getD j 0 + ((2 ^ idx (downN R C q) (r + C - 1 - c) : Nat) : Int) ∧ out.getD j 0 + ((2 ^ idx (downN R C q) (r + C - 1 - c) : Nat) : Int) ≤ 64 * ((i + 1 : Nat) : Int)
      generalize ((2 ^ idx (downN R C q) (r + C - 1 - c) : Nat) : Int) = z at hz ⊢
      omega
    · rw [if_neg hh]
      omega
theorem bi_diag (R C r c : Nat) (l : List Int) (hR : R ≤ 6) (hC : C ≤ 6) (hr : r < R) (hc : c < C) : spec_biDiagonals.f (R : Int) (C : Int) l (r : Int) (c : Int) = some (((r + c : Nat) : Int), ((r + C - 1 - c : Nat) : Int)) := by
  unfold spec_biDiagonals.f
  rw [w64 ((r : Int) + (c : Int)) (by omega) (by omega), w64 ((r : Int) - (c : Int)) (by omega) (by omega), w64 ((r : Int) - (c : Int) + (C : Int)) (by omega) (by omega), w64 ((r : Int) - (c : Int) + (C : Int) - 1) (by omega) (by omega), show (r : Int) + (c : Int) = ((r + c : Nat) : Int) by omega, show (r : Int) - (c : Int) + (C : Int) - 1 = ((r + C - 1 - c : Nat) : Int) by omega]
theorem ev_succ {α : Type} {g g' : Nat → Option α} {r : α} (K : Nat) (h : Ev g' r) (hs : ∀ k, K ≤ k → g (k + 1) = g' k) : Ev g r := by
  obtain ⟨K2, h2⟩ := ev_get h
  refine ⟨K + K2 + 1, fun k hk => ?_⟩
  obtain ⟨k, rfl⟩ : ∃ m, k = m + 1 := ⟨k - 1, by omega⟩
  rw [hs k (by omega)]
  exact h2 k (by omega)
theorem ev_last {α : Type} {g : Nat → Option α} {r : α} (hs : ∀ k, g (k + 1) = some r) : Ev g r := by
  refine ⟨1, fun k hk => ?_⟩
  obtain ⟨k, rfl⟩ : ∃ m, k = m + 1 := ⟨k - 1, by omega⟩
  exact hs k
theorem at_more {i n : Nat} (h : i < n) (hn : n ≤ 36) : n - (i + 1) = n - i - 1 ∧ i + 1 ≤ n ∧ i ≤ 36 ∧ ((i : Int) < (n : Int) ∧ 0 ≤ (i : Int) ∧ wrap64 ((i : Int) + 1) = ((i + 1 : Nat) : Int)) := by
  refine ⟨by omega, by omega, by omega, by omega, by omega, ?_⟩
  rw [w64 _ (by omega) (by omega)]; omega
theorem up_more {out : List Int} {i : Nat} (hb : ∀ j, j < out.length → 0 ≤ out.getD j 0 ∧ out.getD j 0 ≤ 64 * (i : Int)) : ∀ j, j < out.length → 0 ≤ out.getD j 0 ∧ out.getD j 0 ≤ 64 * ((i + 1 : Nat) : Int) := fun j hj => by have := hb j hj; omega
theorem biBoard_loop {R C q : Nat} (hR : R ≤ 6) (hC : C ≤ 6) (hq : q ≤ 1) (l : List Int) (ps : List (Nat × Nat)) (hps : ∀ x ∈ ps, x.1 < R ∧ x.2 < C) (hn : ps.length ≤ 36) : ∀ (d i : Nat) (out : List Int), ps.length - i = d → i ≤ ps.length → out.length = (upN R C q).length → (∀ j, j < out.length → 0 ≤ out.getD j 0 ∧ out.getD j 0 ≤ 64 * (i : Int)) →
    Ev (fun k => spec_biBoard.l0 k (q : Int) (upL R C q) (downL R C q) (pairL ps) (ps.length : Int) (i : Int) (R : Int) (C : Int) l ((upN R C q).length : Int) ((downN R C q).length : Int) out) (((upN R C q).length : Int), ((downN R C q).length : Int), (ps.drop i).foldl (stepQ R C q) out) := by
  have hlen : (upN R C q).length ≤ 100 ∧ (downN R C q).length ≤ 100 := by
    have hlen := lines_len ⟨R, by omega⟩ ⟨C, by omega⟩ ⟨q, by omega⟩
    simp only at hlen
    exact ⟨Nat.le_trans hlen.1 (by decide), Nat.le_trans hlen.2.1 (by decide)⟩
  intro d
  induction d with
  | zero =>
    intro i out hd hi ho hb
    have hle : ps.length ≤ i := Nat.sub_eq_zero_iff_le.1 hd
    refine ev_last (fun k => ?_)
    rw [biBoard_end _ _ _ _ _ _ _ _ _ _ _ _ _ (by exact_mod_cast Nat.not_lt.2 hle), List.drop_eq_nil_of_le hle]
    rfl
  | succ d ih =>
    intro i out hd hi ho hb
    have hi2 : i < ps.length := Nat.lt_of_sub_eq_succ hd
    obtain ⟨g0, g2, g36, g4⟩ := at_more hi2 hn
    have g1 : ps.length - (i + 1) = d := by rw [g0, hd]; rfl
    have hx := hps ps[i] (List.getElem_mem hi2)
    have hdr : ps.drop i = ps[i] :: ps.drop (i + 1) := List.drop_eq_getElem_cons hi2
    have hrow := pairL_at ps i hi2
    have hpl : (pairL ps).length = ps.length := by simp [pairL]
    have g5 : (i : Int) < ((pairL ps).length : Int) := by rw [hpl]; exact g4.1
    generalize ps[i] = x at hx hdr hrow
    obtain ⟨r, c⟩ := x
    dsimp only at hx hrow
    have hpar := parity r c q (Nat.le_trans (Nat.le_of_lt hx.1) hR) (Nat.le_trans (Nat.le_of_lt hx.2) hC)
    rw [hdr, List.foldl_cons]
    by_cases hp : (r + c) % 2 = q
    · obtain ⟨⟨h1, h2⟩, hst, hb2⟩ := stepQ_at hR hC hq hx hp ho g36 hb
      obtain ⟨K1, e1⟩ := ev_get (biPlace_ev (upN R C q) (r + c) hlen.1 h1)
      obtain ⟨K2, e2⟩ := ev_get (biPlace_ev (downN R C q) (r + C - 1 - c) hlen.2 h2)
      have g7 : ((idx (upN R C q) (r + c) : Nat) : Int) < (out.length : Int) := by rw [ho]; exact_mod_cast h1
      refine ev_succ (K1 + K2) (ih (i + 1) (stepQ R C q out (r, c)) g1 g2 (by rw [stepQ_length]; exact ho) hb2) (fun k hk => ?_)
      have f1 : spec_biPlace.f k (upL R C q) _ = _ := e1 k (Nat.le_trans (Nat.le_add_right K1 K2) hk)
      have f2 : spec_biPlace.f k (downL R C q) _ = _ := e2 k (Nat.le_trans (Nat.le_add_left K2 K1) hk)
      clear e1 e2 ih
      rw [biBoard_step k _ _ _ _ _ _ _ _ _ _ _ _ _ _ _ _ _ _ g4.1 g4.2.1 g5 hrow (hpar.2 hp) (bi_diag R C r c l hR hC hx.1 hx.2) f1 (Int.natCast_nonneg _) g7 f2 (Int.natCast_nonneg _), ← hst, g4.2.2]
    · have hst : stepQ R C q out (r, c) = out := by unfold stepQ; rw [if_neg hp]
      rw [hst]
      refine ev_succ 0 (ih (i + 1) out g1 g2 ho (up_more hb)) (fun k hk => ?_)
      rw [biBoard_other k _ _ _ _ _ _ _ _ _ _ _ _ _ _ g4.1 g4.2.1 g5 hrow (fun h => hp (hpar.1 h)), g4.2.2]
theorem pairsAll_mem {R C : Nat} {x : Nat × Nat} (h : x ∈ pairsAll R C) : x.1 < R ∧ x.2 < C := by
  unfold pairsAll at h
  rw [List.mem_flatMap] at h
  obtain ⟨r, hr, h⟩ := h
  obtain ⟨c, hc, rfl⟩ := List.mem_map.1 h
  exact ⟨List.mem_range.1 hr, List.mem_range.1 hc⟩
theorem biBoard_ev {R C q : Nat} {l : List Int} (h : boardB (R : Int) (C : Int) l = true) (hR : R ≤ 6) (hC : C ≤ 6) (hq : q ≤ 1) : Ev (fun k => spec_biBoard.f k (R : Int) (C : Int) l (q : Int)) (((upN R C q).length : Int), ((downN R C q).length : Int), colL R C q l) := by
  have hlen := lines_len ⟨R, by omega⟩ ⟨C, by omega⟩ ⟨q, by omega⟩
  simp only at hlen
  have hpl := pairs_len ⟨R, by omega⟩ ⟨C, by omega⟩
  simp only at hpl
  obtain ⟨K1, h1⟩ := ev_get (lines_ev R C q hR hC hq l)
  obtain ⟨K2, h2⟩ := ev_get (boCells_ev h)
  have hfl : ((pairsAll R C).filter fun x => hasC l (x.1 : Int) (x.2 : Int)).length ≤ 36 := Nat.le_trans (List.length_filter_le _ _) hpl
  obtain ⟨K3, h3⟩ := ev_get (biBoard_loop hR hC hq l ((pairsAll R C).filter fun x => hasC l (x.1 : Int) (x.2 : Int)) (fun x hx => pairsAll_mem (List.mem_filter.1 hx).1) hfl _ 0 (List.replicate (upN R C q).length 0) rfl (by omega) (by simp) (fun j hj => by
    rw [List.length_replicate] at hj
    simp [List.getD_eq_getElem?_getD, hj]))
  rw [List.drop_zero, fold_colL l hR hC hq] at h3
  refine ⟨K1 + K2 + K3, fun k hk => ?_⟩
  have e3 := h3 k (by omega)
  simp only [spec_biBoard.f, h1 k (by omega), h2 k (by omega), Option.bind_some, upL_length, downL_length, spec_boEmpty.f]
  rw [if_pos (by omega), if_pos (by omega), Option.bind_some, Int.toNat_natCast, cells_pairs]
  have hpl2 : (((pairsAll R C).filter fun x => hasC l (x.1 : Int) (x.2 : Int)).map fun x => [(x.1 : Int), (x.2 : Int)]) = pairL ((pairsAll R C).filter fun x => hasC l (x.1 : Int) (x.2 : Int)) := rfl
  rw [hpl2, show (pairL ((pairsAll R C).filter fun x => hasC l (x.1 : Int) (x.2 : Int))).length = ((pairsAll R C).filter fun x => hasC l (x.1 : Int) (x.2 : Int)).length by simp [pairL]]
  exact e3
end Go.Proofs.Ythlcaikplebpmaa.P
namespace Go.Proofs.Ythlcaikplebpmaa.Pure
open Go.RowKit Go.Proofs.Ythlcaikplebpmaa.P Go.Proofs.YthlcaikplebpmaaW.PrintWords Go.Proofs.YthlcaikplebpmaaW.PrintLast
set_option linter.unusedSimpArgs false
set_option linter.unusedVariables false
namespace FnExactColourBoard
def R (r c : Int) (l : List Int) (q : Int) : Int × Int × List Int × Bool := if boardB r c l = true ∧ inB q 0 1 = true then colR r.toNat c.toNat q.toNat l else (0, 0, [], false)
theorem impl_ev (r c : Int) (l : List Int) (q : Int) (hb : l.length ≤ 1152921504606846976) : Ev (fun k => impl_ColourBoard.f k r c l q) (R r c l q) := by
  unfold R
  by_cases h : boardB r c l = true
  · by_cases hq : inB q 0 1 = true
    · rw [if_pos ⟨h, hq⟩]
      obtain ⟨R', C', q', rfl, rfl, rfl, hR, hC, hQ⟩ := col_nat h hq
      obtain ⟨K, hK⟩ := ev_get (coloured_ev h hR hC hQ)
      simp only [Int.toNat_natCast]
      refine ⟨K, fun n hn => ?_⟩
      simp only [impl_ColourBoard.f, impl_IsBoard.f, impl_isColour.f, within_eq, Option.bind_some, h, hq, if_true, hK n hn]
    · rw [if_neg (fun hh => hq hh.2)]
      simp only [Bool.not_eq_true] at hq
      exact ⟨0, fun n hn => by simp only [impl_ColourBoard.f, impl_IsBoard.f, impl_isColour.f, within_eq, Option.bind_some, h, hq, if_true, Bool.false_eq_true, if_false]⟩
  · rw [if_neg (fun hh => h hh.1)]
    simp only [Bool.not_eq_true] at h
    exact ⟨0, fun n hn => by simp only [impl_ColourBoard.f, impl_IsBoard.f, Option.bind_some, h, Bool.false_eq_true, if_false]⟩
theorem no_board (c : Int) (l : List Int) : boardB 0 c l = false := by
  cases h : boardB 0 c l with
  | false => rfl
  | true => have := (boardB_iff _ _ _).1 h; omega
theorem spec_ev (r c : Int) (l : List Int) (q : Int) (hb : l.length ≤ 1152921504606846976) : Ev (fun k => spec_ColourBoard.f k r c l q) (R r c l q) := by
  obtain ⟨K0, h0⟩ := ev_get (boGood_ev r c l hb)
  unfold R
  by_cases h : boardB r c l = true
  · by_cases hq : inB q 0 1 = true
    · rw [if_pos ⟨h, hq⟩]
      obtain ⟨R', C', q', rfl, rfl, rfl, hR, hC, hQ⟩ := col_nat h hq
      have hlen := lines_len ⟨R', by omega⟩ ⟨C', by omega⟩ ⟨q', by omega⟩
      simp only at hlen
      obtain ⟨K, hK⟩ := ev_get (biBoard_ev h hR hC hQ)
      obtain ⟨K1, h1⟩ := ev_get (boGood_ev ((upN R' C' q').length : Int) ((downN R' C' q').length : Int) (colL R' C' q' l) (by rw [colL_length]; exact Nat.le_trans hlen.1 (by decide)))
      simp only [Int.toNat_natCast]
      unfold colR
      by_cases hn : (upN R' C' q').length = 0
      · rw [if_pos hn]
        have hnb : boardB ((upN R' C' q').length : Int) ((downN R' C' q').length : Int) (colL R' C' q' l) = false := by rw [hn]; exact no_board _ _
        refine ⟨K0 + K + K1, fun n hn2 => ?_⟩
        have e0 := h0 n (by omega)
        have e1 := h1 n (by omega)
        have e2 := hK n (by omega)
        rw [hnb] at e1
        simp only [spec_ColourBoard.f, e0, spec_biColour.f, l1In_eq, Option.bind_some, h, hq, if_true, e2, e1, Bool.false_eq_true, if_false]
      · rw [if_neg hn]
        have hnb := colL_board l hR hC hQ hn
        refine ⟨K0 + K + K1, fun n hn2 => ?_⟩
        have e0 := h0 n (by omega)
        have e1 := h1 n (by omega)
        have e2 := hK n (by omega)
        rw [hnb] at e1
        simp only [spec_ColourBoard.f, e0, spec_biColour.f, l1In_eq, Option.bind_some, h, hq, if_true, e2, e1]
    · rw [if_neg (fun hh => hq hh.2)]
      simp only [Bool.not_eq_true] at hq
      exact ⟨K0, fun n hn => by simp only [spec_ColourBoard.f, h0 n hn, spec_biColour.f, l1In_eq, Option.bind_some, h, hq, if_true, Bool.false_eq_true, if_false]⟩
  · rw [if_neg (fun hh => h hh.1)]
    simp only [Bool.not_eq_true] at h
    exact ⟨K0, fun n hn => by simp only [spec_ColourBoard.f, h0 n hn, Option.bind_some, h, Bool.false_eq_true, if_false]⟩
theorem R_small (r c : Int) (l : List Int) (q : Int) (hb : l.length ≤ 1152921504606846976) : (R r c l q).2.2.1.length ≤ 1000 := by
  unfold R
  by_cases h : boardB r c l = true ∧ inB q 0 1 = true
  · rw [if_pos h]
    obtain ⟨R', C', q', rfl, rfl, rfl, hR, hC, hQ⟩ := col_nat h.1 h.2
    have hlen := lines_len ⟨R', by omega⟩ ⟨C', by omega⟩ ⟨q', by omega⟩
    simp only at hlen
    simp only [Int.toNat_natCast]
    unfold colR
    by_cases hn : (upN R' C' q').length = 0
    · rw [if_pos hn]; exact Nat.zero_le _
    · rw [if_neg hn]
      show (colL R' C' q' l).length ≤ 1000
      rw [colL_length]
      exact Nat.le_trans hlen.1 (by decide)
  · rw [if_neg h]; exact Nat.zero_le _
end FnExactColourBoard
open FnExactColourBoard in
theorem FnExactColourBoard : laws_FnExactColourBoard.Pure := by
  intro a0_0 a0_1 l0_2 a1 hy0 hy1 hy2 hy3
  have hl_l0_2 := hy2.1
  simp only [maxLen] at hl_l0_2
  by_cases hb_l0_2 : (1048576 : Int) - l0_2.length < 0
  · refine ⟨0, ?_⟩
    unfold laws_FnExactColourBoard.f
    rw [szBoard_eq a0_0 a0_1 l0_2 _ (by omega) (by omega) (by simp only [maxLen]; omega), if_pos hb_l0_2, Option.bind_some, if_pos (by omega)]
  have h1 := (szBoard_eq a0_0 a0_1 l0_2 ((1048576 : Int)) (by omega) (by omega) (by simp only [maxLen]; omega)).trans (by rw [if_neg hb_l0_2])
  obtain ⟨K2, h2⟩ := ev_get (spec_ev a0_0 a0_1 l0_2 a1 (by omega))
  obtain ⟨K3, h3⟩ := ev_get (impl_ev a0_0 a0_1 l0_2 a1 (by omega))
  have hr := R_small a0_0 a0_1 l0_2 a1 (by omega)
  generalize R a0_0 a0_1 l0_2 a1 = R at *
  have hs0 := hr
  obtain ⟨K4, h4⟩ := ev_get (eqBoard_ev R.1 R.2.1 R.2.2.1 (by omega))
  obtain ⟨K5, h5⟩ := ev_get (markBoard_ev R.1 R.2.1 R.2.2.1 (by omega))
  obtain ⟨K6, h6⟩ := ev_get (heldBoard_ev R.1 R.2.1 R.2.2.1.length (by omega))
  have er3 : ¬ ((1 : Int) + R.2.2.1.length < 0) := by omega
  obtain ⟨K7, h7⟩ := ev_get (toBoard_ev a0_0 a0_1 l0_2 (by omega))
  obtain ⟨K8, h8⟩ := ev_get (eqBoard_ev a0_0 a0_1 l0_2 (by omega))
  obtain ⟨K9, h9⟩ := ev_get (markBoard_ev a0_0 a0_1 l0_2 (by omega))
  have em_l0_2 : ¬ ((1 : Int) + l0_2.length < 0) := by omega
  obtain ⟨m, hm⟩ : ∃ m, m = K2 + K3 + K4 + K5 + K6 + K7 + K8 + K9 := ⟨_, rfl⟩
  replace h2 := fun j => h2 (m + j) (by omega)
  replace h3 := fun j => h3 (m + j) (by omega)
  replace h4 := fun j => h4 (m + j) (by omega)
  replace h5 := fun j => h5 (m + j) (by omega)
  replace h6 := fun j => h6 (m + j) (by omega)
  replace h7 := fun j => h7 (m + j) (by omega)
  replace h8 := fun j => h8 (m + j) (by omega)
  replace h9 := fun j => h9 (m + j) (by omega)
  clear hm
  refine ⟨m + 4, ?_⟩
  unfold laws_FnExactColourBoard.f
  simp only [h1, h2, h3, h4, h5, h6, h7, h8, h9, Option.bind_some, decide_true, if_true, bne_self_eq_false, Bool.false_eq_true, if_false, if_neg hb_l0_2, if_neg er3, if_neg em_l0_2]
  rw [laws_FnExactColourBoard.j0]
  simp only [h1, h2, h3, h4, h5, h6, h7, h8, h9, Option.bind_some, decide_true, if_true, bne_self_eq_false, Bool.false_eq_true, if_false, if_neg hb_l0_2, if_neg er3, if_neg em_l0_2]
  rw [laws_FnExactColourBoard.j1]
  simp only [h1, h2, h3, h4, h5, h6, h7, h8, h9, Option.bind_some, decide_true, if_true, bne_self_eq_false, Bool.false_eq_true, if_false, if_neg hb_l0_2, if_neg er3, if_neg em_l0_2]
  rw [laws_FnExactColourBoard.j2]
  simp only [h1, h2, h3, h4, h5, h6, h7, h8, h9, Option.bind_some, decide_true, if_true, bne_self_eq_false, Bool.false_eq_true, if_false, if_neg hb_l0_2, if_neg er3, if_neg em_l0_2]
end Go.Proofs.Ythlcaikplebpmaa.Pure
