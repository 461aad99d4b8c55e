/- For every board KingNumbers returns what the reference returns, in memory of its own, and leaves its board as it was: no condition but that the arguments can be read. -/
import Derived.Test.YthlcaikplebpmaaKpLib
import Derived.Test.YthlcaikplebpmaaQ0ad70cf82f
import Derived.Test.YthlcaikplebpmaaQ273d9cce65
import Derived.Test.YthlcaikplebpmaaQa172fedcba
namespace Go.Proofs.Ythlcaikplebpmaa.P
open Go.RowKit Go.Proofs.YthlcaikplebpmaaW.PrintWords Go.Proofs.YthlcaikplebpmaaW.PrintLast Go.Proofs.YthlcaikplebpmaaW.PrintMore
set_option linter.unusedVariables false
set_option linter.unusedSimpArgs false
theorem w64 (n : Int) (h : -9223372036854775808 ≤ n) (h2 : n ≤ 9223372036854775807) : wrap64 n = n := by unfold wrap64; omega
theorem rd_nat (l : List Int) (i : Nat) (h : i < l.length) : rd l (i : Int) = l[i] := by
  unfold rd; simp [List.getD_eq_getElem?_getD, List.getElem?_eq_getElem h]
theorem drop_cons (l : List Int) (i : Nat) (h : i < l.length) : l.drop i = l[i] :: l.drop (i + 1) := List.drop_eq_getElem_cons h
theorem ev_get {α : Type} {g : Nat → Option α} {r : α} (h : Ev g r) : ∃ K, ∀ k, K ≤ k → g k = some r := h
theorem take_set_succ {α : Type} (l : List α) (i : Nat) (x : α) (h : i < l.length) : (l.set i x).take (i + 1) = l.take i ++ [x] := by
  rw [List.take_add_one, List.take_set_of_le (Nat.le_refl _)]
  simp [h]
theorem toIntS_l0 (x0 : List Int) (hl : x0.length ≤ 1152921504606846976) : ∀ (d i : Nat) (x3 : List Int) (k : Nat), x0.length - i = d → i ≤ x0.length → x3.length = x0.length → d < k →
    laws_toIntS.l0 k x0 x3 (i : Int) = some (x3.take i ++ x0.drop i) := by
  intro d
  induction d with
  | zero =>
    intro i x3 k hd hi hx hk
    obtain ⟨k, rfl⟩ : ∃ m, k = m + 1 := ⟨k - 1, by omega⟩
    rw [laws_toIntS.l0, if_neg (by omega)]
    have : i = x0.length := by omega
    subst this
    simp [← hx]
  | succ d ih =>
    intro i x3 k hd hi hx hk
    obtain ⟨k, rfl⟩ : ∃ m, k = m + 1 := ⟨k - 1, by omega⟩
    have h1 : i < x0.length := by omega
    rw [laws_toIntS.l0, if_pos (by omega), if_pos (by omega), if_pos (by omega), w64 _ (by omega) (by omega)]
    have := ih (i + 1) (x3.set i (rd x0 i)) k (by omega) (by omega) (by simp [hx]) (by omega)
    rw [show ((i : Int) + 1) = ((i + 1 : Nat) : Int) by omega, show (i : Int).toNat = i by omega, this, rd_nat _ _ h1, drop_cons x0 i h1]
    congr 1
    rw [take_set_succ _ _ _ (by omega)]
    simp
theorem toIntS_ev (l : List Int) (hl : l.length ≤ 35184372088832) : Ev (fun k => laws_toIntS.f k l) l := by
  refine ⟨l.length + 1, fun k hk => ?_⟩
  simp only [laws_toIntS.f]
  rw [if_pos (by omega), if_pos (by omega)]
  have := toIntS_l0 l (by omega) l.length 0 (List.replicate l.length 0) k (by omega) (by omega) (by simp) (by omega)
  simpa using this
theorem eqIntS_l0 (a b : List Int) (hl : a.length = b.length) (hb : a.length ≤ 1152921504606846976) : ∀ (d i : Nat) (k : Nat), a.length - i = d → i ≤ a.length → d < k →
    laws_eqIntS.l0 k a b (i : Int) = some (decide (a.drop i = b.drop i)) := by
  intro d
  induction d with
  | zero =>
    intro i k hd hi hk
    obtain ⟨k, rfl⟩ : ∃ m, k = m + 1 := ⟨k - 1, by omega⟩
    rw [laws_eqIntS.l0, if_neg (by omega)]
    simp [List.drop_eq_nil_of_le (show a.length ≤ i by omega), List.drop_eq_nil_of_le (show b.length ≤ i by omega)]
  | succ d ih =>
    intro i k hd hi hk
    obtain ⟨k, rfl⟩ : ∃ m, k = m + 1 := ⟨k - 1, by omega⟩
    have h1 : i < a.length := by omega
    rw [laws_eqIntS.l0, if_pos (by omega), if_pos (by omega), if_pos (by omega), w64 _ (by omega) (by omega), rd_nat _ _ h1, rd_nat _ _ (show i < b.length by omega)]
    rw [show ((i : Int) + 1) = ((i + 1 : Nat) : Int) by omega, ih (i + 1) k (by omega) (by omega) (by omega)]
    rw [drop_cons a i h1, drop_cons b i (by omega)]
    generalize a.drop (i + 1) = ta, b.drop (i + 1) = tb
    by_cases h : a[i] = b[i]
    · simp [h]
    · simp [h]
theorem eqIntS_ev (a b : List Int) (hb : a.length ≤ 1152921504606846976) : Ev (fun k => laws_eqIntS.f k a b) (decide (a = b)) := by
  refine ⟨a.length + 1, fun k hk => ?_⟩
  simp only [laws_eqIntS.f]
  by_cases h : a.length = b.length
  · rw [if_pos (by omega)]
    have := eqIntS_l0 a b h hb a.length 0 k (by omega) (by omega) (by omega)
    simpa using this
  · rw [if_neg (by omega)]
    congr 1
    symm
    apply decide_eq_false
    intro e
    exact h (by rw [e])
def marks (n : Nat) (k : Int) : List Int := (List.range n).map fun (i : Nat) => k + (i : Int)
theorem marks_length (n : Nat) (k : Int) : (marks n k).length = n := by simp [marks]
theorem marks_succ (n : Nat) (k : Int) : marks (n + 1) k = k :: marks n (k + 1) := by
  unfold marks
  rw [List.range_succ_eq_map, List.map_cons, List.map_map]
  congr 1
  · simp
  · apply List.map_congr_left
    intro a _
    simp
    omega
theorem markIntS_l0 : ∀ (d i : Nat) (x0 : List Int) (x1 : Int) (k : Nat), x0.length - i = d → i ≤ x0.length → d < k → x0.length ≤ 1152921504606846976 → 0 ≤ x1 → x1 + d ≤ 4611686018427387904 →
    laws_markIntS.l0 k x0 x1 (i : Int) = some (x1 + d, x0.take i ++ marks d x1) := by
  intro d
  induction d with
  | zero =>
    intro i x0 x1 k hd hi hk hb h0 h1
    obtain ⟨k, rfl⟩ : ∃ m, k = m + 1 := ⟨k - 1, by omega⟩
    rw [laws_markIntS.l0, if_neg (by omega)]
    have : i = x0.length := by omega
    subst this
    simp [marks]
  | succ d ih =>
    intro i x0 x1 k hd hi hk hb h0 h1
    obtain ⟨k, rfl⟩ : ∃ m, k = m + 1 := ⟨k - 1, by omega⟩
    rw [laws_markIntS.l0, if_pos (by omega), if_pos (by omega), w64 _ (by omega) (by omega), w64 _ (by omega) (by omega)]
    rw [show ((i : Int) + 1) = ((i + 1 : Nat) : Int) by omega, show (i : Int).toNat = i by omega]
    rw [ih (i + 1) (x0.set i x1) (x1 + 1) k (by simp; omega) (by simp; omega) (by omega) (by simpa using hb) (by omega) (by omega)]
    rw [marks_succ]
    congr 2
    · omega
    · rw [take_set_succ _ _ _ (by omega)]
      simp
theorem markIntS_ev (l : List Int) (k1 : Int) (hb : l.length ≤ 1152921504606846976) (h0 : 0 ≤ k1) (h1 : k1 + l.length ≤ 4611686018427387904) : Ev (fun k => laws_markIntS.f k l k1) (k1 + l.length, marks l.length k1) := by
  refine ⟨l.length + 1, fun k hk => ?_⟩
  simp only [laws_markIntS.f]
  have := markIntS_l0 l.length 0 l k1 k (by omega) (by omega) (by omega) hb h0 h1
  simpa using this
theorem heldIntS_l0 (n : Nat) (k0 : Int) (hb : n ≤ 1152921504606846976) (h0 : 0 ≤ k0) (h1 : k0 + n ≤ 4611686018427387904) : ∀ (d i : Nat) (k : Nat), n - i = d → i ≤ n → d < k →
    laws_heldIntS.l0 k (marks n k0) (k0 + i) (i : Int) = some (k0 + n) := by
  intro d
  induction d with
  | zero =>
    intro i k hd hi hk
    obtain ⟨k, rfl⟩ : ∃ m, k = m + 1 := ⟨k - 1, by omega⟩
    rw [laws_heldIntS.l0, if_neg (by rw [marks_length]; omega)]
    congr 1; omega
  | succ d ih =>
    intro i k hd hi hk
    obtain ⟨k, rfl⟩ : ∃ m, k = m + 1 := ⟨k - 1, by omega⟩
    have h2 : i < (marks n k0).length := by rw [marks_length]; omega
    rw [laws_heldIntS.l0, if_pos (by rw [marks_length]; omega), if_pos (by omega), rd_nat _ _ h2, if_pos (by simp [marks]), w64 _ (by omega) (by omega), w64 _ (by omega) (by omega)]
    have := ih (i + 1) k (by omega) (by omega) (by omega)
    rw [show ((i : Int) + 1) = ((i + 1 : Nat) : Int) by omega, show (k0 + (i : Int) + 1) = k0 + ((i + 1 : Nat) : Int) by omega]
    exact this
theorem heldIntS_ev (n : Nat) (k0 : Int) (hb : n ≤ 1152921504606846976) (h0 : 0 ≤ k0) (h1 : k0 + n ≤ 4611686018427387904) : Ev (fun k => laws_heldIntS.f k (marks n k0) k0) (k0 + n) := by
  refine ⟨n + 1, fun k hk => ?_⟩
  simp only [laws_heldIntS.f]
  have := heldIntS_l0 n k0 hb h0 h1 n 0 k (by omega) (by omega) (by omega)
  simpa using this
def inB (n lo hi : Int) : Bool := decide (lo ≤ n ∧ n ≤ hi)
theorem l1In_eq (a b c : Int) : spec_l1In.f a b c = some (inB a b c) := by
  unfold spec_l1In.f inB
  by_cases h : a ≥ b
  · rw [if_pos h]; congr 1; simp; omega
  · rw [if_neg h]; congr 1; symm; apply decide_eq_false; omega
def allIn (l : List Int) (lo hi : Int) : Bool := l.all fun x => inB x lo hi
theorem l1All_l0 (lo hi : Int) (l : List Int) (hb : l.length ≤ 1152921504606846976) : ∀ (d i : Nat) (k : Nat), l.length - i = d → i ≤ l.length → d < k →
    spec_l1All.l0 k lo hi l (l.length : Int) (i : Int) = some (allIn (l.drop i) lo hi) := by
  intro d
  induction d with
  | zero =>
    intro i k hd hi' hk
    obtain ⟨k, rfl⟩ : ∃ m, k = m + 1 := ⟨k - 1, by omega⟩
    rw [spec_l1All.l0, if_neg (by omega), List.drop_eq_nil_of_le (by omega)]
    rfl
  | succ d ih =>
    intro i k hd hi' hk
    obtain ⟨k, rfl⟩ : ∃ m, k = m + 1 := ⟨k - 1, by omega⟩
    have h1 : i < l.length := by omega
    rw [spec_l1All.l0, if_pos (by omega), if_pos (by omega), if_pos (by omega), l1In_eq, Option.bind_some, w64 _ (by omega) (by omega), rd_nat _ _ h1]
    rw [show ((i : Int) + 1) = ((i + 1 : Nat) : Int) by omega, ih (i + 1) k (by omega) (by omega) (by omega), drop_cons l i h1]
    unfold allIn
    rw [List.all_cons]
    generalize l.drop (i + 1) = tl
    by_cases h : inB l[i] lo hi = true
    · rw [if_pos h, h]; simp
    · rw [if_neg h]; simp at h; rw [h]; simp
theorem l1All_ev (l : List Int) (lo hi : Int) (hb : l.length ≤ 1152921504606846976) : Ev (fun k => spec_l1All.f k l lo hi) (allIn l lo hi) := by
  refine ⟨l.length + 1, fun k hk => ?_⟩
  simp only [spec_l1All.f]
  have := l1All_l0 lo hi l hb l.length 0 k (by omega) (by omega) (by omega)
  simpa using this
end Go.Proofs.Ythlcaikplebpmaa.P
namespace Go.Proofs.Ythlcaikplebpmaa.P
open Go.RowKit Go.Proofs.YthlcaikplebpmaaW.PrintWords Go.Proofs.YthlcaikplebpmaaW.PrintLast Go.Proofs.YthlcaikplebpmaaW.PrintMore
set_option linter.unusedVariables false
set_option linter.unusedSimpArgs false
theorem boardB_iff (r c : Int) (l : List Int) : boardB r c l = true ↔ (1 ≤ r ∧ r ≤ 6) ∧ (1 ≤ c ∧ c ≤ 6) ∧ (l.length : Int) = r ∧ ∀ m ∈ l, 0 ≤ m ∧ m ≤ 2 ^ c.toNat - 1 := by
  unfold boardB
  simp only [Bool.and_eq_true, decide_eq_true_eq, List.all_eq_true]
  constructor
  · rintro ⟨⟨⟨a, b⟩, c⟩, d⟩; exact ⟨a, b, c, d⟩
  · rintro ⟨a, b, c, d⟩; exact ⟨⟨⟨a, b⟩, c⟩, d⟩
theorem shl_one (c : Int) (h0 : 0 ≤ c) (h1 : c ≤ 62) : shl .i64 1 c = 2 ^ c.toNat := by
  unfold shl
  rw [Int.one_mul, Nat.min_eq_left (show c.toNat ≤ IntKind.i64.bits by have : IntKind.i64.bits = 64 := rfl; omega)]
  rw [i64_w, w64]
  · have : (0 : Int) ≤ 2 ^ c.toNat := Int.le_of_lt (Int.pow_pos (by decide))
    omega
  · have h : (2 : Int) ^ c.toNat ≤ 2 ^ 62 := by
      have := Nat.pow_le_pow_right (show 0 < 2 by decide) (show c.toNat ≤ 62 by omega)
      exact_mod_cast this
    have e : (2 : Int) ^ 62 = 4611686018427387904 := by decide
    omega
theorem pow_le6 (c : Int) (h1 : c ≤ 6) : (2 : Int) ^ c.toNat ≤ 64 := by
  have := Nat.pow_le_pow_right (show 0 < 2 by decide) (show c.toNat ≤ 6 by omega)
  have h : (2 : Int) ^ c.toNat ≤ 2 ^ 6 := by exact_mod_cast this
  exact h
theorem pow_pos2 (c : Int) : (1 : Int) ≤ 2 ^ c.toNat := by
  have : (0 : Int) < 2 ^ c.toNat := Int.pow_pos (by decide)
  omega
theorem boSide_eq (a : Int) : spec_boSide.f a = some (inB a 1 6) := by
  simp only [spec_boSide.f, l1In_eq, Option.bind_some]
theorem boGood_ev (r c : Int) (l : List Int) (hb : l.length ≤ 1152921504606846976) : Ev (fun k => spec_boGood.f k r c l) (boardB r c l) := by
  by_cases h1 : 1 ≤ r ∧ r ≤ 6
  · by_cases h2 : 1 ≤ c ∧ c ≤ 6
    · by_cases h3 : (l.length : Int) = r
      · obtain ⟨K, hK⟩ := ev_get (l1All_ev l 0 (2 ^ c.toNat - 1) hb)
        refine ⟨K, fun k hk => ?_⟩
        have hp := pow_le6 c h2.2
        have hp2 := pow_pos2 c
        simp only [spec_boGood.f, boSide_eq, Option.bind_some]
        rw [if_pos (by simpa [inB] using h1), if_pos (by simpa [inB] using h2), if_pos h3, if_pos (by omega), shl_one c (by omega) (by omega), w64 _ (by omega) (by omega), hK k hk, Option.bind_some]
        congr 1
        unfold boardB allIn inB
        simp [h1, h2, h3]
      · refine ⟨0, fun k hk => ?_⟩
        simp only [spec_boGood.f, boSide_eq, Option.bind_some]
        rw [if_pos (by simpa [inB] using h1), if_pos (by simpa [inB] using h2), if_neg h3]
        congr 1; unfold boardB; simp [h3]
    · refine ⟨0, fun k hk => ?_⟩
      simp only [spec_boGood.f, boSide_eq, Option.bind_some]
      rw [if_pos (by simpa [inB] using h1), if_neg (by simpa [inB] using h2)]
      congr 1; unfold boardB; rw [decide_eq_false h2]; simp
  · refine ⟨0, fun k hk => ?_⟩
    simp only [spec_boGood.f, boSide_eq, Option.bind_some]
    rw [if_neg (by simpa [inB] using h1)]
    congr 1; unfold boardB; rw [decide_eq_false h1]; simp
theorem szBoard_eq (r c : Int) (l : List Int) (left : Int) (h0 : 0 ≤ left) (h1 : left ≤ 1048576) (hl : l.length ≤ maxLen) : laws_szBoard.f r c l left = some (if left - l.length < 0 then -1 else left - l.length) := by
  simp only [laws_szBoard.f, laws_szIntS.f]
  simp only [maxLen] at hl
  rw [w64 _ (by omega) (by omega)]
  split
  · simp only [Option.bind_some]; simp
  · simp only [Option.bind_some]; simp [*]
theorem toBoard_ev (r c : Int) (l : List Int) (hl : l.length ≤ 35184372088832) : Ev (fun k => laws_toBoard.f k r c l) (r, c, l) := by
  obtain ⟨K, hK⟩ := ev_get (toIntS_ev l hl)
  refine ⟨K, fun k hk => ?_⟩
  simp only [laws_toBoard.f, hK k hk, Option.bind_some]
theorem eqBoard_ev (r c : Int) (l : List Int) (hb : l.length ≤ 1152921504606846976) : Ev (fun k => laws_eqBoard.f k r c l r c l) true := by
  obtain ⟨K, hK⟩ := ev_get (eqIntS_ev l l hb)
  refine ⟨K, fun k hk => ?_⟩
  simp only [laws_eqBoard.f, hK k hk, Option.bind_some, if_true, decide_true]
theorem markBoard_ev (r c : Int) (l : List Int) (hb : l.length ≤ 1152921504606846976) : Ev (fun k => laws_markBoard.f k r c l 1) (1 + l.length, marks l.length 1) := by
  obtain ⟨K, hK⟩ := ev_get (markIntS_ev l 1 hb (by omega) (by omega))
  refine ⟨K, fun k hk => ?_⟩
  simp only [laws_markBoard.f, hK k hk, Option.bind_some]
end Go.Proofs.Ythlcaikplebpmaa.P
namespace Go.Proofs.Ythlcaikplebpmaa.P
open Go.RowKit Go.Proofs.YthlcaikplebpmaaW.PrintWords Go.Proofs.YthlcaikplebpmaaW.PrintLast Go.Proofs.YthlcaikplebpmaaW.PrintMore
set_option linter.unusedVariables false
set_option linter.unusedSimpArgs false
def total : List (List Int) → Nat
  | [] => 0
  | l :: s => l.length + total s
end Go.Proofs.Ythlcaikplebpmaa.P
namespace Go.Proofs.Ythlcaikplebpmaa.P
open Go.RowKit Go.Proofs.YthlcaikplebpmaaW.PrintWords Go.Proofs.YthlcaikplebpmaaW.PrintLast Go.Proofs.YthlcaikplebpmaaW.PrintMore
set_option linter.unusedVariables false
set_option linter.unusedSimpArgs false
/-- A mask has a column. -/
def hasM (m : Int) (j : Int) : Bool := Int.tmod (shr .i64 m j) 2 == 1
/-- The board has the cell. -/
def hasC (l : List Int) (i j : Int) : Bool := hasM (rd l i) j
end Go.Proofs.Ythlcaikplebpmaa.P
namespace Go.Proofs.Ythlcaikplebpmaa.P
open Go.RowKit Go.Proofs.YthlcaikplebpmaaW.PrintWords Go.Proofs.YthlcaikplebpmaaW.PrintLast Go.Proofs.YthlcaikplebpmaaW.PrintMore
set_option linter.unusedVariables false
set_option linter.unusedSimpArgs false
def pop (t : Int) : Nat := ((List.range 6).filter fun (c : Nat) => hasM t (c : Int)).length
theorem pop_cols : ∀ t : Fin 64, ∀ C : Fin 7, t.val < 2 ^ C.val → pop (t.val : Int) ≤ C.val := by decide +kernel
section
variable {l : List Int} {R C m : Nat} (hR : R ≤ 6) (hC : C ≤ 6) (hl : l.length = R) (hm : m = min R C)
include hR hC hl hm
omit hR hC hl hm
end
end Go.Proofs.Ythlcaikplebpmaa.P
namespace Go.Proofs.Ythlcaikplebpmaa.P
open Go.RowKit Go.Proofs.YthlcaikplebpmaaW.PrintWords Go.Proofs.YthlcaikplebpmaaW.PrintLast Go.Proofs.YthlcaikplebpmaaW.PrintMore
set_option linter.unusedVariables false
set_option linter.unusedSimpArgs false
def cnt (p : List Int) : Nat := (p.filter fun x => x != -1).length
section
variable {l : List Int} {R C m : Nat} (hR : R ≤ 6) (hC : C ≤ 6) (hl : l.length = R) (hm : m = min R C) (hmask : ∀ i : Nat, i < R → 0 ≤ rd l (i : Int) ∧ rd l (i : Int) ≤ 63)
include hR hC hl hm hmask
omit hR hm in
end
end Go.Proofs.Ythlcaikplebpmaa.P
namespace Go.Proofs.Ythlcaikplebpmaa.P
open Go.RowKit Go.Proofs.YthlcaikplebpmaaW.PrintWords Go.Proofs.YthlcaikplebpmaaW.PrintLast Go.Proofs.YthlcaikplebpmaaW.PrintMore
set_option linter.unusedVariables false
set_option linter.unusedSimpArgs false
theorem evb {α : Type} {g g' : Nat → Option α} {r : α} (K : Nat) (h : Ev g' r) (hs : ∀ k, K ≤ k → g (k + 1) = g' k) : Ev g r := by
  obtain ⟨K2, h2⟩ := ev_get h
  refine ⟨K + K2 + 1, fun k hk => ?_⟩
  obtain ⟨k, rfl⟩ : ∃ m, k = m + 1 := ⟨k - 1, by omega⟩
  rw [hs k (by omega)]
  exact h2 k (by omega)
theorem evz {α : Type} {g : Nat → Option α} {r : α} (hs : ∀ k, g (k + 1) = some r) : Ev g r := by
  refine ⟨1, fun k hk => ?_⟩
  obtain ⟨k, rfl⟩ : ∃ m, k = m + 1 := ⟨k - 1, by omega⟩
  exact hs k
/-- Without zeros at the end. -/
def short (l : List Int) : Nat → List Int
  | 0 => []
  | n + 1 => if rd l (n : Int) = 0 then short l n else l.take (n + 1)
theorem short_take (l : List Int) : ∀ n, n ≤ l.length → short (l.take n) n = short l n
  | 0, _ => rfl
  | n + 1, h => by
    have e : rd (l.take (n + 1)) (n : Int) = rd l (n : Int) := by
      rw [rd_nat _ _ (by rw [List.length_take]; omega), rd_nat _ _ (by omega)]; simp
    have ih := short_take l n (by omega)
    have ih2 := short_take (l.take (n + 1)) n (by rw [List.length_take]; omega)
    rw [List.take_take, Nat.min_eq_left (by omega)] at ih2
    rw [short, short, e, ← ih2, ih, List.take_take, Nat.min_self]
end Go.Proofs.Ythlcaikplebpmaa.P
namespace Go.Proofs.Ythlcaikplebpmaa.P
open Go.RowKit Go.Proofs.YthlcaikplebpmaaW.PrintWords Go.Proofs.YthlcaikplebpmaaW.PrintLast Go.Proofs.YthlcaikplebpmaaW.PrintMore
set_option linter.unusedVariables false
set_option linter.unusedSimpArgs false
def sumL : List Int → Int
  | [] => 0
  | x :: l => x + sumL l
/-- Of places with columns: the bits of those that the board holds. -/
def bits (l : List Int) (xs : List ((Nat × Nat) × Nat)) : Int := sumL (xs.map fun x => if hasC l (x.1.1 : Int) (x.1.2 : Int) = true then ((2 ^ x.2 : Nat) : Int) else 0)
end Go.Proofs.Ythlcaikplebpmaa.P
namespace Go.Proofs.Ythlcaikplebpmaa.P
open Go.RowKit Go.Proofs.YthlcaikplebpmaaW.PrintWords Go.Proofs.YthlcaikplebpmaaW.PrintLast Go.Proofs.YthlcaikplebpmaaW.PrintMore
set_option linter.unusedVariables false
set_option linter.unusedSimpArgs false
theorem trim_ev : ∀ (l : List Int), l.length ≤ 1000 → Ev (fun k => impl_trimmed.l0 k l) (short l l.length) := by
  intro l
  induction hn : l.length generalizing l with
  | zero =>
    intro _
    have : l = [] := List.length_eq_zero_iff.1 hn
    subst this
    exact evz (fun k => by rw [impl_trimmed.l0, if_neg (by simp)]; rfl)
  | succ n ih =>
    intro hl
    have hw : wrap64 ((l.length : Int) - 1) = (n : Int) := by rw [w64 _ (by omega) (by omega)]; omega
    have htl : (l.take n).length = n := by rw [List.length_take]; omega
    by_cases h0 : rd l (n : Int) = 0
    · have e : short l (n + 1) = short (l.take n) n := by rw [short, if_pos h0, short_take l n (by omega)]
      rw [e]
      refine evb 0 (ih (l.take n) htl (by omega)) (fun k _ => ?_)
      rw [impl_trimmed.l0, hw, if_pos (by omega), if_pos (by omega), if_pos (by omega), if_pos h0, if_pos (by omega), Int.toNat_natCast]
    · have e : short l (n + 1) = l := by rw [short, if_neg h0, List.take_of_length_le (by omega)]
      rw [e]
      exact evz (fun k => by rw [impl_trimmed.l0, hw, if_pos (by omega), if_pos (by omega), if_pos (by omega), if_neg h0])
end Go.Proofs.Ythlcaikplebpmaa.P
namespace Go.Proofs.Ythlcaikplebpmaa.P
open Go.RowKit Go.Proofs.YthlcaikplebpmaaW.PrintWords Go.Proofs.YthlcaikplebpmaaW.PrintLast Go.Proofs.YthlcaikplebpmaaW.PrintMore
set_option linter.unusedVariables false
set_option linter.unusedSimpArgs false
def padK (x : List Int) (m : Nat) : List Int := x ++ List.replicate (m - x.length) 0
def putK (x : List Int) (j : Nat) (v : Int) : List Int := (padK x (j + 1)).set j (wrap64 ((padK x (j + 1)).getD j 0 + v))
def goK (n : Nat) : List Int → List Int → Nat → List Int
  | x, [], _ => x
  | x, v :: r, i => goK n (putK x (n + i) v) r (i + 1)
theorem padK_len (x : List Int) (m : Nat) : (padK x m).length = max x.length m := by simp [padK]; omega
theorem padK_get (x : List Int) (m k : Nat) : (padK x m).getD k 0 = x.getD k 0 := by
  unfold padK
  rw [List.getD_eq_getElem?_getD, List.getD_eq_getElem?_getD]
  by_cases h : k < x.length
  · rw [List.getElem?_append_left h]
  · rw [List.getElem?_append_right (by omega), List.getElem?_eq_none (show x.length ≤ k by omega), List.getElem?_replicate]
    split <;> rfl
theorem putK_len (x : List Int) (j : Nat) (v : Int) : (putK x j v).length = max x.length (j + 1) := by unfold putK; rw [List.length_set, padK_len]
theorem putK_get (x : List Int) (j : Nat) (v : Int) (k : Nat) : (putK x j v).getD k 0 = if k = j then wrap64 (x.getD j 0 + v) else x.getD k 0 := by
  unfold putK
  by_cases e : k = j
  · subst e
    rw [if_pos rfl, List.getD_eq_getElem?_getD, List.getElem?_set_self (by rw [padK_len]; omega), padK_get]; rfl
  · rw [if_neg e, List.getD_eq_getElem?_getD, List.getElem?_set_ne (fun e2 => e e2.symm), ← List.getD_eq_getElem?_getD, padK_get]
theorem goK_len (n : Nat) : ∀ (r x : List Int) (i : Nat), (goK n x r i).length = if r = [] then x.length else max x.length (n + i + r.length)
  | [], x, i => by rw [if_pos rfl]; rfl
  | v :: r, x, i => by
    rw [goK, goK_len n r, putK_len, List.length_cons]
    rw [if_neg (show ¬ (v :: r = []) from fun h => by cases h)]
    by_cases h : r = []
    · rw [if_pos h, h, List.length_nil]
    · rw [if_neg h]; omega
theorem goK_get (n : Nat) : ∀ (r x : List Int) (i k : Nat), (goK n x r i).getD k 0 = if n + i ≤ k ∧ k < n + i + r.length then wrap64 (x.getD k 0 + r.getD (k - (n + i)) 0) else x.getD k 0
  | [], x, i, k => by rw [if_neg (show ¬ (n + i ≤ k ∧ k < n + i + ([] : List Int).length) by rw [List.length_nil]; omega)]; rfl
  | v :: r, x, i, k => by
    rw [goK, goK_get n r, putK_get, List.length_cons]
    by_cases e : k = n + i
    · subst e
      rw [if_neg (by omega), if_pos rfl, if_pos (by omega), Nat.sub_self]; rfl
    · rw [if_neg e]
      by_cases e2 : n + (i + 1) ≤ k ∧ k < n + (i + 1) + r.length
      · rw [if_pos e2, if_pos (by omega)]
        have : k - (n + i) = (k - (n + (i + 1))) + 1 := by omega
        rw [this]; rfl
      · rw [if_neg e2, if_neg (by omega)]
theorem goK_kadd (n : Nat) (a b : List Int) (hb : b ≠ []) : goK n a b 0 = Kings.kadd a b n := by
  have hl : (goK n a b 0).length = max a.length (n + b.length) := by rw [goK_len, if_neg hb]; rfl
  unfold Kings.kadd
  rw [if_neg hb]
  refine List.ext_getElem (by simpa using hl) (fun k h1 h2 => ?_)
  have e := goK_get n b a 0 k
  rw [List.getD_eq_getElem?_getD, List.getElem?_eq_getElem h1, Option.getD_some] at e
  simpa using e
theorem kiAdd_l1 (n : Nat) (b : List Int) (i : Nat) (v : Int) (hn : n ≤ 6) (hi : i < 200) : ∀ (d : Nat) (x : List Int) (k : Nat), n + i + 1 - x.length = d → x.length ≤ 1000 → d < k →
    spec_kiAdd.l1 k (n : Int) x (i : Int) v b (b.length : Int) (i : Int) = spec_kiAdd.l0 (k - d - 1) (n : Int) (putK x (n + i) v) b (b.length : Int) (((i + 1 : Nat) : Int)) := by
  intro d
  induction d with
  | zero =>
    intro x k hd hx hk
    obtain ⟨k, rfl⟩ : ∃ m, k = m + 1 := ⟨k - 1, by omega⟩
    rw [spec_kiAdd.l1, w64 ((i : Int) + n) (by omega) (by omega), if_neg (by omega), if_pos (by omega), if_pos (by omega), w64 ((i : Int) + 1) (by omega) (by omega)]
    have e1 : ((i : Int) + (n : Int)).toNat = n + i := by omega
    have e2 : (i : Int) + n = ((n + i : Nat) : Int) := by omega
    have e3 : putK x (n + i) v = x.set (n + i) (wrap64 (rd x ((n + i : Nat) : Int) + v)) := by
      have e4 : padK x (n + i + 1) = x := by unfold padK; rw [show n + i + 1 - x.length = 0 by omega]; simp
      unfold putK
      rw [e4, rd_nat _ _ (by omega), List.getD_eq_getElem?_getD, List.getElem?_eq_getElem (by omega), Option.getD_some]
    rw [e1, e2, e3, show k + 1 - 0 - 1 = k by omega, show ((i + 1 : Nat) : Int) = (i : Int) + 1 by omega]
  | succ d ih =>
    intro x k hd hx hk
    obtain ⟨k, rfl⟩ : ∃ m, k = m + 1 := ⟨k - 1, by omega⟩
    rw [spec_kiAdd.l1, w64 ((i : Int) + n) (by omega) (by omega), if_pos (by omega), if_pos (by omega), ih (x ++ [0]) k (by simp; omega) (by simp; omega) (by omega)]
    have e3 : putK (x ++ [0]) (n + i) v = putK x (n + i) v := by
      have e4 : padK (x ++ [0]) (n + i + 1) = padK x (n + i + 1) := by
        unfold padK
        rw [List.append_assoc, List.length_append, List.length_singleton, show n + i + 1 - x.length = (n + i + 1 - (x.length + 1)) + 1 by omega, List.replicate_succ]; rfl
      unfold putK
      rw [e4]
    rw [e3, show k - d - 1 = k + 1 - (d + 1) - 1 by omega]
theorem kiAdd_l0 (n : Nat) (b : List Int) (hn : n ≤ 6) (hb : b.length ≤ 100) : ∀ (d i : Nat) (x : List Int) (k : Nat), b.length - i = d → i ≤ b.length → x.length ≤ 110 → d * 120 < k →
    spec_kiAdd.l0 k (n : Int) x b (b.length : Int) (i : Int) = some (goK n x (b.drop i) i) := by
  intro d
  induction d with
  | zero =>
    intro i x k hd hi hx hk
    obtain ⟨k, rfl⟩ : ∃ m, k = m + 1 := ⟨k - 1, by omega⟩
    rw [spec_kiAdd.l0, if_neg (by omega), List.drop_eq_nil_of_le (by omega)]; rfl
  | succ d ih =>
    intro i x k hd hi hx hk
    obtain ⟨k, rfl⟩ : ∃ m, k = m + 1 := ⟨k - 1, by omega⟩
    have hlt : i < b.length := by omega
    rw [spec_kiAdd.l0, if_pos (by omega), if_pos (by omega), if_pos (by omega), rd_nat _ _ hlt, kiAdd_l1 n b i b[i] hn (by omega) _ x k rfl (by omega) (by omega), ih (i + 1) _ _ (by omega) (by omega) (by rw [putK_len]; omega) (by omega), List.drop_eq_getElem_cons hlt]
    rfl
theorem kiAdd_f (a b : List Int) (n : Nat) (ha : a.length ≤ 100) (hb : b.length ≤ 100) (hn : n ≤ 6) (k : Nat) (hk : 20000 ≤ k) : spec_kiAdd.f k a b (n : Int) = some (Kings.kadd a b n) := by
  unfold spec_kiAdd.f
  by_cases e : b = []
  · subst e
    rw [if_pos (by simp)]
    simp [Kings.kadd]
  · have : 0 < b.length := List.length_pos_iff.2 e
    have ho : spec_l1Own.f a = some a := by
      unfold spec_l1Own.f
      simp
      omega
    rw [if_neg (by omega), ho, Option.bind_some]
    have h := kiAdd_l0 n b hn hb b.length 0 a k (by omega) (by omega) (by omega) (by omega)
    rw [List.drop_zero, goK_kadd n a b e] at h
    exact h
end Go.Proofs.Ythlcaikplebpmaa.P
namespace Go.Proofs.Ythlcaikplebpmaa.Kings
open Go.RowKit Go.Proofs.Ythlcaikplebpmaa.P Go.Proofs.Ythlcaikplebpmaa.Cap Go.Proofs.YthlcaikplebpmaaW.PrintWords Go.Proofs.YthlcaikplebpmaaW.PrintLast Go.Proofs.YthlcaikplebpmaaW.PrintMore
theorem count_all : ∀ m : Fin 64, impl_count.f (m.val : Int) = some ((spec_kiNumbers.popN m.val 6 : Nat) : Int) := by decide +kernel
theorem cnt_pop (m : Nat) (h : m < 64) : impl_Board_kings.cnt m = spec_kiNumbers.popN m 6 := by
  unfold impl_Board_kings.cnt
  rw [count_all ⟨m, h⟩, Option.getD_some, Int.toNat_natCast]
theorem cnt_le (m : Nat) (h : m < 64) : impl_Board_kings.cnt m ≤ 6 := by rw [cnt_pop m h]; exact spec_kiNumbers.popN_le m 6
theorem count_cnt (m : Nat) (h : m < 64) : impl_count.f (m : Int) = some ((impl_Board_kings.cnt m : Nat) : Int) := by rw [cnt_pop m h]; exact count_all ⟨m, h⟩
theorem pop_cols : ∀ C : Fin 7, ∀ m : Fin 64, m.val < 2 ^ C.val → spec_kiNumbers.popN m.val C.val = spec_kiNumbers.popN m.val 6 := by decide +kernel
theorem comp_all : ∀ m b : Fin 64, spec_kiNumbers.c2 m.val b.val = comp (m.val : Int) (b.val : Int) := by decide +kernel
theorem valid_low : ∀ x m : Fin 64, valid x.val m.val = true → m.val ≤ x.val := by decide +kernel
def kingL (C : Nat) (l : List Int) : List Int := outK (waysK spec_kiNumbers.c2 spec_kiNumbers.v2 (fun m => spec_kiNumbers.popN m C) (2 ^ C) l (spec_kiNumbers.start (2 ^ C))) (2 ^ C)
theorem waysK_cnt (c2 : Nat → Nat → Bool) (v2 : Int → Nat → Bool) (f g : Nat → Nat) (n : Nat) (h : ∀ m, m < n → f m = g m) : ∀ (l : List Int) (W : List (List Int)), waysK c2 v2 f n l W = waysK c2 v2 g n l W
  | [], _ => rfl
  | x :: l, W => by
    have e : nextK c2 v2 f n W x = nextK c2 v2 g n W x := by
      unfold nextK
      exact List.map_congr_left (fun m hm => by rw [h m (List.mem_range.1 hm)])
    rw [waysK, waysK, e, waysK_cnt c2 v2 f g n h l]
theorem pow_cols (C : Nat) (h : C ≤ 6) : 0 < 2 ^ C ∧ 2 ^ C ≤ 64 := ⟨Nat.pow_pos (by omega), Nat.le_trans (Nat.pow_le_pow_right (by omega) h) (by decide)⟩
/-- The rows of a board of C columns. -/
def Rows6 (C : Nat) (l : List Int) : Prop := l.length ≤ 6 ∧ ∀ x ∈ l, 0 ≤ x ∧ x < ((2 ^ C : Nat) : Int)
def kingF (l : List Int) : Nat → Nat → Int := steps impl_Board_kings.cnt l first
theorem kingL_canon {C : Nat} (hC : C ≤ 6) {l : List Int} (hl : Rows6 C l) : Canon (total (kingF l)) (kingL C l) := by
  obtain ⟨h0, h64⟩ := pow_cols C hC
  have hlow : ∀ x m, x < 64 → m < 64 → valid x m = true → m ≤ x := fun x m hx hm => valid_low ⟨x, hx⟩ ⟨m, hm⟩
  have hT := waysK_told (c2 := spec_kiNumbers.c2) (v2 := spec_kiNumbers.v2) (cnt := impl_Board_kings.cnt) h64 cnt_le (fun m b hm hb => comp_all ⟨m, hm⟩ ⟨b, hb⟩) (fun x m _ _ => rfl) (fun x m hx hm hv => by have := hlow x m (by omega) hm hv; omega) l first ((List.replicate (2 ^ C) []).set 0 [1]) 0 0 first_good (first_told _ h0) (by have := hl.1; omega) hl.2
  have hl63 : ∀ x ∈ l, 0 ≤ x ∧ x ≤ 63 := fun x hx => by have := hl.2 x hx; omega
  obtain ⟨q, _, hG, _⟩ := ways_keyed (cnt := impl_Board_kings.cnt) cnt_le hlow l first 0 (fun b => b == 0) 0 first_good (fun b k _ hb => by unfold first; rw [if_neg (by intro hh; simp [hh.1] at hb)]) (by have := hl.1; omega) hl63
  have e : waysK spec_kiNumbers.c2 spec_kiNumbers.v2 (fun m => spec_kiNumbers.popN m C) (2 ^ C) l (spec_kiNumbers.start (2 ^ C)) = waysK spec_kiNumbers.c2 spec_kiNumbers.v2 impl_Board_kings.cnt (2 ^ C) l ((List.replicate (2 ^ C) []).set 0 [1]) :=
    waysK_cnt _ _ _ _ _ (fun m hm => by rw [cnt_pop m (by omega)]; exact pop_cols ⟨C, by omega⟩ ⟨m, by omega⟩ hm) l _
  unfold kingL
  rw [e]
  refine out_total h64 hG ?_ hT
  have : 64 ^ (0 + l.length) ≤ 64 ^ 6 := Nat.pow_le_pow_right (by omega) (by have := hl.1; omega)
  omega
theorem rd_getD (l : List Int) (n : Nat) : rd l (n : Int) = l.getD n 0 := by unfold rd; simp
theorem short_canon (l : List Int) : ∀ n, n ≤ l.length → (∀ k, n ≤ k → l.getD k 0 = 0) → Canon (fun k => l.getD k 0) (short l n)
  | 0, _, h => ⟨fun k => (h k (Nat.zero_le _)).symm, fun h => absurd rfl h⟩
  | n + 1, hn, h => by
    rw [short]
    by_cases e : rd l (n : Int) = 0
    · rw [if_pos e]
      refine short_canon l n (by omega) (fun k hk => ?_)
      by_cases e2 : k = n
      · subst e2; rw [← rd_getD]; exact e
      · exact h k (by omega)
    · rw [if_neg e]
      refine ⟨fun k => ?_, fun _ => ?_⟩
      · by_cases hk : k < n + 1
        · rw [List.getD_eq_getElem?_getD, List.getD_eq_getElem?_getD, List.getElem?_take, if_pos hk]
        · rw [h k (by omega), List.getD_eq_getElem?_getD, List.getElem?_take, if_neg hk]; rfl
      · rw [List.length_take, Nat.min_eq_left hn, Nat.add_sub_cancel, List.getD_eq_getElem?_getD, List.getElem?_take, if_pos (by omega), ← List.getD_eq_getElem?_getD, ← rd_getD]
        exact e
theorem okL_keyed : ∀ (l : List Int) (F : Nat → Nat → Int) (R : Nat) (p : Nat → Bool) (n : Nat), Good F ((64 ^ n : Nat) : Int) R → (∀ b k, b < 64 → p b = false → F b k = 0) → n + l.length ≤ 6 → R + 6 * l.length ≤ 36 → (∀ x ∈ l, 0 ≤ x ∧ x ≤ 63) → impl_Board_kings.okL (keyed F p) l
  | [], _, _, _, _, _, _, _, _, _ => trivial
  | x :: l, F, R, p, n, h, hp, hn, hR, hx => by
    have hx0 := hx x (List.mem_cons_self ..)
    rw [List.length_cons] at hn hR
    have hlow : ∀ m, m < 64 → valid x.toNat m = true → m ≤ x.toNat := fun m hm hv => valid_low ⟨x.toNat, by omega⟩ ⟨m, hm⟩ hv
    have hM : ((64 ^ n : Nat) : Int) ≤ 72057594037927936 := by
      have : 64 ^ n ≤ 64 ^ 6 := Nat.pow_le_pow_right (by omega) (by omega)
      omega
    have hs : Good (step impl_Board_kings.cnt x.toNat F) ((64 ^ (n + 1) : Nat) : Int) (R + 6) := by
      have := h.step (x := x.toNat) cnt_le
      rw [Nat.pow_succ]
      have e : (64 : Int) * ((64 ^ n : Nat) : Int) = ((64 ^ n * 64 : Nat) : Int) := by rw [Int.natCast_mul, Int.mul_comm]; rfl
      rw [e] at this
      exact this
    have hz : ∀ b k, b < 64 → valid x.toNat b = false → step impl_Board_kings.cnt x.toNat F b k = 0 := fun b k _ hv => by unfold step; rw [if_neg (by rw [hv]; simp)]
    refine ⟨hx0, fun m hm hv => ⟨count_cnt m (by omega), fun y hy hc j hj hpos => ?_⟩, ?_⟩
    · obtain ⟨b, hb, rfl⟩ := List.mem_map.1 hy
      have hb := List.mem_range.1 (List.mem_filter.1 hb).1
      dsimp only at hpos
      rw [vec_getD _ _ hj] at hpos
      have hjR : j ≤ R := by
        by_cases e : j ≤ R
        · exact e
        · have := h.few b j hb (by omega); omega
      have := cnt_le m (by omega)
      omega
    · rw [upto_keyed (by omega) hlow h hM hp]
      exact okL_keyed l _ (R + 6) _ (n + 1) hs hz (by omega) (by omega) (fun y hy => hx y (List.mem_cons_of_mem _ hy))
theorem kings_ev (R C : Nat) (hC : C ≤ 6) (l : List Int) (hl : Rows6 C l) : Ev (fun k => impl_Board_kings.f k (R : Int) (C : Int) l) (kingL C l) := by
  obtain ⟨h0, h64⟩ := pow_cols C hC
  have hlow : ∀ x m, x < 64 → m < 64 → valid x m = true → m ≤ x := fun x m hx hm => valid_low ⟨x, hx⟩ ⟨m, hm⟩
  have hl63 : ∀ x ∈ l, 0 ≤ x ∧ x ≤ 63 := fun x hx => by have := hl.2 x hx; omega
  have hp0 : ∀ b k, b < 64 → (fun b : Nat => b == 0) b = false → first b k = 0 := fun b k _ hb => by unfold first; rw [if_neg (by intro hh; simp [hh.1] at hb)]
  obtain ⟨q, hW, hG, hq⟩ := ways_keyed (cnt := impl_Board_kings.cnt) cnt_le hlow l first 0 (fun b => b == 0) 0 first_good hp0 (by have := hl.1; omega) hl63
  have hs : impl_Board_kings.start = keyed first (fun b => b == 0) := first_keyed.symm
  have hok : impl_Board_kings.okL impl_Board_kings.start l := by rw [hs]; exact okL_keyed l first 0 _ 0 first_good hp0 (by have := hl.1; omega) (by have := hl.1; omega) hl63
  have hM : ((64 ^ (0 + l.length) : Nat) : Int) ≤ 72057594037927936 := by
    have : 64 ^ (0 + l.length) ≤ 64 ^ 6 := Nat.pow_le_pow_right (by omega) (by have := hl.1; omega)
    omega
  have ho : ownV impl_Board_kings.all (waysOf impl_Board_kings.cnt impl_Board_kings.start l) = vec (total (kingF l)) := by
    rw [hs, hW]
    exact own_total hG hM hq
  have hz : ∀ k, 37 ≤ k → total (kingF l) k = 0 := fun k hk => sum_zero _ _ (fun b hb => hG.few b k (List.mem_range.1 hb) (by have := hl.1; omega))
  have hvec : ∀ k, (vec (total (kingF l))).getD k 0 = total (kingF l) k := fun k => by
    by_cases h : k < 37
    · exact vec_getD _ _ h
    · rw [hz k (by omega)]; exact getD_past _ _ (by rw [vec_length]; omega)
  have hc : Canon (total (kingF l)) (short (vec (total (kingF l))) (vec (total (kingF l))).length) :=
    (short_canon _ _ (Nat.le_refl _) (fun k hk => getD_past _ _ hk)).congr hvec
  rw [(kingL_canon hC hl).unique hc]
  refine Ev.congr (fun k => ?_) (trim_ev (vec (total (kingF l))) (by rw [vec_length]; omega))
  unfold impl_Board_kings.f
  rw [if_pos hok, ho]; rfl
theorem kiNumbers_ev (R C : Nat) (hC : C ≤ 6) (l : List Int) (hl : Rows6 C l) : Ev (fun k => spec_kiNumbers.f k (R : Int) (C : Int) l) (kingL C l) := by
  refine ⟨20000, fun k hk => ?_⟩
  have hok : spec_kiNumbers.okS k (C : Int) l := ⟨⟨by omega, by omega, hl.1⟩, fun a b n h1 h2 h3 => kiAdd_f a b n h1 h2 h3 k hk⟩
  simp only [spec_kiNumbers.f, if_pos hok, Int.toNat_natCast]
  rfl
theorem kingL_len (C : Nat) (hC : C ≤ 6) (l : List Int) (hl : Rows6 C l) : (kingL C l).length ≤ 37 := by
  have hlow : ∀ x m, x < 64 → m < 64 → valid x m = true → m ≤ x := fun x m hx hm => valid_low ⟨x, hx⟩ ⟨m, hm⟩
  have h64 := (pow_cols C hC).2
  have hl63 : ∀ x ∈ l, 0 ≤ x ∧ x ≤ 63 := fun x hx => by have := hl.2 x hx; omega
  obtain ⟨q, _, hG, _⟩ := ways_keyed (cnt := impl_Board_kings.cnt) cnt_le hlow l first 0 (fun b => b == 0) 0 first_good (fun b k _ hb => by unfold first; rw [if_neg (by intro hh; simp [hh.1] at hb)]) (by have := hl.1; omega) hl63
  exact (kingL_canon hC hl).short (fun k hk => sum_zero _ _ (fun b hb => hG.few b k (List.mem_range.1 hb) (by have := hl.1; omega)))
theorem rows6_of {r c : Int} {l : List Int} (h : boardB r c l = true) : Rows6 c.toNat l := by
  obtain ⟨h1, h2, h3, h4⟩ := (boardB_iff _ _ _).1 h
  refine ⟨by omega, fun x hx => ?_⟩
  have := h4 x hx
  have e : ((2 ^ c.toNat : Nat) : Int) = 2 ^ c.toNat := by simp
  omega
end Go.Proofs.Ythlcaikplebpmaa.Kings
namespace Go.Proofs.Ythlcaikplebpmaa.Pure
open Go.RowKit Go.Proofs.Ythlcaikplebpmaa.P Go.Proofs.YthlcaikplebpmaaW.PrintWords Go.Proofs.YthlcaikplebpmaaW.PrintLast
set_option linter.unusedSimpArgs false
set_option linter.unusedVariables false
namespace FnExactKingNumbers
def R (r c : Int) (l : List Int) : List Int × Bool := if boardB r c l = true then (Kings.kingL c.toNat l, true) else ([], false)
theorem board_nat {r c : Int} {l : List Int} (h : boardB r c l = true) : ∃ R C : Nat, r = R ∧ c = C ∧ R ≤ 6 ∧ C ≤ 6 := by
  have hb := (boardB_iff _ _ _).1 h
  exact ⟨r.toNat, c.toNat, by omega, by omega, by omega, by omega⟩
theorem impl_ev (r c : Int) (l : List Int) (hb : l.length ≤ 1152921504606846976) : Ev (fun k => impl_KingNumbers.f k r c l) (R r c l) := by
  unfold R
  by_cases h : boardB r c l = true
  · rw [if_pos h]
    obtain ⟨R', C', rfl, rfl, hR, hC⟩ := board_nat h
    have h6 := Kings.rows6_of h
    rw [Int.toNat_natCast] at h6
    obtain ⟨K, hK⟩ := ev_get (Kings.kings_ev R' C' hC l h6)
    simp only [Int.toNat_natCast]
    refine ⟨K, fun n hn => ?_⟩
    simp only [impl_KingNumbers.f, impl_IsBoard.f, Option.bind_some, h, if_true, hK n hn]
  · rw [if_neg h]
    simp only [Bool.not_eq_true] at h
    exact ⟨0, fun n hn => by simp only [impl_KingNumbers.f, impl_IsBoard.f, Option.bind_some, h, Bool.false_eq_true, if_false]⟩
theorem spec_ev (r c : Int) (l : List Int) (hb : l.length ≤ 1152921504606846976) : Ev (fun k => spec_KingNumbers.f k r c l) (R r c l) := by
  obtain ⟨K0, h0⟩ := ev_get (boGood_ev r c l hb)
  unfold R
  by_cases h : boardB r c l = true
  · rw [if_pos h]
    obtain ⟨R', C', rfl, rfl, hR, hC⟩ := board_nat h
    have h6 := Kings.rows6_of h
    rw [Int.toNat_natCast] at h6
    obtain ⟨K, hK⟩ := ev_get (Kings.kiNumbers_ev R' C' hC l h6)
    simp only [Int.toNat_natCast]
    refine ⟨K0 + K, fun n hn => ?_⟩
    simp only [spec_KingNumbers.f, h0 n (by omega), Option.bind_some, h, if_true, hK n (by omega)]
  · rw [if_neg h]
    simp only [Bool.not_eq_true] at h
    exact ⟨K0, fun n hn => by simp only [spec_KingNumbers.f, h0 n hn, Option.bind_some, h, Bool.false_eq_true, if_false]⟩
theorem R_small (r c : Int) (l : List Int) (hb : l.length ≤ 1152921504606846976) : (R r c l).1.length ≤ 1000 := by
  unfold R
  by_cases h : boardB r c l = true
  · rw [if_pos h]
    obtain ⟨R', C', rfl, rfl, hR, hC⟩ := board_nat h
    have h6 := Kings.rows6_of h
    rw [Int.toNat_natCast] at h6
    have hs := Kings.kingL_len C' hC l h6
    simp only [Int.toNat_natCast]
    exact Nat.le_trans hs (by decide)
  · rw [if_neg h]; exact Nat.zero_le _
end FnExactKingNumbers
open FnExactKingNumbers in
theorem FnExactKingNumbers : laws_FnExactKingNumbers.Pure := by
  intro a0_0 a0_1 l0_2 hy0 hy1 hy2
  have hl_l0_2 := hy2.1
  simp only [maxLen] at hl_l0_2
  by_cases hb_l0_2 : (1048576 : Int) - l0_2.length < 0
  · refine ⟨0, ?_⟩
    unfold laws_FnExactKingNumbers.f
    rw [szBoard_eq a0_0 a0_1 l0_2 _ (by omega) (by omega) (by simp only [maxLen]; omega), if_pos hb_l0_2, Option.bind_some, if_pos (by omega)]
  have h1 := (szBoard_eq a0_0 a0_1 l0_2 ((1048576 : Int)) (by omega) (by omega) (by simp only [maxLen]; omega)).trans (by rw [if_neg hb_l0_2])
  obtain ⟨K2, h2⟩ := ev_get (spec_ev a0_0 a0_1 l0_2 (by omega))
  obtain ⟨K3, h3⟩ := ev_get (impl_ev a0_0 a0_1 l0_2 (by omega))
  have hr := R_small a0_0 a0_1 l0_2 (by omega)
  generalize R a0_0 a0_1 l0_2 = R at *
  have hs0 := hr
  obtain ⟨K4, h4⟩ := ev_get (eqIntS_ev R.1 R.1 (by omega))
  obtain ⟨K5, h5⟩ := ev_get (markIntS_ev R.1 ((1 : Int)) (by omega) (by omega) (by omega))
  obtain ⟨K6, h6⟩ := ev_get (heldIntS_ev R.1.length ((1 : Int)) (by omega) (by omega) (by omega))
  have er1 : ¬ ((1 : Int) + (R.1.length : Int) < 0) := by omega
  obtain ⟨K7, h7⟩ := ev_get (toBoard_ev a0_0 a0_1 l0_2 (by omega))
  obtain ⟨K8, h8⟩ := ev_get (eqBoard_ev a0_0 a0_1 l0_2 (by omega))
  obtain ⟨K9, h9⟩ := ev_get (markBoard_ev a0_0 a0_1 l0_2 (by omega))
  have em_l0_2 : ¬ ((1 : Int) + l0_2.length < 0) := by omega
  obtain ⟨m, hm⟩ : ∃ m, m = K2 + K3 + K4 + K5 + K6 + K7 + K8 + K9 := ⟨_, rfl⟩
  replace h2 := fun j => h2 (m + j) (by omega)
  replace h3 := fun j => h3 (m + j) (by omega)
  replace h4 := fun j => h4 (m + j) (by omega)
  replace h5 := fun j => h5 (m + j) (by omega)
  replace h6 := fun j => h6 (m + j) (by omega)
  replace h7 := fun j => h7 (m + j) (by omega)
  replace h8 := fun j => h8 (m + j) (by omega)
  replace h9 := fun j => h9 (m + j) (by omega)
  clear hm
  refine ⟨m + 4, ?_⟩
  unfold laws_FnExactKingNumbers.f
  simp only [h1, h2, h3, h4, h5, h6, h7, h8, h9, Option.bind_some, decide_true, if_true, bne_self_eq_false, Bool.false_eq_true, if_false, if_neg hb_l0_2, if_neg er1, if_neg em_l0_2]
  rw [laws_FnExactKingNumbers.j0]
  simp only [h1, h2, h3, h4, h5, h6, h7, h8, h9, Option.bind_some, decide_true, if_true, bne_self_eq_false, Bool.false_eq_true, if_false, if_neg hb_l0_2, if_neg er1, if_neg em_l0_2]
  rw [laws_FnExactKingNumbers.j1]
  simp only [h1, h2, h3, h4, h5, h6, h7, h8, h9, Option.bind_some, decide_true, if_true, bne_self_eq_false, Bool.false_eq_true, if_false, if_neg hb_l0_2, if_neg er1, if_neg em_l0_2]
  rw [laws_FnExactKingNumbers.j2]
  simp only [h1, h2, h3, h4, h5, h6, h7, h8, h9, Option.bind_some, decide_true, if_true, bne_self_eq_false, Bool.false_eq_true, if_false, if_neg hb_l0_2, if_neg er1, if_neg em_l0_2]
end Go.Proofs.Ythlcaikplebpmaa.Pure
